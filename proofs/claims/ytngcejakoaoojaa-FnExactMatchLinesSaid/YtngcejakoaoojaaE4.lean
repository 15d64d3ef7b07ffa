/- The law FnExactMatchLines holds: whatever the input, it says true, and the input reads as it did. No condition. -/
import Derived.Test.YtngcejakoaoojaaD7
import Derived.Test.YtngcejakoaoojaaRows
import Derived.ProofKit
namespace Go.Sm.Ytngcejakoaoojaa
open Go Go.Sm Go.RowKit Go.ChangeShapes Go.WideShapes Go.ChangeAt Go.Proofs Go.Proofs.Ytngcejakoaoojaa

theorem e4 (xs : List Nat) (ys : List Nat) (w : Nat) : runFn T7 none0 noL Try.f4 [.vw none ⟨.f32, xs⟩, .vw none ⟨.f32, ys⟩, .el (.sc (.fl .f32 w))] = (match (decide (((xs.length : Int) : Int) > 1048576) : Bool) with
  | true => some ⟨[.el (.sc (.bo true))], none⟩
  | false => (match (decide (((ys.length : Int) : Int) > 1048576) : Bool) with
    | true => some ⟨[.el (.sc (.bo true))], none⟩
    | false => (match (Nat.ble xs.length big : Bool) with
      | true => (match (Nat.ble ys.length big : Bool) with
        | true => (match (Nat.ble xs.length big : Bool) with
          | true => (match (Nat.ble ys.length big : Bool) with
            | true => (match (Nat.beq (orNil (matchOk xs ys w) (matchX xs ys w)).length (orNil (matchOk xs ys w) (matchX xs ys w)).length : Bool) with
              | true => (match (Nat.ble (orNil (matchOk xs ys w) (matchX xs ys w)).length big : Bool) with
                | true => (match (!(all2 sameI (orNil (matchOk xs ys w) (matchX xs ys w)) (orNil (matchOk xs ys w) (matchX xs ys w))) : Bool) with
                  | true => some ⟨[.el (.sc (.bo false))], none⟩
                  | false => (match (!((matchOk xs ys w) == (matchOk xs ys w)) : Bool) with
                    | true => some ⟨[.el (.sc (.bo false))], none⟩
                    | false => (match (Nat.ble xs.length big : Bool) with
                      | true => (match (Nat.beq xs.length xs.length : Bool) with
                        | true => (match (Nat.ble xs.length big : Bool) with
                          | true => (match (!(all2 sameW xs xs) : Bool) with
                            | true => some ⟨[.el (.sc (.bo false))], none⟩
                            | false => (match (Nat.ble ys.length big : Bool) with
                              | true => (match (Nat.beq ys.length ys.length : Bool) with
                                | true => (match (Nat.ble ys.length big : Bool) with
                                  | true => (match (!(all2 sameW ys ys) : Bool) with
                                    | true => some ⟨[.el (.sc (.bo false))], none⟩
                                    | false => (match (decide (0 ≤ 1 ∧ 1 ≤ 1099511627776) && Nat.ble xs.length big : Bool) with
                                      | true => (match (decide (0 ≤ 1 + (xs.length : Int) ∧ 1 + (xs.length : Int) ≤ 1099511627776) && Nat.ble ys.length big : Bool) with
                                        | true => (match (decide (((1 + (xs.length : Int)) + (ys.length : Int) : Int) < 0) : Bool) with
                                          | true => some ⟨[.el (.sc (.bo false))], none⟩
                                          | false => (match (Nat.beq (orNil (matchOk xs ys w) (matchX xs ys w)).length (orNil (matchOk xs ys w) (matchX xs ys w)).length : Bool) with
                                            | true => (match (Nat.ble (orNil (matchOk xs ys w) (matchX xs ys w)).length big : Bool) with
                                              | true => (match (!(all2 sameI (orNil (matchOk xs ys w) (matchX xs ys w)) (orNil (matchOk xs ys w) (matchX xs ys w))) : Bool) with
                                                | true => some ⟨[.el (.sc (.bo false))], none⟩
                                                | false => (match (!((matchOk xs ys w) == (matchOk xs ys w)) : Bool) with
                                                  | true => some ⟨[.el (.sc (.bo false))], none⟩
                                                  | false => (match (decide (0 ≤ 1 ∧ 1 ≤ 1099511627776) && Nat.ble (orNil (matchOk xs ys w) (matchX xs ys w)).length big : Bool) with
                                                    | true => (match (decide (0 ≤ 1 ∧ 1 ≤ 1099511627776) && Nat.ble (marksI 1 (orNil (matchOk xs ys w) (matchX xs ys w)).length).length big : Bool) with
                                                      | true => (match (decide ((heldN (heldI 1 (marksI 1 (orNil (matchOk xs ys w) (matchX xs ys w)).length)) (1 + ((marksI 1 (orNil (matchOk xs ys w) (matchX xs ys w)).length).length : Int)) : Int) < 0) : Bool) with
                                                        | true => some ⟨[.el (.sc (.bo false))], none⟩
                                                        | false => (match (!((heldN (heldI 1 (marksI 1 (orNil (matchOk xs ys w) (matchX xs ys w)).length)) (1 + ((marksI 1 (orNil (matchOk xs ys w) (matchX xs ys w)).length).length : Int)) : Int) == 1 + ((orNil (matchOk xs ys w) (matchX xs ys w)).length : Int)) : Bool) with
                                                          | true => some ⟨[.el (.sc (.bo false))], none⟩
                                                          | false => (match (Nat.ble xs.length big : Bool) with
                                                            | true => (match (Nat.ble ys.length big : Bool) with
                                                              | true => (match (Nat.beq (orNil (matchOk xs ys w) (matchX xs ys w)).length (orNil (matchOk xs ys w) (matchX xs ys w)).length : Bool) with
                                                                | true => (match (Nat.ble (orNil (matchOk xs ys w) (matchX xs ys w)).length big : Bool) with
                                                                  | true => (match (!(all2 sameI (orNil (matchOk xs ys w) (matchX xs ys w)) (orNil (matchOk xs ys w) (matchX xs ys w))) : Bool) with
                                                                    | true => some ⟨[.el (.sc (.bo false))], none⟩
                                                                    | false => (match (!((matchOk xs ys w) == (matchOk xs ys w)) : Bool) with
                                                                      | true => some ⟨[.el (.sc (.bo false))], none⟩
                                                                      | false => (match (decide (0 ≤ 1 ∧ 1 ≤ 1099511627776) && Nat.ble (marksI 1 (orNil (matchOk xs ys w) (matchX xs ys w)).length).length big : Bool) with
                                                                        | true => (match (decide ((heldN (heldI 1 (marksI 1 (orNil (matchOk xs ys w) (matchX xs ys w)).length)) (1 + ((marksI 1 (orNil (matchOk xs ys w) (matchX xs ys w)).length).length : Int)) : Int) < 0) : Bool) with
                                                                          | true => some ⟨[.el (.sc (.bo false))], none⟩
                                                                          | false => (match (!((heldN (heldI 1 (marksI 1 (orNil (matchOk xs ys w) (matchX xs ys w)).length)) (1 + ((marksI 1 (orNil (matchOk xs ys w) (matchX xs ys w)).length).length : Int)) : Int) == 1 + ((orNil (matchOk xs ys w) (matchX xs ys w)).length : Int)) : Bool) with
                                                                            | true => some ⟨[.el (.sc (.bo false))], none⟩
                                                                            | false => some ⟨[.el (.sc (.bo true))], none⟩))
                                                                        | false => none)))
                                                                  | false => none)
                                                                | false => some ⟨[.el (.sc (.bo false))], none⟩)
                                                              | false => none)
                                                            | false => none)))
                                                      | false => none)
                                                    | false => none)))
                                              | false => none)
                                            | false => some ⟨[.el (.sc (.bo false))], none⟩))
                                        | false => none)
                                      | false => none))
                                  | false => none)
                                | false => some ⟨[.el (.sc (.bo false))], none⟩)
                              | false => none))
                          | false => none)
                        | false => some ⟨[.el (.sc (.bo false))], none⟩)
                      | false => none)))
                | false => none)
              | false => some ⟨[.el (.sc (.bo false))], none⟩)
            | false => none)
          | false => none)
        | false => none)
      | false => none))) := by kernel_rfl
theorem s4 (xs : List Nat) (ys : List Nat) (w : Nat) (h_xs : ∀ a ∈ xs, K.wf .f32 a) (g_xs : xs.length ≤ 140737488351232) (h_ys : ∀ a ∈ ys, K.wf .f32 a) (g_ys : ys.length ≤ 140737488351232) (h_w : cn .f32 w = w ∧ w < 2 ^ 32) : runFn T7 none0 noL Try.f4 [.vw none ⟨.f32, xs⟩, .vw none ⟨.f32, ys⟩, .el (.sc (.fl .f32 w))] = some ⟨[.el (.sc (.bo true))], none⟩ := by
  rw [e4]
  by_cases hs_xs : xs.length ≤ 1048576
  · by_cases hs_ys : ys.length ≤ 1048576
    · have hb_xs : Nat.ble xs.length big = true := big_of (by omega)
      have n_xs : ¬ ((xs.length : Int) > 1048576) := by omega
      have m_xs : ¬ (1 + (xs.length : Int) < 0) := by omega
      have hb_ys : Nat.ble ys.length big = true := big_of (by omega)
      have n_ys : ¬ ((ys.length : Int) > 1048576) := by omega
      have m_ys : ¬ (1 + (ys.length : Int) < 0) := by omega
      have i1 : (0 : Int) ≤ 1 + (xs.length : Int) ∧ 1 + (xs.length : Int) ≤ 1099511627776 := by omega
      have i2 : ¬ (1 + (xs.length : Int) + (ys.length : Int) < 0) := by omega
      generalize hD : orNil (matchOk xs ys w) (matchX xs ys w) = D
      have hDl : D.length ≤ 1048576 := by
        rw [← hD]
        exact orNil_len _ _ (fun hok => by
          rw [matchX_len]; omega)
      have hb5 : Nat.ble D.length big = true := big_of (by omega)
      have i3 : ¬ (1 + (D.length : Int) < 0) := by omega
      have hb6 : Nat.ble (marksI 1 D.length).length big = true := by rw [marksI_len]; exact hb5
      simp [hb_xs, n_xs, m_xs, hb_ys, n_ys, m_ys, hb5, hb6, i3, all2_refl sameW_refl, all2_refl sameI_refl, heldI_marks, heldN, marksI_len, Nat.beq_refl, i1, i2]
    · have big_ys : ((ys.length : Int) > 1048576) := by omega
      have n_xs : ¬ ((xs.length : Int) > 1048576) := by omega
      simp [big_ys, n_xs]
  · have big_xs : ((xs.length : Int) > 1048576) := by omega
    simp [big_xs]

theorem core4 (xs : List FV) (h : AKs (AK.fits Try.prog) [.sl .f32, .sl .f32, .sc (.float .f32)] Try.f4.params.toList xs) : COK Try.prog 4 xs [.el (.sc (.bo true))] := by
  have hp : Try.f4.params.toList = [28, 28, 29] := by kernel_rfl
  rw [hp] at h
  obtain ⟨x0, x1, x2, rfl, hx0, hx1, hx2⟩ := aks3 h
  obtain ⟨xs, rfl, h_xs, i0⟩ := hx0
  have g_xs : xs.length ≤ 140737488351232 := Nat.le_trans (Nat.le_mul_of_pos_right _ (show 0 < Try.prog.bytesOf 29 by exact of_decide_eq_true (by kernel_rfl))) (i0 29 (by kernel_rfl))
  obtain ⟨ys, rfl, h_ys, i1⟩ := hx1
  have g_ys : ys.length ≤ 140737488351232 := Nat.le_trans (Nat.le_mul_of_pos_right _ (show 0 < Try.prog.bytesOf 29 by exact of_decide_eq_true (by kernel_rfl))) (i1 29 (by kernel_rfl))
  obtain ⟨s2, rfl, h2⟩ := hx2
  obtain ⟨w, rfl, h_w⟩ := fits_f32 h2
  show COK Try.prog 4 [.vw none ⟨.f32, xs⟩, .vw none ⟨.f32, ys⟩, .el (.sc (.fl .f32 w))] [.el (.sc (.bo true))]
  exact fn_ok tok7 (A := none0) (L := noL) (r := none) Try.func4 (by kernel_rfl) (by kernel_rfl) (loops0 (by kernel_rfl)) (s4 xs ys w h_xs g_xs h_ys g_ys h_w)

end Go.Sm.Ytngcejakoaoojaa
namespace Go.Proofs.Ytngcejakoaoojaa
open Go.Sm Go.Sm.Ytngcejakoaoojaa Go.ChangeShapes Go.WideShapes Go.ChangeAt Go.RowKit

set_option maxRecDepth 100000 in
theorem lifted4 (os : Os) (started : os.Started) (H : Type) (enc : TypeId × Value → H) :
    ReturnsInHanded {} Try.checked os 4 .any (Rows.fnExactMatchLinesSpec.pre6 enc Try.prog Try.f4 Rows.fnExactMatchLinesRow.domain false) (Rows.fnExactMatchLinesSpec.post enc Try.prog Try.f4 false true false false) :=
  law_lifted (C := Try.checked) (aks := [.sl .f32, .sl .f32, .sc (.float .f32)]) (tb := 4) (by kernel_rfl) started (by kernel_rfl) Try.func4 (by kernel_rfl)
    (ChangeSpec.witness6 (enc := enc) (C := Try.checked) false ⟨#[], #[.slice none 0 0, .slice none 0 0, .float .f32 0], []⟩ 8 (by kernel_rfl) (by kernel_rfl) (by kernel_rfl) (by kernel_rfl))
    (fun t ht => by
      have hb : Try.f4.params.toList.all (fun t => Try.prog.readableRec t && decide (t < Try.prog.types.size)) = true := by kernel_rfl
      have := List.all_eq_true.1 hb t ht
      rw [Bool.and_eq_true] at this
      exact ⟨this.1, of_decide_eq_true this.2⟩)
    (by kernel_rfl) (by kernel_rfl) rfl
    (fun ds hd => by
      have hp : Try.f4.params.size = 3 := by kernel_rfl
      rw [hp] at hd
      match ds, hd with
      | [d0, d1, d2], _ => rfl)
    (rowsB_ok (by kernel_rfl)) core4

/-- **THE LAW.** -/
theorem FnExactMatchLines_holds : Rows.FnExactMatchLinesSaid :=
  OpenClaim.holds_of_wide 4 Try.f4 rfl rfl rfl rfl rfl rfl rfl ⟨rfl, rfl, rfl, rfl, rfl⟩ rfl rfl rfl rfl rfl (by kernel_rfl) Try.func4 (by kernel_rfl)
    (of_decide_eq_true (by kernel_rfl)) (by unfold Func.isWrapper; first | (rw [if_pos (by decide +kernel)]; kernel_rfl) | (rw [if_neg (by decide +kernel)]; exact ⟨rfl, rfl⟩))
    (fun os started H enc _ => lifted4 os started H enc)

end Go.Proofs.Ytngcejakoaoojaa
