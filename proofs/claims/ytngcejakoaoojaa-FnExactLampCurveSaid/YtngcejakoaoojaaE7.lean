/- The law FnExactLampCurve holds: whatever the input, it says true, and the input reads as it did. No condition. -/
import Derived.Test.YtngcejakoaoojaaD7
import Derived.Test.YtngcejakoaoojaaRows
import Derived.ProofKit
namespace Go.Sm.Ytngcejakoaoojaa
open Go Go.Sm Go.RowKit Go.ChangeShapes Go.WideShapes Go.ChangeAt Go.Proofs Go.Proofs.Ytngcejakoaoojaa

theorem e7 (xs : List Nat) (ys : List Nat) : runFn T7 none0 noL Try.f7 [.vw none ⟨.f32, xs⟩, .vw none ⟨.f32, ys⟩] = (match (decide (((xs.length : Int) : Int) > 1048576) : Bool) with
  | true => some ⟨[.el (.sc (.bo true))], none⟩
  | false => (match (decide (((ys.length : Int) : Int) > 1048576) : Bool) with
    | true => some ⟨[.el (.sc (.bo true))], none⟩
    | false => (match (Nat.ble xs.length big : Bool) with
      | true => (match (Nat.ble ys.length big : Bool) with
        | true => (match (Nat.ble xs.length big : Bool) with
          | true => (match (Nat.ble ys.length big : Bool) with
            | true => (match (Nat.beq (orNil (lmpOk xs ys) (lmpX xs ys)).length (orNil (lmpOk xs ys) (lmpX xs ys)).length : Bool) with
              | true => (match (Nat.ble (orNil (lmpOk xs ys) (lmpX xs ys)).length big : Bool) with
                | true => (match (!(all2 sameW (orNil (lmpOk xs ys) (lmpX xs ys)) (orNil (lmpOk xs ys) (lmpX xs ys))) : Bool) with
                  | true => some ⟨[.el (.sc (.bo false))], none⟩
                  | false => (match (!((lmpOk xs ys) == (lmpOk xs ys)) : Bool) with
                    | true => some ⟨[.el (.sc (.bo false))], none⟩
                    | false => (match (Nat.ble xs.length big : Bool) with
                      | true => (match (Nat.beq xs.length xs.length : Bool) with
                        | true => (match (Nat.ble xs.length big : Bool) with
                          | true => (match (!(all2 sameW xs xs) : Bool) with
                            | true => some ⟨[.el (.sc (.bo false))], none⟩
                            | false => (match (Nat.ble ys.length big : Bool) with
                              | true => (match (Nat.beq ys.length ys.length : Bool) with
                                | true => (match (Nat.ble ys.length big : Bool) with
                                  | true => (match (!(all2 sameW ys ys) : Bool) with
                                    | true => some ⟨[.el (.sc (.bo false))], none⟩
                                    | false => (match (decide (0 ≤ 1 ∧ 1 ≤ 1099511627776) && Nat.ble xs.length big : Bool) with
                                      | true => (match (decide (0 ≤ 1 + (xs.length : Int) ∧ 1 + (xs.length : Int) ≤ 1099511627776) && Nat.ble ys.length big : Bool) with
                                        | true => (match (decide (((1 + (xs.length : Int)) + (ys.length : Int) : Int) < 0) : Bool) with
                                          | true => some ⟨[.el (.sc (.bo false))], none⟩
                                          | false => (match (Nat.beq (orNil (lmpOk xs ys) (lmpX xs ys)).length (orNil (lmpOk xs ys) (lmpX xs ys)).length : Bool) with
                                            | true => (match (Nat.ble (orNil (lmpOk xs ys) (lmpX xs ys)).length big : Bool) with
                                              | true => (match (!(all2 sameW (orNil (lmpOk xs ys) (lmpX xs ys)) (orNil (lmpOk xs ys) (lmpX xs ys))) : Bool) with
                                                | true => some ⟨[.el (.sc (.bo false))], none⟩
                                                | false => (match (!((lmpOk xs ys) == (lmpOk xs ys)) : Bool) with
                                                  | true => some ⟨[.el (.sc (.bo false))], none⟩
                                                  | false => (match (decide (0 ≤ 1 ∧ 1 ≤ 1099511627776) && Nat.ble (orNil (lmpOk xs ys) (lmpX xs ys)).length big : Bool) with
                                                    | true => (match (decide (0 ≤ 1 ∧ 1 ≤ 1099511627776) && Nat.ble (marks 1 (orNil (lmpOk xs ys) (lmpX xs ys)).length).length big : Bool) with
                                                      | true => (match (decide ((heldN (heldF 1 (marks 1 (orNil (lmpOk xs ys) (lmpX xs ys)).length)) (1 + ((marks 1 (orNil (lmpOk xs ys) (lmpX xs ys)).length).length : Int)) : Int) < 0) : Bool) with
                                                        | true => some ⟨[.el (.sc (.bo false))], none⟩
                                                        | false => (match (!((heldN (heldF 1 (marks 1 (orNil (lmpOk xs ys) (lmpX xs ys)).length)) (1 + ((marks 1 (orNil (lmpOk xs ys) (lmpX xs ys)).length).length : Int)) : Int) == 1 + ((orNil (lmpOk xs ys) (lmpX xs ys)).length : Int)) : Bool) with
                                                          | true => some ⟨[.el (.sc (.bo false))], none⟩
                                                          | false => (match (Nat.ble xs.length big : Bool) with
                                                            | true => (match (Nat.ble ys.length big : Bool) with
                                                              | true => (match (Nat.beq (orNil (lmpOk xs ys) (lmpX xs ys)).length (orNil (lmpOk xs ys) (lmpX xs ys)).length : Bool) with
                                                                | true => (match (Nat.ble (orNil (lmpOk xs ys) (lmpX xs ys)).length big : Bool) with
                                                                  | true => (match (!(all2 sameW (orNil (lmpOk xs ys) (lmpX xs ys)) (orNil (lmpOk xs ys) (lmpX xs ys))) : Bool) with
                                                                    | true => some ⟨[.el (.sc (.bo false))], none⟩
                                                                    | false => (match (!((lmpOk xs ys) == (lmpOk xs ys)) : Bool) with
                                                                      | true => some ⟨[.el (.sc (.bo false))], none⟩
                                                                      | false => (match (decide (0 ≤ 1 ∧ 1 ≤ 1099511627776) && Nat.ble (marks 1 (orNil (lmpOk xs ys) (lmpX xs ys)).length).length big : Bool) with
                                                                        | true => (match (decide ((heldN (heldF 1 (marks 1 (orNil (lmpOk xs ys) (lmpX xs ys)).length)) (1 + ((marks 1 (orNil (lmpOk xs ys) (lmpX xs ys)).length).length : Int)) : Int) < 0) : Bool) with
                                                                          | true => some ⟨[.el (.sc (.bo false))], none⟩
                                                                          | false => (match (!((heldN (heldF 1 (marks 1 (orNil (lmpOk xs ys) (lmpX xs ys)).length)) (1 + ((marks 1 (orNil (lmpOk xs ys) (lmpX xs ys)).length).length : Int)) : Int) == 1 + ((orNil (lmpOk xs ys) (lmpX xs ys)).length : Int)) : Bool) with
                                                                            | true => some ⟨[.el (.sc (.bo false))], none⟩
                                                                            | false => some ⟨[.el (.sc (.bo true))], none⟩))
                                                                        | false => none)))
                                                                  | false => none)
                                                                | false => some ⟨[.el (.sc (.bo false))], none⟩)
                                                              | false => none)
                                                            | false => none)))
                                                      | false => none)
                                                    | false => none)))
                                              | false => none)
                                            | false => some ⟨[.el (.sc (.bo false))], none⟩))
                                        | false => none)
                                      | false => none))
                                  | false => none)
                                | false => some ⟨[.el (.sc (.bo false))], none⟩)
                              | false => none))
                          | false => none)
                        | false => some ⟨[.el (.sc (.bo false))], none⟩)
                      | false => none)))
                | false => none)
              | false => some ⟨[.el (.sc (.bo false))], none⟩)
            | false => none)
          | false => none)
        | false => none)
      | false => none))) := by kernel_rfl
theorem s7 (xs : List Nat) (ys : List Nat) (h_xs : ∀ a ∈ xs, K.wf .f32 a) (g_xs : xs.length ≤ 140737488351232) (h_ys : ∀ a ∈ ys, K.wf .f32 a) (g_ys : ys.length ≤ 140737488351232) : runFn T7 none0 noL Try.f7 [.vw none ⟨.f32, xs⟩, .vw none ⟨.f32, ys⟩] = some ⟨[.el (.sc (.bo true))], none⟩ := by
  rw [e7]
  by_cases hs : xs.length ≤ 1048576
  · by_cases hs2 : ys.length ≤ 1048576
    · have hb : Nat.ble xs.length big = true := big_of (by omega)
      have hb2 : Nat.ble ys.length big = true := big_of (by omega)
      have h1 : ¬ ((xs.length : Int) > 1048576) := by omega
      have h2 : ¬ ((ys.length : Int) > 1048576) := by omega
      generalize hD : orNil (lmpOk xs ys) (lmpX xs ys) = D
      have hDl : D.length ≤ 1048576 := by
        rw [← hD]
        exact orNil_len _ _ (fun _ => lmpX_len xs ys)
      have hb5 : Nat.ble D.length big = true := big_of (by omega)
      have i1 : (0 : Int) ≤ 1 + (xs.length : Int) ∧ 1 + (xs.length : Int) ≤ 1099511627776 := by omega
      have i2 : ¬ (1 + (xs.length : Int) + (ys.length : Int) < 0) := by omega
      have i3 : ¬ (1 + (D.length : Int) < 0) := by omega
      have hb6 : Nat.ble (marks 1 D.length).length big = true := by rw [marks_len]; exact hb5
      simp [hb, hb2, hb5, hb6, h1, h2, i1, i2, i3, all2_refl sameW_refl, heldF_marks, heldN, marks_len, Nat.beq_refl]
    · have h2 : ((ys.length : Int) > 1048576) := by omega
      have h1 : ¬ ((xs.length : Int) > 1048576) := by omega
      simp [h1, h2]
  · have h1 : ((xs.length : Int) > 1048576) := by omega
    simp [h1]

theorem core7 (xs : List FV) (h : AKs (AK.fits Try.prog) [.sl .f32, .sl .f32] Try.f7.params.toList xs) : COK Try.prog 7 xs [.el (.sc (.bo true))] := by
  have hp : Try.f7.params.toList = [28, 28] := by kernel_rfl
  rw [hp] at h
  obtain ⟨x0, x1, rfl, hx0, hx1⟩ := aks2 h
  obtain ⟨xs, rfl, h_xs, i0⟩ := hx0
  have g_xs : xs.length ≤ 140737488351232 := Nat.le_trans (Nat.le_mul_of_pos_right _ (show 0 < Try.prog.bytesOf 29 by exact of_decide_eq_true (by kernel_rfl))) (i0 29 (by kernel_rfl))
  obtain ⟨ys, rfl, h_ys, i1⟩ := hx1
  have g_ys : ys.length ≤ 140737488351232 := Nat.le_trans (Nat.le_mul_of_pos_right _ (show 0 < Try.prog.bytesOf 29 by exact of_decide_eq_true (by kernel_rfl))) (i1 29 (by kernel_rfl))
  show COK Try.prog 7 [.vw none ⟨.f32, xs⟩, .vw none ⟨.f32, ys⟩] [.el (.sc (.bo true))]
  exact fn_ok tok7 (A := none0) (L := noL) (r := none) Try.func7 (by kernel_rfl) (by kernel_rfl) (loops0 (by kernel_rfl)) (s7 xs ys h_xs g_xs h_ys g_ys)

end Go.Sm.Ytngcejakoaoojaa
namespace Go.Proofs.Ytngcejakoaoojaa
open Go.Sm Go.Sm.Ytngcejakoaoojaa Go.ChangeShapes Go.WideShapes Go.ChangeAt Go.RowKit

set_option maxRecDepth 100000 in
theorem lifted7 (os : Os) (started : os.Started) (H : Type) (enc : TypeId × Value → H) :
    ReturnsInHanded {} Try.checked os 7 .any (Rows.fnExactLampCurveSpec.pre6 enc Try.prog Try.f7 Rows.fnExactLampCurveRow.domain false) (Rows.fnExactLampCurveSpec.post enc Try.prog Try.f7 false true false false) :=
  law_lifted (C := Try.checked) (aks := [.sl .f32, .sl .f32]) (tb := 4) (by kernel_rfl) started (by kernel_rfl) Try.func7 (by kernel_rfl)
    (ChangeSpec.witness6 (enc := enc) (C := Try.checked) false ⟨#[], #[.slice none 0 0, .slice none 0 0], []⟩ 8 (by kernel_rfl) (by kernel_rfl) (by kernel_rfl) (by kernel_rfl))
    (fun t ht => by
      have hb : Try.f7.params.toList.all (fun t => Try.prog.readableRec t && decide (t < Try.prog.types.size)) = true := by kernel_rfl
      have := List.all_eq_true.1 hb t ht
      rw [Bool.and_eq_true] at this
      exact ⟨this.1, of_decide_eq_true this.2⟩)
    (by kernel_rfl) (by kernel_rfl) rfl
    (fun ds hd => by
      have hp : Try.f7.params.size = 2 := by kernel_rfl
      rw [hp] at hd
      match ds, hd with
      | [d0, d1], _ => rfl)
    (rowsB_ok (by kernel_rfl)) core7

/-- **THE LAW.** -/
theorem FnExactLampCurve_holds : Rows.FnExactLampCurveSaid :=
  OpenClaim.holds_of_wide 7 Try.f7 rfl rfl rfl rfl rfl rfl rfl ⟨rfl, rfl, rfl, rfl, rfl⟩ rfl rfl rfl rfl rfl (by kernel_rfl) Try.func7 (by kernel_rfl)
    (of_decide_eq_true (by kernel_rfl)) (by unfold Func.isWrapper; first | (rw [if_pos (by decide +kernel)]; kernel_rfl) | (rw [if_neg (by decide +kernel)]; exact ⟨rfl, rfl⟩))
    (fun os started H enc _ => lifted7 os started H enc)

end Go.Proofs.Ytngcejakoaoojaa
