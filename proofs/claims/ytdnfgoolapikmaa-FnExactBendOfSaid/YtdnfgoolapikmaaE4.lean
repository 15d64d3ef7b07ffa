/- The law FnExactBendOf holds: whatever the input, it says true, and the input reads as it did. No condition. -/
import Derived.Test.YtdnfgoolapikmaaD8
import Derived.Test.YtdnfgoolapikmaaRows
import Derived.ProofKit
namespace Go.Sm.Ytdnfgoolapikmaa
open Go Go.Sm Go.RowKit Go.ChangeShapes Go.WideShapes Go.ChangeAt Go.Proofs Go.Proofs.Ytdnfgoolapikmaa

theorem e4 (xs : List Nat) : runFn T8 none0 noL Try.f4 [.vw none ⟨.f32, xs⟩] = (match (decide (((xs.length : Int) : Int) > 1048576) : Bool) with
  | true => some ⟨[.el (.sc (.bo true))], none⟩
  | false => (match (Nat.ble xs.length big : Bool) with
    | true => (match (Nat.ble xs.length big : Bool) with
      | true => (match (Nat.ble xs.length big : Bool) with
        | true => (match (Nat.beq (orNil (bendOk xs) (bends xs)).length (orNil (bendOk xs) (bends xs)).length : Bool) with
          | true => (match (Nat.ble (orNil (bendOk xs) (bends xs)).length big : Bool) with
            | true => (match (!(all2 sameW (orNil (bendOk xs) (bends xs)) (orNil (bendOk xs) (bends xs))) : Bool) with
              | true => some ⟨[.el (.sc (.bo false))], none⟩
              | false => (match (!((bendOk xs) == (bendOk xs)) : Bool) with
                | true => some ⟨[.el (.sc (.bo false))], none⟩
                | false => (match (Nat.ble xs.length big : Bool) with
                  | true => (match (Nat.beq xs.length xs.length : Bool) with
                    | true => (match (Nat.ble xs.length big : Bool) with
                      | true => (match (!(all2 sameW xs xs) : Bool) with
                        | true => some ⟨[.el (.sc (.bo false))], none⟩
                        | false => (match (decide (0 ≤ 1 ∧ 1 ≤ 1099511627776) && Nat.ble xs.length big : Bool) with
                          | true => (match (decide ((1 + (xs.length : Int) : Int) < 0) : Bool) with
                            | true => some ⟨[.el (.sc (.bo false))], none⟩
                            | false => (match (Nat.beq (orNil (bendOk xs) (bends xs)).length (orNil (bendOk xs) (bends xs)).length : Bool) with
                              | true => (match (Nat.ble (orNil (bendOk xs) (bends xs)).length big : Bool) with
                                | true => (match (!(all2 sameW (orNil (bendOk xs) (bends xs)) (orNil (bendOk xs) (bends xs))) : Bool) with
                                  | true => some ⟨[.el (.sc (.bo false))], none⟩
                                  | false => (match (!((bendOk xs) == (bendOk xs)) : Bool) with
                                    | true => some ⟨[.el (.sc (.bo false))], none⟩
                                    | false => (match (decide (0 ≤ 1 ∧ 1 ≤ 1099511627776) && Nat.ble (orNil (bendOk xs) (bends xs)).length big : Bool) with
                                      | true => (match (decide (0 ≤ 1 ∧ 1 ≤ 1099511627776) && Nat.ble (marks 1 (orNil (bendOk xs) (bends xs)).length).length big : Bool) with
                                        | true => (match (decide ((heldN (heldF 1 (marks 1 (orNil (bendOk xs) (bends xs)).length)) (1 + ((marks 1 (orNil (bendOk xs) (bends xs)).length).length : Int)) : Int) < 0) : Bool) with
                                          | true => some ⟨[.el (.sc (.bo false))], none⟩
                                          | false => (match (!((heldN (heldF 1 (marks 1 (orNil (bendOk xs) (bends xs)).length)) (1 + ((marks 1 (orNil (bendOk xs) (bends xs)).length).length : Int)) : Int) == 1 + ((orNil (bendOk xs) (bends xs)).length : Int)) : Bool) with
                                            | true => some ⟨[.el (.sc (.bo false))], none⟩
                                            | false => (match (Nat.ble xs.length big : Bool) with
                                              | true => (match (Nat.beq (orNil (bendOk xs) (bends xs)).length (orNil (bendOk xs) (bends xs)).length : Bool) with
                                                | true => (match (Nat.ble (orNil (bendOk xs) (bends xs)).length big : Bool) with
                                                  | true => (match (!(all2 sameW (orNil (bendOk xs) (bends xs)) (orNil (bendOk xs) (bends xs))) : Bool) with
                                                    | true => some ⟨[.el (.sc (.bo false))], none⟩
                                                    | false => (match (!((bendOk xs) == (bendOk xs)) : Bool) with
                                                      | true => some ⟨[.el (.sc (.bo false))], none⟩
                                                      | false => (match (decide (0 ≤ 1 ∧ 1 ≤ 1099511627776) && Nat.ble (marks 1 (orNil (bendOk xs) (bends xs)).length).length big : Bool) with
                                                        | true => (match (decide ((heldN (heldF 1 (marks 1 (orNil (bendOk xs) (bends xs)).length)) (1 + ((marks 1 (orNil (bendOk xs) (bends xs)).length).length : Int)) : Int) < 0) : Bool) with
                                                          | true => some ⟨[.el (.sc (.bo false))], none⟩
                                                          | false => (match (!((heldN (heldF 1 (marks 1 (orNil (bendOk xs) (bends xs)).length)) (1 + ((marks 1 (orNil (bendOk xs) (bends xs)).length).length : Int)) : Int) == 1 + ((orNil (bendOk xs) (bends xs)).length : Int)) : Bool) with
                                                            | true => some ⟨[.el (.sc (.bo false))], none⟩
                                                            | false => some ⟨[.el (.sc (.bo true))], none⟩))
                                                        | false => none)))
                                                  | false => none)
                                                | false => some ⟨[.el (.sc (.bo false))], none⟩)
                                              | false => none)))
                                        | false => none)
                                      | false => none)))
                                | false => none)
                              | false => some ⟨[.el (.sc (.bo false))], none⟩))
                          | false => none))
                      | false => none)
                    | false => some ⟨[.el (.sc (.bo false))], none⟩)
                  | false => none)))
            | false => none)
          | false => some ⟨[.el (.sc (.bo false))], none⟩)
        | false => none)
      | false => none)
    | false => none)) := by kernel_rfl
theorem s4 (xs : List Nat) (h_xs : ∀ a ∈ xs, K.wf .f32 a) (g_xs : xs.length ≤ 140737488351232) : runFn T8 none0 noL Try.f4 [.vw none ⟨.f32, xs⟩] = some ⟨[.el (.sc (.bo true))], none⟩ := by
  rw [e4]
  by_cases hs_xs : xs.length ≤ 1048576
  · have hb_xs : Nat.ble xs.length big = true := big_of (by omega)
    have n_xs : ¬ ((xs.length : Int) > 1048576) := by omega
    have m_xs : ¬ (1 + (xs.length : Int) < 0) := by omega
    generalize hD : orNil (bendOk xs) (bends xs) = D
    have hDl : D.length ≤ 1048576 := by
      rw [← hD]
      exact orNil_len _ _ (fun hok => by
        rw [bends_len]; omega)
    have hb5 : Nat.ble D.length big = true := big_of (by omega)
    have i3 : ¬ (1 + (D.length : Int) < 0) := by omega
    have hb6 : Nat.ble (marks 1 D.length).length big = true := by rw [marks_len]; exact hb5
    simp [hb_xs, n_xs, m_xs, hb5, hb6, i3, all2_refl sameW_refl, all2_refl sameW_refl, heldF_marks, heldN, marks_len, Nat.beq_refl]
  · have big_xs : ((xs.length : Int) > 1048576) := by omega
    simp [big_xs]

theorem core4 (xs : List FV) (h : AKs (AK.fits Try.prog) [.sl .f32] Try.f4.params.toList xs) : COK Try.prog 4 xs [.el (.sc (.bo true))] := by
  have hp : Try.f4.params.toList = [22] := by kernel_rfl
  rw [hp] at h
  obtain ⟨x0, rfl, hx0⟩ := aks1 h
  obtain ⟨xs, rfl, h_xs, i0⟩ := hx0
  have g_xs : xs.length ≤ 140737488351232 := Nat.le_trans (Nat.le_mul_of_pos_right _ (show 0 < Try.prog.bytesOf 37 by exact of_decide_eq_true (by kernel_rfl))) (i0 37 (by kernel_rfl))
  show COK Try.prog 4 [.vw none ⟨.f32, xs⟩] [.el (.sc (.bo true))]
  exact fn_ok tok8 (A := none0) (L := noL) (r := none) Try.func4 (by kernel_rfl) (by kernel_rfl) (loops0 (by kernel_rfl)) (s4 xs h_xs g_xs)

end Go.Sm.Ytdnfgoolapikmaa
namespace Go.Proofs.Ytdnfgoolapikmaa
open Go.Sm Go.Sm.Ytdnfgoolapikmaa Go.ChangeShapes Go.WideShapes Go.ChangeAt Go.RowKit

set_option maxRecDepth 100000 in
theorem lifted4 (os : Os) (started : os.Started) (H : Type) (enc : TypeId × Value → H) :
    ReturnsInHanded {} Try.checked os 4 .any (Rows.fnExactBendOfSpec.pre6 enc Try.prog Try.f4 Rows.fnExactBendOfRow.domain false) (Rows.fnExactBendOfSpec.post enc Try.prog Try.f4 false true false false) :=
  law_lifted (C := Try.checked) (aks := [.sl .f32]) (tb := 4) (by kernel_rfl) started (by kernel_rfl) Try.func4 (by kernel_rfl)
    (ChangeSpec.witness6 (enc := enc) (C := Try.checked) false ⟨#[], #[.slice none 0 0], []⟩ 8 (by kernel_rfl) (by kernel_rfl) (by kernel_rfl) (by kernel_rfl))
    (fun t ht => by
      have hb : Try.f4.params.toList.all (fun t => Try.prog.readableRec t && decide (t < Try.prog.types.size)) = true := by kernel_rfl
      have := List.all_eq_true.1 hb t ht
      rw [Bool.and_eq_true] at this
      exact ⟨this.1, of_decide_eq_true this.2⟩)
    (by kernel_rfl) (by kernel_rfl) rfl
    (fun ds hd => by
      have hp : Try.f4.params.size = 1 := by kernel_rfl
      rw [hp] at hd
      match ds, hd with
      | [d0], _ => rfl)
    (rowsB_ok (by kernel_rfl)) core4

/-- **THE LAW.** -/
theorem FnExactBendOf_holds : Rows.FnExactBendOfSaid :=
  OpenClaim.holds_of_wide 4 Try.f4 rfl rfl rfl rfl rfl rfl rfl ⟨rfl, rfl, rfl, rfl, rfl⟩ rfl rfl rfl rfl rfl (by kernel_rfl) Try.func4 (by kernel_rfl)
    (of_decide_eq_true (by kernel_rfl)) (by unfold Func.isWrapper; first | (rw [if_pos (by decide +kernel)]; kernel_rfl) | (rw [if_neg (by decide +kernel)]; exact ⟨rfl, rfl⟩))
    (fun os started H enc _ => lifted4 os started H enc)

end Go.Proofs.Ytdnfgoolapikmaa
