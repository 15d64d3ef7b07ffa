/- The law FnExactShiftLines holds: whatever the input, it says true, and the input reads as it did. No condition. -/
import Derived.Test.YtlkphfpkohabeaaD11
import Derived.Test.YtlkphfpkohabeaaRows
import Derived.ProofKit
namespace Go.Sm.Ytlkphfpkohabeaa
open Go Go.Sm Go.RowKit Go.ChangeShapes Go.WideShapes Go.ChangeAt Go.Proofs Go.Proofs.Ytlkphfpkohabeaa

theorem e4 (xs : List LineV) (b : Nat) (d : Nat) : runFn T11 none0 noL Try.f4 [.vw none ⟨.line, xs⟩, .el (.sc (.fl .f32 b)), .el (.sc (.fl .f32 d))] = (match (decide ((szLeft xs.length 1048576 : Int) < 0) : Bool) with
  | true => some ⟨[.el (.sc (.bo true))], none⟩
  | false => (match (Nat.ble xs.length big : Bool) with
    | true => (match (Nat.ble xs.length big : Bool) with
      | true => (match (Nat.ble xs.length big : Bool) with
        | true => (match (Nat.beq (orNil (shiftOk xs b d) (shiftX xs b d)).length (orNil (shiftOk xs b d) (shiftX xs b d)).length : Bool) with
          | true => (match (Nat.ble (orNil (shiftOk xs b d) (shiftX xs b d)).length big : Bool) with
            | true => (match (!(all2 eqLineF (orNil (shiftOk xs b d) (shiftX xs b d)) (orNil (shiftOk xs b d) (shiftX xs b d))) : Bool) with
              | true => some ⟨[.el (.sc (.bo false))], none⟩
              | false => (match (!((shiftOk xs b d) == (shiftOk xs b d)) : Bool) with
                | true => some ⟨[.el (.sc (.bo false))], none⟩
                | false => (match (Nat.ble xs.length big : Bool) with
                  | true => (match (Nat.beq xs.length xs.length : Bool) with
                    | true => (match (Nat.ble xs.length big : Bool) with
                      | true => (match (!(all2 eqLineF xs xs) : Bool) with
                        | true => some ⟨[.el (.sc (.bo false))], none⟩
                        | false => (match (decide (0 ≤ 1 ∧ 1 ≤ 1099511627776) && Nat.ble xs.length big : Bool) with
                          | true => (match (decide ((1 + 4 * (xs.length : Int) : Int) < 0) : Bool) with
                            | true => some ⟨[.el (.sc (.bo false))], none⟩
                            | false => (match (Nat.beq (orNil (shiftOk xs b d) (shiftX xs b d)).length (orNil (shiftOk xs b d) (shiftX xs b d)).length : Bool) with
                              | true => (match (Nat.ble (orNil (shiftOk xs b d) (shiftX xs b d)).length big : Bool) with
                                | true => (match (!(all2 eqLineF (orNil (shiftOk xs b d) (shiftX xs b d)) (orNil (shiftOk xs b d) (shiftX xs b d))) : Bool) with
                                  | true => some ⟨[.el (.sc (.bo false))], none⟩
                                  | false => (match (!((shiftOk xs b d) == (shiftOk xs b d)) : Bool) with
                                    | true => some ⟨[.el (.sc (.bo false))], none⟩
                                    | false => (match (decide (0 ≤ 1 ∧ 1 ≤ 1099511627776) && Nat.ble (orNil (shiftOk xs b d) (shiftX xs b d)).length big : Bool) with
                                      | true => (match (decide (0 ≤ 1 ∧ 1 ≤ 1099511627776) && Nat.ble (marksL 1 (orNil (shiftOk xs b d) (shiftX xs b d)).length).length big : Bool) with
                                        | true => (match (decide ((heldN (heldL 1 (marksL 1 (orNil (shiftOk xs b d) (shiftX xs b d)).length)) (1 + 4 * ((marksL 1 (orNil (shiftOk xs b d) (shiftX xs b d)).length).length : Int)) : Int) < 0) : Bool) with
                                          | true => some ⟨[.el (.sc (.bo false))], none⟩
                                          | false => (match (!((heldN (heldL 1 (marksL 1 (orNil (shiftOk xs b d) (shiftX xs b d)).length)) (1 + 4 * ((marksL 1 (orNil (shiftOk xs b d) (shiftX xs b d)).length).length : Int)) : Int) == 1 + 4 * ((orNil (shiftOk xs b d) (shiftX xs b d)).length : Int)) : Bool) with
                                            | true => some ⟨[.el (.sc (.bo false))], none⟩
                                            | false => (match (Nat.ble xs.length big : Bool) with
                                              | true => (match (Nat.beq (orNil (shiftOk xs b d) (shiftX xs b d)).length (orNil (shiftOk xs b d) (shiftX xs b d)).length : Bool) with
                                                | true => (match (Nat.ble (orNil (shiftOk xs b d) (shiftX xs b d)).length big : Bool) with
                                                  | true => (match (!(all2 eqLineF (orNil (shiftOk xs b d) (shiftX xs b d)) (orNil (shiftOk xs b d) (shiftX xs b d))) : Bool) with
                                                    | true => some ⟨[.el (.sc (.bo false))], none⟩
                                                    | false => (match (!((shiftOk xs b d) == (shiftOk xs b d)) : Bool) with
                                                      | true => some ⟨[.el (.sc (.bo false))], none⟩
                                                      | false => (match (decide (0 ≤ 1 ∧ 1 ≤ 1099511627776) && Nat.ble (marksL 1 (orNil (shiftOk xs b d) (shiftX xs b d)).length).length big : Bool) with
                                                        | true => (match (decide ((heldN (heldL 1 (marksL 1 (orNil (shiftOk xs b d) (shiftX xs b d)).length)) (1 + 4 * ((marksL 1 (orNil (shiftOk xs b d) (shiftX xs b d)).length).length : Int)) : Int) < 0) : Bool) with
                                                          | true => some ⟨[.el (.sc (.bo false))], none⟩
                                                          | false => (match (!((heldN (heldL 1 (marksL 1 (orNil (shiftOk xs b d) (shiftX xs b d)).length)) (1 + 4 * ((marksL 1 (orNil (shiftOk xs b d) (shiftX xs b d)).length).length : Int)) : Int) == 1 + 4 * ((orNil (shiftOk xs b d) (shiftX xs b d)).length : Int)) : Bool) with
                                                            | true => some ⟨[.el (.sc (.bo false))], none⟩
                                                            | false => some ⟨[.el (.sc (.bo true))], none⟩))
                                                        | false => none)))
                                                  | false => none)
                                                | false => some ⟨[.el (.sc (.bo false))], none⟩)
                                              | false => none)))
                                        | false => none)
                                      | false => none)))
                                | false => none)
                              | false => some ⟨[.el (.sc (.bo false))], none⟩))
                          | false => none))
                      | false => none)
                    | false => some ⟨[.el (.sc (.bo false))], none⟩)
                  | false => none)))
            | false => none)
          | false => some ⟨[.el (.sc (.bo false))], none⟩)
        | false => none)
      | false => none)
    | false => none)) := by kernel_rfl
theorem s4 (xs : List LineV) (b : Nat) (d : Nat) (h_xs : ∀ a ∈ xs, K.wf .line a) (g_xs : xs.length ≤ 140737488351232) (h_b : cn .f32 b = b ∧ b < 2 ^ 32) (h_d : cn .f32 d = d ∧ d < 2 ^ 32) : runFn T11 none0 noL Try.f4 [.vw none ⟨.line, xs⟩, .el (.sc (.fl .f32 b)), .el (.sc (.fl .f32 d))] = some ⟨[.el (.sc (.bo true))], none⟩ := by
  rw [e4]
  by_cases hs : xs.length ≤ 1048576
  · have hb : Nat.ble xs.length big = true := big_of (by omega)
    have h0 : szLeft xs.length 1048576 = 1048576 - (xs.length : Int) := by
      unfold szLeft
      have : IntKind.i64.wrap (1048576 - (xs.length : Int)) = 1048576 - (xs.length : Int) := wrap64 (by omega) (by omega)
      rw [this]
      have h2 : ¬ (1048576 - (xs.length : Int)) < 0 := by omega
      simp [h2]
    have h01 : ¬ (1048576 - (xs.length : Int)) < 0 := by omega
    have hm : ¬ (1 + 4 * (xs.length : Int) < 0) := by omega
    generalize hD : orNil (shiftOk xs b d) (shiftX xs b d) = D
    have hDl : D.length ≤ 1048576 := by
      rw [← hD]
      exact orNil_len _ _ (fun hok => by
        rw [shiftX_len]; omega)
    have hb5 : Nat.ble D.length big = true := big_of (by omega)
    have i3 : ¬ (1 + 4 * (D.length : Int) < 0) := by omega
    have hb6 : Nat.ble (marksL 1 D.length).length big = true := by rw [marksL_len]; exact hb5
    simp [h0, h01, hb, hm, hb5, hb6, i3, all2_refl eqLineF_refl, all2_refl sameW_refl, all2_refl eqLineF_refl, heldL_marks, heldN, marksL_len, Nat.beq_refl]
  · have h1 : szLeft xs.length 1048576 = -1 := by
      unfold szLeft
      have : IntKind.i64.wrap (1048576 - (xs.length : Int)) = 1048576 - (xs.length : Int) := wrap64 (by omega) (by omega)
      rw [this]
      have h2 : (1048576 - (xs.length : Int)) < 0 := by omega
      simp [h2]
    simp [h1]

theorem core4 (xs : List FV) (h : AKs (AK.fits Try.prog) [.sl .line, .sc (.float .f32), .sc (.float .f32)] Try.f4.params.toList xs) : COK Try.prog 4 xs [.el (.sc (.bo true))] := by
  have hp : Try.f4.params.toList = [29, 30, 30] := by kernel_rfl
  rw [hp] at h
  obtain ⟨x0, x1, x2, rfl, hx0, hx1, hx2⟩ := aks3 h
  obtain ⟨xs, rfl, h_xs, i0⟩ := hx0
  have g_xs : xs.length ≤ 140737488351232 := Nat.le_trans (Nat.le_mul_of_pos_right _ (show 0 < Try.prog.bytesOf 46 by exact of_decide_eq_true (by kernel_rfl))) (i0 46 (by kernel_rfl))
  obtain ⟨s1, rfl, h1⟩ := hx1
  obtain ⟨b, rfl, h_b⟩ := fits_f32 h1
  obtain ⟨s2, rfl, h2⟩ := hx2
  obtain ⟨d, rfl, h_d⟩ := fits_f32 h2
  show COK Try.prog 4 [.vw none ⟨.line, xs⟩, .el (.sc (.fl .f32 b)), .el (.sc (.fl .f32 d))] [.el (.sc (.bo true))]
  exact fn_ok tok11 (A := none0) (L := noL) (r := none) Try.func4 (by kernel_rfl) (by kernel_rfl) (loops0 (by kernel_rfl)) (s4 xs b d h_xs g_xs h_b h_d)

end Go.Sm.Ytlkphfpkohabeaa
namespace Go.Proofs.Ytlkphfpkohabeaa
open Go.Sm Go.Sm.Ytlkphfpkohabeaa Go.ChangeShapes Go.WideShapes Go.ChangeAt Go.RowKit

set_option maxRecDepth 100000 in
theorem lifted4 (os : Os) (started : os.Started) (H : Type) (enc : TypeId × Value → H) :
    ReturnsInHanded {} Try.checked os 4 .any (Rows.fnExactShiftLinesSpec.pre6 enc Try.prog Try.f4 Rows.fnExactShiftLinesRow.domain false) (Rows.fnExactShiftLinesSpec.post enc Try.prog Try.f4 false true false false) :=
  law_lifted (C := Try.checked) (aks := [.sl .line, .sc (.float .f32), .sc (.float .f32)]) (tb := 4) (by kernel_rfl) started (by kernel_rfl) Try.func4 (by kernel_rfl)
    (ChangeSpec.witness6 (enc := enc) (C := Try.checked) false ⟨#[], #[.slice none 0 0, .float .f32 0, .float .f32 0], []⟩ 8 (by kernel_rfl) (by kernel_rfl) (by kernel_rfl) (by kernel_rfl))
    (fun t ht => by
      have hb : Try.f4.params.toList.all (fun t => Try.prog.readableRec t && decide (t < Try.prog.types.size)) = true := by kernel_rfl
      have := List.all_eq_true.1 hb t ht
      rw [Bool.and_eq_true] at this
      exact ⟨this.1, of_decide_eq_true this.2⟩)
    (by kernel_rfl) (by kernel_rfl) rfl
    (fun ds hd => by
      have hp : Try.f4.params.size = 3 := by kernel_rfl
      rw [hp] at hd
      match ds, hd with
      | [d0, d1, d2], _ => rfl)
    (rowsB_ok (by kernel_rfl)) core4

/-- **THE LAW.** -/
theorem FnExactShiftLines_holds : Rows.FnExactShiftLinesSaid :=
  OpenClaim.holds_of_wide 4 Try.f4 rfl rfl rfl rfl rfl rfl rfl ⟨rfl, rfl, rfl, rfl, rfl⟩ rfl rfl rfl rfl rfl (by kernel_rfl) Try.func4 (by kernel_rfl)
    (of_decide_eq_true (by kernel_rfl)) (by unfold Func.isWrapper; first | (rw [if_pos (by decide +kernel)]; kernel_rfl) | (rw [if_neg (by decide +kernel)]; exact ⟨rfl, rfl⟩))
    (fun os started H enc _ => lifted4 os started H enc)

end Go.Proofs.Ytlkphfpkohabeaa
