/- The law FnExactFitHeights holds: whatever the input, it says true, and the input reads as it did. No condition. -/
import Derived.Test.YtpckpfbjhnllbaaD13
import Derived.Test.YtpckpfbjhnllbaaRows
import Derived.ProofKit
namespace Go.Sm.Ytpckpfbjhnllbaa
open Go Go.Sm Go.RowKit Go.ChangeShapes Go.WideShapes Go.ChangeAt Go.Proofs Go.Proofs.Ytpckpfbjhnllbaa

theorem e3 (xs : List LineV) (ys : List Nat) (b : Nat) (d : Nat) : runFn T13 none0 noL Try.f3 [.vw none ⟨.line, xs⟩, .vw none ⟨.f32, ys⟩, .el (.sc (.fl .f32 b)), .el (.sc (.fl .f32 d))] = (match (decide (((ys.length : Int) : Int) > 1048576) : Bool) with
  | true => some ⟨[.el (.sc (.bo true))], none⟩
  | false => (match (decide ((szLeft xs.length 1048576 : Int) < 0) : Bool) with
    | true => some ⟨[.el (.sc (.bo true))], none⟩
    | false => (match (Nat.ble xs.length big : Bool) with
      | true => (match (Nat.ble ys.length big : Bool) with
        | true => (match (Nat.ble xs.length big && Nat.ble ys.length big : Bool) with
          | true => (match (Nat.ble xs.length big : Bool) with
            | true => (match (Nat.ble ys.length big : Bool) with
              | true => (match (Nat.beq (orNil (fhOk xs ys b d) (fhX xs ys b d)).length (orNil (fhOk xs ys b d) (fhX xs ys b d)).length : Bool) with
                | true => (match (Nat.ble (orNil (fhOk xs ys b d) (fhX xs ys b d)).length big : Bool) with
                  | true => (match (!(all2 eqLineF (orNil (fhOk xs ys b d) (fhX xs ys b d)) (orNil (fhOk xs ys b d) (fhX xs ys b d))) : Bool) with
                    | true => some ⟨[.el (.sc (.bo false))], none⟩
                    | false => (match (!((fhOk xs ys b d) == (fhOk xs ys b d)) : Bool) with
                      | true => some ⟨[.el (.sc (.bo false))], none⟩
                      | false => (match (Nat.ble xs.length big : Bool) with
                        | true => (match (Nat.beq xs.length xs.length : Bool) with
                          | true => (match (Nat.ble xs.length big : Bool) with
                            | true => (match (!(all2 eqLineF xs xs) : Bool) with
                              | true => some ⟨[.el (.sc (.bo false))], none⟩
                              | false => (match (Nat.ble ys.length big : Bool) with
                                | true => (match (Nat.beq ys.length ys.length : Bool) with
                                  | true => (match (Nat.ble ys.length big : Bool) with
                                    | true => (match (!(all2 sameW ys ys) : Bool) with
                                      | true => some ⟨[.el (.sc (.bo false))], none⟩
                                      | false => (match (decide (0 ≤ 1 ∧ 1 ≤ 1099511627776) && Nat.ble xs.length big : Bool) with
                                        | true => (match (decide (0 ≤ 1 + 4 * (xs.length : Int) ∧ 1 + 4 * (xs.length : Int) ≤ 1099511627776) && Nat.ble ys.length big : Bool) with
                                          | true => (match (decide (((1 + 4 * (xs.length : Int)) + (ys.length : Int) : Int) < 0) : Bool) with
                                            | true => some ⟨[.el (.sc (.bo false))], none⟩
                                            | false => (match (Nat.beq (orNil (fhOk xs ys b d) (fhX xs ys b d)).length (orNil (fhOk xs ys b d) (fhX xs ys b d)).length : Bool) with
                                              | true => (match (Nat.ble (orNil (fhOk xs ys b d) (fhX xs ys b d)).length big : Bool) with
                                                | true => (match (!(all2 eqLineF (orNil (fhOk xs ys b d) (fhX xs ys b d)) (orNil (fhOk xs ys b d) (fhX xs ys b d))) : Bool) with
                                                  | true => some ⟨[.el (.sc (.bo false))], none⟩
                                                  | false => (match (!((fhOk xs ys b d) == (fhOk xs ys b d)) : Bool) with
                                                    | true => some ⟨[.el (.sc (.bo false))], none⟩
                                                    | false => (match (decide (0 ≤ 1 ∧ 1 ≤ 1099511627776) && Nat.ble (orNil (fhOk xs ys b d) (fhX xs ys b d)).length big : Bool) with
                                                      | true => (match (decide (0 ≤ 1 ∧ 1 ≤ 1099511627776) && Nat.ble (marksL 1 (orNil (fhOk xs ys b d) (fhX xs ys b d)).length).length big : Bool) with
                                                        | true => (match (decide ((heldN (heldL 1 (marksL 1 (orNil (fhOk xs ys b d) (fhX xs ys b d)).length)) (1 + 4 * ((marksL 1 (orNil (fhOk xs ys b d) (fhX xs ys b d)).length).length : Int)) : Int) < 0) : Bool) with
                                                          | true => some ⟨[.el (.sc (.bo false))], none⟩
                                                          | false => (match (!((heldN (heldL 1 (marksL 1 (orNil (fhOk xs ys b d) (fhX xs ys b d)).length)) (1 + 4 * ((marksL 1 (orNil (fhOk xs ys b d) (fhX xs ys b d)).length).length : Int)) : Int) == 1 + 4 * ((orNil (fhOk xs ys b d) (fhX xs ys b d)).length : Int)) : Bool) with
                                                            | true => some ⟨[.el (.sc (.bo false))], none⟩
                                                            | false => (match (Nat.ble xs.length big : Bool) with
                                                              | true => (match (Nat.ble ys.length big : Bool) with
                                                                | true => (match (Nat.beq (orNil (fhOk xs ys b d) (fhX xs ys b d)).length (orNil (fhOk xs ys b d) (fhX xs ys b d)).length : Bool) with
                                                                  | true => (match (Nat.ble (orNil (fhOk xs ys b d) (fhX xs ys b d)).length big : Bool) with
                                                                    | true => (match (!(all2 eqLineF (orNil (fhOk xs ys b d) (fhX xs ys b d)) (orNil (fhOk xs ys b d) (fhX xs ys b d))) : Bool) with
                                                                      | true => some ⟨[.el (.sc (.bo false))], none⟩
                                                                      | false => (match (!((fhOk xs ys b d) == (fhOk xs ys b d)) : Bool) with
                                                                        | true => some ⟨[.el (.sc (.bo false))], none⟩
                                                                        | false => (match (decide (0 ≤ 1 ∧ 1 ≤ 1099511627776) && Nat.ble (marksL 1 (orNil (fhOk xs ys b d) (fhX xs ys b d)).length).length big : Bool) with
                                                                          | true => (match (decide ((heldN (heldL 1 (marksL 1 (orNil (fhOk xs ys b d) (fhX xs ys b d)).length)) (1 + 4 * ((marksL 1 (orNil (fhOk xs ys b d) (fhX xs ys b d)).length).length : Int)) : Int) < 0) : Bool) with
                                                                            | true => some ⟨[.el (.sc (.bo false))], none⟩
                                                                            | false => (match (!((heldN (heldL 1 (marksL 1 (orNil (fhOk xs ys b d) (fhX xs ys b d)).length)) (1 + 4 * ((marksL 1 (orNil (fhOk xs ys b d) (fhX xs ys b d)).length).length : Int)) : Int) == 1 + 4 * ((orNil (fhOk xs ys b d) (fhX xs ys b d)).length : Int)) : Bool) with
                                                                              | true => some ⟨[.el (.sc (.bo false))], none⟩
                                                                              | false => some ⟨[.el (.sc (.bo true))], none⟩))
                                                                          | false => none)))
                                                                    | false => none)
                                                                  | false => some ⟨[.el (.sc (.bo false))], none⟩)
                                                                | false => none)
                                                              | false => none)))
                                                        | false => none)
                                                      | false => none)))
                                                | false => none)
                                              | false => some ⟨[.el (.sc (.bo false))], none⟩))
                                          | false => none)
                                        | false => none))
                                    | false => none)
                                  | false => some ⟨[.el (.sc (.bo false))], none⟩)
                                | false => none))
                            | false => none)
                          | false => some ⟨[.el (.sc (.bo false))], none⟩)
                        | false => none)))
                  | false => none)
                | false => some ⟨[.el (.sc (.bo false))], none⟩)
              | false => none)
            | false => none)
          | false => none)
        | false => none)
      | false => none))) := by kernel_rfl
theorem s3 (xs : List LineV) (ys : List Nat) (b : Nat) (d : Nat) (h_xs : ∀ a ∈ xs, K.wf .line a) (g_xs : xs.length ≤ 140737488351232) (h_ys : ∀ a ∈ ys, K.wf .f32 a) (g_ys : ys.length ≤ 140737488351232) (h_b : cn .f32 b = b ∧ b < 2 ^ 32) (h_d : cn .f32 d = d ∧ d < 2 ^ 32) : runFn T13 none0 noL Try.f3 [.vw none ⟨.line, xs⟩, .vw none ⟨.f32, ys⟩, .el (.sc (.fl .f32 b)), .el (.sc (.fl .f32 d))] = some ⟨[.el (.sc (.bo true))], none⟩ := by
  rw [e3]
  by_cases hs2 : (ys.length : Int) > 1048576
  · simp [hs2]
  · by_cases hs : xs.length ≤ 1048576
    · have hb : Nat.ble xs.length big = true := big_of (by omega)
      have h0 : szLeft xs.length 1048576 = 1048576 - (xs.length : Int) := by
        unfold szLeft
        have : IntKind.i64.wrap (1048576 - (xs.length : Int)) = 1048576 - (xs.length : Int) := wrap64 (by omega) (by omega)
        rw [this]
        have h2 : ¬ (1048576 - (xs.length : Int)) < 0 := by omega
        simp [h2]
      have h01 : ¬ (1048576 - (xs.length : Int)) < 0 := by omega
      have hm : ¬ (1 + 4 * (xs.length : Int) < 0) := by omega
      generalize hD : orNil (fhOk xs ys b d) (fhX xs ys b d) = D
      have hDl : D.length ≤ 1048576 := by
        rw [← hD]
        exact orNil_len _ _ (fun hok => by
          exact Nat.le_trans fhX_len hs)
      have hb5 : Nat.ble D.length big = true := big_of (by omega)
      have i3 : ¬ (1 + 4 * (D.length : Int) < 0) := by omega
      have hb6 : Nat.ble (marksL 1 D.length).length big = true := by rw [marksL_len]; exact hb5
      have hb7 : Nat.ble ys.length big = true := big_of (by omega)
      have j1 : (0 : Int) ≤ 1 + 4 * (xs.length : Int) ∧ 1 + 4 * (xs.length : Int) ≤ 1099511627776 := by omega
      have j2 : ¬ (1 + 4 * (xs.length : Int) + (ys.length : Int) < 0) := by omega
      simp [hs2, hb7, j1, j2, h0, h01, hb, hm, hb5, hb6, i3, all2_refl eqLineF_refl, all2_refl sameW_refl, all2_refl eqLineF_refl, heldL_marks, heldN, marksL_len, Nat.beq_refl]
    · have h1 : szLeft xs.length 1048576 = -1 := by
        unfold szLeft
        have : IntKind.i64.wrap (1048576 - (xs.length : Int)) = 1048576 - (xs.length : Int) := wrap64 (by omega) (by omega)
        rw [this]
        have h2 : (1048576 - (xs.length : Int)) < 0 := by omega
        simp [h2]
      simp [hs2, h1]

theorem core3 (xs : List FV) (h : AKs (AK.fits Try.prog) [.sl .line, .sl .f32, .sc (.float .f32), .sc (.float .f32)] Try.f3.params.toList xs) : COK Try.prog 3 xs [.el (.sc (.bo true))] := by
  have hp : Try.f3.params.toList = [22, 23, 24, 24] := by kernel_rfl
  rw [hp] at h
  obtain ⟨x0, x1, x2, x3, rfl, hx0, hx1, hx2, hx3⟩ := aks4 h
  obtain ⟨xs, rfl, h_xs, i0⟩ := hx0
  have g_xs : xs.length ≤ 140737488351232 := Nat.le_trans (Nat.le_mul_of_pos_right _ (show 0 < Try.prog.bytesOf 37 by exact of_decide_eq_true (by kernel_rfl))) (i0 37 (by kernel_rfl))
  obtain ⟨ys, rfl, h_ys, i1⟩ := hx1
  have g_ys : ys.length ≤ 140737488351232 := Nat.le_trans (Nat.le_mul_of_pos_right _ (show 0 < Try.prog.bytesOf 24 by exact of_decide_eq_true (by kernel_rfl))) (i1 24 (by kernel_rfl))
  obtain ⟨s2, rfl, h2⟩ := hx2
  obtain ⟨b, rfl, h_b⟩ := fits_f32 h2
  obtain ⟨s3, rfl, h3⟩ := hx3
  obtain ⟨d, rfl, h_d⟩ := fits_f32 h3
  show COK Try.prog 3 [.vw none ⟨.line, xs⟩, .vw none ⟨.f32, ys⟩, .el (.sc (.fl .f32 b)), .el (.sc (.fl .f32 d))] [.el (.sc (.bo true))]
  exact fn_ok tok13 (A := none0) (L := noL) (r := none) Try.func3 (by kernel_rfl) (by kernel_rfl) (loops0 (by kernel_rfl)) (s3 xs ys b d h_xs g_xs h_ys g_ys h_b h_d)

end Go.Sm.Ytpckpfbjhnllbaa
namespace Go.Proofs.Ytpckpfbjhnllbaa
open Go.Sm Go.Sm.Ytpckpfbjhnllbaa Go.ChangeShapes Go.WideShapes Go.ChangeAt Go.RowKit

set_option maxRecDepth 100000 in
theorem lifted3 (os : Os) (started : os.Started) (H : Type) (enc : TypeId × Value → H) :
    ReturnsInHanded {} Try.checked os 3 .any (Rows.fnExactFitHeightsSpec.pre6 enc Try.prog Try.f3 Rows.fnExactFitHeightsRow.domain false) (Rows.fnExactFitHeightsSpec.post enc Try.prog Try.f3 false true false false) :=
  law_lifted (C := Try.checked) (aks := [.sl .line, .sl .f32, .sc (.float .f32), .sc (.float .f32)]) (tb := 4) (by kernel_rfl) started (by kernel_rfl) Try.func3 (by kernel_rfl)
    (ChangeSpec.witness6 (enc := enc) (C := Try.checked) false ⟨#[], #[.slice none 0 0, .slice none 0 0, .float .f32 0, .float .f32 0], []⟩ 8 (by kernel_rfl) (by kernel_rfl) (by kernel_rfl) (by kernel_rfl))
    (fun t ht => by
      have hb : Try.f3.params.toList.all (fun t => Try.prog.readableRec t && decide (t < Try.prog.types.size)) = true := by kernel_rfl
      have := List.all_eq_true.1 hb t ht
      rw [Bool.and_eq_true] at this
      exact ⟨this.1, of_decide_eq_true this.2⟩)
    (by kernel_rfl) (by kernel_rfl) rfl
    (fun ds hd => by
      have hp : Try.f3.params.size = 4 := by kernel_rfl
      rw [hp] at hd
      match ds, hd with
      | [d0, d1, d2, d3], _ => rfl)
    (rowsB_ok (by kernel_rfl)) core3

/-- **THE LAW.** -/
theorem FnExactFitHeights_holds : Rows.FnExactFitHeightsSaid :=
  OpenClaim.holds_of_wide 3 Try.f3 rfl rfl rfl rfl rfl rfl rfl ⟨rfl, rfl, rfl, rfl, rfl⟩ rfl rfl rfl rfl rfl (by kernel_rfl) Try.func3 (by kernel_rfl)
    (of_decide_eq_true (by kernel_rfl)) (by unfold Func.isWrapper; first | (rw [if_pos (by decide +kernel)]; kernel_rfl) | (rw [if_neg (by decide +kernel)]; exact ⟨rfl, rfl⟩))
    (fun os started H enc _ => lifted3 os started H enc)

end Go.Proofs.Ytpckpfbjhnllbaa
