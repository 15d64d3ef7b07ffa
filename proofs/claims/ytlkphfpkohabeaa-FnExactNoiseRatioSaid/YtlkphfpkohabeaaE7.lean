/- The law FnExactNoiseRatio holds: whatever the input, it says true, and the input reads as it did. No condition. -/
import Derived.Test.YtlkphfpkohabeaaD11
import Derived.Test.YtlkphfpkohabeaaRows
import Derived.ProofKit
namespace Go.Sm.Ytlkphfpkohabeaa
open Go Go.Sm Go.RowKit Go.ChangeShapes Go.WideShapes Go.ChangeAt Go.Proofs Go.Proofs.Ytlkphfpkohabeaa

theorem e7 (xs : List Nat) (a : Int) (b : Int) : runFn T11 none0 noL Try.f7 [.vw none ⟨.f32, xs⟩, .el (.sc (.int .i64 a)), .el (.sc (.int .i64 b))] = (match (decide (((xs.length : Int) : Int) > 1048576) : Bool) with
  | true => some ⟨[.el (.sc (.bo true))], none⟩
  | false => (match (Nat.ble xs.length big : Bool) with
    | true => (match (Nat.ble xs.length big : Bool) with
      | true => (match (!(sameF (wid (orZero (noiseOk xs a b) (noiseX xs a b))) (wid (orZero (noiseOk xs a b) (noiseX xs a b)))) : Bool) with
        | true => some ⟨[.el (.sc (.bo false))], none⟩
        | false => (match (!((noiseOk xs a b) == (noiseOk xs a b)) : Bool) with
          | true => some ⟨[.el (.sc (.bo false))], none⟩
          | false => (match (Nat.ble xs.length big : Bool) with
            | true => (match (Nat.beq xs.length xs.length : Bool) with
              | true => (match (Nat.ble xs.length big : Bool) with
                | true => (match (!(all2 sameW xs xs) : Bool) with
                  | true => some ⟨[.el (.sc (.bo false))], none⟩
                  | false => some ⟨[.el (.sc (.bo true))], none⟩)
                | false => none)
              | false => some ⟨[.el (.sc (.bo false))], none⟩)
            | false => none)))
      | false => none)
    | false => none)) := by kernel_rfl
theorem s7 (xs : List Nat) (a : Int) (b : Int) (h_xs : ∀ a ∈ xs, K.wf .f32 a) (g_xs : xs.length ≤ 140737488351232) (h_a : -9223372036854775808 ≤ a ∧ a ≤ 9223372036854775807) (h_b : -9223372036854775808 ≤ b ∧ b ≤ 9223372036854775807) : runFn T11 none0 noL Try.f7 [.vw none ⟨.f32, xs⟩, .el (.sc (.int .i64 a)), .el (.sc (.int .i64 b))] = some ⟨[.el (.sc (.bo true))], none⟩ := by
  rw [e7]
  by_cases hs : xs.length ≤ 1048576
  · have hb : Nat.ble xs.length big = true := Nat.ble_eq_true_of_le (by unfold big; omega)
    have h1 : ¬ ((xs.length : Int) > 1048576) := by omega
    simp [hb, h1, sameF_refl, all2_refl sameW_refl]
  · have h1 : ((xs.length : Int) > 1048576) := by omega
    simp [h1]

theorem core7 (xs : List FV) (h : AKs (AK.fits Try.prog) [.sl .f32, .sc (.int .i64), .sc (.int .i64)] Try.f7.params.toList xs) : COK Try.prog 7 xs [.el (.sc (.bo true))] := by
  have hp : Try.f7.params.toList = [22, 2, 2] := by kernel_rfl
  rw [hp] at h
  obtain ⟨x0, x1, x2, rfl, hx0, hx1, hx2⟩ := aks3 h
  obtain ⟨xs, rfl, h_xs, i0⟩ := hx0
  have g_xs : xs.length ≤ 140737488351232 := Nat.le_trans (Nat.le_mul_of_pos_right _ (show 0 < Try.prog.bytesOf 30 by exact of_decide_eq_true (by kernel_rfl))) (i0 30 (by kernel_rfl))
  obtain ⟨s1, rfl, h1⟩ := hx1
  obtain ⟨a, rfl, h_a⟩ := fits_i64 h1
  obtain ⟨s2, rfl, h2⟩ := hx2
  obtain ⟨b, rfl, h_b⟩ := fits_i64 h2
  show COK Try.prog 7 [.vw none ⟨.f32, xs⟩, .el (.sc (.int .i64 a)), .el (.sc (.int .i64 b))] [.el (.sc (.bo true))]
  exact fn_ok tok11 (A := none0) (L := noL) (r := none) Try.func7 (by kernel_rfl) (by kernel_rfl) (loops0 (by kernel_rfl)) (s7 xs a b h_xs g_xs h_a h_b)

end Go.Sm.Ytlkphfpkohabeaa
namespace Go.Proofs.Ytlkphfpkohabeaa
open Go.Sm Go.Sm.Ytlkphfpkohabeaa Go.ChangeShapes Go.WideShapes Go.ChangeAt Go.RowKit

set_option maxRecDepth 100000 in
theorem lifted7 (os : Os) (started : os.Started) (H : Type) (enc : TypeId × Value → H) :
    ReturnsInHanded {} Try.checked os 7 .any (Rows.fnExactNoiseRatioSpec.pre6 enc Try.prog Try.f7 Rows.fnExactNoiseRatioRow.domain false) (Rows.fnExactNoiseRatioSpec.post enc Try.prog Try.f7 false true false false) :=
  law_lifted (C := Try.checked) (aks := [.sl .f32, .sc (.int .i64), .sc (.int .i64)]) (tb := 4) (by kernel_rfl) started (by kernel_rfl) Try.func7 (by kernel_rfl)
    (ChangeSpec.witness6 (enc := enc) (C := Try.checked) false ⟨#[], #[.slice none 0 0, .int .i64 0, .int .i64 0], []⟩ 8 (by kernel_rfl) (by kernel_rfl) (by kernel_rfl) (by kernel_rfl))
    (fun t ht => by
      have hb : Try.f7.params.toList.all (fun t => Try.prog.readableRec t && decide (t < Try.prog.types.size)) = true := by kernel_rfl
      have := List.all_eq_true.1 hb t ht
      rw [Bool.and_eq_true] at this
      exact ⟨this.1, of_decide_eq_true this.2⟩)
    (by kernel_rfl) (by kernel_rfl) rfl
    (fun ds hd => by
      have hp : Try.f7.params.size = 3 := by kernel_rfl
      rw [hp] at hd
      match ds, hd with
      | [d0, d1, d2], _ => rfl)
    (rowsB_ok (by kernel_rfl)) core7

/-- **THE LAW.** -/
theorem FnExactNoiseRatio_holds : Rows.FnExactNoiseRatioSaid :=
  OpenClaim.holds_of_wide 7 Try.f7 rfl rfl rfl rfl rfl rfl rfl ⟨rfl, rfl, rfl, rfl, rfl⟩ rfl rfl rfl rfl rfl (by kernel_rfl) Try.func7 (by kernel_rfl)
    (of_decide_eq_true (by kernel_rfl)) (by unfold Func.isWrapper; first | (rw [if_pos (by decide +kernel)]; kernel_rfl) | (rw [if_neg (by decide +kernel)]; exact ⟨rfl, rfl⟩))
    (fun os started H enc _ => lifted7 os started H enc)

end Go.Proofs.Ytlkphfpkohabeaa
