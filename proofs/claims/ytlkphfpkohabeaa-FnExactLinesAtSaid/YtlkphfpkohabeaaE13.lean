/- The law FnExactLinesAt holds: whatever the input, it says true, and the input reads as it did. No condition. -/
import Derived.Test.YtlkphfpkohabeaaD11
import Derived.Test.YtlkphfpkohabeaaRows
import Derived.ProofKit
namespace Go.Sm.Ytlkphfpkohabeaa
open Go Go.Sm Go.RowKit Go.ChangeShapes Go.WideShapes Go.ChangeAt Go.Proofs Go.Proofs.Ytlkphfpkohabeaa

theorem e13 (xs : List LineV) (x : Nat) : runFn T11 none0 noL Try.f13 [.vw none ⟨.line, xs⟩, .el (.sc (.fl .f32 x))] = (match (decide ((szLeft xs.length 1048576 : Int) < 0) : Bool) with
  | true => some ⟨[.el (.sc (.bo true))], none⟩
  | false => (match (Nat.ble xs.length big : Bool) with
    | true => (match (Nat.ble xs.length big : Bool) with
      | true => (match (Nat.ble xs.length big : Bool) with
        | true => (match (!(sameF (wid (orZero (linesAtOk xs x) (linesSum xs x))) (wid (orZero (linesAtOk xs x) (linesSum xs x)))) : Bool) with
          | true => some ⟨[.el (.sc (.bo false))], none⟩
          | false => (match (!((linesAtOk xs x) == (linesAtOk xs x)) : Bool) with
            | true => some ⟨[.el (.sc (.bo false))], none⟩
            | false => (match (Nat.ble xs.length big : Bool) with
              | true => (match (Nat.beq xs.length xs.length : Bool) with
                | true => (match (Nat.ble xs.length big : Bool) with
                  | true => (match (!(all2 eqLineF xs xs) : Bool) with
                    | true => some ⟨[.el (.sc (.bo false))], none⟩
                    | false => some ⟨[.el (.sc (.bo true))], none⟩)
                  | false => none)
                | false => some ⟨[.el (.sc (.bo false))], none⟩)
              | false => none)))
        | false => none)
      | false => none)
    | false => none)) := by kernel_rfl
theorem s13 (xs : List LineV) (x : Nat) (h_xs : ∀ a ∈ xs, K.wf .line a) (g_xs : xs.length ≤ 140737488351232) (h_x : cn .f32 x = x ∧ x < 2 ^ 32) : runFn T11 none0 noL Try.f13 [.vw none ⟨.line, xs⟩, .el (.sc (.fl .f32 x))] = some ⟨[.el (.sc (.bo true))], none⟩ := by
  rw [e13]
  by_cases hs : xs.length ≤ 1048576
  · have hb : Nat.ble xs.length big = true := Nat.ble_eq_true_of_le (by unfold big; omega)
    simp [hb, sameF_refl, all2_refl eqLineF_refl]
    split <;> rfl
  · have h1 : szLeft xs.length 1048576 = -1 := by
      unfold szLeft
      have : IntKind.i64.wrap (1048576 - (xs.length : Int)) = 1048576 - (xs.length : Int) := wrap64 (by omega) (by omega)
      rw [this]
      have h2 : (1048576 - (xs.length : Int)) < 0 := by omega
      simp [h2]
    simp [h1]

theorem core13 (xs : List FV) (h : AKs (AK.fits Try.prog) [.sl .line, .sc (.float .f32)] Try.f13.params.toList xs) : COK Try.prog 13 xs [.el (.sc (.bo true))] := by
  have hp : Try.f13.params.toList = [29, 30] := by kernel_rfl
  rw [hp] at h
  obtain ⟨x0, x1, rfl, hx0, hx1⟩ := aks2 h
  obtain ⟨xs, rfl, h_xs, i0⟩ := hx0
  have g_xs : xs.length ≤ 140737488351232 := Nat.le_trans (Nat.le_mul_of_pos_right _ (show 0 < Try.prog.bytesOf 46 by exact of_decide_eq_true (by kernel_rfl))) (i0 46 (by kernel_rfl))
  obtain ⟨s1, rfl, h1⟩ := hx1
  obtain ⟨x, rfl, h_x⟩ := fits_f32 h1
  show COK Try.prog 13 [.vw none ⟨.line, xs⟩, .el (.sc (.fl .f32 x))] [.el (.sc (.bo true))]
  exact fn_ok tok11 (A := none0) (L := noL) (r := none) Try.func13 (by kernel_rfl) (by kernel_rfl) (loops0 (by kernel_rfl)) (s13 xs x h_xs g_xs h_x)

end Go.Sm.Ytlkphfpkohabeaa
namespace Go.Proofs.Ytlkphfpkohabeaa
open Go.Sm Go.Sm.Ytlkphfpkohabeaa Go.ChangeShapes Go.WideShapes Go.ChangeAt Go.RowKit

set_option maxRecDepth 100000 in
theorem lifted13 (os : Os) (started : os.Started) (H : Type) (enc : TypeId × Value → H) :
    ReturnsInHanded {} Try.checked os 13 .any (Rows.fnExactLinesAtSpec.pre6 enc Try.prog Try.f13 Rows.fnExactLinesAtRow.domain false) (Rows.fnExactLinesAtSpec.post enc Try.prog Try.f13 false true false false) :=
  law_lifted (C := Try.checked) (aks := [.sl .line, .sc (.float .f32)]) (tb := 4) (by kernel_rfl) started (by kernel_rfl) Try.func13 (by kernel_rfl)
    (ChangeSpec.witness6 (enc := enc) (C := Try.checked) false ⟨#[], #[.slice none 0 0, .float .f32 0], []⟩ 8 (by kernel_rfl) (by kernel_rfl) (by kernel_rfl) (by kernel_rfl))
    (fun t ht => by
      have hb : Try.f13.params.toList.all (fun t => Try.prog.readableRec t && decide (t < Try.prog.types.size)) = true := by kernel_rfl
      have := List.all_eq_true.1 hb t ht
      rw [Bool.and_eq_true] at this
      exact ⟨this.1, of_decide_eq_true this.2⟩)
    (by kernel_rfl) (by kernel_rfl) rfl
    (fun ds hd => by
      have hp : Try.f13.params.size = 2 := by kernel_rfl
      rw [hp] at hd
      match ds, hd with
      | [d0, d1], _ => rfl)
    (rowsB_ok (by kernel_rfl)) core13

/-- **THE LAW.** -/
theorem FnExactLinesAt_holds : Rows.FnExactLinesAtSaid :=
  OpenClaim.holds_of_wide 13 Try.f13 rfl rfl rfl rfl rfl rfl rfl ⟨rfl, rfl, rfl, rfl, rfl⟩ rfl rfl rfl rfl rfl (by kernel_rfl) Try.func13 (by kernel_rfl)
    (of_decide_eq_true (by kernel_rfl)) (by unfold Func.isWrapper; first | (rw [if_pos (by decide +kernel)]; kernel_rfl) | (rw [if_neg (by decide +kernel)]; exact ⟨rfl, rfl⟩))
    (fun os started H enc _ => lifted13 os started H enc)

end Go.Proofs.Ytlkphfpkohabeaa
