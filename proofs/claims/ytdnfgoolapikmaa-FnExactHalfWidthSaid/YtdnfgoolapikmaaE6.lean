/- The law FnExactHalfWidth holds: whatever the input, it says true, and the input reads as it did. No condition. -/
import Derived.Test.YtdnfgoolapikmaaD8
import Derived.Test.YtdnfgoolapikmaaRows
import Derived.ProofKit
namespace Go.Sm.Ytdnfgoolapikmaa
open Go Go.Sm Go.RowKit Go.ChangeShapes Go.WideShapes Go.ChangeAt Go.Proofs Go.Proofs.Ytdnfgoolapikmaa

theorem e6 (xs : List Nat) (i : Int) : runFn T8 none0 noL Try.f6 [.vw none ⟨.f32, xs⟩, .el (.sc (.int .i64 i))] = (match (decide (((xs.length : Int) : Int) > 1048576) : Bool) with
  | true => some ⟨[.el (.sc (.bo true))], none⟩
  | false => (match (Nat.ble xs.length big : Bool) with
    | true => (match (Nat.ble xs.length big : Bool) with
      | true => (match (Nat.ble xs.length big : Bool) with
        | true => (match (!(sameF (wid (orZero (halfOk xs i) (halfX xs i))) (wid (orZero (halfOk xs i) (halfX xs i)))) : Bool) with
          | true => some ⟨[.el (.sc (.bo false))], none⟩
          | false => (match (!((halfOk xs i) == (halfOk xs i)) : Bool) with
            | true => some ⟨[.el (.sc (.bo false))], none⟩
            | false => (match (Nat.ble xs.length big : Bool) with
              | true => (match (Nat.beq xs.length xs.length : Bool) with
                | true => (match (Nat.ble xs.length big : Bool) with
                  | true => (match (!(all2 sameW xs xs) : Bool) with
                    | true => some ⟨[.el (.sc (.bo false))], none⟩
                    | false => some ⟨[.el (.sc (.bo true))], none⟩)
                  | false => none)
                | false => some ⟨[.el (.sc (.bo false))], none⟩)
              | false => none)))
        | false => none)
      | false => none)
    | false => none)) := by kernel_rfl
theorem s6 (xs : List Nat) (i : Int) (h_xs : ∀ a ∈ xs, K.wf .f32 a) (g_xs : xs.length ≤ 140737488351232) (h_i : -9223372036854775808 ≤ i ∧ i ≤ 9223372036854775807) : runFn T8 none0 noL Try.f6 [.vw none ⟨.f32, xs⟩, .el (.sc (.int .i64 i))] = some ⟨[.el (.sc (.bo true))], none⟩ := by
  rw [e6]
  by_cases hs : xs.length ≤ 1048576
  · have hb : Nat.ble xs.length big = true := Nat.ble_eq_true_of_le (by unfold big; omega)
    have h1 : ¬ ((xs.length : Int) > 1048576) := by omega
    simp [hb, h1, sameF_refl, all2_refl sameW_refl]
  · have h1 : ((xs.length : Int) > 1048576) := by omega
    simp [h1]

theorem core6 (xs : List FV) (h : AKs (AK.fits Try.prog) [.sl .f32, .sc (.int .i64)] Try.f6.params.toList xs) : COK Try.prog 6 xs [.el (.sc (.bo true))] := by
  have hp : Try.f6.params.toList = [22, 2] := by kernel_rfl
  rw [hp] at h
  obtain ⟨x0, x1, rfl, hx0, hx1⟩ := aks2 h
  obtain ⟨xs, rfl, h_xs, i0⟩ := hx0
  have g_xs : xs.length ≤ 140737488351232 := Nat.le_trans (Nat.le_mul_of_pos_right _ (show 0 < Try.prog.bytesOf 37 by exact of_decide_eq_true (by kernel_rfl))) (i0 37 (by kernel_rfl))
  obtain ⟨s1, rfl, h1⟩ := hx1
  obtain ⟨i, rfl, h_i⟩ := fits_i64 h1
  show COK Try.prog 6 [.vw none ⟨.f32, xs⟩, .el (.sc (.int .i64 i))] [.el (.sc (.bo true))]
  exact fn_ok tok8 (A := none0) (L := noL) (r := none) Try.func6 (by kernel_rfl) (by kernel_rfl) (loops0 (by kernel_rfl)) (s6 xs i h_xs g_xs h_i)

end Go.Sm.Ytdnfgoolapikmaa
namespace Go.Proofs.Ytdnfgoolapikmaa
open Go.Sm Go.Sm.Ytdnfgoolapikmaa Go.ChangeShapes Go.WideShapes Go.ChangeAt Go.RowKit

set_option maxRecDepth 100000 in
theorem lifted6 (os : Os) (started : os.Started) (H : Type) (enc : TypeId × Value → H) :
    ReturnsInHanded {} Try.checked os 6 .any (Rows.fnExactHalfWidthSpec.pre6 enc Try.prog Try.f6 Rows.fnExactHalfWidthRow.domain false) (Rows.fnExactHalfWidthSpec.post enc Try.prog Try.f6 false true false false) :=
  law_lifted (C := Try.checked) (aks := [.sl .f32, .sc (.int .i64)]) (tb := 4) (by kernel_rfl) started (by kernel_rfl) Try.func6 (by kernel_rfl)
    (ChangeSpec.witness6 (enc := enc) (C := Try.checked) false ⟨#[], #[.slice none 0 0, .int .i64 0], []⟩ 8 (by kernel_rfl) (by kernel_rfl) (by kernel_rfl) (by kernel_rfl))
    (fun t ht => by
      have hb : Try.f6.params.toList.all (fun t => Try.prog.readableRec t && decide (t < Try.prog.types.size)) = true := by kernel_rfl
      have := List.all_eq_true.1 hb t ht
      rw [Bool.and_eq_true] at this
      exact ⟨this.1, of_decide_eq_true this.2⟩)
    (by kernel_rfl) (by kernel_rfl) rfl
    (fun ds hd => by
      have hp : Try.f6.params.size = 2 := by kernel_rfl
      rw [hp] at hd
      match ds, hd with
      | [d0, d1], _ => rfl)
    (rowsB_ok (by kernel_rfl)) core6

/-- **THE LAW.** -/
theorem FnExactHalfWidth_holds : Rows.FnExactHalfWidthSaid :=
  OpenClaim.holds_of_wide 6 Try.f6 rfl rfl rfl rfl rfl rfl rfl ⟨rfl, rfl, rfl, rfl, rfl⟩ rfl rfl rfl rfl rfl (by kernel_rfl) Try.func6 (by kernel_rfl)
    (of_decide_eq_true (by kernel_rfl)) (by unfold Func.isWrapper; first | (rw [if_pos (by decide +kernel)]; kernel_rfl) | (rw [if_neg (by decide +kernel)]; exact ⟨rfl, rfl⟩))
    (fun os started H enc _ => lifted6 os started H enc)

end Go.Proofs.Ytdnfgoolapikmaa
