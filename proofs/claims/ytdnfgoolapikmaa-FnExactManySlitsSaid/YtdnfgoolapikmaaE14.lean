/- The law FnExactManySlits holds: whatever the input, it says true, and the input reads as it did. No condition. -/
import Derived.Test.YtdnfgoolapikmaaD6
import Derived.Test.YtdnfgoolapikmaaRows
import Derived.ProofKit
namespace Go.Sm.Ytdnfgoolapikmaa
open Go Go.Sm Go.RowKit Go.ChangeShapes Go.WideShapes Go.ChangeAt Go.Proofs Go.Proofs.Ytdnfgoolapikmaa

theorem e14 (t : Nat) (n : Int) : runFn T6 none0 noL Try.f14 [.el (.sc (.fl .f32 t)), .el (.sc (.int .i64 n))] = (match (!(sameF (wid (orZero (slitOk t n) (slitX t n))) (wid (orZero (slitOk t n) (slitX t n)))) : Bool) with
  | true => some ⟨[.el (.sc (.bo false))], none⟩
  | false => (match (!((slitOk t n) == (slitOk t n)) : Bool) with
    | true => some ⟨[.el (.sc (.bo false))], none⟩
    | false => some ⟨[.el (.sc (.bo true))], none⟩)) := by kernel_rfl
theorem s14 (t : Nat) (n : Int) (h_t : cn .f32 t = t ∧ t < 2 ^ 32) (h_n : -9223372036854775808 ≤ n ∧ n ≤ 9223372036854775807) : runFn T6 none0 noL Try.f14 [.el (.sc (.fl .f32 t)), .el (.sc (.int .i64 n))] = some ⟨[.el (.sc (.bo true))], none⟩ := by
  rw [e14]
  simp [sameF_refl]

theorem core14 (xs : List FV) (h : AKs (AK.fits Try.prog) [.sc (.float .f32), .sc (.int .i64)] Try.f14.params.toList xs) : COK Try.prog 14 xs [.el (.sc (.bo true))] := by
  have hp : Try.f14.params.toList = [37, 2] := by kernel_rfl
  rw [hp] at h
  obtain ⟨x0, x1, rfl, hx0, hx1⟩ := aks2 h
  obtain ⟨s0, rfl, h0⟩ := hx0
  obtain ⟨t, rfl, h_t⟩ := fits_f32 h0
  obtain ⟨s1, rfl, h1⟩ := hx1
  obtain ⟨n, rfl, h_n⟩ := fits_i64 h1
  show COK Try.prog 14 [.el (.sc (.fl .f32 t)), .el (.sc (.int .i64 n))] [.el (.sc (.bo true))]
  exact fn_ok tok6 (A := none0) (L := noL) (r := none) Try.func14 (by kernel_rfl) (by kernel_rfl) (loops0 (by kernel_rfl)) (s14 t n h_t h_n)

end Go.Sm.Ytdnfgoolapikmaa
namespace Go.Proofs.Ytdnfgoolapikmaa
open Go.Sm Go.Sm.Ytdnfgoolapikmaa Go.ChangeShapes Go.WideShapes Go.ChangeAt Go.RowKit

set_option maxRecDepth 100000 in
theorem lifted14 (os : Os) (started : os.Started) (H : Type) (enc : TypeId × Value → H) :
    ReturnsInHanded {} Try.checked os 14 .any (Rows.fnExactManySlitsSpec.pre6 enc Try.prog Try.f14 Rows.fnExactManySlitsRow.domain false) (Rows.fnExactManySlitsSpec.post enc Try.prog Try.f14 false true false false) :=
  law_lifted (C := Try.checked) (aks := [.sc (.float .f32), .sc (.int .i64)]) (tb := 4) (by kernel_rfl) started (by kernel_rfl) Try.func14 (by kernel_rfl)
    (ChangeSpec.witness6 (enc := enc) (C := Try.checked) false ⟨#[], #[.float .f32 0, .int .i64 0], []⟩ 8 (by kernel_rfl) (by kernel_rfl) (by kernel_rfl) (by kernel_rfl))
    (fun t ht => by
      have hb : Try.f14.params.toList.all (fun t => Try.prog.readableRec t && decide (t < Try.prog.types.size)) = true := by kernel_rfl
      have := List.all_eq_true.1 hb t ht
      rw [Bool.and_eq_true] at this
      exact ⟨this.1, of_decide_eq_true this.2⟩)
    (by kernel_rfl) (by kernel_rfl) rfl
    (fun ds hd => by
      have hp : Try.f14.params.size = 2 := by kernel_rfl
      rw [hp] at hd
      match ds, hd with
      | [d0, d1], _ => rfl)
    (rowsB_ok (by kernel_rfl)) core14

/-- **THE LAW.** -/
theorem FnExactManySlits_holds : Rows.FnExactManySlitsSaid :=
  OpenClaim.holds_of_wide 14 Try.f14 rfl rfl rfl rfl rfl rfl rfl ⟨rfl, rfl, rfl, rfl, rfl⟩ rfl rfl rfl rfl rfl (by kernel_rfl) Try.func14 (by kernel_rfl)
    (of_decide_eq_true (by kernel_rfl)) (by unfold Func.isWrapper; first | (rw [if_pos (by decide +kernel)]; kernel_rfl) | (rw [if_neg (by decide +kernel)]; exact ⟨rfl, rfl⟩))
    (fun os started H enc _ => lifted14 os started H enc)

end Go.Proofs.Ytdnfgoolapikmaa
