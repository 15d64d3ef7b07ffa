/- The law FnExactCriterionOf holds: whatever the input, it says true, and the input reads as it did. No condition. -/
import Derived.Test.YtdnfgoolapikmaaD7
import Derived.Test.YtdnfgoolapikmaaRows
import Derived.ProofKit
namespace Go.Sm.Ytdnfgoolapikmaa
open Go Go.Sm Go.RowKit Go.ChangeShapes Go.WideShapes Go.ChangeAt Go.Proofs Go.Proofs.Ytdnfgoolapikmaa

theorem e10 (r : Nat) (n : Int) (d : Int) : runFn T7 none0 noL Try.f10 [.el (.sc (.fl .f32 r)), .el (.sc (.int .i64 n)), .el (.sc (.int .i64 d))] = (match (!(sameF (wid (orZero (critOk r n d) (critX r n d))) (wid (orZero (critOk r n d) (critX r n d)))) : Bool) with
  | true => some ⟨[.el (.sc (.bo false))], none⟩
  | false => (match (!((critOk r n d) == (critOk r n d)) : Bool) with
    | true => some ⟨[.el (.sc (.bo false))], none⟩
    | false => some ⟨[.el (.sc (.bo true))], none⟩)) := by kernel_rfl
theorem s10 (r : Nat) (n : Int) (d : Int) (h_r : cn .f32 r = r ∧ r < 2 ^ 32) (h_n : -9223372036854775808 ≤ n ∧ n ≤ 9223372036854775807) (h_d : -9223372036854775808 ≤ d ∧ d ≤ 9223372036854775807) : runFn T7 none0 noL Try.f10 [.el (.sc (.fl .f32 r)), .el (.sc (.int .i64 n)), .el (.sc (.int .i64 d))] = some ⟨[.el (.sc (.bo true))], none⟩ := by
  rw [e10]
  simp [sameF_refl]

theorem core10 (xs : List FV) (h : AKs (AK.fits Try.prog) [.sc (.float .f32), .sc (.int .i64), .sc (.int .i64)] Try.f10.params.toList xs) : COK Try.prog 10 xs [.el (.sc (.bo true))] := by
  have hp : Try.f10.params.toList = [37, 2, 2] := by kernel_rfl
  rw [hp] at h
  obtain ⟨x0, x1, x2, rfl, hx0, hx1, hx2⟩ := aks3 h
  obtain ⟨s0, rfl, h0⟩ := hx0
  obtain ⟨r, rfl, h_r⟩ := fits_f32 h0
  obtain ⟨s1, rfl, h1⟩ := hx1
  obtain ⟨n, rfl, h_n⟩ := fits_i64 h1
  obtain ⟨s2, rfl, h2⟩ := hx2
  obtain ⟨d, rfl, h_d⟩ := fits_i64 h2
  show COK Try.prog 10 [.el (.sc (.fl .f32 r)), .el (.sc (.int .i64 n)), .el (.sc (.int .i64 d))] [.el (.sc (.bo true))]
  exact fn_ok tok7 (A := none0) (L := noL) (r := none) Try.func10 (by kernel_rfl) (by kernel_rfl) (loops0 (by kernel_rfl)) (s10 r n d h_r h_n h_d)

end Go.Sm.Ytdnfgoolapikmaa
namespace Go.Proofs.Ytdnfgoolapikmaa
open Go.Sm Go.Sm.Ytdnfgoolapikmaa Go.ChangeShapes Go.WideShapes Go.ChangeAt Go.RowKit

set_option maxRecDepth 100000 in
theorem lifted10 (os : Os) (started : os.Started) (H : Type) (enc : TypeId × Value → H) :
    ReturnsInHanded {} Try.checked os 10 .any (Rows.fnExactCriterionOfSpec.pre6 enc Try.prog Try.f10 Rows.fnExactCriterionOfRow.domain false) (Rows.fnExactCriterionOfSpec.post enc Try.prog Try.f10 false true false false) :=
  law_lifted (C := Try.checked) (aks := [.sc (.float .f32), .sc (.int .i64), .sc (.int .i64)]) (tb := 4) (by kernel_rfl) started (by kernel_rfl) Try.func10 (by kernel_rfl)
    (ChangeSpec.witness6 (enc := enc) (C := Try.checked) false ⟨#[], #[.float .f32 0, .int .i64 0, .int .i64 0], []⟩ 8 (by kernel_rfl) (by kernel_rfl) (by kernel_rfl) (by kernel_rfl))
    (fun t ht => by
      have hb : Try.f10.params.toList.all (fun t => Try.prog.readableRec t && decide (t < Try.prog.types.size)) = true := by kernel_rfl
      have := List.all_eq_true.1 hb t ht
      rw [Bool.and_eq_true] at this
      exact ⟨this.1, of_decide_eq_true this.2⟩)
    (by kernel_rfl) (by kernel_rfl) rfl
    (fun ds hd => by
      have hp : Try.f10.params.size = 3 := by kernel_rfl
      rw [hp] at hd
      match ds, hd with
      | [d0, d1, d2], _ => rfl)
    (rowsB_ok (by kernel_rfl)) core10

/-- **THE LAW.** -/
theorem FnExactCriterionOf_holds : Rows.FnExactCriterionOfSaid :=
  OpenClaim.holds_of_wide 10 Try.f10 rfl rfl rfl rfl rfl rfl rfl ⟨rfl, rfl, rfl, rfl, rfl⟩ rfl rfl rfl rfl rfl (by kernel_rfl) Try.func10 (by kernel_rfl)
    (of_decide_eq_true (by kernel_rfl)) (by unfold Func.isWrapper; first | (rw [if_pos (by decide +kernel)]; kernel_rfl) | (rw [if_neg (by decide +kernel)]; exact ⟨rfl, rfl⟩))
    (fun os started H enc _ => lifted10 os started H enc)

end Go.Proofs.Ytdnfgoolapikmaa
