/- The law FnExactGrowthWidth holds: whatever the input, it says true, and the input reads as it did. No condition. -/
import Derived.Test.YtdnfgoolapikmaaD6
import Derived.Test.YtdnfgoolapikmaaRows
import Derived.ProofKit
namespace Go.Sm.Ytdnfgoolapikmaa
open Go Go.Sm Go.RowKit Go.ChangeShapes Go.WideShapes Go.ChangeAt Go.Proofs Go.Proofs.Ytdnfgoolapikmaa

theorem e8 (d : Nat) (w : Nat) (n : Int) : runFn T6 none0 noL Try.f8 [.el (.sc (.fl .f32 d)), .el (.sc (.fl .f32 w)), .el (.sc (.int .i64 n))] = (match (!(sameF (wid (orZero (growOk d w n) (growSum d w n))) (wid (orZero (growOk d w n) (growSum d w n)))) : Bool) with
  | true => some ⟨[.el (.sc (.bo false))], none⟩
  | false => (match (!((growOk d w n) == (growOk d w n)) : Bool) with
    | true => some ⟨[.el (.sc (.bo false))], none⟩
    | false => some ⟨[.el (.sc (.bo true))], none⟩)) := by kernel_rfl
theorem s8 (d : Nat) (w : Nat) (n : Int) (h_d : cn .f32 d = d ∧ d < 2 ^ 32) (h_w : cn .f32 w = w ∧ w < 2 ^ 32) (h_n : -9223372036854775808 ≤ n ∧ n ≤ 9223372036854775807) : runFn T6 none0 noL Try.f8 [.el (.sc (.fl .f32 d)), .el (.sc (.fl .f32 w)), .el (.sc (.int .i64 n))] = some ⟨[.el (.sc (.bo true))], none⟩ := by
  rw [e8]
  simp [sameF_refl]

theorem core8 (xs : List FV) (h : AKs (AK.fits Try.prog) [.sc (.float .f32), .sc (.float .f32), .sc (.int .i64)] Try.f8.params.toList xs) : COK Try.prog 8 xs [.el (.sc (.bo true))] := by
  have hp : Try.f8.params.toList = [37, 37, 2] := by kernel_rfl
  rw [hp] at h
  obtain ⟨x0, x1, x2, rfl, hx0, hx1, hx2⟩ := aks3 h
  obtain ⟨s0, rfl, h0⟩ := hx0
  obtain ⟨d, rfl, h_d⟩ := fits_f32 h0
  obtain ⟨s1, rfl, h1⟩ := hx1
  obtain ⟨w, rfl, h_w⟩ := fits_f32 h1
  obtain ⟨s2, rfl, h2⟩ := hx2
  obtain ⟨n, rfl, h_n⟩ := fits_i64 h2
  show COK Try.prog 8 [.el (.sc (.fl .f32 d)), .el (.sc (.fl .f32 w)), .el (.sc (.int .i64 n))] [.el (.sc (.bo true))]
  exact fn_ok tok6 (A := none0) (L := noL) (r := none) Try.func8 (by kernel_rfl) (by kernel_rfl) (loops0 (by kernel_rfl)) (s8 d w n h_d h_w h_n)

end Go.Sm.Ytdnfgoolapikmaa
namespace Go.Proofs.Ytdnfgoolapikmaa
open Go.Sm Go.Sm.Ytdnfgoolapikmaa Go.ChangeShapes Go.WideShapes Go.ChangeAt Go.RowKit

set_option maxRecDepth 100000 in
theorem lifted8 (os : Os) (started : os.Started) (H : Type) (enc : TypeId × Value → H) :
    ReturnsInHanded {} Try.checked os 8 .any (Rows.fnExactGrowthWidthSpec.pre6 enc Try.prog Try.f8 Rows.fnExactGrowthWidthRow.domain false) (Rows.fnExactGrowthWidthSpec.post enc Try.prog Try.f8 false true false false) :=
  law_lifted (C := Try.checked) (aks := [.sc (.float .f32), .sc (.float .f32), .sc (.int .i64)]) (tb := 4) (by kernel_rfl) started (by kernel_rfl) Try.func8 (by kernel_rfl)
    (ChangeSpec.witness6 (enc := enc) (C := Try.checked) false ⟨#[], #[.float .f32 0, .float .f32 0, .int .i64 0], []⟩ 8 (by kernel_rfl) (by kernel_rfl) (by kernel_rfl) (by kernel_rfl))
    (fun t ht => by
      have hb : Try.f8.params.toList.all (fun t => Try.prog.readableRec t && decide (t < Try.prog.types.size)) = true := by kernel_rfl
      have := List.all_eq_true.1 hb t ht
      rw [Bool.and_eq_true] at this
      exact ⟨this.1, of_decide_eq_true this.2⟩)
    (by kernel_rfl) (by kernel_rfl) rfl
    (fun ds hd => by
      have hp : Try.f8.params.size = 3 := by kernel_rfl
      rw [hp] at hd
      match ds, hd with
      | [d0, d1, d2], _ => rfl)
    (rowsB_ok (by kernel_rfl)) core8

/-- **THE LAW.** -/
theorem FnExactGrowthWidth_holds : Rows.FnExactGrowthWidthSaid :=
  OpenClaim.holds_of_wide 8 Try.f8 rfl rfl rfl rfl rfl rfl rfl ⟨rfl, rfl, rfl, rfl, rfl⟩ rfl rfl rfl rfl rfl (by kernel_rfl) Try.func8 (by kernel_rfl)
    (of_decide_eq_true (by kernel_rfl)) (by unfold Func.isWrapper; first | (rw [if_pos (by decide +kernel)]; kernel_rfl) | (rw [if_neg (by decide +kernel)]; exact ⟨rfl, rfl⟩))
    (fun os started H enc _ => lifted8 os started H enc)

end Go.Proofs.Ytdnfgoolapikmaa
