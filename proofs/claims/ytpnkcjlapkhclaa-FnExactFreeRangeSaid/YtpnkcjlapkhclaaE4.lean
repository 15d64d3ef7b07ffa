/- The law FnExactFreeRange holds: whatever the input, it says true, and the input reads as it did. No condition. -/
import Derived.Test.YtpnkcjlapkhclaaD7
import Derived.Test.YtpnkcjlapkhclaaRows
import Derived.ProofKit
namespace Go.Sm.Ytpnkcjlapkhclaa
open Go Go.Sm Go.RowKit Go.ChangeShapes Go.WideShapes Go.ChangeAt Go.Proofs Go.Proofs.Ytpnkcjlapkhclaa

theorem e4 (w : Nat) (n : Int) : runFn T7 none0 noL Try.f4 [.el (.sc (.fl .f32 w)), .el (.sc (.int .i64 n))] = (match (!(sameF (wid (orZero ((above w && within n 1 100) && fin (fop .quo .f32 w (fint .f32 n))) (fop .quo .f32 w (fint .f32 n)))) (wid (orZero (above w && within n 1 100) (fop .quo .f32 w (fint .f32 n))))) : Bool) with
  | true => some ⟨[.el (.sc (.bo false))], none⟩
  | false => (match (!(((above w && within n 1 100) && fin (fop .quo .f32 w (fint .f32 n))) == (above w && within n 1 100)) : Bool) with
    | true => some ⟨[.el (.sc (.bo false))], none⟩
    | false => some ⟨[.el (.sc (.bo true))], none⟩)) := by kernel_rfl
theorem s4 (w : Nat) (n : Int) (h_w : cn .f32 w = w ∧ w < 2 ^ 32) (h_n : -9223372036854775808 ≤ n ∧ n ≤ 9223372036854775807) : runFn T7 none0 noL Try.f4 [.el (.sc (.fl .f32 w)), .el (.sc (.int .i64 n))] = some ⟨[.el (.sc (.bo true))], none⟩ := by
  rw [e4]
  have hb : ((above w && within n 1 100) && fin (fop .quo .f32 w (fint .f32 n))) = (above w && within n 1 100) := by
    cases h1 : above w with
    | false => rfl
    | true =>
      cases h2 : within n 1 100 with
      | false => rfl
      | true => rw [fin_div h1 h2]; rfl
  rw [hb]
  simp [sameF_refl]

theorem core4 (xs : List FV) (h : AKs (AK.fits Try.prog) [.sc (.float .f32), .sc (.int .i64)] Try.f4.params.toList xs) : COK Try.prog 4 xs [.el (.sc (.bo true))] := by
  have hp : Try.f4.params.toList = [22, 2] := by kernel_rfl
  rw [hp] at h
  obtain ⟨x0, x1, rfl, hx0, hx1⟩ := aks2 h
  obtain ⟨s0, rfl, h0⟩ := hx0
  obtain ⟨w, rfl, h_w⟩ := fits_f32 h0
  obtain ⟨s1, rfl, h1⟩ := hx1
  obtain ⟨n, rfl, h_n⟩ := fits_i64 h1
  show COK Try.prog 4 [.el (.sc (.fl .f32 w)), .el (.sc (.int .i64 n))] [.el (.sc (.bo true))]
  exact fn_ok tok7 (A := none0) (L := noL) (r := none) Try.func4 (by kernel_rfl) (by kernel_rfl) (loops0 (by kernel_rfl)) (s4 w n h_w h_n)

end Go.Sm.Ytpnkcjlapkhclaa
namespace Go.Proofs.Ytpnkcjlapkhclaa
open Go.Sm Go.Sm.Ytpnkcjlapkhclaa Go.ChangeShapes Go.WideShapes Go.ChangeAt Go.RowKit

set_option maxRecDepth 100000 in
theorem lifted4 (os : Os) (started : os.Started) (H : Type) (enc : TypeId × Value → H) :
    ReturnsInHanded {} Try.checked os 4 .any (Rows.fnExactFreeRangeSpec.pre6 enc Try.prog Try.f4 Rows.fnExactFreeRangeRow.domain false) (Rows.fnExactFreeRangeSpec.post enc Try.prog Try.f4 false true false false) :=
  law_lifted (C := Try.checked) (aks := [.sc (.float .f32), .sc (.int .i64)]) (tb := 4) (by kernel_rfl) started (by kernel_rfl) Try.func4 (by kernel_rfl)
    (ChangeSpec.witness6 (enc := enc) (C := Try.checked) false ⟨#[], #[.float .f32 0, .int .i64 0], []⟩ 8 (by kernel_rfl) (by kernel_rfl) (by kernel_rfl) (by kernel_rfl))
    (fun t ht => by
      have hb : Try.f4.params.toList.all (fun t => Try.prog.readableRec t && decide (t < Try.prog.types.size)) = true := by kernel_rfl
      have := List.all_eq_true.1 hb t ht
      rw [Bool.and_eq_true] at this
      exact ⟨this.1, of_decide_eq_true this.2⟩)
    (by kernel_rfl) (by kernel_rfl) rfl
    (fun ds hd => by
      have hp : Try.f4.params.size = 2 := by kernel_rfl
      rw [hp] at hd
      match ds, hd with
      | [d0, d1], _ => rfl)
    (rowsB_ok (by kernel_rfl)) core4

/-- **THE LAW.** -/
theorem FnExactFreeRange_holds : Rows.FnExactFreeRangeSaid :=
  OpenClaim.holds_of_wide 4 Try.f4 rfl rfl rfl rfl rfl rfl rfl ⟨rfl, rfl, rfl, rfl, rfl⟩ rfl rfl rfl rfl rfl (by kernel_rfl) Try.func4 (by kernel_rfl)
    (of_decide_eq_true (by kernel_rfl)) (by unfold Func.isWrapper; first | (rw [if_pos (by decide +kernel)]; kernel_rfl) | (rw [if_neg (by decide +kernel)]; exact ⟨rfl, rfl⟩))
    (fun os started H enc _ => lifted4 os started H enc)

end Go.Proofs.Ytpnkcjlapkhclaa
