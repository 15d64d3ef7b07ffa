/- The law FnExactGratingOut holds: whatever the input, it says true, and the input reads as it did. No condition. -/
import Derived.Test.YtpnkcjlapkhclaaD7
import Derived.Test.YtpnkcjlapkhclaaRows
import Derived.ProofKit
namespace Go.Sm.Ytpnkcjlapkhclaa
open Go Go.Sm Go.RowKit Go.ChangeShapes Go.WideShapes Go.ChangeAt Go.Proofs Go.Proofs.Ytpnkcjlapkhclaa

theorem e5 (a : Nat) (b : Nat) (c : Nat) (n : Int) : runFn T7 none0 noL Try.f5 [.el (.sc (.fl .f32 a)), .el (.sc (.fl .f32 b)), .el (.sc (.fl .f32 c)), .el (.sc (.int .i64 n))] = (match (!(sameF (wid (orZero (((above a && above b) && (fin c && within n (-100) 100)) && unit (gout a b c n)) (gout a b c n))) (wid (orZero (((above a && above b) && (fin c && within n (-100) 100)) && unit (gout a b c n)) (gout a b c n)))) : Bool) with
  | true => some ⟨[.el (.sc (.bo false))], none⟩
  | false => (match (!((((above a && above b) && (fin c && within n (-100) 100)) && unit (gout a b c n)) == (((above a && above b) && (fin c && within n (-100) 100)) && unit (gout a b c n))) : Bool) with
    | true => some ⟨[.el (.sc (.bo false))], none⟩
    | false => some ⟨[.el (.sc (.bo true))], none⟩)) := by kernel_rfl
theorem s5 (a : Nat) (b : Nat) (c : Nat) (n : Int) (h_a : cn .f32 a = a ∧ a < 2 ^ 32) (h_b : cn .f32 b = b ∧ b < 2 ^ 32) (h_c : cn .f32 c = c ∧ c < 2 ^ 32) (h_n : -9223372036854775808 ≤ n ∧ n ≤ 9223372036854775807) : runFn T7 none0 noL Try.f5 [.el (.sc (.fl .f32 a)), .el (.sc (.fl .f32 b)), .el (.sc (.fl .f32 c)), .el (.sc (.int .i64 n))] = some ⟨[.el (.sc (.bo true))], none⟩ := by
  rw [e5]
  simp [sameF_refl]

theorem core5 (xs : List FV) (h : AKs (AK.fits Try.prog) [.sc (.float .f32), .sc (.float .f32), .sc (.float .f32), .sc (.int .i64)] Try.f5.params.toList xs) : COK Try.prog 5 xs [.el (.sc (.bo true))] := by
  have hp : Try.f5.params.toList = [22, 22, 22, 2] := by kernel_rfl
  rw [hp] at h
  obtain ⟨x0, x1, x2, x3, rfl, hx0, hx1, hx2, hx3⟩ := aks4 h
  obtain ⟨s0, rfl, h0⟩ := hx0
  obtain ⟨a, rfl, h_a⟩ := fits_f32 h0
  obtain ⟨s1, rfl, h1⟩ := hx1
  obtain ⟨b, rfl, h_b⟩ := fits_f32 h1
  obtain ⟨s2, rfl, h2⟩ := hx2
  obtain ⟨c, rfl, h_c⟩ := fits_f32 h2
  obtain ⟨s3, rfl, h3⟩ := hx3
  obtain ⟨n, rfl, h_n⟩ := fits_i64 h3
  show COK Try.prog 5 [.el (.sc (.fl .f32 a)), .el (.sc (.fl .f32 b)), .el (.sc (.fl .f32 c)), .el (.sc (.int .i64 n))] [.el (.sc (.bo true))]
  exact fn_ok tok7 (A := none0) (L := noL) (r := none) Try.func5 (by kernel_rfl) (by kernel_rfl) (loops0 (by kernel_rfl)) (s5 a b c n h_a h_b h_c h_n)

end Go.Sm.Ytpnkcjlapkhclaa
namespace Go.Proofs.Ytpnkcjlapkhclaa
open Go.Sm Go.Sm.Ytpnkcjlapkhclaa Go.ChangeShapes Go.WideShapes Go.ChangeAt Go.RowKit

set_option maxRecDepth 100000 in
theorem lifted5 (os : Os) (started : os.Started) (H : Type) (enc : TypeId × Value → H) :
    ReturnsInHanded {} Try.checked os 5 .any (Rows.fnExactGratingOutSpec.pre6 enc Try.prog Try.f5 Rows.fnExactGratingOutRow.domain false) (Rows.fnExactGratingOutSpec.post enc Try.prog Try.f5 false true false false) :=
  law_lifted (C := Try.checked) (aks := [.sc (.float .f32), .sc (.float .f32), .sc (.float .f32), .sc (.int .i64)]) (tb := 4) (by kernel_rfl) started (by kernel_rfl) Try.func5 (by kernel_rfl)
    (ChangeSpec.witness6 (enc := enc) (C := Try.checked) false ⟨#[], #[.float .f32 0, .float .f32 0, .float .f32 0, .int .i64 0], []⟩ 8 (by kernel_rfl) (by kernel_rfl) (by kernel_rfl) (by kernel_rfl))
    (fun t ht => by
      have hb : Try.f5.params.toList.all (fun t => Try.prog.readableRec t && decide (t < Try.prog.types.size)) = true := by kernel_rfl
      have := List.all_eq_true.1 hb t ht
      rw [Bool.and_eq_true] at this
      exact ⟨this.1, of_decide_eq_true this.2⟩)
    (by kernel_rfl) (by kernel_rfl) rfl
    (fun ds hd => by
      have hp : Try.f5.params.size = 4 := by kernel_rfl
      rw [hp] at hd
      match ds, hd with
      | [d0, d1, d2, d3], _ => rfl)
    (rowsB_ok (by kernel_rfl)) core5

/-- **THE LAW.** -/
theorem FnExactGratingOut_holds : Rows.FnExactGratingOutSaid :=
  OpenClaim.holds_of_wide 5 Try.f5 rfl rfl rfl rfl rfl rfl rfl ⟨rfl, rfl, rfl, rfl, rfl⟩ rfl rfl rfl rfl rfl (by kernel_rfl) Try.func5 (by kernel_rfl)
    (of_decide_eq_true (by kernel_rfl)) (by unfold Func.isWrapper; first | (rw [if_pos (by decide +kernel)]; kernel_rfl) | (rw [if_neg (by decide +kernel)]; exact ⟨rfl, rfl⟩))
    (fun os started H enc _ => lifted5 os started H enc)

end Go.Proofs.Ytpnkcjlapkhclaa
