/- The law FnExactBlendLines holds: whatever the input, it says true, and the input reads as it did. No condition. -/
import Derived.Test.YtpnkcjlapkhclaaD7
import Derived.Test.YtpnkcjlapkhclaaRows
import Derived.ProofKit
namespace Go.Sm.Ytpnkcjlapkhclaa
open Go Go.Sm Go.RowKit Go.ChangeShapes Go.WideShapes Go.ChangeAt Go.Proofs Go.Proofs.Ytpnkcjlapkhclaa

theorem e13 (ap : Nat) (ah : Nat) (aw : Nat) (ak : Int) (bp : Nat) (bh : Nat) (bw : Nat) (bk : Int) : runFn T7 none0 noL Try.f13 [.el (.ag [(.fl .f32 ap), (.fl .f32 ah), (.fl .f32 aw), (.int .i64 ak)]), .el (.ag [(.fl .f32 bp), (.fl .f32 bh), (.fl .f32 bw), (.int .i64 bk)])] = (match (!(eqLineF ((orLine (blendOk (((⟨ap, ah, aw, ak⟩ : LineV))) (((⟨bp, bh, bw, bk⟩ : LineV)))) (blendX (((⟨ap, ah, aw, ak⟩ : LineV))) (((⟨bp, bh, bw, bk⟩ : LineV)))))) ((orLine (blendOk (((⟨ap, ah, aw, ak⟩ : LineV))) (((⟨bp, bh, bw, bk⟩ : LineV)))) (blendX (((⟨ap, ah, aw, ak⟩ : LineV))) (((⟨bp, bh, bw, bk⟩ : LineV))))))) : Bool) with
  | true => some ⟨[.el (.sc (.bo false))], none⟩
  | false => (match (!((blendOk (((⟨ap, ah, aw, ak⟩ : LineV))) (((⟨bp, bh, bw, bk⟩ : LineV)))) == (blendOk (((⟨ap, ah, aw, ak⟩ : LineV))) (((⟨bp, bh, bw, bk⟩ : LineV))))) : Bool) with
    | true => some ⟨[.el (.sc (.bo false))], none⟩
    | false => some ⟨[.el (.sc (.bo true))], none⟩)) := by kernel_rfl
theorem s13 (ap : Nat) (ah : Nat) (aw : Nat) (ak : Int) (bp : Nat) (bh : Nat) (bw : Nat) (bk : Int) (h_a : K.wf .line (⟨ap, ah, aw, ak⟩ : LineV)) (h_b : K.wf .line (⟨bp, bh, bw, bk⟩ : LineV)) : runFn T7 none0 noL Try.f13 [.el (.ag [(.fl .f32 ap), (.fl .f32 ah), (.fl .f32 aw), (.int .i64 ak)]), .el (.ag [(.fl .f32 bp), (.fl .f32 bh), (.fl .f32 bw), (.int .i64 bk)])] = some ⟨[.el (.sc (.bo true))], none⟩ := by
  rw [e13]
  simp [eqLineF_refl]

theorem core13 (xs : List FV) (h : AKs (AK.fits Try.prog) [.ag .line, .ag .line] Try.f13.params.toList xs) : COK Try.prog 13 xs [.el (.sc (.bo true))] := by
  have hp : Try.f13.params.toList = [24, 24] := by kernel_rfl
  rw [hp] at h
  obtain ⟨x0, x1, rfl, hx0, hx1⟩ := aks2 h
  obtain ⟨a, rfl, h_a⟩ := hx0
  obtain ⟨b, rfl, h_b⟩ := hx1
  show COK Try.prog 13 [.el (.ag [(.fl .f32 a.p), (.fl .f32 a.h), (.fl .f32 a.w), (.int .i64 a.k)]), .el (.ag [(.fl .f32 b.p), (.fl .f32 b.h), (.fl .f32 b.w), (.int .i64 b.k)])] [.el (.sc (.bo true))]
  exact fn_ok tok7 (A := none0) (L := noL) (r := none) Try.func13 (by kernel_rfl) (by kernel_rfl) (loops0 (by kernel_rfl)) (s13 a.p a.h a.w a.k b.p b.h b.w b.k h_a h_b)

end Go.Sm.Ytpnkcjlapkhclaa
namespace Go.Proofs.Ytpnkcjlapkhclaa
open Go.Sm Go.Sm.Ytpnkcjlapkhclaa Go.ChangeShapes Go.WideShapes Go.ChangeAt Go.RowKit

set_option maxRecDepth 100000 in
theorem lifted13 (os : Os) (started : os.Started) (H : Type) (enc : TypeId × Value → H) :
    ReturnsInHanded {} Try.checked os 13 .any (Rows.fnExactBlendLinesSpec.pre6 enc Try.prog Try.f13 Rows.fnExactBlendLinesRow.domain false) (Rows.fnExactBlendLinesSpec.post enc Try.prog Try.f13 false true false false) :=
  law_lifted (C := Try.checked) (aks := [.ag .line, .ag .line]) (tb := 4) (by kernel_rfl) started (by kernel_rfl) Try.func13 (by kernel_rfl)
    (ChangeSpec.witness6 (enc := enc) (C := Try.checked) false ⟨#[], #[.agg #[.float .f32 0, .float .f32 0, .float .f32 0, .int .i64 0], .agg #[.float .f32 0, .float .f32 0, .float .f32 0, .int .i64 0]], []⟩ 8 (by kernel_rfl) (by kernel_rfl) (by kernel_rfl) (by kernel_rfl))
    (fun t ht => by
      have hb : Try.f13.params.toList.all (fun t => Try.prog.readableRec t && decide (t < Try.prog.types.size)) = true := by kernel_rfl
      have := List.all_eq_true.1 hb t ht
      rw [Bool.and_eq_true] at this
      exact ⟨this.1, of_decide_eq_true this.2⟩)
    (by kernel_rfl) (by kernel_rfl) rfl
    (fun ds hd => by
      have hp : Try.f13.params.size = 2 := by kernel_rfl
      rw [hp] at hd
      match ds, hd with
      | [d0, d1], _ => rfl)
    (rowsB_ok (by kernel_rfl)) core13

/-- **THE LAW.** -/
theorem FnExactBlendLines_holds : Rows.FnExactBlendLinesSaid :=
  OpenClaim.holds_of_wide 13 Try.f13 rfl rfl rfl rfl rfl rfl rfl ⟨rfl, rfl, rfl, rfl, rfl⟩ rfl rfl rfl rfl rfl (by kernel_rfl) Try.func13 (by kernel_rfl)
    (of_decide_eq_true (by kernel_rfl)) (by unfold Func.isWrapper; first | (rw [if_pos (by decide +kernel)]; kernel_rfl) | (rw [if_neg (by decide +kernel)]; exact ⟨rfl, rfl⟩))
    (fun os started H enc _ => lifted13 os started H enc)

end Go.Proofs.Ytpnkcjlapkhclaa
