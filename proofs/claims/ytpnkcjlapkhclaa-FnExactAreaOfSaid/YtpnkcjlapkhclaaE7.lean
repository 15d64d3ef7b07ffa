/- The law FnExactAreaOf holds: whatever the input, it says true, and the input reads as it did. No condition. -/
import Derived.Test.YtpnkcjlapkhclaaD7
import Derived.Test.YtpnkcjlapkhclaaRows
import Derived.ProofKit
namespace Go.Sm.Ytpnkcjlapkhclaa
open Go Go.Sm Go.RowKit Go.ChangeShapes Go.WideShapes Go.ChangeAt Go.Proofs Go.Proofs.Ytpnkcjlapkhclaa

theorem e7 (lp : Nat) (lh : Nat) (lw : Nat) (lk : Int) : runFn T7 none0 noL Try.f7 [.el (.ag [(.fl .f32 lp), (.fl .f32 lh), (.fl .f32 lw), (.int .i64 lk)])] = (match (!(sameF (wid (orZero (okLine (((⟨lp, lh, lw, lk⟩ : LineV))) && fin (areaX (((⟨lp, lh, lw, lk⟩ : LineV))))) (areaX (((⟨lp, lh, lw, lk⟩ : LineV)))))) (wid (orZero (okLine (((⟨lp, lh, lw, lk⟩ : LineV))) && fin (areaX (((⟨lp, lh, lw, lk⟩ : LineV))))) (areaX (((⟨lp, lh, lw, lk⟩ : LineV))))))) : Bool) with
  | true => some ⟨[.el (.sc (.bo false))], none⟩
  | false => (match (!((okLine (((⟨lp, lh, lw, lk⟩ : LineV))) && fin (areaX (((⟨lp, lh, lw, lk⟩ : LineV))))) == (okLine (((⟨lp, lh, lw, lk⟩ : LineV))) && fin (areaX (((⟨lp, lh, lw, lk⟩ : LineV)))))) : Bool) with
    | true => some ⟨[.el (.sc (.bo false))], none⟩
    | false => some ⟨[.el (.sc (.bo true))], none⟩)) := by kernel_rfl
theorem s7 (lp : Nat) (lh : Nat) (lw : Nat) (lk : Int) (h_l : K.wf .line (⟨lp, lh, lw, lk⟩ : LineV)) : runFn T7 none0 noL Try.f7 [.el (.ag [(.fl .f32 lp), (.fl .f32 lh), (.fl .f32 lw), (.int .i64 lk)])] = some ⟨[.el (.sc (.bo true))], none⟩ := by
  rw [e7]
  simp [sameF_refl]

theorem core7 (xs : List FV) (h : AKs (AK.fits Try.prog) [.ag .line] Try.f7.params.toList xs) : COK Try.prog 7 xs [.el (.sc (.bo true))] := by
  have hp : Try.f7.params.toList = [24] := by kernel_rfl
  rw [hp] at h
  obtain ⟨x0, rfl, hx0⟩ := aks1 h
  obtain ⟨l, rfl, h_l⟩ := hx0
  show COK Try.prog 7 [.el (.ag [(.fl .f32 l.p), (.fl .f32 l.h), (.fl .f32 l.w), (.int .i64 l.k)])] [.el (.sc (.bo true))]
  exact fn_ok tok7 (A := none0) (L := noL) (r := none) Try.func7 (by kernel_rfl) (by kernel_rfl) (loops0 (by kernel_rfl)) (s7 l.p l.h l.w l.k h_l)

end Go.Sm.Ytpnkcjlapkhclaa
namespace Go.Proofs.Ytpnkcjlapkhclaa
open Go.Sm Go.Sm.Ytpnkcjlapkhclaa Go.ChangeShapes Go.WideShapes Go.ChangeAt Go.RowKit

set_option maxRecDepth 100000 in
theorem lifted7 (os : Os) (started : os.Started) (H : Type) (enc : TypeId × Value → H) :
    ReturnsInHanded {} Try.checked os 7 .any (Rows.fnExactAreaOfSpec.pre6 enc Try.prog Try.f7 Rows.fnExactAreaOfRow.domain false) (Rows.fnExactAreaOfSpec.post enc Try.prog Try.f7 false true false false) :=
  law_lifted (C := Try.checked) (aks := [.ag .line]) (tb := 4) (by kernel_rfl) started (by kernel_rfl) Try.func7 (by kernel_rfl)
    (ChangeSpec.witness6 (enc := enc) (C := Try.checked) false ⟨#[], #[.agg #[.float .f32 0, .float .f32 0, .float .f32 0, .int .i64 0]], []⟩ 8 (by kernel_rfl) (by kernel_rfl) (by kernel_rfl) (by kernel_rfl))
    (fun t ht => by
      have hb : Try.f7.params.toList.all (fun t => Try.prog.readableRec t && decide (t < Try.prog.types.size)) = true := by kernel_rfl
      have := List.all_eq_true.1 hb t ht
      rw [Bool.and_eq_true] at this
      exact ⟨this.1, of_decide_eq_true this.2⟩)
    (by kernel_rfl) (by kernel_rfl) rfl
    (fun ds hd => by
      have hp : Try.f7.params.size = 1 := by kernel_rfl
      rw [hp] at hd
      match ds, hd with
      | [d0], _ => rfl)
    (rowsB_ok (by kernel_rfl)) core7

/-- **THE LAW.** -/
theorem FnExactAreaOf_holds : Rows.FnExactAreaOfSaid :=
  OpenClaim.holds_of_wide 7 Try.f7 rfl rfl rfl rfl rfl rfl rfl ⟨rfl, rfl, rfl, rfl, rfl⟩ rfl rfl rfl rfl rfl (by kernel_rfl) Try.func7 (by kernel_rfl)
    (of_decide_eq_true (by kernel_rfl)) (by unfold Func.isWrapper; first | (rw [if_pos (by decide +kernel)]; kernel_rfl) | (rw [if_neg (by decide +kernel)]; exact ⟨rfl, rfl⟩))
    (fun os started H enc _ => lifted7 os started H enc)

end Go.Proofs.Ytpnkcjlapkhclaa
