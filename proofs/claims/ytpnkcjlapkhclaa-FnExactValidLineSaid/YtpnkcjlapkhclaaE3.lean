/- The law FnExactValidLine holds: whatever the input, it says true, and the input reads as it did. No condition. -/
import Derived.Test.YtpnkcjlapkhclaaD6
import Derived.Test.YtpnkcjlapkhclaaRows
import Derived.ProofKit
namespace Go.Sm.Ytpnkcjlapkhclaa
open Go Go.Sm Go.RowKit Go.ChangeShapes Go.WideShapes Go.ChangeAt Go.Proofs Go.Proofs.Ytpnkcjlapkhclaa

theorem e3 (lp : Nat) (lh : Nat) (lw : Nat) (lk : Int) : runFn T6 none0 noL Try.f3 [.el (.ag [(.fl .f32 lp), (.fl .f32 lh), (.fl .f32 lw), (.int .i64 lk)])] = (match (!((okLine (((⟨lp, lh, lw, lk⟩ : LineV)))) == (okLine (((⟨lp, lh, lw, lk⟩ : LineV))))) : Bool) with
  | true => some ⟨[.el (.sc (.bo false))], none⟩
  | false => some ⟨[.el (.sc (.bo true))], none⟩) := by kernel_rfl
theorem s3 (lp : Nat) (lh : Nat) (lw : Nat) (lk : Int) (h_l : K.wf .line (⟨lp, lh, lw, lk⟩ : LineV)) : runFn T6 none0 noL Try.f3 [.el (.ag [(.fl .f32 lp), (.fl .f32 lh), (.fl .f32 lw), (.int .i64 lk)])] = some ⟨[.el (.sc (.bo true))], none⟩ := by
  rw [e3]
  simp

theorem core3 (xs : List FV) (h : AKs (AK.fits Try.prog) [.ag .line] Try.f3.params.toList xs) : COK Try.prog 3 xs [.el (.sc (.bo true))] := by
  have hp : Try.f3.params.toList = [24] := by kernel_rfl
  rw [hp] at h
  obtain ⟨x0, rfl, hx0⟩ := aks1 h
  obtain ⟨l, rfl, h_l⟩ := hx0
  show COK Try.prog 3 [.el (.ag [(.fl .f32 l.p), (.fl .f32 l.h), (.fl .f32 l.w), (.int .i64 l.k)])] [.el (.sc (.bo true))]
  exact fn_ok tok6 (A := none0) (L := noL) (r := none) Try.func3 (by kernel_rfl) (by kernel_rfl) (loops0 (by kernel_rfl)) (s3 l.p l.h l.w l.k h_l)

end Go.Sm.Ytpnkcjlapkhclaa
namespace Go.Proofs.Ytpnkcjlapkhclaa
open Go.Sm Go.Sm.Ytpnkcjlapkhclaa Go.ChangeShapes Go.WideShapes Go.ChangeAt Go.RowKit

set_option maxRecDepth 100000 in
theorem lifted3 (os : Os) (started : os.Started) (H : Type) (enc : TypeId × Value → H) :
    ReturnsInHanded {} Try.checked os 3 .any (Rows.fnExactValidLineSpec.pre6 enc Try.prog Try.f3 Rows.fnExactValidLineRow.domain false) (Rows.fnExactValidLineSpec.post enc Try.prog Try.f3 false true false false) :=
  law_lifted (C := Try.checked) (aks := [.ag .line]) (tb := 4) (by kernel_rfl) started (by kernel_rfl) Try.func3 (by kernel_rfl)
    (ChangeSpec.witness6 (enc := enc) (C := Try.checked) false ⟨#[], #[.agg #[.float .f32 0, .float .f32 0, .float .f32 0, .int .i64 0]], []⟩ 8 (by kernel_rfl) (by kernel_rfl) (by kernel_rfl) (by kernel_rfl))
    (fun t ht => by
      have hb : Try.f3.params.toList.all (fun t => Try.prog.readableRec t && decide (t < Try.prog.types.size)) = true := by kernel_rfl
      have := List.all_eq_true.1 hb t ht
      rw [Bool.and_eq_true] at this
      exact ⟨this.1, of_decide_eq_true this.2⟩)
    (by kernel_rfl) (by kernel_rfl) rfl
    (fun ds hd => by
      have hp : Try.f3.params.size = 1 := by kernel_rfl
      rw [hp] at hd
      match ds, hd with
      | [d0], _ => rfl)
    (rowsB_ok (by kernel_rfl)) core3

/-- **THE LAW.** -/
theorem FnExactValidLine_holds : Rows.FnExactValidLineSaid :=
  OpenClaim.holds_of_wide 3 Try.f3 rfl rfl rfl rfl rfl rfl rfl ⟨rfl, rfl, rfl, rfl, rfl⟩ rfl rfl rfl rfl rfl (by kernel_rfl) Try.func3 (by kernel_rfl)
    (of_decide_eq_true (by kernel_rfl)) (by unfold Func.isWrapper; first | (rw [if_pos (by decide +kernel)]; kernel_rfl) | (rw [if_neg (by decide +kernel)]; exact ⟨rfl, rfl⟩))
    (fun os started H enc _ => lifted3 os started H enc)

end Go.Proofs.Ytpnkcjlapkhclaa
