/- What the functions hand back: level 5. -/
import Derived.Test.YtpnkcjlapkhclaaD5
namespace Go.Sm.Ytpnkcjlapkhclaa
open Go Go.Sm Go.RowKit Go.Proofs

/-! impl.ValidLine -/
theorem e16 (lp : Nat) (lh : Nat) (lw : Nat) (lk : Int) : runFn T5 none0 noL Try.f16 [.el (.ag [(.fl .f32 lp), (.fl .f32 lh), (.fl .f32 lw), (.int .i64 lk)])] = (match (([lp, lh]).all fin : Bool) with
  | true => (match (([lw]).all above : Bool) with
    | true => some ⟨[.el (.sc (.bo (within lk 0 3)))], none⟩
    | false => some ⟨[.el (.sc (.bo false))], none⟩)
  | false => some ⟨[.el (.sc (.bo false))], none⟩) := by kernel_rfl
theorem s16 (lp : Nat) (lh : Nat) (lw : Nat) (lk : Int) : runFn T5 none0 noL Try.f16 [.el (.ag [(.fl .f32 lp), (.fl .f32 lh), (.fl .f32 lw), (.int .i64 lk)])] = some ⟨[.el (.sc (.bo (okLine ((⟨lp, lh, lw, lk⟩ : LineV)))))], none⟩ := by
  rw [e16]
  unfold okLine
  simp only [List.all_cons, List.all_nil, Bool.and_true]
  cases fin lp <;> cases fin lh <;> cases above lw <;> simp
theorem c16 (lp : Nat) (lh : Nat) (lw : Nat) (lk : Int) (k : List RV → R) (out : Out) (h : k [.el (.sc (.bo (okLine ((⟨lp, lh, lw, lk⟩ : LineV)))))] = some out) : ∃ rs, Real Try.prog 16 ∧ COK Try.prog 16 [.el (.ag [(.fl .f32 lp), (.fl .f32 lh), (.fl .f32 lw), (.int .i64 lk)])] rs ∧ k rs = some out := by
  exact ⟨_, real Try.func16 (by kernel_rfl), fn_ok tok5 (A := none0) (L := noL) (r := none) Try.func16 (by kernel_rfl) (by kernel_rfl) (loops0 (by kernel_rfl)) (by rw [s16]), h⟩

def S6 : SFn := fun f args k => match f, args with
  | 16, [.el (.ag [(.fl .f32 lp), (.fl .f32 lh), (.fl .f32 lw), (.int .i64 lk)])] => k [.el (.sc (.bo (okLine ((⟨lp, lh, lw, lk⟩ : LineV)))))]
  | _, _ => S5 f args k
abbrev M6 : MFn := M5
def T6 : TT := tab.T S6 muts M6
theorem tok6 : TOK Try.prog T6 := by
  refine (tab_ok tabok).tok (fun f args k out h => ?_) (fun f vec args k out h => ?_)
  · change S6 f args k = some out at h
    unfold S6 at h
    split at h
    · exact c16 _ _ _ _ k out h
    · exact tok5.S f args k out h
  · exact tok5.M f vec args k out h

end Go.Sm.Ytpnkcjlapkhclaa
