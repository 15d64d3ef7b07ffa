/- What the functions hand back: level 6. -/
import Derived.Test.YtdeplgocckdbiaaD6
namespace Go.Sm.Ytdeplgocckdbiaa
open Go Go.Sm Go.RowKit Go.Proofs

/-! impl.areComplex$1 -/
theorem s198 (a : Nat) (b : Nat) : runFn T6 none0 noL Try.f198 [.el (.sc (.cx .f32 a b))] = some ⟨[.el (.sc (.bo (notFinC (a, b))))], none⟩ := by kernel_rfl
theorem c198 (a : Nat) (b : Nat) (k : List RV → R) (out : Out) (h : k [.el (.sc (.bo (notFinC (a, b))))] = some out) : ∃ rs, Real Try.prog 198 ∧ COK Try.prog 198 [.el (.sc (.cx .f32 a b))] rs ∧ k rs = some out := by
  exact ⟨_, real Try.func198 (by kernel_rfl), fn_ok tok6 (A := none0) (L := noL) (r := none) Try.func198 (by kernel_rfl) (by kernel_rfl) (loops0 (by kernel_rfl)) (by rw [s198]), h⟩

def S7 : SFn := fun f args k => match f, args with
  | 198, [.el (.sc (.cx .f32 a b))] => k [.el (.sc (.bo (notFinC (a, b))))]
  | _, _ => S6 f args k
abbrev M7 : MFn := M6
def T7 : TT := tab.T S7 muts M7
theorem tok7 : TOK Try.prog T7 := by
  refine (tab_ok tabok).tok (fun f args k out h => ?_) (fun f vec args k out h => ?_)
  · change S7 f args k = some out at h
    unfold S7 at h
    split at h
    · exact (fun k out h => cok_call (c198 _ _ k out h)) k out h
    · exact tok6.S f args k out h
  · exact tok6.M f vec args k out h

end Go.Sm.Ytdeplgocckdbiaa
