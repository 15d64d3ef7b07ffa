/- What the functions hand back: level 8. -/
import Derived.Test.YtdeplgocckdbiaaD8
namespace Go.Sm.Ytdeplgocckdbiaa
open Go Go.Sm Go.RowKit Go.Proofs

/-! slices.ContainsFunc[[]complex64,complex64] -/
theorem e197 (xs : List ((Nat × Nat))) : runFn T8 none0 noL Try.f197 [.vw none ⟨.c64, xs⟩, .fn 198 []] = (match (Nat.ble xs.length big : Bool) with
  | true => some ⟨[.el (.sc (.bo (decide ((firstAt notFinC xs : Int) ≥ 0))))], none⟩
  | false => none) := by kernel_rfl
theorem s197 (xs : List ((Nat × Nat))) : runFn T8 none0 noL Try.f197 [.vw none ⟨.c64, xs⟩, .fn 198 []] = (match (Nat.ble xs.length big : Bool) with
  | true => some ⟨[.el (.sc (.bo (xs.any notFinC)))], none⟩
  | false => none) := by
  rw [e197]
  rw [any_firstAt]
theorem c197 (xs : List ((Nat × Nat))) (k : List RV → R) (out : Out) (h : (match (Nat.ble xs.length big : Bool) with
  | true => k [.el (.sc (.bo (xs.any notFinC)))]
  | false => none) = some out) : ∃ rs, Real Try.prog 197 ∧ COK Try.prog 197 [.vw none ⟨.c64, xs⟩, .fn 198 []] rs ∧ k rs = some out := by
  cases g0 : (Nat.ble xs.length big : Bool) with
  | true =>
    rw [g0] at h
    exact ⟨_, real Try.func197 (by kernel_rfl), fn_ok tok8 (A := none0) (L := noL) (r := none) Try.func197 (by kernel_rfl) (by kernel_rfl) (loops0 (by kernel_rfl)) (by rw [s197, g0]), h⟩
  | false =>
    rw [g0] at h
    cases h

def S9 : SFn := fun f args k => match f, args with
  | 197, [.vw none ⟨.c64, xs⟩, .fn 198 []] => (match (Nat.ble xs.length big : Bool) with
    | true => k [.el (.sc (.bo (xs.any notFinC)))]
    | false => none)
  | _, _ => S8 f args k
abbrev M9 : MFn := M8
def T9 : TT := tab.T S9 muts M9
theorem tok9 : TOK Try.prog T9 := by
  refine (tab_ok tabok).tok (fun f args k out h => ?_) (fun f vec args k out h => ?_)
  · change S9 f args k = some out at h
    unfold S9 at h
    split at h
    · exact (fun k out h => cok_call (c197 _ k out h)) k out h
    · exact tok8.S f args k out h
  · exact tok8.M f vec args k out h

end Go.Sm.Ytdeplgocckdbiaa
