/- What the functions hand back: level 9. -/
import Derived.Test.YtdeplgocckdbiaaD9
namespace Go.Sm.Ytdeplgocckdbiaa
open Go Go.Sm Go.RowKit Go.Proofs

/-! impl.areComplex -/
theorem e167 (xs : List ((Nat × Nat))) (n : Int) : runFn T9 none0 noL Try.f167 [.vw none ⟨.c64, xs⟩, .el (.sc (.int .i64 n))] = (match (((xs.length : Int) : Int) == n : Bool) with
  | true => (match (Nat.ble xs.length big : Bool) with
    | true => some ⟨[.el (.sc (.bo (!(xs.any notFinC))))], none⟩
    | false => none)
  | false => some ⟨[.el (.sc (.bo false))], none⟩) := by kernel_rfl
theorem s167 (xs : List ((Nat × Nat))) (n : Int) (hg : (Nat.ble xs.length big) = true) : runFn T9 none0 noL Try.f167 [.vw none ⟨.c64, xs⟩, .el (.sc (.int .i64 n))] = some ⟨[.el (.sc (.bo (((xs.length : Int) == n) && xs.all finC)))], none⟩ := by
  rw [e167]
  rw [not_anyC, hg]
  cases hn : ((xs.length : Int) == n) <;> simp
theorem c167 (xs : List ((Nat × Nat))) (n : Int) (k : List RV → R) (out : Out) (h : (match (Nat.ble xs.length big : Bool) with
  | true => k [.el (.sc (.bo (((xs.length : Int) == n) && xs.all finC)))]
  | false => none) = some out) : ∃ rs, Real Try.prog 167 ∧ COK Try.prog 167 [.vw none ⟨.c64, xs⟩, .el (.sc (.int .i64 n))] rs ∧ k rs = some out := by
  cases g0 : (Nat.ble xs.length big : Bool) with
  | true =>
    rw [g0] at h
    exact ⟨_, real Try.func167 (by kernel_rfl), fn_ok tok9 (A := none0) (L := noL) (r := none) Try.func167 (by kernel_rfl) (by kernel_rfl) (loops0 (by kernel_rfl)) (by rw [s167 _ _ g0]), h⟩
  | false =>
    rw [g0] at h
    cases h

def S10 : SFn := fun f args k => match f, args with
  | 167, [.vw none ⟨.c64, xs⟩, .el (.sc (.int .i64 n))] => (match (Nat.ble xs.length big : Bool) with
    | true => k [.el (.sc (.bo (((xs.length : Int) == n) && xs.all finC)))]
    | false => none)
  | _, _ => S9 f args k
abbrev M10 : MFn := M9
def T10 : TT := tab.T S10 muts M10
theorem tok10 : TOK Try.prog T10 := by
  refine (tab_ok tabok).tok (fun f args k out h => ?_) (fun f vec args k out h => ?_)
  · change S10 f args k = some out at h
    unfold S10 at h
    split at h
    · exact (fun k out h => cok_call (c167 _ _ k out h)) k out h
    · exact tok9.S f args k out h
  · exact tok9.M f vec args k out h

end Go.Sm.Ytdeplgocckdbiaa
