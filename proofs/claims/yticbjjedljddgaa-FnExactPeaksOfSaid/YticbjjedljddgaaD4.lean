/- What the functions hand back: level 3. -/
import Derived.Test.YticbjjedljddgaaD3
namespace Go.Sm.Yticbjjedljddgaa
open Go Go.Sm Go.RowKit Go.Proofs

/-! slices.ContainsFunc[[]float32,float32] -/
theorem e26 (xs : List Nat) : runFn T3 none0 noL Try.f26 [.vw none ⟨.f32, xs⟩, .fn 27 []] = (match (Nat.ble xs.length big : Bool) with | true => some ⟨[.el (.sc (.bo (decide ((firstAt notFin xs : Int) ≥ 0))))], none⟩ | false => none) := by kernel_rfl
theorem s26 (xs : List Nat) : runFn T3 none0 noL Try.f26 [.vw none ⟨.f32, xs⟩, .fn 27 []] = (match (Nat.ble xs.length big : Bool) with | true => some ⟨[.el (.sc (.bo (xs.any notFin)))], none⟩ | false => none) := by
  rw [e26]
  rw [any_firstAt]
theorem c26 (xs : List Nat) (k : List RV → R) (out : Out) (h : (match (Nat.ble xs.length big : Bool) with | true => k [.el (.sc (.bo (xs.any notFin)))] | false => none) = some out) : ∃ rs, Real Try.prog 26 ∧ COK Try.prog 26 [.vw none ⟨.f32, xs⟩, .fn 27 []] rs ∧ k rs = some out := by
  cases g0 : (Nat.ble xs.length big : Bool) with
  | true =>
    rw [g0] at h
    exact ⟨_, real Try.func26 (by kernel_rfl), fn_ok tok3 (A := none0) (L := noL) (r := none) Try.func26 (by kernel_rfl) (by kernel_rfl) (loops0 (by kernel_rfl)) (by rw [s26, g0]), h⟩
  | false =>
    rw [g0] at h
    cases h

def S4 : SFn := fun f args k => match f, args with
  | 26, [.vw none ⟨.f32, xs⟩, .fn 27 []] => (match (Nat.ble xs.length big : Bool) with | true => k [.el (.sc (.bo (xs.any notFin)))] | false => none)
  | _, _ => S3 f args k
abbrev M4 : MFn := M3
abbrev Dn4 : DFn := Dn3
def T4 : TT := tab.T S4 muts M4 Dn4
theorem tok4 : TOK Try.prog T4 := by
  refine (tab_ok tabok).tok (fun f args k out h => ?_) (fun f vec args k out h => ?_) (fun f vec args k out h => ?_)
  · change S4 f args k = some out at h
    unfold S4 at h
    split at h
    · exact (fun k out h => cok_call (c26 _ k out h)) k out h
    · exact tok3.S f args k out h
  · exact tok3.M f vec args k out h
  · exact tok3.D f vec args k out h

end Go.Sm.Yticbjjedljddgaa
