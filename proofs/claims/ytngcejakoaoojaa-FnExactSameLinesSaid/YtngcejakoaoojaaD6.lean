/- What the functions hand back: level 5. -/
import Derived.Test.YtngcejakoaoojaaD5
namespace Go.Sm.Ytngcejakoaoojaa
open Go Go.Sm Go.RowKit Go.Proofs

/-! impl.SameLines -/
theorem s11 (xs : List LineV) (ys : List LineV) : runFn T5 none0 noL Try.f11 [.vw none ⟨.line, xs⟩, .vw none ⟨.line, ys⟩] = (match (Nat.beq xs.length ys.length : Bool) with
  | true => (match (Nat.ble xs.length big : Bool) with
    | true => some ⟨[.el (.sc (.bo (all2 sameLn xs ys)))], none⟩
    | false => none)
  | false => some ⟨[.el (.sc (.bo false))], none⟩) := by kernel_rfl
theorem c11 (xs : List LineV) (ys : List LineV) (k : List RV → R) (out : Out) (h : (match (Nat.beq xs.length ys.length : Bool) with
  | true => (match (Nat.ble xs.length big : Bool) with
    | true => k [.el (.sc (.bo (all2 sameLn xs ys)))]
    | false => none)
  | false => k [.el (.sc (.bo false))]) = some out) : ∃ rs, Real Try.prog 11 ∧ COK Try.prog 11 [.vw none ⟨.line, xs⟩, .vw none ⟨.line, ys⟩] rs ∧ k rs = some out := by
  cases g0 : (Nat.beq xs.length ys.length : Bool) with
  | true =>
    rw [g0] at h
    cases g1 : (Nat.ble xs.length big : Bool) with
    | true =>
      rw [g1] at h
      exact ⟨_, real Try.func11 (by kernel_rfl), fn_ok tok5 (A := none0) (L := noL) (r := none) Try.func11 (by kernel_rfl) (by kernel_rfl) (loops0 (by kernel_rfl)) (by rw [s11, g0, g1]), h⟩
    | false =>
      rw [g1] at h
      cases h
  | false =>
    rw [g0] at h
    exact ⟨_, real Try.func11 (by kernel_rfl), fn_ok tok5 (A := none0) (L := noL) (r := none) Try.func11 (by kernel_rfl) (by kernel_rfl) (loops0 (by kernel_rfl)) (by rw [s11, g0]), h⟩

def S6 : SFn := fun f args k => match f, args with
  | 11, [.vw none ⟨.line, xs⟩, .vw none ⟨.line, ys⟩] => (match (Nat.beq xs.length ys.length : Bool) with
    | true => (match (Nat.ble xs.length big : Bool) with
      | true => k [.el (.sc (.bo (all2 sameLn xs ys)))]
      | false => none)
    | false => k [.el (.sc (.bo false))])
  | _, _ => S5 f args k
abbrev M6 : MFn := M5
def T6 : TT := tab.T S6 muts M6
theorem tok6 : TOK Try.prog T6 := by
  refine (tab_ok tabok).tok (fun f args k out h => ?_) (fun f vec args k out h => ?_)
  · change S6 f args k = some out at h
    unfold S6 at h
    split at h
    · exact (fun k out h => cok_call (c11 _ _ k out h)) k out h
    · exact tok5.S f args k out h
  · exact tok5.M f vec args k out h

end Go.Sm.Ytngcejakoaoojaa
