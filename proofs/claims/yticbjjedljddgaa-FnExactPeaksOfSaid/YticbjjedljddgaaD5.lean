/- What the functions hand back: level 4. -/
import Derived.Test.YticbjjedljddgaaD4
namespace Go.Sm.Yticbjjedljddgaa
open Go Go.Sm Go.RowKit Go.Proofs

/-! impl.areFinite -/
theorem e22 (xs : List Nat) : runFn T4 none0 noL Try.f22 [.vw none ⟨.f32, xs⟩] = (match (Nat.ble xs.length big : Bool) with | true => some ⟨[.el (.sc (.bo (!(xs.any notFin))))], none⟩ | false => none) := by kernel_rfl
theorem s22 (xs : List Nat) : runFn T4 none0 noL Try.f22 [.vw none ⟨.f32, xs⟩] = (match (Nat.ble xs.length big : Bool) with | true => some ⟨[.el (.sc (.bo (xs.all fin)))], none⟩ | false => none) := by
  rw [e22]
  rw [notFin_fun, not_any]
theorem c22 (xs : List Nat) (k : List RV → R) (out : Out) (h : (match (Nat.ble xs.length big : Bool) with | true => k [.el (.sc (.bo (xs.all fin)))] | false => none) = some out) : ∃ rs, Real Try.prog 22 ∧ COK Try.prog 22 [.vw none ⟨.f32, xs⟩] rs ∧ k rs = some out := by
  cases g0 : (Nat.ble xs.length big : Bool) with
  | true =>
    rw [g0] at h
    exact ⟨_, real Try.func22 (by kernel_rfl), fn_ok tok4 (A := none0) (L := noL) (r := none) Try.func22 (by kernel_rfl) (by kernel_rfl) (loops0 (by kernel_rfl)) (by rw [s22, g0]), h⟩
  | false =>
    rw [g0] at h
    cases h

def S5 : SFn := fun f args k => match f, args with
  | 22, [.vw none ⟨.f32, xs⟩] => (match (Nat.ble xs.length big : Bool) with | true => k [.el (.sc (.bo (xs.all fin)))] | false => none)
  | _, _ => S4 f args k
abbrev M5 : MFn := M4
abbrev Dn5 : DFn := Dn4
def T5 : TT := tab.T S5 muts M5 Dn5
theorem tok5 : TOK Try.prog T5 := by
  refine (tab_ok tabok).tok (fun f args k out h => ?_) (fun f vec args k out h => ?_) (fun f vec args k out h => ?_)
  · change S5 f args k = some out at h
    unfold S5 at h
    split at h
    · exact (fun k out h => cok_call (c22 _ k out h)) k out h
    · exact tok4.S f args k out h
  · exact tok4.M f vec args k out h
  · exact tok4.D f vec args k out h

end Go.Sm.Yticbjjedljddgaa
