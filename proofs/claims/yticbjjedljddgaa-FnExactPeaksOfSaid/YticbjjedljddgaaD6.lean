/- What the functions hand back: level 5. -/
import Derived.Test.YticbjjedljddgaaD5
namespace Go.Sm.Yticbjjedljddgaa
open Go Go.Sm Go.RowKit Go.Proofs

/-! impl.isList -/
theorem e15 (xs : List Nat) (n : Int) : runFn T5 none0 noL Try.f15 [.vw none ⟨.f32, xs⟩, .el (.sc (.int .i64 n))] = (match (decide (((xs.length : Int) : Int) ≥ n) : Bool) with | true => (match (decide (((xs.length : Int) : Int) ≤ 128) : Bool) with | true => (match (Nat.ble xs.length big : Bool) with | true => some ⟨[.el (.sc (.bo (xs.all fin)))], none⟩ | false => none) | false => some ⟨[.el (.sc (.bo false))], none⟩) | false => some ⟨[.el (.sc (.bo false))], none⟩) := by kernel_rfl
theorem s15 (xs : List Nat) (n : Int) : runFn T5 none0 noL Try.f15 [.vw none ⟨.f32, xs⟩, .el (.sc (.int .i64 n))] = some ⟨[.el (.sc (.bo (listOk xs n)))], none⟩ := by
  rw [e15]
  unfold listOk
  have e4 : ((xs.length : Int) ≤ 128) ↔ xs.length ≤ 128 := by omega
  by_cases h4 : xs.length ≤ 128
  · have h : Nat.ble xs.length big = true := Nat.ble_eq_true_of_le (by unfold big; omega)
    cases h3 : decide ((xs.length : Int) ≥ n) <;> simp [e4, h4, h]
  · cases h3 : decide ((xs.length : Int) ≥ n) <;> simp [e4, h4]
theorem c15 (xs : List Nat) (n : Int) (k : List RV → R) (out : Out) (h : k [.el (.sc (.bo (listOk xs n)))] = some out) : ∃ rs, Real Try.prog 15 ∧ COK Try.prog 15 [.vw none ⟨.f32, xs⟩, .el (.sc (.int .i64 n))] rs ∧ k rs = some out := by
  exact ⟨_, real Try.func15 (by kernel_rfl), fn_ok tok5 (A := none0) (L := noL) (r := none) Try.func15 (by kernel_rfl) (by kernel_rfl) (loops0 (by kernel_rfl)) (by rw [s15]), h⟩

def S6 : SFn := fun f args k => match f, args with
  | 15, [.vw none ⟨.f32, xs⟩, .el (.sc (.int .i64 n))] => k [.el (.sc (.bo (listOk xs n)))]
  | _, _ => S5 f args k
abbrev M6 : MFn := M5
abbrev Dn6 : DFn := Dn5
def T6 : TT := tab.T S6 muts M6 Dn6
theorem tok6 : TOK Try.prog T6 := by
  refine (tab_ok tabok).tok (fun f args k out h => ?_) (fun f vec args k out h => ?_) (fun f vec args k out h => ?_)
  · change S6 f args k = some out at h
    unfold S6 at h
    split at h
    · exact (fun k out h => cok_call (c15 _ _ k out h)) k out h
    · exact tok5.S f args k out h
  · exact tok5.M f vec args k out h
  · exact tok5.D f vec args k out h

end Go.Sm.Yticbjjedljddgaa
