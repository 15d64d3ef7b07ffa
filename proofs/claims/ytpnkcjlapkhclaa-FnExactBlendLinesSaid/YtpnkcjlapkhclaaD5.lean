/- What the functions hand back: level 4. -/
import Derived.Test.YtpnkcjlapkhclaaD4
namespace Go.Sm.Ytpnkcjlapkhclaa
open Go Go.Sm Go.RowKit Go.Proofs

/-! impl.areFinite -/
theorem e50 (xs : List Nat) : runFn T4 none0 noL Try.f50 [.vw none ⟨.f32, xs⟩] = (match (Nat.ble xs.length big : Bool) with
  | true => some ⟨[.el (.sc (.bo (!(xs.any notFin))))], none⟩
  | false => none) := by kernel_rfl
theorem s50 (xs : List Nat) : runFn T4 none0 noL Try.f50 [.vw none ⟨.f32, xs⟩] = (match (Nat.ble xs.length big : Bool) with
  | true => some ⟨[.el (.sc (.bo (xs.all fin)))], none⟩
  | false => none) := by
  rw [e50]
  rw [notFin_fun, not_any]
theorem c50 (xs : List Nat) (k : List RV → R) (out : Out) (h : (match (Nat.ble xs.length big : Bool) with
  | true => k [.el (.sc (.bo (xs.all fin)))]
  | false => none) = some out) : ∃ rs, Real Try.prog 50 ∧ COK Try.prog 50 [.vw none ⟨.f32, xs⟩] rs ∧ k rs = some out := by
  cases g0 : (Nat.ble xs.length big : Bool) with
  | true =>
    rw [g0] at h
    exact ⟨_, real Try.func50 (by kernel_rfl), fn_ok tok4 (A := none0) (L := noL) (r := none) Try.func50 (by kernel_rfl) (by kernel_rfl) (loops0 (by kernel_rfl)) (by rw [s50, g0]), h⟩
  | false =>
    rw [g0] at h
    cases h

/-! impl.arePositive -/
theorem e51 (xs : List Nat) : runFn T4 none0 noL Try.f51 [.vw none ⟨.f32, xs⟩] = (match (Nat.ble xs.length big : Bool) with
  | true => some ⟨[.el (.sc (.bo (!(xs.any notPos))))], none⟩
  | false => none) := by kernel_rfl
theorem s51 (xs : List Nat) : runFn T4 none0 noL Try.f51 [.vw none ⟨.f32, xs⟩] = (match (Nat.ble xs.length big : Bool) with
  | true => some ⟨[.el (.sc (.bo (xs.all above)))], none⟩
  | false => none) := by
  rw [e51]
  rw [notPos_fun, not_any]
theorem c51 (xs : List Nat) (k : List RV → R) (out : Out) (h : (match (Nat.ble xs.length big : Bool) with
  | true => k [.el (.sc (.bo (xs.all above)))]
  | false => none) = some out) : ∃ rs, Real Try.prog 51 ∧ COK Try.prog 51 [.vw none ⟨.f32, xs⟩] rs ∧ k rs = some out := by
  cases g0 : (Nat.ble xs.length big : Bool) with
  | true =>
    rw [g0] at h
    exact ⟨_, real Try.func51 (by kernel_rfl), fn_ok tok4 (A := none0) (L := noL) (r := none) Try.func51 (by kernel_rfl) (by kernel_rfl) (loops0 (by kernel_rfl)) (by rw [s51, g0]), h⟩
  | false =>
    rw [g0] at h
    cases h

def S5 : SFn := fun f args k => match f, args with
  | 50, [.vw none ⟨.f32, xs⟩] => (match (Nat.ble xs.length big : Bool) with
    | true => k [.el (.sc (.bo (xs.all fin)))]
    | false => none)
  | 51, [.vw none ⟨.f32, xs⟩] => (match (Nat.ble xs.length big : Bool) with
    | true => k [.el (.sc (.bo (xs.all above)))]
    | false => none)
  | _, _ => S4 f args k
abbrev M5 : MFn := M4
def T5 : TT := tab.T S5 muts M5
theorem tok5 : TOK Try.prog T5 := by
  refine (tab_ok tabok).tok (fun f args k out h => ?_) (fun f vec args k out h => ?_)
  · change S5 f args k = some out at h
    unfold S5 at h
    split at h
    · exact c50 _ k out h
    · exact c51 _ k out h
    · exact tok4.S f args k out h
  · exact tok4.M f vec args k out h

end Go.Sm.Ytpnkcjlapkhclaa
