/- What the functions hand back: level 5. -/
import Derived.Test.YtdeplgocckdbiaaD5
namespace Go.Sm.Ytdeplgocckdbiaa
open Go Go.Sm Go.RowKit Go.Proofs

/-! impl.checkedNumbers -/
theorem e82 (xs : List Nat) : runFn T5 none0 noL Try.f82 [.vw none ⟨.f32, xs⟩] = (match (Nat.ble xs.length big : Bool) with
  | true => (match (!(xs.all fin) : Bool) with
    | true => some ⟨[.nil, .el (.sc (.bo false))], none⟩
    | false => some ⟨[.arg 0, .el (.sc (.bo true))], none⟩)
  | false => none) := by kernel_rfl
theorem s82 (xs : List Nat) : runFn T5 none0 noL Try.f82 [.vw none ⟨.f32, xs⟩] = (match (Nat.ble xs.length big : Bool) with
  | true => (match (xs.all fin : Bool) with
    | true => some ⟨[.arg 0, .el (.sc (.bo true))], none⟩
    | false => some ⟨[.nil, .el (.sc (.bo false))], none⟩)
  | false => none) := by
  rw [e82]
  cases Nat.ble xs.length big <;> cases xs.all fin <;> simp
theorem c82 (xs : List Nat) (k : List RV → R) (out : Out) (h : (match (Nat.ble xs.length big : Bool) with
  | true => (match (xs.all fin : Bool) with
    | true => k [.arg 0, .el (.sc (.bo true))]
    | false => k [.nil, .el (.sc (.bo false))])
  | false => none) = some out) : ∃ rs, Real Try.prog 82 ∧ COK Try.prog 82 [.vw none ⟨.f32, xs⟩] rs ∧ k rs = some out := by
  cases g0 : (Nat.ble xs.length big : Bool) with
  | true =>
    rw [g0] at h
    cases g1 : (xs.all fin : Bool) with
    | true =>
      rw [g1] at h
      exact ⟨_, real Try.func82 (by kernel_rfl), fn_ok tok5 (A := none0) (L := noL) (r := none) Try.func82 (by kernel_rfl) (by kernel_rfl) (loops0 (by kernel_rfl)) (by rw [s82, g0, g1]), h⟩
    | false =>
      rw [g1] at h
      exact ⟨_, real Try.func82 (by kernel_rfl), fn_ok tok5 (A := none0) (L := noL) (r := none) Try.func82 (by kernel_rfl) (by kernel_rfl) (loops0 (by kernel_rfl)) (by rw [s82, g0, g1]), h⟩
  | false =>
    rw [g0] at h
    cases h

/-! impl.isVector -/
theorem e96 (xs : List Nat) : runFn T5 none0 noL Try.f96 [.vw none ⟨.f32, xs⟩] = (match (((xs.length : Int) : Int) == 3 : Bool) with
  | true => (match (Nat.ble xs.length big : Bool) with
    | true => some ⟨[.el (.sc (.bo (xs.all fin)))], none⟩
    | false => none)
  | false => some ⟨[.el (.sc (.bo false))], none⟩) := by kernel_rfl
theorem s96 (xs : List Nat) : runFn T5 none0 noL Try.f96 [.vw none ⟨.f32, xs⟩] = some ⟨[.el (.sc (.bo (vec3 xs)))], none⟩ := by
  rw [e96]
  unfold vec3
  have e : ((xs.length : Int) == 3) = decide (xs.length = 3) := len_beq xs.length 3
  by_cases h : xs.length = 3
  · have hx : Nat.ble xs.length big = true := big_of (by omega)
    rw [e, decide_eq_true h, hx]
    rfl
  · rw [e, decide_eq_false h]
    rfl
theorem c96 (xs : List Nat) (k : List RV → R) (out : Out) (h : k [.el (.sc (.bo (vec3 xs)))] = some out) : ∃ rs, Real Try.prog 96 ∧ COK Try.prog 96 [.vw none ⟨.f32, xs⟩] rs ∧ k rs = some out := by
  exact ⟨_, real Try.func96 (by kernel_rfl), fn_ok tok5 (A := none0) (L := noL) (r := none) Try.func96 (by kernel_rfl) (by kernel_rfl) (loops0 (by kernel_rfl)) (by rw [s96]), h⟩

def S6 : SFn := fun f args k => match f, args with
  | 82, [.vw none ⟨.f32, xs⟩] => (match (Nat.ble xs.length big : Bool) with
    | true => (match (xs.all fin : Bool) with
      | true => k [.arg 0, .el (.sc (.bo true))]
      | false => k [.nil, .el (.sc (.bo false))])
    | false => none)
  | 96, [.vw none ⟨.f32, xs⟩] => k [.el (.sc (.bo (vec3 xs)))]
  | _, _ => S5 f args k
abbrev M6 : MFn := M5
def T6 : TT := tab.T S6 muts M6
theorem tok6 : TOK Try.prog T6 := by
  refine (tab_ok tabok).tok (fun f args k out h => ?_) (fun f vec args k out h => ?_)
  · change S6 f args k = some out at h
    unfold S6 at h
    split at h
    · exact (fun k out h => cok_call (c82 _ k out h)) k out h
    · exact (fun k out h => cok_call (c96 _ k out h)) k out h
    · exact tok5.S f args k out h
  · exact tok5.M f vec args k out h

end Go.Sm.Ytdeplgocckdbiaa
