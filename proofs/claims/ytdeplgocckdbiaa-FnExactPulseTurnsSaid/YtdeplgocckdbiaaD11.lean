/- What the functions hand back: level 10. -/
import Derived.Test.YtdeplgocckdbiaaD10
namespace Go.Sm.Ytdeplgocckdbiaa
open Go Go.Sm Go.RowKit Go.Proofs

/-! impl.checkedComplex -/
theorem e105 (xs : List ((Nat × Nat))) : runFn T10 none0 noL Try.f105 [.vw none ⟨.c64, xs⟩] = (match (Nat.ble xs.length big : Bool) with
  | true => (match (!(((xs.length : Int) == ((xs.length : Int))) && xs.all finC) : Bool) with
    | true => some ⟨[.nil, .el (.sc (.bo false))], none⟩
    | false => some ⟨[.arg 0, .el (.sc (.bo true))], none⟩)
  | false => none) := by kernel_rfl
theorem s105 (xs : List ((Nat × Nat))) : runFn T10 none0 noL Try.f105 [.vw none ⟨.c64, xs⟩] = (match (Nat.ble xs.length big : Bool) with
  | true => (match (xs.all finC : Bool) with
    | true => some ⟨[.arg 0, .el (.sc (.bo true))], none⟩
    | false => some ⟨[.nil, .el (.sc (.bo false))], none⟩)
  | false => none) := by
  rw [e105]
  have e : ((xs.length : Int) == (xs.length : Int)) = true := beq_self_eq_true _
  rw [e]
  cases Nat.ble xs.length big <;> cases xs.all finC <;> simp
theorem c105 (xs : List ((Nat × Nat))) (k : List RV → R) (out : Out) (h : (match (Nat.ble xs.length big : Bool) with
  | true => (match (xs.all finC : Bool) with
    | true => k [.arg 0, .el (.sc (.bo true))]
    | false => k [.nil, .el (.sc (.bo false))])
  | false => none) = some out) : ∃ rs, Real Try.prog 105 ∧ COK Try.prog 105 [.vw none ⟨.c64, xs⟩] rs ∧ k rs = some out := by
  cases g0 : (Nat.ble xs.length big : Bool) with
  | true =>
    rw [g0] at h
    cases g1 : (xs.all finC : Bool) with
    | true =>
      rw [g1] at h
      exact ⟨_, real Try.func105 (by kernel_rfl), fn_ok tok10 (A := none0) (L := noL) (r := none) Try.func105 (by kernel_rfl) (by kernel_rfl) (loops0 (by kernel_rfl)) (by rw [s105, g0, g1]), h⟩
    | false =>
      rw [g1] at h
      exact ⟨_, real Try.func105 (by kernel_rfl), fn_ok tok10 (A := none0) (L := noL) (r := none) Try.func105 (by kernel_rfl) (by kernel_rfl) (loops0 (by kernel_rfl)) (by rw [s105, g0, g1]), h⟩
  | false =>
    rw [g0] at h
    cases h

def S11 : SFn := fun f args k => match f, args with
  | 105, [.vw none ⟨.c64, xs⟩] => (match (Nat.ble xs.length big : Bool) with
    | true => (match (xs.all finC : Bool) with
      | true => k [.arg 0, .el (.sc (.bo true))]
      | false => k [.nil, .el (.sc (.bo false))])
    | false => none)
  | _, _ => S10 f args k
abbrev M11 : MFn := M10
def T11 : TT := tab.T S11 muts M11
theorem tok11 : TOK Try.prog T11 := by
  refine (tab_ok tabok).tok (fun f args k out h => ?_) (fun f vec args k out h => ?_)
  · change S11 f args k = some out at h
    unfold S11 at h
    split at h
    · exact (fun k out h => cok_call (c105 _ k out h)) k out h
    · exact tok10.S f args k out h
  · exact tok10.M f vec args k out h

end Go.Sm.Ytdeplgocckdbiaa
