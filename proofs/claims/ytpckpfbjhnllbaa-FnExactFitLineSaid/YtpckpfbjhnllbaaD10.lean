/- What the functions hand back: level 9. -/
import Derived.Test.YtpckpfbjhnllbaaD9
namespace Go.Sm.Ytpckpfbjhnllbaa
open Go Go.Sm Go.RowKit Go.Proofs

/-! impl.areLines -/
theorem e26 (xs : List LineV) (a : Int) (b : Int) : runFn T9 none0 noL Try.f26 [.vw none ⟨.line, xs⟩, .el (.sc (.int .i64 a)), .el (.sc (.int .i64 b))] = (match (decide (((xs.length : Int) : Int) ≥ a) : Bool) with | true => (match (decide (((xs.length : Int) : Int) ≤ b) : Bool) with | true => (match (Nat.ble xs.length big : Bool) with | true => some ⟨[.el (.sc (.bo (!(xs.any notLine))))], none⟩ | false => none) | false => some ⟨[.el (.sc (.bo false))], none⟩) | false => some ⟨[.el (.sc (.bo false))], none⟩) := by kernel_rfl
theorem s26 (xs : List LineV) (a : Int) (b : Int) (hg : (decide (b ≤ 1099511627776)) = true) : runFn T9 none0 noL Try.f26 [.vw none ⟨.line, xs⟩, .el (.sc (.int .i64 a)), .el (.sc (.int .i64 b))] = some ⟨[.el (.sc (.bo (linesIn xs a b)))], none⟩ := by
  rw [e26]
  rw [notLine_fun, not_any]
  have hb := of_decide_eq_true hg
  unfold linesIn
  by_cases h4 : (xs.length : Int) ≤ b
  · have h : Nat.ble xs.length big = true := big_of (by omega)
    cases h3 : decide ((xs.length : Int) ≥ a) <;> simp [h4, h]
  · cases h3 : decide ((xs.length : Int) ≥ a) <;> simp [h4]
theorem c26 (xs : List LineV) (a : Int) (b : Int) (k : List RV → R) (out : Out) (h : (match (decide (b ≤ 1099511627776) : Bool) with | true => k [.el (.sc (.bo (linesIn xs a b)))] | false => none) = some out) : ∃ rs, Real Try.prog 26 ∧ COK Try.prog 26 [.vw none ⟨.line, xs⟩, .el (.sc (.int .i64 a)), .el (.sc (.int .i64 b))] rs ∧ k rs = some out := by
  cases g0 : (decide (b ≤ 1099511627776) : Bool) with
  | true =>
    rw [g0] at h
    exact ⟨_, real Try.func26 (by kernel_rfl), fn_ok tok9 (A := none0) (L := noL) (r := none) Try.func26 (by kernel_rfl) (by kernel_rfl) (loops0 (by kernel_rfl)) (by rw [s26 _ _ _ g0]), h⟩
  | false =>
    rw [g0] at h
    cases h

def S10 : SFn := fun f args k => match f, args with
  | 26, [.vw none ⟨.line, xs⟩, .el (.sc (.int .i64 a)), .el (.sc (.int .i64 b))] => (match (decide (b ≤ 1099511627776) : Bool) with | true => k [.el (.sc (.bo (linesIn xs a b)))] | false => none)
  | _, _ => S9 f args k
abbrev M10 : MFn := M9
def T10 : TT := tab.T S10 muts M10
theorem tok10 : TOK Try.prog T10 := by
  refine (tab_ok tabok).tok (fun f args k out h => ?_) (fun f vec args k out h => ?_)
  · change S10 f args k = some out at h
    unfold S10 at h
    split at h
    · exact (fun k out h => cok_call (c26 _ _ _ k out h)) k out h
    · exact tok9.S f args k out h
  · exact tok9.M f vec args k out h

end Go.Sm.Ytpckpfbjhnllbaa
