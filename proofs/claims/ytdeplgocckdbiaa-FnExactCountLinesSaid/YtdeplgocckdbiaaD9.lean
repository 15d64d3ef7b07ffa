/- What the functions hand back: level 8. -/
import Derived.Test.YtdeplgocckdbiaaD8
namespace Go.Sm.Ytdeplgocckdbiaa
open Go Go.Sm Go.RowKit Go.Proofs

/-! spec.RestOf -/
theorem e27 (xs : List LineV) (ys : List Nat) (b : Nat) (d : Nat) : runFn T8 none0 noL Try.f27 [.vw none ⟨.line, xs⟩, .vw none ⟨.f32, ys⟩, .el (.sc (.fl .f32 b)), .el (.sc (.fl .f32 d))] = (match (Nat.ble xs.length big && Nat.ble ys.length big : Bool) with
  | true => (match (!(linesOk xs && (listOk ys 1 && (fin b && fin d))) : Bool) with
    | true => some ⟨[.el (.sc (.fl .f32 0)), .el (.sc (.bo false))], none⟩
    | false => (match (Nat.ble xs.length big && Nat.ble ys.length big : Bool) with
      | true => (match (spAll xs b d ys.length : Bool) with
        | true => (match (!(fin (restSum xs ys b d)) : Bool) with
          | true => some ⟨[.el (.sc (.fl .f32 0)), .el (.sc (.bo false))], none⟩
          | false => some ⟨[.el (.sc (.fl .f32 (restSum xs ys b d))), .el (.sc (.bo true))], none⟩)
        | false => some ⟨[.el (.sc (.fl .f32 0)), .el (.sc (.bo false))], none⟩)
      | false => none))
  | false => none) := by kernel_rfl
theorem s27 (xs : List LineV) (ys : List Nat) (b : Nat) (d : Nat) (hg : (Nat.ble xs.length big && Nat.ble ys.length big) = true) : runFn T8 none0 noL Try.f27 [.vw none ⟨.line, xs⟩, .vw none ⟨.f32, ys⟩, .el (.sc (.fl .f32 b)), .el (.sc (.fl .f32 d))] = some ⟨[.el (.sc (.fl .f32 (orZero (restOk xs ys b d) (restSum xs ys b d)))), .el (.sc (.bo (restOk xs ys b d)))], none⟩ := by
  rw [e27]
  have hg2 := hg
  rw [Bool.and_eq_true] at hg2
  simp only [hg2.1, hg2.2]
  unfold restOk
  cases linesOk xs <;> cases listOk ys 1 <;> cases fin b <;> cases fin d <;> cases spAll xs b d ys.length <;> simp [orZero]
  all_goals cases fin (restSum xs ys b d) <;> simp
theorem c27 (xs : List LineV) (ys : List Nat) (b : Nat) (d : Nat) (k : List RV → R) (out : Out) (h : (match (Nat.ble xs.length big && Nat.ble ys.length big : Bool) with
  | true => k [.el (.sc (.fl .f32 (orZero (restOk xs ys b d) (restSum xs ys b d)))), .el (.sc (.bo (restOk xs ys b d)))]
  | false => none) = some out) : ∃ rs, Real Try.prog 27 ∧ COK Try.prog 27 [.vw none ⟨.line, xs⟩, .vw none ⟨.f32, ys⟩, .el (.sc (.fl .f32 b)), .el (.sc (.fl .f32 d))] rs ∧ k rs = some out := by
  cases g0 : (Nat.ble xs.length big && Nat.ble ys.length big : Bool) with
  | true =>
    rw [g0] at h
    exact ⟨_, real Try.func27 (by kernel_rfl), fn_ok tok8 (A := none0) (L := noL) (r := none) Try.func27 (by kernel_rfl) (by kernel_rfl) (loops0 (by kernel_rfl)) (by rw [s27 _ _ _ _ g0]), h⟩
  | false =>
    rw [g0] at h
    cases h

/-! slices.ContainsFunc[[]impl.Line,impl.Line] -/
theorem e154 (xs : List LineV) : runFn T8 none0 noL Try.f154 [.vw none ⟨.line, xs⟩, .fn 155 []] = (match (Nat.ble xs.length big : Bool) with
  | true => some ⟨[.el (.sc (.bo (decide ((firstAt notLine xs : Int) ≥ 0))))], none⟩
  | false => none) := by kernel_rfl
theorem s154 (xs : List LineV) : runFn T8 none0 noL Try.f154 [.vw none ⟨.line, xs⟩, .fn 155 []] = (match (Nat.ble xs.length big : Bool) with
  | true => some ⟨[.el (.sc (.bo (xs.any notLine)))], none⟩
  | false => none) := by
  rw [e154]
  rw [any_firstAt]
theorem c154 (xs : List LineV) (k : List RV → R) (out : Out) (h : (match (Nat.ble xs.length big : Bool) with
  | true => k [.el (.sc (.bo (xs.any notLine)))]
  | false => none) = some out) : ∃ rs, Real Try.prog 154 ∧ COK Try.prog 154 [.vw none ⟨.line, xs⟩, .fn 155 []] rs ∧ k rs = some out := by
  cases g0 : (Nat.ble xs.length big : Bool) with
  | true =>
    rw [g0] at h
    exact ⟨_, real Try.func154 (by kernel_rfl), fn_ok tok8 (A := none0) (L := noL) (r := none) Try.func154 (by kernel_rfl) (by kernel_rfl) (loops0 (by kernel_rfl)) (by rw [s154, g0]), h⟩
  | false =>
    rw [g0] at h
    cases h

def S9 : SFn := fun f args k => match f, args with
  | 27, [.vw none ⟨.line, xs⟩, .vw none ⟨.f32, ys⟩, .el (.sc (.fl .f32 b)), .el (.sc (.fl .f32 d))] => (match (Nat.ble xs.length big && Nat.ble ys.length big : Bool) with
    | true => k [.el (.sc (.fl .f32 (orZero (restOk xs ys b d) (restSum xs ys b d)))), .el (.sc (.bo (restOk xs ys b d)))]
    | false => none)
  | 154, [.vw none ⟨.line, xs⟩, .fn 155 []] => (match (Nat.ble xs.length big : Bool) with
    | true => k [.el (.sc (.bo (xs.any notLine)))]
    | false => none)
  | _, _ => S8 f args k
abbrev M9 : MFn := M8
def T9 : TT := tab.T S9 muts M9
theorem tok9 : TOK Try.prog T9 := by
  refine (tab_ok tabok).tok (fun f args k out h => ?_) (fun f vec args k out h => ?_)
  · change S9 f args k = some out at h
    unfold S9 at h
    split at h
    · exact (fun k out h => cok_call (c27 _ _ _ _ k out h)) k out h
    · exact (fun k out h => cok_call (c154 _ k out h)) k out h
    · exact tok8.S f args k out h
  · exact tok8.M f vec args k out h

end Go.Sm.Ytdeplgocckdbiaa
