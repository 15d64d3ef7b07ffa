/- What the functions hand back: level 6. -/
import Derived.Test.YtdeplgocckdbiaaD6
namespace Go.Sm.Ytdeplgocckdbiaa
open Go Go.Sm Go.RowKit Go.Proofs

/-! spec.LinesAt -/
theorem e153 (xs : List LineV) (x : Nat) : runFn T6 none0 noL Try.f153 [.vw none ⟨.line, xs⟩, .el (.sc (.fl .f32 x))] = (match (Nat.ble xs.length big : Bool) with
  | true => (match (!(linesOk xs) : Bool) with
    | true => some ⟨[.el (.sc (.fl .f32 0)), .el (.sc (.bo false))], none⟩
    | false => (match (!(fin x) : Bool) with
      | true => some ⟨[.el (.sc (.fl .f32 0)), .el (.sc (.bo false))], none⟩
      | false => (match (Nat.ble xs.length big : Bool) with
        | true => some ⟨[.el (.sc (.fl .f32 (numOf (linesSum xs x)))), .el (.sc (.bo (fin (linesSum xs x))))], none⟩
        | false => none)))
  | false => none) := by kernel_rfl
theorem s153 (xs : List LineV) (x : Nat) (hg : (Nat.ble xs.length big) = true) : runFn T6 none0 noL Try.f153 [.vw none ⟨.line, xs⟩, .el (.sc (.fl .f32 x))] = some ⟨[.el (.sc (.fl .f32 (orZero (linesAtOk xs x) (linesSum xs x)))), .el (.sc (.bo (linesAtOk xs x)))], none⟩ := by
  rw [e153]
  unfold linesAtOk
  rw [hg]
  cases h1 : linesOk xs with
  | false => simp [orZero]
  | true =>
    cases h2 : fin x with
    | false => simp [orZero]
    | true => cases h3 : fin (linesSum xs x) <;> simp [h3, orZero, numOf]
theorem c153 (xs : List LineV) (x : Nat) (k : List RV → R) (out : Out) (h : (match (Nat.ble xs.length big : Bool) with
  | true => k [.el (.sc (.fl .f32 (orZero (linesAtOk xs x) (linesSum xs x)))), .el (.sc (.bo (linesAtOk xs x)))]
  | false => none) = some out) : ∃ rs, Real Try.prog 153 ∧ COK Try.prog 153 [.vw none ⟨.line, xs⟩, .el (.sc (.fl .f32 x))] rs ∧ k rs = some out := by
  cases g0 : (Nat.ble xs.length big : Bool) with
  | true =>
    rw [g0] at h
    exact ⟨_, real Try.func153 (by kernel_rfl), fn_ok tok6 (A := none0) (L := noL) (r := none) Try.func153 (by kernel_rfl) (by kernel_rfl) (loops0 (by kernel_rfl)) (by rw [s153 _ _ g0]), h⟩
  | false =>
    rw [g0] at h
    cases h

/-! impl.areLines$1 -/
theorem s155 (lp : Nat) (lh : Nat) (lw : Nat) (lk : Int) : runFn T6 none0 noL Try.f155 [.el (.ag [(.fl .f32 lp), (.fl .f32 lh), (.fl .f32 lw), (.int .i64 lk)])] = some ⟨[.el (.sc (.bo (notLine ((⟨lp, lh, lw, lk⟩ : LineV)))))], none⟩ := by kernel_rfl
theorem c155 (lp : Nat) (lh : Nat) (lw : Nat) (lk : Int) (k : List RV → R) (out : Out) (h : k [.el (.sc (.bo (notLine ((⟨lp, lh, lw, lk⟩ : LineV)))))] = some out) : ∃ rs, Real Try.prog 155 ∧ COK Try.prog 155 [.el (.ag [(.fl .f32 lp), (.fl .f32 lh), (.fl .f32 lw), (.int .i64 lk)])] rs ∧ k rs = some out := by
  exact ⟨_, real Try.func155 (by kernel_rfl), fn_ok tok6 (A := none0) (L := noL) (r := none) Try.func155 (by kernel_rfl) (by kernel_rfl) (loops0 (by kernel_rfl)) (by rw [s155]), h⟩

/-! impl.LineAt -/
theorem e158 (lp : Nat) (lh : Nat) (lw : Nat) (lk : Int) (x : Nat) : runFn T6 none0 noL Try.f158 [.el (.ag [(.fl .f32 lp), (.fl .f32 lh), (.fl .f32 lw), (.int .i64 lk)]), .el (.sc (.fl .f32 x))] = (match (!(okLine ((⟨lp, lh, lw, lk⟩ : LineV))) : Bool) with
  | true => some ⟨[.el (.sc (.fl .f32 0)), .el (.sc (.bo false))], none⟩
  | false => (match (!(fin x) : Bool) with
    | true => some ⟨[.el (.sc (.fl .f32 0)), .el (.sc (.bo false))], none⟩
    | false => some ⟨[.el (.sc (.fl .f32 (numOf (lineV ((⟨lp, lh, lw, lk⟩ : LineV)) x)))), .el (.sc (.bo (fin (lineV ((⟨lp, lh, lw, lk⟩ : LineV)) x))))], none⟩)) := by kernel_rfl
theorem s158 (lp : Nat) (lh : Nat) (lw : Nat) (lk : Int) (x : Nat) : runFn T6 none0 noL Try.f158 [.el (.ag [(.fl .f32 lp), (.fl .f32 lh), (.fl .f32 lw), (.int .i64 lk)]), .el (.sc (.fl .f32 x))] = some ⟨[.el (.sc (.fl .f32 (orZero (lineOk ((⟨lp, lh, lw, lk⟩ : LineV)) x) (lineV ((⟨lp, lh, lw, lk⟩ : LineV)) x)))), .el (.sc (.bo (lineOk ((⟨lp, lh, lw, lk⟩ : LineV)) x)))], none⟩ := by
  rw [e158]
  unfold lineOk orZero numOf
  cases okLine (⟨lp, lh, lw, lk⟩ : LineV) <;> cases fin x <;> cases fin (lineV (⟨lp, lh, lw, lk⟩ : LineV) x) <;> rfl
theorem c158 (lp : Nat) (lh : Nat) (lw : Nat) (lk : Int) (x : Nat) (k : List RV → R) (out : Out) (h : k [.el (.sc (.fl .f32 (orZero (lineOk ((⟨lp, lh, lw, lk⟩ : LineV)) x) (lineV ((⟨lp, lh, lw, lk⟩ : LineV)) x)))), .el (.sc (.bo (lineOk ((⟨lp, lh, lw, lk⟩ : LineV)) x)))] = some out) : ∃ rs, Real Try.prog 158 ∧ COK Try.prog 158 [.el (.ag [(.fl .f32 lp), (.fl .f32 lh), (.fl .f32 lw), (.int .i64 lk)]), .el (.sc (.fl .f32 x))] rs ∧ k rs = some out := by
  exact ⟨_, real Try.func158 (by kernel_rfl), fn_ok tok6 (A := none0) (L := noL) (r := none) Try.func158 (by kernel_rfl) (by kernel_rfl) (loops0 (by kernel_rfl)) (by rw [s158]), h⟩

def S7 : SFn := fun f args k => match f, args with
  | 153, [.vw none ⟨.line, xs⟩, .el (.sc (.fl .f32 x))] => (match (Nat.ble xs.length big : Bool) with
    | true => k [.el (.sc (.fl .f32 (orZero (linesAtOk xs x) (linesSum xs x)))), .el (.sc (.bo (linesAtOk xs x)))]
    | false => none)
  | 155, [.el (.ag [(.fl .f32 lp), (.fl .f32 lh), (.fl .f32 lw), (.int .i64 lk)])] => k [.el (.sc (.bo (notLine ((⟨lp, lh, lw, lk⟩ : LineV)))))]
  | 158, [.el (.ag [(.fl .f32 lp), (.fl .f32 lh), (.fl .f32 lw), (.int .i64 lk)]), .el (.sc (.fl .f32 x))] => k [.el (.sc (.fl .f32 (orZero (lineOk ((⟨lp, lh, lw, lk⟩ : LineV)) x) (lineV ((⟨lp, lh, lw, lk⟩ : LineV)) x)))), .el (.sc (.bo (lineOk ((⟨lp, lh, lw, lk⟩ : LineV)) x)))]
  | _, _ => S6 f args k
abbrev M7 : MFn := M6
def T7 : TT := tab.T S7 muts M7
theorem tok7 : TOK Try.prog T7 := by
  refine (tab_ok tabok).tok (fun f args k out h => ?_) (fun f vec args k out h => ?_)
  · change S7 f args k = some out at h
    unfold S7 at h
    split at h
    · exact (fun k out h => cok_call (c153 _ _ k out h)) k out h
    · exact (fun k out h => cok_call (c155 _ _ _ _ k out h)) k out h
    · exact (fun k out h => cok_call (c158 _ _ _ _ _ k out h)) k out h
    · exact tok6.S f args k out h
  · exact tok6.M f vec args k out h

end Go.Sm.Ytdeplgocckdbiaa
