/- What the functions hand back: level 6. -/
import Derived.Test.YtpckpfbjhnllbaaD6
namespace Go.Sm.Ytpckpfbjhnllbaa
open Go Go.Sm Go.RowKit Go.Proofs

/-! impl.areLines$1 -/
theorem s47 (lp : Nat) (lh : Nat) (lw : Nat) (lk : Int) : runFn T6 none0 noL Try.f47 [.el (.ag [(.fl .f32 lp), (.fl .f32 lh), (.fl .f32 lw), (.int .i64 lk)])] = some ⟨[.el (.sc (.bo (notLine ((⟨lp, lh, lw, lk⟩ : LineV)))))], none⟩ := by kernel_rfl
theorem c47 (lp : Nat) (lh : Nat) (lw : Nat) (lk : Int) (k : List RV → R) (out : Out) (h : k [.el (.sc (.bo (notLine ((⟨lp, lh, lw, lk⟩ : LineV)))))] = some out) : ∃ rs, Real Try.prog 47 ∧ COK Try.prog 47 [.el (.ag [(.fl .f32 lp), (.fl .f32 lh), (.fl .f32 lw), (.int .i64 lk)])] rs ∧ k rs = some out := by
  exact ⟨_, real Try.func47 (by kernel_rfl), fn_ok tok6 (A := none0) (L := noL) (r := none) Try.func47 (by kernel_rfl) (by kernel_rfl) (loops0 (by kernel_rfl)) (by rw [s47]), h⟩

/-! spec.LinesAt -/
theorem e51 (xs : List LineV) (x : Nat) : runFn T6 none0 noL Try.f51 [.vw none ⟨.line, xs⟩, .el (.sc (.fl .f32 x))] = (match (Nat.ble xs.length big : Bool) with | true => (match (!(linesOk xs) : Bool) with | true => some ⟨[.el (.sc (.fl .f32 0)), .el (.sc (.bo false))], none⟩ | false => (match (!(fin x) : Bool) with | true => some ⟨[.el (.sc (.fl .f32 0)), .el (.sc (.bo false))], none⟩ | false => (match (Nat.ble xs.length big : Bool) with | true => some ⟨[.el (.sc (.fl .f32 (numOf (linesSum xs x)))), .el (.sc (.bo (fin (linesSum xs x))))], none⟩ | false => none))) | false => none) := by kernel_rfl
theorem s51 (xs : List LineV) (x : Nat) (hg : (Nat.ble xs.length big) = true) : runFn T6 none0 noL Try.f51 [.vw none ⟨.line, xs⟩, .el (.sc (.fl .f32 x))] = some ⟨[.el (.sc (.fl .f32 (orZero (linesAtOk xs x) (linesSum xs x)))), .el (.sc (.bo (linesAtOk xs x)))], none⟩ := by
  rw [e51]
  unfold linesAtOk
  rw [hg]
  cases h1 : linesOk xs with
  | false => simp [orZero]
  | true =>
    cases h2 : fin x with
    | false => simp [orZero]
    | true => cases h3 : fin (linesSum xs x) <;> simp [h3, orZero, numOf]
theorem c51 (xs : List LineV) (x : Nat) (k : List RV → R) (out : Out) (h : (match (Nat.ble xs.length big : Bool) with | true => k [.el (.sc (.fl .f32 (orZero (linesAtOk xs x) (linesSum xs x)))), .el (.sc (.bo (linesAtOk xs x)))] | false => none) = some out) : ∃ rs, Real Try.prog 51 ∧ COK Try.prog 51 [.vw none ⟨.line, xs⟩, .el (.sc (.fl .f32 x))] rs ∧ k rs = some out := by
  cases g0 : (Nat.ble xs.length big : Bool) with
  | true =>
    rw [g0] at h
    exact ⟨_, real Try.func51 (by kernel_rfl), fn_ok tok6 (A := none0) (L := noL) (r := none) Try.func51 (by kernel_rfl) (by kernel_rfl) (loops0 (by kernel_rfl)) (by rw [s51 _ _ g0]), h⟩
  | false =>
    rw [g0] at h
    cases h

/-! impl.LineAt -/
theorem e60 (lp : Nat) (lh : Nat) (lw : Nat) (lk : Int) (x : Nat) : runFn T6 none0 noL Try.f60 [.el (.ag [(.fl .f32 lp), (.fl .f32 lh), (.fl .f32 lw), (.int .i64 lk)]), .el (.sc (.fl .f32 x))] = (match (!(okLine ((⟨lp, lh, lw, lk⟩ : LineV))) : Bool) with | true => some ⟨[.el (.sc (.fl .f32 0)), .el (.sc (.bo false))], none⟩ | false => (match (!(fin x) : Bool) with | true => some ⟨[.el (.sc (.fl .f32 0)), .el (.sc (.bo false))], none⟩ | false => some ⟨[.el (.sc (.fl .f32 (numOf (lineV ((⟨lp, lh, lw, lk⟩ : LineV)) x)))), .el (.sc (.bo (fin (lineV ((⟨lp, lh, lw, lk⟩ : LineV)) x))))], none⟩)) := by kernel_rfl
theorem s60 (lp : Nat) (lh : Nat) (lw : Nat) (lk : Int) (x : Nat) : runFn T6 none0 noL Try.f60 [.el (.ag [(.fl .f32 lp), (.fl .f32 lh), (.fl .f32 lw), (.int .i64 lk)]), .el (.sc (.fl .f32 x))] = some ⟨[.el (.sc (.fl .f32 (orZero (lineOk ((⟨lp, lh, lw, lk⟩ : LineV)) x) (lineV ((⟨lp, lh, lw, lk⟩ : LineV)) x)))), .el (.sc (.bo (lineOk ((⟨lp, lh, lw, lk⟩ : LineV)) x)))], none⟩ := by
  rw [e60]
  unfold lineOk orZero numOf
  cases okLine (⟨lp, lh, lw, lk⟩ : LineV) <;> cases fin x <;> cases fin (lineV (⟨lp, lh, lw, lk⟩ : LineV) x) <;> rfl
theorem c60 (lp : Nat) (lh : Nat) (lw : Nat) (lk : Int) (x : Nat) (k : List RV → R) (out : Out) (h : k [.el (.sc (.fl .f32 (orZero (lineOk ((⟨lp, lh, lw, lk⟩ : LineV)) x) (lineV ((⟨lp, lh, lw, lk⟩ : LineV)) x)))), .el (.sc (.bo (lineOk ((⟨lp, lh, lw, lk⟩ : LineV)) x)))] = some out) : ∃ rs, Real Try.prog 60 ∧ COK Try.prog 60 [.el (.ag [(.fl .f32 lp), (.fl .f32 lh), (.fl .f32 lw), (.int .i64 lk)]), .el (.sc (.fl .f32 x))] rs ∧ k rs = some out := by
  exact ⟨_, real Try.func60 (by kernel_rfl), fn_ok tok6 (A := none0) (L := noL) (r := none) Try.func60 (by kernel_rfl) (by kernel_rfl) (loops0 (by kernel_rfl)) (by rw [s60]), h⟩

def S7 : SFn := fun f args k => match f, args with
  | 47, [.el (.ag [(.fl .f32 lp), (.fl .f32 lh), (.fl .f32 lw), (.int .i64 lk)])] => k [.el (.sc (.bo (notLine ((⟨lp, lh, lw, lk⟩ : LineV)))))]
  | 51, [.vw none ⟨.line, xs⟩, .el (.sc (.fl .f32 x))] => (match (Nat.ble xs.length big : Bool) with | true => k [.el (.sc (.fl .f32 (orZero (linesAtOk xs x) (linesSum xs x)))), .el (.sc (.bo (linesAtOk xs x)))] | false => none)
  | 60, [.el (.ag [(.fl .f32 lp), (.fl .f32 lh), (.fl .f32 lw), (.int .i64 lk)]), .el (.sc (.fl .f32 x))] => k [.el (.sc (.fl .f32 (orZero (lineOk ((⟨lp, lh, lw, lk⟩ : LineV)) x) (lineV ((⟨lp, lh, lw, lk⟩ : LineV)) x)))), .el (.sc (.bo (lineOk ((⟨lp, lh, lw, lk⟩ : LineV)) x)))]
  | _, _ => S6 f args k
abbrev M7 : MFn := M6
def T7 : TT := tab.T S7 muts M7
theorem tok7 : TOK Try.prog T7 := by
  refine (tab_ok tabok).tok (fun f args k out h => ?_) (fun f vec args k out h => ?_)
  · change S7 f args k = some out at h
    unfold S7 at h
    split at h
    · exact (fun k out h => cok_call (c47 _ _ _ _ k out h)) k out h
    · exact (fun k out h => cok_call (c51 _ _ k out h)) k out h
    · exact (fun k out h => cok_call (c60 _ _ _ _ _ k out h)) k out h
    · exact tok6.S f args k out h
  · exact tok6.M f vec args k out h

end Go.Sm.Ytpckpfbjhnllbaa
