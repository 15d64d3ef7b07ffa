/- What the functions hand back: level 6. -/
import Derived.Test.YtlkphfpkohabeaaD6
namespace Go.Sm.Ytlkphfpkohabeaa
open Go Go.Sm Go.RowKit Go.Proofs

/-! impl.LineAt -/
theorem e35 (lp : Nat) (lh : Nat) (lw : Nat) (lk : Int) (x : Nat) : runFn T6 none0 noL Try.f35 [.el (.ag [(.fl .f32 lp), (.fl .f32 lh), (.fl .f32 lw), (.int .i64 lk)]), .el (.sc (.fl .f32 x))] = (match (!(okLine ((⟨lp, lh, lw, lk⟩ : LineV))) : Bool) with
  | true => some ⟨[.el (.sc (.fl .f32 0)), .el (.sc (.bo false))], none⟩
  | false => (match (!(fin x) : Bool) with
    | true => some ⟨[.el (.sc (.fl .f32 0)), .el (.sc (.bo false))], none⟩
    | false => some ⟨[.el (.sc (.fl .f32 (numOf (lineV ((⟨lp, lh, lw, lk⟩ : LineV)) x)))), .el (.sc (.bo (fin (lineV ((⟨lp, lh, lw, lk⟩ : LineV)) x))))], none⟩)) := by kernel_rfl
theorem s35 (lp : Nat) (lh : Nat) (lw : Nat) (lk : Int) (x : Nat) : runFn T6 none0 noL Try.f35 [.el (.ag [(.fl .f32 lp), (.fl .f32 lh), (.fl .f32 lw), (.int .i64 lk)]), .el (.sc (.fl .f32 x))] = some ⟨[.el (.sc (.fl .f32 (orZero (lineOk ((⟨lp, lh, lw, lk⟩ : LineV)) x) (lineV ((⟨lp, lh, lw, lk⟩ : LineV)) x)))), .el (.sc (.bo (lineOk ((⟨lp, lh, lw, lk⟩ : LineV)) x)))], none⟩ := by
  rw [e35]
  unfold lineOk orZero numOf
  cases okLine (⟨lp, lh, lw, lk⟩ : LineV) <;> cases fin x <;> cases fin (lineV (⟨lp, lh, lw, lk⟩ : LineV) x) <;> rfl
theorem c35 (lp : Nat) (lh : Nat) (lw : Nat) (lk : Int) (x : Nat) (k : List RV → R) (out : Out) (h : k [.el (.sc (.fl .f32 (orZero (lineOk ((⟨lp, lh, lw, lk⟩ : LineV)) x) (lineV ((⟨lp, lh, lw, lk⟩ : LineV)) x)))), .el (.sc (.bo (lineOk ((⟨lp, lh, lw, lk⟩ : LineV)) x)))] = some out) : ∃ rs, Real Try.prog 35 ∧ COK Try.prog 35 [.el (.ag [(.fl .f32 lp), (.fl .f32 lh), (.fl .f32 lw), (.int .i64 lk)]), .el (.sc (.fl .f32 x))] rs ∧ k rs = some out := by
  exact ⟨_, real Try.func35 (by kernel_rfl), fn_ok tok6 (A := none0) (L := noL) (r := none) Try.func35 (by kernel_rfl) (by kernel_rfl) (loops0 (by kernel_rfl)) (by rw [s35]), h⟩

/-! impl.NoiseRatio -/
theorem e38 (xs : List Nat) (a : Int) (b : Int) : runFn T6 none0 noL Try.f38 [.vw none ⟨.f32, xs⟩, .el (.sc (.int .i64 a)), .el (.sc (.int .i64 b))] = (match (!(bins xs 1) : Bool) with
  | true => some ⟨[.el (.sc (.fl .f32 0)), .el (.sc (.bo false))], none⟩
  | false => (match (Nat.ble xs.length big : Bool) with
    | true => (match (!(xs.all atLeast0) : Bool) with
      | true => some ⟨[.el (.sc (.fl .f32 0)), .el (.sc (.bo false))], none⟩
      | false => (match (decide ((a : Int) < 0) : Bool) with
        | true => some ⟨[.el (.sc (.fl .f32 0)), .el (.sc (.bo false))], none⟩
        | false => (match (decide ((a : Int) ≥ b) : Bool) with
          | true => some ⟨[.el (.sc (.fl .f32 0)), .el (.sc (.bo false))], none⟩
          | false => (match (decide ((b : Int) > (xs.length : Int)) : Bool) with
            | true => some ⟨[.el (.sc (.fl .f32 0)), .el (.sc (.bo false))], none⟩
            | false => (match (decide (0 ≤ (a : Int) ∧ (a : Int) ≤ b ∧ (b : Int) ≤ (xs.length : Int)) && true : Bool) with
              | true => (match (Nat.ble (((xs).drop (Int.toNat a)).take (Int.toNat b - Int.toNat a)).length big : Bool) with
                | true => (match (!(fcmp .gtr .f32 (sumF (((xs).drop (Int.toNat a)).take (Int.toNat b - Int.toNat a))) 0) : Bool) with
                  | true => some ⟨[.el (.sc (.fl .f32 0)), .el (.sc (.bo false))], none⟩
                  | false => some ⟨[.el (.sc (.fl .f32 (numOf (fop .quo .f32 (sumF (((xs).drop (Int.toNat a)).take (Int.toNat b - Int.toNat a))) (rootF (sumF (((xs).drop (Int.toNat a)).take (Int.toNat b - Int.toNat a)))))))), .el (.sc (.bo (fin (fop .quo .f32 (sumF (((xs).drop (Int.toNat a)).take (Int.toNat b - Int.toNat a))) (rootF (sumF (((xs).drop (Int.toNat a)).take (Int.toNat b - Int.toNat a))))))))], none⟩)
                | false => none)
              | false => none)))))
    | false => none)) := by kernel_rfl
theorem s38 (xs : List Nat) (a : Int) (b : Int) : runFn T6 none0 noL Try.f38 [.vw none ⟨.f32, xs⟩, .el (.sc (.int .i64 a)), .el (.sc (.int .i64 b))] = some ⟨[.el (.sc (.fl .f32 (orZero (noiseOk xs a b) (noiseX xs a b)))), .el (.sc (.bo (noiseOk xs a b)))], none⟩ := by
  rw [e38]
  unfold noiseOk
  cases hb : bins xs 1 with
  | false => simp [orZero]
  | true =>
    have hb2 := hb
    unfold bins at hb2
    simp only [Bool.and_eq_true, decide_eq_true_eq] at hb2
    have hx : Nat.ble xs.length big = true := big_of (by omega)
    cases hr : xs.all atLeast0 with
    | false => simp [hx, hr, orZero]
    | true =>
      by_cases h1 : 0 ≤ a ∧ a < b ∧ b ≤ (xs.length : Int)
      · have i1 : ¬ a < 0 := by omega
        have i2 : ¬ a ≥ b := by omega
        have i3 : ¬ b > (xs.length : Int) := by omega
        have g1 : 0 ≤ a ∧ a ≤ b ∧ b ≤ (xs.length : Int) := by omega
        simp only [hx, hr, i1, i2, i3, h1, g1, and_self, decide_true, decide_false, Bool.not_true, Bool.and_true, Bool.true_and, Bool.or_self]
        have hs : Nat.ble (slice xs a b).length big = true := big_of (by unfold slice; rw [List.length_take]; rw [List.length_drop]; omega)
        have hsl : (List.drop a.toNat xs).take (b.toNat - a.toNat) = slice xs a b := rfl
        rw [hsl]
        simp only [hs]
        unfold noiseX
        generalize hS : sumF (slice xs a b) = S
        unfold above orZero numOf
        cases h2 : fcmp .gtr .f32 S 0 with
        | false => simp
        | true =>
          cases h3 : fin S with
          | true => cases h4 : fin (fop .quo .f32 S (rootF S)) <;> simp [h4]
          | false => simp [inf_noise h2 h3]
      · have : (decide (a < 0) || (decide (a ≥ b) || decide (b > (xs.length : Int)))) = true := by simp; omega
        cases c1 : decide (a < 0) <;> cases c2 : decide (a ≥ b) <;> cases c3 : decide (b > (xs.length : Int)) <;> simp [c1, c2, c3] at this <;> simp [hx, hr, h1, c2, c3, orZero]
theorem c38 (xs : List Nat) (a : Int) (b : Int) (k : List RV → R) (out : Out) (h : k [.el (.sc (.fl .f32 (orZero (noiseOk xs a b) (noiseX xs a b)))), .el (.sc (.bo (noiseOk xs a b)))] = some out) : ∃ rs, Real Try.prog 38 ∧ COK Try.prog 38 [.vw none ⟨.f32, xs⟩, .el (.sc (.int .i64 a)), .el (.sc (.int .i64 b))] rs ∧ k rs = some out := by
  exact ⟨_, real Try.func38 (by kernel_rfl), fn_ok tok6 (A := none0) (L := noL) (r := none) Try.func38 (by kernel_rfl) (by kernel_rfl) (loops0 (by kernel_rfl)) (by rw [s38]), h⟩

/-! spec.LinesAt -/
theorem e53 (xs : List LineV) (x : Nat) : runFn T6 none0 noL Try.f53 [.vw none ⟨.line, xs⟩, .el (.sc (.fl .f32 x))] = (match (Nat.ble xs.length big : Bool) with
  | true => (match (!(linesOk xs) : Bool) with
    | true => some ⟨[.el (.sc (.fl .f32 0)), .el (.sc (.bo false))], none⟩
    | false => (match (!(fin x) : Bool) with
      | true => some ⟨[.el (.sc (.fl .f32 0)), .el (.sc (.bo false))], none⟩
      | false => (match (Nat.ble xs.length big : Bool) with
        | true => some ⟨[.el (.sc (.fl .f32 (numOf (linesSum xs x)))), .el (.sc (.bo (fin (linesSum xs x))))], none⟩
        | false => none)))
  | false => none) := by kernel_rfl
theorem s53 (xs : List LineV) (x : Nat) (hg : (Nat.ble xs.length big) = true) : runFn T6 none0 noL Try.f53 [.vw none ⟨.line, xs⟩, .el (.sc (.fl .f32 x))] = some ⟨[.el (.sc (.fl .f32 (orZero (linesAtOk xs x) (linesSum xs x)))), .el (.sc (.bo (linesAtOk xs x)))], none⟩ := by
  rw [e53]
  unfold linesAtOk
  rw [hg]
  cases h1 : linesOk xs with
  | false => simp [orZero]
  | true =>
    cases h2 : fin x with
    | false => simp [orZero]
    | true => cases h3 : fin (linesSum xs x) <;> simp [h3, orZero, numOf]
theorem c53 (xs : List LineV) (x : Nat) (k : List RV → R) (out : Out) (h : (match (Nat.ble xs.length big : Bool) with
  | true => k [.el (.sc (.fl .f32 (orZero (linesAtOk xs x) (linesSum xs x)))), .el (.sc (.bo (linesAtOk xs x)))]
  | false => none) = some out) : ∃ rs, Real Try.prog 53 ∧ COK Try.prog 53 [.vw none ⟨.line, xs⟩, .el (.sc (.fl .f32 x))] rs ∧ k rs = some out := by
  cases g0 : (Nat.ble xs.length big : Bool) with
  | true =>
    rw [g0] at h
    exact ⟨_, real Try.func53 (by kernel_rfl), fn_ok tok6 (A := none0) (L := noL) (r := none) Try.func53 (by kernel_rfl) (by kernel_rfl) (loops0 (by kernel_rfl)) (by rw [s53 _ _ g0]), h⟩
  | false =>
    rw [g0] at h
    cases h

/-! impl.areLines$1 -/
theorem s112 (lp : Nat) (lh : Nat) (lw : Nat) (lk : Int) : runFn T6 none0 noL Try.f112 [.el (.ag [(.fl .f32 lp), (.fl .f32 lh), (.fl .f32 lw), (.int .i64 lk)])] = some ⟨[.el (.sc (.bo (notLine ((⟨lp, lh, lw, lk⟩ : LineV)))))], none⟩ := by kernel_rfl
theorem c112 (lp : Nat) (lh : Nat) (lw : Nat) (lk : Int) (k : List RV → R) (out : Out) (h : k [.el (.sc (.bo (notLine ((⟨lp, lh, lw, lk⟩ : LineV)))))] = some out) : ∃ rs, Real Try.prog 112 ∧ COK Try.prog 112 [.el (.ag [(.fl .f32 lp), (.fl .f32 lh), (.fl .f32 lw), (.int .i64 lk)])] rs ∧ k rs = some out := by
  exact ⟨_, real Try.func112 (by kernel_rfl), fn_ok tok6 (A := none0) (L := noL) (r := none) Try.func112 (by kernel_rfl) (by kernel_rfl) (loops0 (by kernel_rfl)) (by rw [s112]), h⟩

def S7 : SFn := fun f args k => match f, args with
  | 35, [.el (.ag [(.fl .f32 lp), (.fl .f32 lh), (.fl .f32 lw), (.int .i64 lk)]), .el (.sc (.fl .f32 x))] => k [.el (.sc (.fl .f32 (orZero (lineOk ((⟨lp, lh, lw, lk⟩ : LineV)) x) (lineV ((⟨lp, lh, lw, lk⟩ : LineV)) x)))), .el (.sc (.bo (lineOk ((⟨lp, lh, lw, lk⟩ : LineV)) x)))]
  | 38, [.vw none ⟨.f32, xs⟩, .el (.sc (.int .i64 a)), .el (.sc (.int .i64 b))] => k [.el (.sc (.fl .f32 (orZero (noiseOk xs a b) (noiseX xs a b)))), .el (.sc (.bo (noiseOk xs a b)))]
  | 53, [.vw none ⟨.line, xs⟩, .el (.sc (.fl .f32 x))] => (match (Nat.ble xs.length big : Bool) with
    | true => k [.el (.sc (.fl .f32 (orZero (linesAtOk xs x) (linesSum xs x)))), .el (.sc (.bo (linesAtOk xs x)))]
    | false => none)
  | 112, [.el (.ag [(.fl .f32 lp), (.fl .f32 lh), (.fl .f32 lw), (.int .i64 lk)])] => k [.el (.sc (.bo (notLine ((⟨lp, lh, lw, lk⟩ : LineV)))))]
  | _, _ => S6 f args k
abbrev M7 : MFn := M6
def T7 : TT := tab.T S7 muts M7
theorem tok7 : TOK Try.prog T7 := by
  refine (tab_ok tabok).tok (fun f args k out h => ?_) (fun f vec args k out h => ?_)
  · change S7 f args k = some out at h
    unfold S7 at h
    split at h
    · exact (fun k out h => cok_call (c35 _ _ _ _ _ k out h)) k out h
    · exact (fun k out h => cok_call (c38 _ _ _ k out h)) k out h
    · exact (fun k out h => cok_call (c53 _ _ k out h)) k out h
    · exact (fun k out h => cok_call (c112 _ _ _ _ k out h)) k out h
    · exact tok6.S f args k out h
  · exact tok6.M f vec args k out h

end Go.Sm.Ytlkphfpkohabeaa
