/- What the functions hand back: level 0. -/
import Derived.Test.YtpnkcjlapkhclaaD0
namespace Go.Sm.Ytpnkcjlapkhclaa
open Go Go.Sm Go.RowKit Go.Proofs

/-! laws.toLine -/
theorem s15 (lp : Nat) (lh : Nat) (lw : Nat) (lk : Int) : runFn T0 none0 noL Try.f15 [.el (.ag [(.fl .f32 lp), (.fl .f32 lh), (.fl .f32 lw), (.int .i64 lk)])] = some ⟨[.el (.ag [(.fl .f32 (((⟨lp, lh, lw, lk⟩ : LineV)).p)), (.fl .f32 (((⟨lp, lh, lw, lk⟩ : LineV)).h)), (.fl .f32 (((⟨lp, lh, lw, lk⟩ : LineV)).w)), (.int .i64 (((⟨lp, lh, lw, lk⟩ : LineV)).k))])], none⟩ := by kernel_rfl
theorem c15 (lp : Nat) (lh : Nat) (lw : Nat) (lk : Int) (k : List RV → R) (out : Out) (h : k [.el (.ag [(.fl .f32 (((⟨lp, lh, lw, lk⟩ : LineV)).p)), (.fl .f32 (((⟨lp, lh, lw, lk⟩ : LineV)).h)), (.fl .f32 (((⟨lp, lh, lw, lk⟩ : LineV)).w)), (.int .i64 (((⟨lp, lh, lw, lk⟩ : LineV)).k))])] = some out) : ∃ rs, Real Try.prog 15 ∧ COK Try.prog 15 [.el (.ag [(.fl .f32 lp), (.fl .f32 lh), (.fl .f32 lw), (.int .i64 lk)])] rs ∧ k rs = some out := by
  exact ⟨_, real Try.func15 (by kernel_rfl), fn_ok tok0 (A := none0) (L := noL) (r := none) Try.func15 (by kernel_rfl) (by kernel_rfl) (loops0 (by kernel_rfl)) (by rw [s15]), h⟩

/-! laws.sameFloat -/
theorem e19 (a : Nat) (b : Nat) : runFn T0 none0 noL Try.f19 [.el (.sc (.fl .f64 a)), .el (.sc (.fl .f64 b))] = (match (fcmp .neq .f64 a a : Bool) with
  | true => (match (fcmp .neq .f64 a a : Bool) with
    | true => some ⟨[.el (.sc (.bo (fcmp .neq .f64 b b)))], none⟩
    | false => some ⟨[.el (.sc (.bo false))], none⟩)
  | false => (match (fcmp .neq .f64 b b : Bool) with
    | true => (match (fcmp .neq .f64 a a : Bool) with
      | true => some ⟨[.el (.sc (.bo (fcmp .neq .f64 b b)))], none⟩
      | false => some ⟨[.el (.sc (.bo false))], none⟩)
    | false => (match (fcmp .eql .f64 a 0 : Bool) with
      | true => (match (fcmp .eql .f64 b 0 : Bool) with
        | true => some ⟨[.el (.sc (.bo ((fcmp .gtr .f64 (fop .quo .f64 4607182418800017408 a) 0) == (fcmp .gtr .f64 (fop .quo .f64 4607182418800017408 b) 0))))], none⟩
        | false => some ⟨[.el (.sc (.bo (fcmp .eql .f64 a b)))], none⟩)
      | false => some ⟨[.el (.sc (.bo (fcmp .eql .f64 a b)))], none⟩))) := by kernel_rfl
theorem s19 (a : Nat) (b : Nat) : runFn T0 none0 noL Try.f19 [.el (.sc (.fl .f64 a)), .el (.sc (.fl .f64 b))] = some ⟨[.el (.sc (.bo (sameF a b)))], none⟩ := by
  rw [e19]
  unfold sameF
  cases fcmp .neq .f64 a a <;> cases fcmp .neq .f64 b b <;> cases fcmp .eql .f64 a 0 <;> cases fcmp .eql .f64 b 0 <;> rfl
theorem c19 (a : Nat) (b : Nat) (k : List RV → R) (out : Out) (h : k [.el (.sc (.bo (sameF a b)))] = some out) : ∃ rs, Real Try.prog 19 ∧ COK Try.prog 19 [.el (.sc (.fl .f64 a)), .el (.sc (.fl .f64 b))] rs ∧ k rs = some out := by
  exact ⟨_, real Try.func19 (by kernel_rfl), fn_ok tok0 (A := none0) (L := noL) (r := none) Try.func19 (by kernel_rfl) (by kernel_rfl) (loops0 (by kernel_rfl)) (by rw [s19]), h⟩

/-! impl.within -/
theorem e52 (n : Int) (a : Int) (b : Int) : runFn T0 none0 noL Try.f52 [.el (.sc (.int .i64 n)), .el (.sc (.int .i64 a)), .el (.sc (.int .i64 b))] = (match (decide ((n : Int) ≥ a) : Bool) with
  | true => some ⟨[.el (.sc (.bo (decide ((n : Int) ≤ b))))], none⟩
  | false => some ⟨[.el (.sc (.bo false))], none⟩) := by kernel_rfl
theorem s52 (n : Int) (a : Int) (b : Int) : runFn T0 none0 noL Try.f52 [.el (.sc (.int .i64 n)), .el (.sc (.int .i64 a)), .el (.sc (.int .i64 b))] = some ⟨[.el (.sc (.bo (within n a b)))], none⟩ := by
  rw [e52]
  unfold within
  cases decide (n ≥ a) <;> rfl
theorem c52 (n : Int) (a : Int) (b : Int) (k : List RV → R) (out : Out) (h : k [.el (.sc (.bo (within n a b)))] = some out) : ∃ rs, Real Try.prog 52 ∧ COK Try.prog 52 [.el (.sc (.int .i64 n)), .el (.sc (.int .i64 a)), .el (.sc (.int .i64 b))] rs ∧ k rs = some out := by
  exact ⟨_, real Try.func52 (by kernel_rfl), fn_ok tok0 (A := none0) (L := noL) (r := none) Try.func52 (by kernel_rfl) (by kernel_rfl) (loops0 (by kernel_rfl)) (by rw [s52]), h⟩

/-! spec.l00In -/
theorem e54 (n : Int) (a : Int) (b : Int) : runFn T0 none0 noL Try.f54 [.el (.sc (.int .i64 n)), .el (.sc (.int .i64 a)), .el (.sc (.int .i64 b))] = (match (decide ((n : Int) ≥ a) : Bool) with
  | true => some ⟨[.el (.sc (.bo (decide ((n : Int) ≤ b))))], none⟩
  | false => some ⟨[.el (.sc (.bo false))], none⟩) := by kernel_rfl
theorem s54 (n : Int) (a : Int) (b : Int) : runFn T0 none0 noL Try.f54 [.el (.sc (.int .i64 n)), .el (.sc (.int .i64 a)), .el (.sc (.int .i64 b))] = some ⟨[.el (.sc (.bo (within n a b)))], none⟩ := by
  rw [e54]
  unfold within
  cases decide (n ≥ a) <;> rfl
theorem c54 (n : Int) (a : Int) (b : Int) (k : List RV → R) (out : Out) (h : k [.el (.sc (.bo (within n a b)))] = some out) : ∃ rs, Real Try.prog 54 ∧ COK Try.prog 54 [.el (.sc (.int .i64 n)), .el (.sc (.int .i64 a)), .el (.sc (.int .i64 b))] rs ∧ k rs = some out := by
  exact ⟨_, real Try.func54 (by kernel_rfl), fn_ok tok0 (A := none0) (L := noL) (r := none) Try.func54 (by kernel_rfl) (by kernel_rfl) (loops0 (by kernel_rfl)) (by rw [s54]), h⟩

/-! spec.l01Finite -/
theorem s56 (c : Nat) : runFn T0 none0 noL Try.f56 [.el (.sc (.fl .f32 c))] = some ⟨[.el (.sc (.bo (fin c)))], none⟩ := by kernel_rfl
theorem c56 (c : Nat) (k : List RV → R) (out : Out) (h : k [.el (.sc (.bo (fin c)))] = some out) : ∃ rs, Real Try.prog 56 ∧ COK Try.prog 56 [.el (.sc (.fl .f32 c))] rs ∧ k rs = some out := by
  exact ⟨_, real Try.func56 (by kernel_rfl), fn_ok tok0 (A := none0) (L := noL) (r := none) Try.func56 (by kernel_rfl) (by kernel_rfl) (loops0 (by kernel_rfl)) (by rw [s56]), h⟩

/-! impl.IsFinite -/
theorem s58 (c : Nat) : runFn T0 none0 noL Try.f58 [.el (.sc (.fl .f32 c))] = some ⟨[.el (.sc (.bo (fin c)))], none⟩ := by kernel_rfl
theorem c58 (c : Nat) (k : List RV → R) (out : Out) (h : k [.el (.sc (.bo (fin c)))] = some out) : ∃ rs, Real Try.prog 58 ∧ COK Try.prog 58 [.el (.sc (.fl .f32 c))] rs ∧ k rs = some out := by
  exact ⟨_, real Try.func58 (by kernel_rfl), fn_ok tok0 (A := none0) (L := noL) (r := none) Try.func58 (by kernel_rfl) (by kernel_rfl) (loops0 (by kernel_rfl)) (by rw [s58]), h⟩

/-! impl.magnitude -/
theorem e59 (c : Nat) : runFn T0 none0 noL Try.f59 [.el (.sc (.fl .f32 c))] = (match (fcmp .lss .f32 c 0 : Bool) with
  | true => some ⟨[.el (.sc (.fl .f32 (fneg .f32 c)))], none⟩
  | false => some ⟨[.el (.sc (.fl .f32 c))], none⟩) := by kernel_rfl
theorem s59 (c : Nat) : runFn T0 none0 noL Try.f59 [.el (.sc (.fl .f32 c))] = some ⟨[.el (.sc (.fl .f32 (mag c)))], none⟩ := by
  rw [e59]
  unfold mag
  cases fcmp .lss .f32 c 0 <;> rfl
theorem c59 (c : Nat) (k : List RV → R) (out : Out) (h : k [.el (.sc (.fl .f32 (mag c)))] = some out) : ∃ rs, Real Try.prog 59 ∧ COK Try.prog 59 [.el (.sc (.fl .f32 c))] rs ∧ k rs = some out := by
  exact ⟨_, real Try.func59 (by kernel_rfl), fn_ok tok0 (A := none0) (L := noL) (r := none) Try.func59 (by kernel_rfl) (by kernel_rfl) (loops0 (by kernel_rfl)) (by rw [s59]), h⟩

def S1 : SFn := fun f args k => match f, args with
  | 15, [.el (.ag [(.fl .f32 lp), (.fl .f32 lh), (.fl .f32 lw), (.int .i64 lk)])] => k [.el (.ag [(.fl .f32 (((⟨lp, lh, lw, lk⟩ : LineV)).p)), (.fl .f32 (((⟨lp, lh, lw, lk⟩ : LineV)).h)), (.fl .f32 (((⟨lp, lh, lw, lk⟩ : LineV)).w)), (.int .i64 (((⟨lp, lh, lw, lk⟩ : LineV)).k))])]
  | 19, [.el (.sc (.fl .f64 a)), .el (.sc (.fl .f64 b))] => k [.el (.sc (.bo (sameF a b)))]
  | 52, [.el (.sc (.int .i64 n)), .el (.sc (.int .i64 a)), .el (.sc (.int .i64 b))] => k [.el (.sc (.bo (within n a b)))]
  | 54, [.el (.sc (.int .i64 n)), .el (.sc (.int .i64 a)), .el (.sc (.int .i64 b))] => k [.el (.sc (.bo (within n a b)))]
  | 56, [.el (.sc (.fl .f32 c))] => k [.el (.sc (.bo (fin c)))]
  | 58, [.el (.sc (.fl .f32 c))] => k [.el (.sc (.bo (fin c)))]
  | 59, [.el (.sc (.fl .f32 c))] => k [.el (.sc (.fl .f32 (mag c)))]
  | _, _ => S0 f args k
abbrev M1 : MFn := M0
def T1 : TT := tab.T S1 muts M1
theorem tok1 : TOK Try.prog T1 := by
  refine (tab_ok tabok).tok (fun f args k out h => ?_) (fun f vec args k out h => ?_)
  · change S1 f args k = some out at h
    unfold S1 at h
    split at h
    · exact c15 _ _ _ _ k out h
    · exact c19 _ _ k out h
    · exact c52 _ _ _ k out h
    · exact c54 _ _ _ k out h
    · exact c56 _ k out h
    · exact c58 _ k out h
    · exact c59 _ k out h
    · exact tok0.S f args k out h
  · exact tok0.M f vec args k out h

end Go.Sm.Ytpnkcjlapkhclaa
