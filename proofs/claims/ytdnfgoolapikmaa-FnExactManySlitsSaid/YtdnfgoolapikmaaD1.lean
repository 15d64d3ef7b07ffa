/- What the functions hand back: level 0. -/
import Derived.Test.YtdnfgoolapikmaaD0
namespace Go.Sm.Ytdnfgoolapikmaa
open Go Go.Sm Go.RowKit Go.Proofs

/-! laws.sameFloat -/
theorem e30 (a : Nat) (b : Nat) : runFn T0 none0 noL Try.f30 [.el (.sc (.fl .f64 a)), .el (.sc (.fl .f64 b))] = (match (fcmp .neq .f64 a a : Bool) with
  | true => (match (fcmp .neq .f64 a a : Bool) with
    | true => some ⟨[.el (.sc (.bo (fcmp .neq .f64 b b)))], none⟩
    | false => some ⟨[.el (.sc (.bo false))], none⟩)
  | false => (match (fcmp .neq .f64 b b : Bool) with
    | true => (match (fcmp .neq .f64 a a : Bool) with
      | true => some ⟨[.el (.sc (.bo (fcmp .neq .f64 b b)))], none⟩
      | false => some ⟨[.el (.sc (.bo false))], none⟩)
    | false => (match (fcmp .eql .f64 a 0 : Bool) with
      | true => (match (fcmp .eql .f64 b 0 : Bool) with
        | true => some ⟨[.el (.sc (.bo ((fcmp .gtr .f64 (fop .quo .f64 4607182418800017408 a) 0) == (fcmp .gtr .f64 (fop .quo .f64 4607182418800017408 b) 0))))], none⟩
        | false => some ⟨[.el (.sc (.bo (fcmp .eql .f64 a b)))], none⟩)
      | false => some ⟨[.el (.sc (.bo (fcmp .eql .f64 a b)))], none⟩))) := by kernel_rfl
theorem s30 (a : Nat) (b : Nat) : runFn T0 none0 noL Try.f30 [.el (.sc (.fl .f64 a)), .el (.sc (.fl .f64 b))] = some ⟨[.el (.sc (.bo (sameF a b)))], none⟩ := by
  rw [e30]
  unfold sameF
  cases fcmp .neq .f64 a a <;> cases fcmp .neq .f64 b b <;> cases fcmp .eql .f64 a 0 <;> cases fcmp .eql .f64 b 0 <;> rfl
theorem c30 (a : Nat) (b : Nat) (k : List RV → R) (out : Out) (h : k [.el (.sc (.bo (sameF a b)))] = some out) : ∃ rs, Real Try.prog 30 ∧ COK Try.prog 30 [.el (.sc (.fl .f64 a)), .el (.sc (.fl .f64 b))] rs ∧ k rs = some out := by
  exact ⟨_, real Try.func30 (by kernel_rfl), fn_ok tok0 (A := none0) (L := noL) (r := none) Try.func30 (by kernel_rfl) (by kernel_rfl) (loops0 (by kernel_rfl)) (by rw [s30]), h⟩

/-! spec.l00In -/
theorem e51 (n : Int) (a : Int) (b : Int) : runFn T0 none0 noL Try.f51 [.el (.sc (.int .i64 n)), .el (.sc (.int .i64 a)), .el (.sc (.int .i64 b))] = (match (decide ((n : Int) ≥ a) : Bool) with
  | true => some ⟨[.el (.sc (.bo (decide ((n : Int) ≤ b))))], none⟩
  | false => some ⟨[.el (.sc (.bo false))], none⟩) := by kernel_rfl
theorem s51 (n : Int) (a : Int) (b : Int) : runFn T0 none0 noL Try.f51 [.el (.sc (.int .i64 n)), .el (.sc (.int .i64 a)), .el (.sc (.int .i64 b))] = some ⟨[.el (.sc (.bo (within n a b)))], none⟩ := by
  rw [e51]
  unfold within
  cases decide (n ≥ a) <;> rfl
theorem c51 (n : Int) (a : Int) (b : Int) (k : List RV → R) (out : Out) (h : k [.el (.sc (.bo (within n a b)))] = some out) : ∃ rs, Real Try.prog 51 ∧ COK Try.prog 51 [.el (.sc (.int .i64 n)), .el (.sc (.int .i64 a)), .el (.sc (.int .i64 b))] rs ∧ k rs = some out := by
  exact ⟨_, real Try.func51 (by kernel_rfl), fn_ok tok0 (A := none0) (L := noL) (r := none) Try.func51 (by kernel_rfl) (by kernel_rfl) (loops0 (by kernel_rfl)) (by rw [s51]), h⟩

/-! impl.within -/
theorem e53 (n : Int) (a : Int) (b : Int) : runFn T0 none0 noL Try.f53 [.el (.sc (.int .i64 n)), .el (.sc (.int .i64 a)), .el (.sc (.int .i64 b))] = (match (decide ((n : Int) ≥ a) : Bool) with
  | true => some ⟨[.el (.sc (.bo (decide ((n : Int) ≤ b))))], none⟩
  | false => some ⟨[.el (.sc (.bo false))], none⟩) := by kernel_rfl
theorem s53 (n : Int) (a : Int) (b : Int) : runFn T0 none0 noL Try.f53 [.el (.sc (.int .i64 n)), .el (.sc (.int .i64 a)), .el (.sc (.int .i64 b))] = some ⟨[.el (.sc (.bo (within n a b)))], none⟩ := by
  rw [e53]
  unfold within
  cases decide (n ≥ a) <;> rfl
theorem c53 (n : Int) (a : Int) (b : Int) (k : List RV → R) (out : Out) (h : k [.el (.sc (.bo (within n a b)))] = some out) : ∃ rs, Real Try.prog 53 ∧ COK Try.prog 53 [.el (.sc (.int .i64 n)), .el (.sc (.int .i64 a)), .el (.sc (.int .i64 b))] rs ∧ k rs = some out := by
  exact ⟨_, real Try.func53 (by kernel_rfl), fn_ok tok0 (A := none0) (L := noL) (r := none) Try.func53 (by kernel_rfl) (by kernel_rfl) (loops0 (by kernel_rfl)) (by rw [s53]), h⟩

/-! spec.l01Finite -/
theorem s56 (c : Nat) : runFn T0 none0 noL Try.f56 [.el (.sc (.fl .f32 c))] = some ⟨[.el (.sc (.bo (fin c)))], none⟩ := by kernel_rfl
theorem c56 (c : Nat) (k : List RV → R) (out : Out) (h : k [.el (.sc (.bo (fin c)))] = some out) : ∃ rs, Real Try.prog 56 ∧ COK Try.prog 56 [.el (.sc (.fl .f32 c))] rs ∧ k rs = some out := by
  exact ⟨_, real Try.func56 (by kernel_rfl), fn_ok tok0 (A := none0) (L := noL) (r := none) Try.func56 (by kernel_rfl) (by kernel_rfl) (loops0 (by kernel_rfl)) (by rw [s56]), h⟩

/-! impl.IsFinite -/
theorem s80 (c : Nat) : runFn T0 none0 noL Try.f80 [.el (.sc (.fl .f32 c))] = some ⟨[.el (.sc (.bo (fin c)))], none⟩ := by kernel_rfl
theorem c80 (c : Nat) (k : List RV → R) (out : Out) (h : k [.el (.sc (.bo (fin c)))] = some out) : ∃ rs, Real Try.prog 80 ∧ COK Try.prog 80 [.el (.sc (.fl .f32 c))] rs ∧ k rs = some out := by
  exact ⟨_, real Try.func80 (by kernel_rfl), fn_ok tok0 (A := none0) (L := noL) (r := none) Try.func80 (by kernel_rfl) (by kernel_rfl) (loops0 (by kernel_rfl)) (by rw [s80]), h⟩

/-! spec.l01Narrow -/
theorem s96 (c : Nat) : runFn T0 none0 noL Try.f96 [.el (.sc (.fl .f64 c))] = (match fconv .f64 .f32 c with
  | some r => some ⟨[.el (.sc (.fl .f32 r))], none⟩
  | none => none) := by kernel_rfl
theorem c96 (c : Nat) (k : List RV → R) (out : Out) (h : (match fconv .f64 .f32 c with
  | some r => k [.el (.sc (.fl .f32 r))]
  | none => none) = some out) : ∃ rs, Real Try.prog 96 ∧ COK Try.prog 96 [.el (.sc (.fl .f64 c))] rs ∧ k rs = some out := by
  cases g0 : (fconv .f64 .f32 c) with
  | some r =>
    rw [g0] at h
    exact ⟨_, real Try.func96 (by kernel_rfl), fn_ok tok0 (A := none0) (L := noL) (r := none) Try.func96 (by kernel_rfl) (by kernel_rfl) (loops0 (by kernel_rfl)) (by rw [s96, g0]), h⟩
  | none =>
    rw [g0] at h
    cases h

/-! math.Float64bits -/
theorem c110 (c : Nat) (k : List RV → R) (out : Out) (h : (match (isN .f64 c : Bool) with
  | true => none
  | false => k [.el (.sc (.int .u64 ((c : Int))))]) = some out) : ∃ rs, CallOK Try.prog 110 [.el (.sc (.fl .f64 c))] rs ∧ k rs = some out := by
  cases g0 : (isN .f64 c : Bool) with
  | true =>
    rw [g0] at h
    cases h
  | false =>
    rw [g0] at h
    exact ⟨_, x_f64bits Try.func110 (by kernel_rfl) (by kernel_rfl) (by kernel_rfl) (by kernel_rfl) g0, h⟩

/-! math.Float64frombits -/
theorem c113 (n : Int) (k : List RV → R) (out : Out) (h : k [.el (.sc (.fl .f64 (cn .f64 (Int.toNat n))))] = some out) : ∃ rs, CallOK Try.prog 113 [.el (.sc (.int .u64 n))] rs ∧ k rs = some out := by
  exact ⟨_, x_f64from Try.func113 (by kernel_rfl) (by kernel_rfl) (by kernel_rfl) (by kernel_rfl), h⟩

/-! math.archTrunc -/
theorem c118 (c : Nat) (k : List RV → R) (out : Out) (h : k [.el (.sc (.fl .f64 (fround .zero c)))] = some out) : ∃ rs, CallOK Try.prog 118 [.el (.sc (.fl .f64 c))] rs ∧ k rs = some out := by
  exact ⟨_, x_round (name := "math.archTrunc") (way := .zero) Try.func118 (by kernel_rfl) (by kernel_rfl) (by kernel_rfl) (by kernel_rfl), h⟩

def S1 : SFn := fun f args k => match f, args with
  | 30, [.el (.sc (.fl .f64 a)), .el (.sc (.fl .f64 b))] => k [.el (.sc (.bo (sameF a b)))]
  | 51, [.el (.sc (.int .i64 n)), .el (.sc (.int .i64 a)), .el (.sc (.int .i64 b))] => k [.el (.sc (.bo (within n a b)))]
  | 53, [.el (.sc (.int .i64 n)), .el (.sc (.int .i64 a)), .el (.sc (.int .i64 b))] => k [.el (.sc (.bo (within n a b)))]
  | 56, [.el (.sc (.fl .f32 c))] => k [.el (.sc (.bo (fin c)))]
  | 80, [.el (.sc (.fl .f32 c))] => k [.el (.sc (.bo (fin c)))]
  | 96, [.el (.sc (.fl .f64 c))] => (match fconv .f64 .f32 c with
    | some r => k [.el (.sc (.fl .f32 r))]
    | none => none)
  | 110, [.el (.sc (.fl .f64 c))] => (match (isN .f64 c : Bool) with
    | true => none
    | false => k [.el (.sc (.int .u64 ((c : Int))))])
  | 113, [.el (.sc (.int .u64 n))] => k [.el (.sc (.fl .f64 (cn .f64 (Int.toNat n))))]
  | 118, [.el (.sc (.fl .f64 c))] => k [.el (.sc (.fl .f64 (fround .zero c)))]
  | _, _ => S0 f args k
abbrev M1 : MFn := M0
def T1 : TT := tab.T S1 muts M1
theorem tok1 : TOK Try.prog T1 := by
  refine (tab_ok tabok).tok (fun f args k out h => ?_) (fun f vec args k out h => ?_)
  · change S1 f args k = some out at h
    unfold S1 at h
    split at h
    · exact (fun k out h => cok_call (c30 _ _ k out h)) k out h
    · exact (fun k out h => cok_call (c51 _ _ _ k out h)) k out h
    · exact (fun k out h => cok_call (c53 _ _ _ k out h)) k out h
    · exact (fun k out h => cok_call (c56 _ k out h)) k out h
    · exact (fun k out h => cok_call (c80 _ k out h)) k out h
    · exact (fun k out h => cok_call (c96 _ k out h)) k out h
    · exact c110 _ k out h
    · exact c113 _ k out h
    · exact c118 _ k out h
    · exact tok0.S f args k out h
  · exact tok0.M f vec args k out h

end Go.Sm.Ytdnfgoolapikmaa
