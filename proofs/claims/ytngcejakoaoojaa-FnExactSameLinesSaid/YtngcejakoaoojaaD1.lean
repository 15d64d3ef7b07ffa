/- What the functions hand back: level 0. -/
import Derived.Test.YtngcejakoaoojaaD0
namespace Go.Sm.Ytngcejakoaoojaa
open Go Go.Sm Go.RowKit Go.Proofs

/-! laws.szLineS -/
theorem e8 (xs : List LineV) (n : Int) : runFn T0 none0 noL Try.f8 [.vw none ⟨.line, xs⟩, .el (.sc (.int .i64 n))] = (match (decide ((IntKind.i64.wrap (n - ((xs.length : Int))) : Int) < 0) : Bool) with
  | true => some ⟨[.el (.sc (.int .i64 ((-1))))], none⟩
  | false => some ⟨[.el (.sc (.int .i64 (IntKind.i64.wrap (n - ((xs.length : Int))))))], none⟩) := by kernel_rfl
theorem s8 (xs : List LineV) (n : Int) : runFn T0 none0 noL Try.f8 [.vw none ⟨.line, xs⟩, .el (.sc (.int .i64 n))] = some ⟨[.el (.sc (.int .i64 (szLeft xs.length n)))], none⟩ := by
  rw [e8]
  unfold szLeft
  cases decide ((IntKind.i64.wrap (n - (xs.length : Int)) : Int) < 0) <;> simp
theorem c8 (xs : List LineV) (n : Int) (k : List RV → R) (out : Out) (h : k [.el (.sc (.int .i64 (szLeft xs.length n)))] = some out) : ∃ rs, Real Try.prog 8 ∧ COK Try.prog 8 [.vw none ⟨.line, xs⟩, .el (.sc (.int .i64 n))] rs ∧ k rs = some out := by
  exact ⟨_, real Try.func8 (by kernel_rfl), fn_ok tok0 (A := none0) (L := noL) (r := none) Try.func8 (by kernel_rfl) (by kernel_rfl) (loops0 (by kernel_rfl)) (by rw [s8]), h⟩

/-! laws.sameFloat -/
theorem e30 (a : Nat) (b : Nat) : runFn T0 none0 noL Try.f30 [.el (.sc (.fl .f64 a)), .el (.sc (.fl .f64 b))] = (match (fcmp .neq .f64 a a : Bool) with
  | true => (match (fcmp .neq .f64 a a : Bool) with
    | true => some ⟨[.el (.sc (.bo (fcmp .neq .f64 b b)))], none⟩
    | false => some ⟨[.el (.sc (.bo false))], none⟩)
  | false => (match (fcmp .neq .f64 b b : Bool) with
    | true => (match (fcmp .neq .f64 a a : Bool) with
      | true => some ⟨[.el (.sc (.bo (fcmp .neq .f64 b b)))], none⟩
      | false => some ⟨[.el (.sc (.bo false))], none⟩)
    | false => (match (fcmp .eql .f64 a 0 : Bool) with
      | true => (match (fcmp .eql .f64 b 0 : Bool) with
        | true => some ⟨[.el (.sc (.bo ((fcmp .gtr .f64 (fop .quo .f64 4607182418800017408 a) 0) == (fcmp .gtr .f64 (fop .quo .f64 4607182418800017408 b) 0))))], none⟩
        | false => some ⟨[.el (.sc (.bo (fcmp .eql .f64 a b)))], none⟩)
      | false => some ⟨[.el (.sc (.bo (fcmp .eql .f64 a b)))], none⟩))) := by kernel_rfl
theorem s30 (a : Nat) (b : Nat) : runFn T0 none0 noL Try.f30 [.el (.sc (.fl .f64 a)), .el (.sc (.fl .f64 b))] = some ⟨[.el (.sc (.bo (sameF a b)))], none⟩ := by
  rw [e30]
  unfold sameF
  cases fcmp .neq .f64 a a <;> cases fcmp .neq .f64 b b <;> cases fcmp .eql .f64 a 0 <;> cases fcmp .eql .f64 b 0 <;> rfl
theorem c30 (a : Nat) (b : Nat) (k : List RV → R) (out : Out) (h : k [.el (.sc (.bo (sameF a b)))] = some out) : ∃ rs, Real Try.prog 30 ∧ COK Try.prog 30 [.el (.sc (.fl .f64 a)), .el (.sc (.fl .f64 b))] rs ∧ k rs = some out := by
  exact ⟨_, real Try.func30 (by kernel_rfl), fn_ok tok0 (A := none0) (L := noL) (r := none) Try.func30 (by kernel_rfl) (by kernel_rfl) (loops0 (by kernel_rfl)) (by rw [s30]), h⟩

/-! laws.toLine -/
theorem s34 (lp : Nat) (lh : Nat) (lw : Nat) (lk : Int) : runFn T0 none0 noL Try.f34 [.el (.ag [(.fl .f32 lp), (.fl .f32 lh), (.fl .f32 lw), (.int .i64 lk)])] = some ⟨[.el (.ag [(.fl .f32 (((⟨lp, lh, lw, lk⟩ : LineV)).p)), (.fl .f32 (((⟨lp, lh, lw, lk⟩ : LineV)).h)), (.fl .f32 (((⟨lp, lh, lw, lk⟩ : LineV)).w)), (.int .i64 (((⟨lp, lh, lw, lk⟩ : LineV)).k))])], none⟩ := by kernel_rfl
theorem c34 (lp : Nat) (lh : Nat) (lw : Nat) (lk : Int) (k : List RV → R) (out : Out) (h : k [.el (.ag [(.fl .f32 (((⟨lp, lh, lw, lk⟩ : LineV)).p)), (.fl .f32 (((⟨lp, lh, lw, lk⟩ : LineV)).h)), (.fl .f32 (((⟨lp, lh, lw, lk⟩ : LineV)).w)), (.int .i64 (((⟨lp, lh, lw, lk⟩ : LineV)).k))])] = some out) : ∃ rs, Real Try.prog 34 ∧ COK Try.prog 34 [.el (.ag [(.fl .f32 lp), (.fl .f32 lh), (.fl .f32 lw), (.int .i64 lk)])] rs ∧ k rs = some out := by
  exact ⟨_, real Try.func34 (by kernel_rfl), fn_ok tok0 (A := none0) (L := noL) (r := none) Try.func34 (by kernel_rfl) (by kernel_rfl) (loops0 (by kernel_rfl)) (by rw [s34]), h⟩

/-! math.Float32bits -/
theorem c70 (c : Nat) (k : List RV → R) (out : Out) (h : (match (isN .f32 c : Bool) with
  | true => none
  | false => k [.el (.sc (.int .u32 ((c : Int))))]) = some out) : ∃ rs, CallOK Try.prog 70 [.el (.sc (.fl .f32 c))] rs ∧ k rs = some out := by
  cases g0 : (isN .f32 c : Bool) with
  | true =>
    rw [g0] at h
    cases h
  | false =>
    rw [g0] at h
    exact ⟨_, x_f32bits Try.func70 (by kernel_rfl) (by kernel_rfl) (by kernel_rfl) (by kernel_rfl) g0, h⟩

/-! math.Float64bits -/
theorem c71 (c : Nat) (k : List RV → R) (out : Out) (h : (match (isN .f64 c : Bool) with
  | true => none
  | false => k [.el (.sc (.int .u64 ((c : Int))))]) = some out) : ∃ rs, CallOK Try.prog 71 [.el (.sc (.fl .f64 c))] rs ∧ k rs = some out := by
  cases g0 : (isN .f64 c : Bool) with
  | true =>
    rw [g0] at h
    cases h
  | false =>
    rw [g0] at h
    exact ⟨_, x_f64bits Try.func71 (by kernel_rfl) (by kernel_rfl) (by kernel_rfl) (by kernel_rfl) g0, h⟩

def S1 : SFn := fun f args k => match f, args with
  | 8, [.vw none ⟨.line, xs⟩, .el (.sc (.int .i64 n))] => k [.el (.sc (.int .i64 (szLeft xs.length n)))]
  | 30, [.el (.sc (.fl .f64 a)), .el (.sc (.fl .f64 b))] => k [.el (.sc (.bo (sameF a b)))]
  | 34, [.el (.ag [(.fl .f32 lp), (.fl .f32 lh), (.fl .f32 lw), (.int .i64 lk)])] => k [.el (.ag [(.fl .f32 (((⟨lp, lh, lw, lk⟩ : LineV)).p)), (.fl .f32 (((⟨lp, lh, lw, lk⟩ : LineV)).h)), (.fl .f32 (((⟨lp, lh, lw, lk⟩ : LineV)).w)), (.int .i64 (((⟨lp, lh, lw, lk⟩ : LineV)).k))])]
  | 70, [.el (.sc (.fl .f32 c))] => (match (isN .f32 c : Bool) with
    | true => none
    | false => k [.el (.sc (.int .u32 ((c : Int))))])
  | 71, [.el (.sc (.fl .f64 c))] => (match (isN .f64 c : Bool) with
    | true => none
    | false => k [.el (.sc (.int .u64 ((c : Int))))])
  | _, _ => S0 f args k
abbrev M1 : MFn := M0
def T1 : TT := tab.T S1 muts M1
theorem tok1 : TOK Try.prog T1 := by
  refine (tab_ok tabok).tok (fun f args k out h => ?_) (fun f vec args k out h => ?_)
  · change S1 f args k = some out at h
    unfold S1 at h
    split at h
    · exact (fun k out h => cok_call (c8 _ _ k out h)) k out h
    · exact (fun k out h => cok_call (c30 _ _ k out h)) k out h
    · exact (fun k out h => cok_call (c34 _ _ _ _ k out h)) k out h
    · exact c70 _ k out h
    · exact c71 _ k out h
    · exact tok0.S f args k out h
  · exact tok0.M f vec args k out h

end Go.Sm.Ytngcejakoaoojaa
