/- What the functions hand back: level 1. -/
import Derived.Test.YtdnfgoolapikmaaD1
namespace Go.Sm.Ytdnfgoolapikmaa
open Go Go.Sm Go.RowKit Go.Proofs

/-! spec.l02Number -/
theorem e65 (c : Nat) : runFn T1 none0 noL Try.f65 [.el (.sc (.fl .f32 c))] = (match (!(fin c) : Bool) with
  | true => some ⟨[.el (.sc (.fl .f32 0)), .el (.sc (.bo false))], none⟩
  | false => some ⟨[.el (.sc (.fl .f32 c)), .el (.sc (.bo true))], none⟩) := by kernel_rfl
theorem s65 (c : Nat) : runFn T1 none0 noL Try.f65 [.el (.sc (.fl .f32 c))] = some ⟨[.el (.sc (.fl .f32 (numOf c))), .el (.sc (.bo (fin c)))], none⟩ := by
  rw [e65]
  unfold numOf
  cases fin c <;> rfl
theorem c65 (c : Nat) (k : List RV → R) (out : Out) (h : k [.el (.sc (.fl .f32 (numOf c))), .el (.sc (.bo (fin c)))] = some out) : ∃ rs, Real Try.prog 65 ∧ COK Try.prog 65 [.el (.sc (.fl .f32 c))] rs ∧ k rs = some out := by
  exact ⟨_, real Try.func65 (by kernel_rfl), fn_ok tok1 (A := none0) (L := noL) (r := none) Try.func65 (by kernel_rfl) (by kernel_rfl) (loops0 (by kernel_rfl)) (by rw [s65]), h⟩

/-! impl.checked -/
theorem e66 (c : Nat) : runFn T1 none0 noL Try.f66 [.el (.sc (.fl .f32 c))] = (match (!(fin c) : Bool) with
  | true => some ⟨[.el (.sc (.fl .f32 0)), .el (.sc (.bo false))], none⟩
  | false => some ⟨[.el (.sc (.fl .f32 c)), .el (.sc (.bo true))], none⟩) := by kernel_rfl
theorem s66 (c : Nat) : runFn T1 none0 noL Try.f66 [.el (.sc (.fl .f32 c))] = some ⟨[.el (.sc (.fl .f32 (numOf c))), .el (.sc (.bo (fin c)))], none⟩ := by
  rw [e66]
  unfold numOf
  cases fin c <;> rfl
theorem c66 (c : Nat) (k : List RV → R) (out : Out) (h : k [.el (.sc (.fl .f32 (numOf c))), .el (.sc (.bo (fin c)))] = some out) : ∃ rs, Real Try.prog 66 ∧ COK Try.prog 66 [.el (.sc (.fl .f32 c))] rs ∧ k rs = some out := by
  exact ⟨_, real Try.func66 (by kernel_rfl), fn_ok tok1 (A := none0) (L := noL) (r := none) Try.func66 (by kernel_rfl) (by kernel_rfl) (loops0 (by kernel_rfl)) (by rw [s66]), h⟩

/-! impl.arePositive$1 -/
theorem e99 (c : Nat) : runFn T1 none0 noL Try.f99 [.el (.sc (.fl .f32 c))] = (match (!(fin c) : Bool) with
  | true => some ⟨[.el (.sc (.bo true))], none⟩
  | false => some ⟨[.el (.sc (.bo (fcmp .leq .f32 c 0)))], none⟩) := by kernel_rfl
theorem s99 (c : Nat) : runFn T1 none0 noL Try.f99 [.el (.sc (.fl .f32 c))] = some ⟨[.el (.sc (.bo (notPos c)))], none⟩ := by
  rw [e99]
  unfold notPos
  cases fin c <;> rfl
theorem c99 (c : Nat) (k : List RV → R) (out : Out) (h : k [.el (.sc (.bo (notPos c)))] = some out) : ∃ rs, Real Try.prog 99 ∧ COK Try.prog 99 [.el (.sc (.fl .f32 c))] rs ∧ k rs = some out := by
  exact ⟨_, real Try.func99 (by kernel_rfl), fn_ok tok1 (A := none0) (L := noL) (r := none) Try.func99 (by kernel_rfl) (by kernel_rfl) (loops0 (by kernel_rfl)) (by rw [s99]), h⟩

/-! math.Inf -/
theorem e102 (n : Int) : runFn T1 none0 noL Try.f102 [.el (.sc (.int .i64 n))] = (match (decide ((n : Int) ≥ 0) : Bool) with
  | true => some ⟨[.el (.sc (.fl .f64 (cn .f64 (Int.toNat 9218868437227405312))))], none⟩
  | false => some ⟨[.el (.sc (.fl .f64 (cn .f64 (Int.toNat 18442240474082181120))))], none⟩) := by kernel_rfl
theorem s102 (n : Int) : runFn T1 none0 noL Try.f102 [.el (.sc (.int .i64 n))] = some ⟨[.el (.sc (.fl .f64 (infOf n)))], none⟩ := by
  rw [e102]
  unfold infOf
  cases decide (n ≥ 0) <;> rfl
theorem c102 (n : Int) (k : List RV → R) (out : Out) (h : k [.el (.sc (.fl .f64 (infOf n)))] = some out) : ∃ rs, Real Try.prog 102 ∧ COK Try.prog 102 [.el (.sc (.int .i64 n))] rs ∧ k rs = some out := by
  exact ⟨_, real Try.func102 (by kernel_rfl), fn_ok tok1 (A := none0) (L := noL) (r := none) Try.func102 (by kernel_rfl) (by kernel_rfl) (loops0 (by kernel_rfl)) (by rw [s102]), h⟩

/-! math.NaN -/
theorem s103  : runFn T1 none0 noL Try.f103 [] = some ⟨[.el (.sc (.fl .f64 (nanOf .f64)))], none⟩ := by kernel_rfl
theorem c103  (k : List RV → R) (out : Out) (h : k [.el (.sc (.fl .f64 (nanOf .f64)))] = some out) : ∃ rs, Real Try.prog 103 ∧ COK Try.prog 103 [] rs ∧ k rs = some out := by
  exact ⟨_, real Try.func103 (by kernel_rfl), fn_ok tok1 (A := none0) (L := noL) (r := none) Try.func103 (by kernel_rfl) (by kernel_rfl) (loops0 (by kernel_rfl)) (by rw [s103]), h⟩

/-! math.Abs -/
theorem e114 (c : Nat) : runFn T1 none0 noL Try.f114 [.el (.sc (.fl .f64 c))] = (match (isN .f64 c : Bool) with
  | true => none
  | false => some ⟨[.el (.sc (.fl .f64 (cn .f64 (Int.toNat (andNotI .u64 ((c : Int)) 9223372036854775808)))))], none⟩) := by kernel_rfl
theorem s114 (c : Nat) (hg : (!isN .f64 c) = true) : runFn T1 none0 noL Try.f114 [.el (.sc (.fl .f64 c))] = some ⟨[.el (.sc (.fl .f64 (fabs c)))], none⟩ := by
  rw [e114]
  have hN : isN .f64 c = false := by simpa using hg
  rw [hN]
  rfl
theorem c114 (c : Nat) (k : List RV → R) (out : Out) (h : (match (!isN .f64 c : Bool) with
  | true => k [.el (.sc (.fl .f64 (fabs c)))]
  | false => none) = some out) : ∃ rs, Real Try.prog 114 ∧ COK Try.prog 114 [.el (.sc (.fl .f64 c))] rs ∧ k rs = some out := by
  cases g0 : (!isN .f64 c : Bool) with
  | true =>
    rw [g0] at h
    exact ⟨_, real Try.func114 (by kernel_rfl), fn_ok tok1 (A := none0) (L := noL) (r := none) Try.func114 (by kernel_rfl) (by kernel_rfl) (loops0 (by kernel_rfl)) (by rw [s114 _ g0]), h⟩
  | false =>
    rw [g0] at h
    cases h

def S2 : SFn := fun f args k => match f, args with
  | 65, [.el (.sc (.fl .f32 c))] => k [.el (.sc (.fl .f32 (numOf c))), .el (.sc (.bo (fin c)))]
  | 66, [.el (.sc (.fl .f32 c))] => k [.el (.sc (.fl .f32 (numOf c))), .el (.sc (.bo (fin c)))]
  | 99, [.el (.sc (.fl .f32 c))] => k [.el (.sc (.bo (notPos c)))]
  | 102, [.el (.sc (.int .i64 n))] => k [.el (.sc (.fl .f64 (infOf n)))]
  | 103, [] => k [.el (.sc (.fl .f64 (nanOf .f64)))]
  | 114, [.el (.sc (.fl .f64 c))] => (match (!isN .f64 c : Bool) with
    | true => k [.el (.sc (.fl .f64 (fabs c)))]
    | false => none)
  | _, _ => S1 f args k
abbrev M2 : MFn := M1
def T2 : TT := tab.T S2 muts M2
theorem tok2 : TOK Try.prog T2 := by
  refine (tab_ok tabok).tok (fun f args k out h => ?_) (fun f vec args k out h => ?_)
  · change S2 f args k = some out at h
    unfold S2 at h
    split at h
    · exact (fun k out h => cok_call (c65 _ k out h)) k out h
    · exact (fun k out h => cok_call (c66 _ k out h)) k out h
    · exact (fun k out h => cok_call (c99 _ k out h)) k out h
    · exact (fun k out h => cok_call (c102 _ k out h)) k out h
    · exact (fun k out h => cok_call (c103 k out h)) k out h
    · exact (fun k out h => cok_call (c114 _ k out h)) k out h
    · exact tok1.S f args k out h
  · exact tok1.M f vec args k out h

end Go.Sm.Ytdnfgoolapikmaa
