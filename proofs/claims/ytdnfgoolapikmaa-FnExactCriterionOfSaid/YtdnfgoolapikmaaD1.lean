/- What the functions hand back: level 0. -/
import Derived.Test.YtdnfgoolapikmaaD0
namespace Go.Sm.Ytdnfgoolapikmaa
open Go Go.Sm Go.RowKit Go.Proofs

/-! laws.sameFloat -/
theorem e30 (a : Nat) (b : Nat) : runFn T0 none0 noL Try.f30 [.el (.sc (.fl .f64 a)), .el (.sc (.fl .f64 b))] = (match (fcmp .neq .f64 a a : Bool) with
  | true => (match (fcmp .neq .f64 a a : Bool) with
    | true => some ⟨[.el (.sc (.bo (fcmp .neq .f64 b b)))], none⟩
    | false => some ⟨[.el (.sc (.bo false))], none⟩)
  | false => (match (fcmp .neq .f64 b b : Bool) with
    | true => (match (fcmp .neq .f64 a a : Bool) with
      | true => some ⟨[.el (.sc (.bo (fcmp .neq .f64 b b)))], none⟩
      | false => some ⟨[.el (.sc (.bo false))], none⟩)
    | false => (match (fcmp .eql .f64 a 0 : Bool) with
      | true => (match (fcmp .eql .f64 b 0 : Bool) with
        | true => some ⟨[.el (.sc (.bo ((fcmp .gtr .f64 (fop .quo .f64 4607182418800017408 a) 0) == (fcmp .gtr .f64 (fop .quo .f64 4607182418800017408 b) 0))))], none⟩
        | false => some ⟨[.el (.sc (.bo (fcmp .eql .f64 a b)))], none⟩)
      | false => some ⟨[.el (.sc (.bo (fcmp .eql .f64 a b)))], none⟩))) := by kernel_rfl
theorem s30 (a : Nat) (b : Nat) : runFn T0 none0 noL Try.f30 [.el (.sc (.fl .f64 a)), .el (.sc (.fl .f64 b))] = some ⟨[.el (.sc (.bo (sameF a b)))], none⟩ := by
  rw [e30]
  unfold sameF
  cases fcmp .neq .f64 a a <;> cases fcmp .neq .f64 b b <;> cases fcmp .eql .f64 a 0 <;> cases fcmp .eql .f64 b 0 <;> rfl
theorem c30 (a : Nat) (b : Nat) (k : List RV → R) (out : Out) (h : k [.el (.sc (.bo (sameF a b)))] = some out) : ∃ rs, Real Try.prog 30 ∧ COK Try.prog 30 [.el (.sc (.fl .f64 a)), .el (.sc (.fl .f64 b))] rs ∧ k rs = some out := by
  exact ⟨_, real Try.func30 (by kernel_rfl), fn_ok tok0 (A := none0) (L := noL) (r := none) Try.func30 (by kernel_rfl) (by kernel_rfl) (loops0 (by kernel_rfl)) (by rw [s30]), h⟩

/-! spec.l00In -/
theorem e51 (n : Int) (a : Int) (b : Int) : runFn T0 none0 noL Try.f51 [.el (.sc (.int .i64 n)), .el (.sc (.int .i64 a)), .el (.sc (.int .i64 b))] = (match (decide ((n : Int) ≥ a) : Bool) with
  | true => some ⟨[.el (.sc (.bo (decide ((n : Int) ≤ b))))], none⟩
  | false => some ⟨[.el (.sc (.bo false))], none⟩) := by kernel_rfl
theorem s51 (n : Int) (a : Int) (b : Int) : runFn T0 none0 noL Try.f51 [.el (.sc (.int .i64 n)), .el (.sc (.int .i64 a)), .el (.sc (.int .i64 b))] = some ⟨[.el (.sc (.bo (within n a b)))], none⟩ := by
  rw [e51]
  unfold within
  cases decide (n ≥ a) <;> rfl
theorem c51 (n : Int) (a : Int) (b : Int) (k : List RV → R) (out : Out) (h : k [.el (.sc (.bo (within n a b)))] = some out) : ∃ rs, Real Try.prog 51 ∧ COK Try.prog 51 [.el (.sc (.int .i64 n)), .el (.sc (.int .i64 a)), .el (.sc (.int .i64 b))] rs ∧ k rs = some out := by
  exact ⟨_, real Try.func51 (by kernel_rfl), fn_ok tok0 (A := none0) (L := noL) (r := none) Try.func51 (by kernel_rfl) (by kernel_rfl) (loops0 (by kernel_rfl)) (by rw [s51]), h⟩

/-! impl.within -/
theorem e53 (n : Int) (a : Int) (b : Int) : runFn T0 none0 noL Try.f53 [.el (.sc (.int .i64 n)), .el (.sc (.int .i64 a)), .el (.sc (.int .i64 b))] = (match (decide ((n : Int) ≥ a) : Bool) with
  | true => some ⟨[.el (.sc (.bo (decide ((n : Int) ≤ b))))], none⟩
  | false => some ⟨[.el (.sc (.bo false))], none⟩) := by kernel_rfl
theorem s53 (n : Int) (a : Int) (b : Int) : runFn T0 none0 noL Try.f53 [.el (.sc (.int .i64 n)), .el (.sc (.int .i64 a)), .el (.sc (.int .i64 b))] = some ⟨[.el (.sc (.bo (within n a b)))], none⟩ := by
  rw [e53]
  unfold within
  cases decide (n ≥ a) <;> rfl
theorem c53 (n : Int) (a : Int) (b : Int) (k : List RV → R) (out : Out) (h : k [.el (.sc (.bo (within n a b)))] = some out) : ∃ rs, Real Try.prog 53 ∧ COK Try.prog 53 [.el (.sc (.int .i64 n)), .el (.sc (.int .i64 a)), .el (.sc (.int .i64 b))] rs ∧ k rs = some out := by
  exact ⟨_, real Try.func53 (by kernel_rfl), fn_ok tok0 (A := none0) (L := noL) (r := none) Try.func53 (by kernel_rfl) (by kernel_rfl) (loops0 (by kernel_rfl)) (by rw [s53]), h⟩

/-! spec.l01Finite -/
theorem s56 (c : Nat) : runFn T0 none0 noL Try.f56 [.el (.sc (.fl .f32 c))] = some ⟨[.el (.sc (.bo (fin c)))], none⟩ := by kernel_rfl
theorem c56 (c : Nat) (k : List RV → R) (out : Out) (h : k [.el (.sc (.bo (fin c)))] = some out) : ∃ rs, Real Try.prog 56 ∧ COK Try.prog 56 [.el (.sc (.fl .f32 c))] rs ∧ k rs = some out := by
  exact ⟨_, real Try.func56 (by kernel_rfl), fn_ok tok0 (A := none0) (L := noL) (r := none) Try.func56 (by kernel_rfl) (by kernel_rfl) (loops0 (by kernel_rfl)) (by rw [s56]), h⟩

/-! impl.IsFinite -/
theorem s80 (c : Nat) : runFn T0 none0 noL Try.f80 [.el (.sc (.fl .f32 c))] = some ⟨[.el (.sc (.bo (fin c)))], none⟩ := by kernel_rfl
theorem c80 (c : Nat) (k : List RV → R) (out : Out) (h : k [.el (.sc (.bo (fin c)))] = some out) : ∃ rs, Real Try.prog 80 ∧ COK Try.prog 80 [.el (.sc (.fl .f32 c))] rs ∧ k rs = some out := by
  exact ⟨_, real Try.func80 (by kernel_rfl), fn_ok tok0 (A := none0) (L := noL) (r := none) Try.func80 (by kernel_rfl) (by kernel_rfl) (loops0 (by kernel_rfl)) (by rw [s80]), h⟩

/-! spec.l01Narrow -/
theorem s96 (c : Nat) : runFn T0 none0 noL Try.f96 [.el (.sc (.fl .f64 c))] = (match fconv .f64 .f32 c with
  | some rn1 => some ⟨[.el (.sc (.fl .f32 rn1))], none⟩
  | none => none) := by kernel_rfl
theorem c96 (c : Nat) (k : List RV → R) (out : Out) (h : (match fconv .f64 .f32 c with
  | some rn0 => k [.el (.sc (.fl .f32 rn0))]
  | none => none) = some out) : ∃ rs, Real Try.prog 96 ∧ COK Try.prog 96 [.el (.sc (.fl .f64 c))] rs ∧ k rs = some out := by
  cases g0 : (fconv .f64 .f32 c) with
  | some rn0 =>
    rw [g0] at h
    exact ⟨_, real Try.func96 (by kernel_rfl), fn_ok tok0 (A := none0) (L := noL) (r := none) Try.func96 (by kernel_rfl) (by kernel_rfl) (loops0 (by kernel_rfl)) (by rw [s96, g0]), h⟩
  | none =>
    rw [g0] at h
    cases h

/-! impl.logarithm -/
def a104 : Ann := ann [(2, [0, 3], [0, 3]), (5, [0, 3], [0, 3]), (11, [3, 4, 5, 6, 7], [3, 4, 6])] [2] 0
def lp104 : St → (Ex → St → R) → R := fun s k => match s with
  | ⟨[(0, .fv (.el (.sc (.fl .f64 y)))), (3, .fv (.el (.sc (.fl .f64 e))))], []⟩ => (match ((!fcmp .lss .f64 (lgDn 200 y).1 4604930618986332160 && (Nat.beq e 0 && Nat.ble (lgDn 200 y).2 400)) : Bool) with
    | true => k (.exit 0) ⟨[(0, .fv (.el (.sc (.fl .f64 ((lgDn 200 y).1))))), (3, .fv (.el (.sc (.fl .f64 (fint .f64 (-((lgDn 200 y).2 : Int)))))))], []⟩
    | false => none)
  | _ => none
def lp104_1 : St → (Ex → St → R) → R := fun s k => match s with
  | ⟨[(0, .fv (.el (.sc (.fl .f64 y)))), (3, .fv (.el (.sc (.fl .f64 e))))], []⟩ => (match ((!fcmp .geq .f64 (lgUp 200 y).1 4609434218613702656 && ((Nat.beq e 0 || Nat.beq (lgUp 200 y).2 0) && Nat.ble (lgUp 200 y).2 400)) : Bool) with
    | true => k (.exit 2) ⟨[(0, .fv (.el (.sc (.fl .f64 ((lgUp 200 y).1))))), (3, .fv (.el (.sc (.fl .f64 (lgE e ((lgUp 200 y).2))))))], []⟩
    | false => none)
  | _ => none
def lp104_2 : St → (Ex → St → R) → R := fun s k => match s with
  | ⟨[(3, .fv (.el (.sc (.fl .f64 e)))), (4, .fv (.el (.sc (.fl .f64 z)))), (5, .fv (.el (.sc (.fl .f64 u)))), (6, .fv (.el (.sc (.fl .f64 q)))), (7, .fv (.el (.sc (.fl .f64 i))))], []⟩ => (match (Nat.beq i 4627730092099895296 : Bool) with
    | true => k (.exit 4) ⟨[(3, .fv (.el (.sc (.fl .f64 e)))), (4, .fv (.el (.sc (.fl .f64 z)))), (6, .fv (.el (.sc (.fl .f64 (lgPoly u q)))))], []⟩
    | false => none)
  | _ => none
def l104 : Loops := fun key s k => bif Nat.beq key 2 then lp104 s k else bif Nat.beq key 5 then lp104_1 s k else bif Nat.beq key 11 then lp104_2 s k else none
theorem st104 (y : Nat) (e : Nat) (m : Nat) (k : Ex → St → R) : iterK a104 [0, 3] [0, 3] (codeK T0 a104 l104 Try.f104.ntmps (loopAt Try.f104 0)) (m + 1) ⟨[(0, .fv (.el (.sc (.fl .f64 y)))), (3, .fv (.el (.sc (.fl .f64 e))))], []⟩ k = (match (fcmp .lss .f64 y 4604930618986332160 : Bool) with
  | true => iterK a104 [0, 3] [0, 3] (codeK T0 a104 l104 Try.f104.ntmps (loopAt Try.f104 0)) m ⟨[(0, .fv (.el (.sc (.fl .f64 (fop .mul .f64 y 4611686018427387904))))), (3, .fv (.el (.sc (.fl .f64 (fop .sub .f64 e 4607182418800017408)))))], []⟩ k
  | false => k (.exit 0) ⟨[(0, .fv (.el (.sc (.fl .f64 y)))), (3, .fv (.el (.sc (.fl .f64 e))))], []⟩) := by kernel_rfl
theorem ind104 (k : Ex → St → R) : ∀ (m y c : Nat), c + m ≤ 400 → fcmp .lss .f64 (lgDn m y).1 4604930618986332160 = false → iterK a104 [0, 3] [0, 3] (codeK T0 a104 l104 Try.f104.ntmps (loopAt Try.f104 0)) (m + 1) ⟨[(0, .fv (.el (.sc (.fl .f64 y)))), (3, .fv (.el (.sc (.fl .f64 (fint .f64 (-(c : Int)))))))], []⟩ k = k (.exit 0) ⟨[(0, .fv (.el (.sc (.fl .f64 ((lgDn m y).1))))), (3, .fv (.el (.sc (.fl .f64 (fint .f64 (-((c + (lgDn m y).2 : Nat) : Int)))))))], []⟩ := by
  intro m
  induction m with
  | zero =>
    intro y c h0 hd
    rw [st104]
    have hd2 : fcmp .lss .f64 y 4604930618986332160 = false := hd
    rw [hd2]
    rfl
  | succ m ih =>
    intro y c h0 hd
    have hc := (count_up (n := c) (by omega)).2
    rw [st104, hc]
    unfold lgDn at hd ⊢
    cases hg : fcmp .lss .f64 y 4604930618986332160 with
    | true =>
      rw [hg] at hd
      refine (ih (fop .mul .f64 y 4611686018427387904) (c + 1) (by omega) hd).trans ?_
      have he : ∀ q : Nat, c + 1 + q = c + (q + 1) := by intro q; omega
      rw [he]
      rfl
    | false => rfl

theorem lk104 : LOK T0 a104 l104 Try.f104.ntmps (loopAt Try.f104 0) := by
  intro ins outs hA s k out h
  have hA' : ([0, 3], [0, 3]) = (ins, outs) := Option.some.inj ((show a104.lp (firstRegion (loopAt Try.f104 0)) = some ([0, 3], [0, 3]) by kernel_rfl).symm.trans hA)
  cases hA'
  have hk : firstRegion (loopAt Try.f104 0) = 2 := by kernel_rfl
  rw [hk] at h
  change lp104 s k = some out at h
  unfold lp104 at h
  split at h
  · rename_i y e
    cases hg : (!fcmp .lss .f64 (lgDn 200 y).1 4604930618986332160 && (Nat.beq e 0 && Nat.ble (lgDn 200 y).2 400)) with
    | false => rw [hg] at h; cases h
    | true =>
      rw [hg] at h
      simp only [Bool.and_eq_true, decide_eq_true_eq] at hg
      obtain ⟨hd, he, hm⟩ := hg
      refine ⟨201, ?_⟩
      rw [Bool.not_eq_true'] at hd
      have he2 := Nat.eq_of_beq_eq_true he
      subst he2
      have hi := ind104 k 200 y 0 (by omega) hd
      rw [show fint .f64 (-((0 : Nat) : Int)) = 0 by decide +kernel, Nat.zero_add] at hi
      exact hi.trans h
  · cases h
theorem st104_1 (y : Nat) (e : Nat) (m : Nat) (k : Ex → St → R) : iterK a104 [0, 3] [0, 3] (codeK T0 a104 l104 Try.f104.ntmps (loopAt Try.f104 1)) (m + 1) ⟨[(0, .fv (.el (.sc (.fl .f64 y)))), (3, .fv (.el (.sc (.fl .f64 e))))], []⟩ k = (match (fcmp .geq .f64 y 4609434218613702656 : Bool) with
  | true => iterK a104 [0, 3] [0, 3] (codeK T0 a104 l104 Try.f104.ntmps (loopAt Try.f104 1)) m ⟨[(0, .fv (.el (.sc (.fl .f64 (fop .quo .f64 y 4611686018427387904))))), (3, .fv (.el (.sc (.fl .f64 (fop .add .f64 e 4607182418800017408)))))], []⟩ k
  | false => k (.exit 2) ⟨[(0, .fv (.el (.sc (.fl .f64 y)))), (3, .fv (.el (.sc (.fl .f64 e))))], []⟩) := by kernel_rfl
theorem ind104_1 (k : Ex → St → R) : ∀ (m y c : Nat), c + m ≤ 400 → fcmp .geq .f64 (lgUp m y).1 4609434218613702656 = false → iterK a104 [0, 3] [0, 3] (codeK T0 a104 l104 Try.f104.ntmps (loopAt Try.f104 1)) (m + 1) ⟨[(0, .fv (.el (.sc (.fl .f64 y)))), (3, .fv (.el (.sc (.fl .f64 (fint .f64 ((c : Int)))))))], []⟩ k = k (.exit 2) ⟨[(0, .fv (.el (.sc (.fl .f64 ((lgUp m y).1))))), (3, .fv (.el (.sc (.fl .f64 (fint .f64 (((c + (lgUp m y).2 : Nat) : Int)))))))], []⟩ := by
  intro m
  induction m with
  | zero =>
    intro y c h0 hd
    rw [st104_1]
    have hd2 : fcmp .geq .f64 y 4609434218613702656 = false := hd
    rw [hd2]
    rfl
  | succ m ih =>
    intro y c h0 hd
    have hc := (count_up (n := c) (by omega)).1
    rw [st104_1, hc]
    unfold lgUp at hd ⊢
    cases hg : fcmp .geq .f64 y 4609434218613702656 with
    | true =>
      rw [hg] at hd
      refine (ih (fop .quo .f64 y 4611686018427387904) (c + 1) (by omega) hd).trans ?_
      have he : ∀ q : Nat, c + 1 + q = c + (q + 1) := by intro q; omega
      rw [he]
      rfl
    | false => rfl

theorem lk104_1 : LOK T0 a104 l104 Try.f104.ntmps (loopAt Try.f104 1) := by
  intro ins outs hA s k out h
  have hA' : ([0, 3], [0, 3]) = (ins, outs) := Option.some.inj ((show a104.lp (firstRegion (loopAt Try.f104 1)) = some ([0, 3], [0, 3]) by kernel_rfl).symm.trans hA)
  cases hA'
  have hk : firstRegion (loopAt Try.f104 1) = 5 := by kernel_rfl
  rw [hk] at h
  change lp104_1 s k = some out at h
  unfold lp104_1 at h
  split at h
  · rename_i y e
    cases hg : (!fcmp .geq .f64 (lgUp 200 y).1 4609434218613702656 && ((Nat.beq e 0 || Nat.beq (lgUp 200 y).2 0) && Nat.ble (lgUp 200 y).2 400)) with
    | false => rw [hg] at h; cases h
    | true =>
      rw [hg] at h
      simp only [Bool.and_eq_true, decide_eq_true_eq] at hg
      obtain ⟨hd, he, hm⟩ := hg
      refine ⟨201, ?_⟩
      rw [Bool.not_eq_true'] at hd
      have hi := ind104_1 k 200 y 0 (by omega) hd
      rw [show fint .f64 (((0 : Nat) : Int)) = 0 by decide +kernel, Nat.zero_add] at hi
      cases hn : Nat.beq (lgUp 200 y).2 0 with
      | false =>
        have he2 : e = 0 := by
          rw [hn, Bool.or_false] at he
          exact Nat.eq_of_beq_eq_true he
        subst he2
        unfold lgE at h
        rw [hn] at h
        exact hi.trans h
      | true =>
        have hg2 : fcmp .geq .f64 y 4609434218613702656 = false := by
          cases hg : fcmp .geq .f64 y 4609434218613702656 with
          | false => rfl
          | true =>
            have hn2 := Nat.eq_of_beq_eq_true hn
            have : (lgUp (199 + 1) y).2 = 0 := hn2
            unfold lgUp at this
            rw [hg] at this
            exact absurd this (Nat.succ_ne_zero _)
        have hy : lgUp 200 y = (y, 0) := by
          show lgUp (199 + 1) y = (y, 0)
          unfold lgUp
          rw [hg2]
          rfl
        rw [hy] at h
        rw [st104_1, hg2]
        exact h
  · cases h
theorem st104_2 (e : Nat) (z : Nat) (u : Nat) (q : Nat) (i : Nat) (m : Nat) (k : Ex → St → R) : iterK a104 [3, 4, 5, 6, 7] [3, 4, 6] (codeK T0 a104 l104 Try.f104.ntmps (loopAt Try.f104 2)) (m + 1) ⟨[(3, .fv (.el (.sc (.fl .f64 e)))), (4, .fv (.el (.sc (.fl .f64 z)))), (5, .fv (.el (.sc (.fl .f64 u)))), (6, .fv (.el (.sc (.fl .f64 q)))), (7, .fv (.el (.sc (.fl .f64 i))))], []⟩ k = (match (fcmp .geq .f64 i 4607182418800017408 : Bool) with
  | true => iterK a104 [3, 4, 5, 6, 7] [3, 4, 6] (codeK T0 a104 l104 Try.f104.ntmps (loopAt Try.f104 2)) m ⟨[(3, .fv (.el (.sc (.fl .f64 e)))), (4, .fv (.el (.sc (.fl .f64 z)))), (5, .fv (.el (.sc (.fl .f64 u)))), (6, .fv (.el (.sc (.fl .f64 (fop .add .f64 (fop .quo .f64 4607182418800017408 i) (fop .mul .f64 u q)))))), (7, .fv (.el (.sc (.fl .f64 (fop .sub .f64 i 4611686018427387904)))))], []⟩ k
  | false => k (.exit 4) ⟨[(3, .fv (.el (.sc (.fl .f64 e)))), (4, .fv (.el (.sc (.fl .f64 z)))), (6, .fv (.el (.sc (.fl .f64 q))))], []⟩) := by kernel_rfl
theorem un104_2 (e : Nat) (z : Nat) (u : Nat) (q : Nat) (k : Ex → St → R) : iterK a104 [3, 4, 5, 6, 7] [3, 4, 6] (codeK T0 a104 l104 Try.f104.ntmps (loopAt Try.f104 2)) 14 ⟨[(3, .fv (.el (.sc (.fl .f64 e)))), (4, .fv (.el (.sc (.fl .f64 z)))), (5, .fv (.el (.sc (.fl .f64 u)))), (6, .fv (.el (.sc (.fl .f64 q)))), (7, .fv (.el (.sc (.fl .f64 4627730092099895296))))], []⟩ k = k (.exit 4) ⟨[(3, .fv (.el (.sc (.fl .f64 e)))), (4, .fv (.el (.sc (.fl .f64 z)))), (6, .fv (.el (.sc (.fl .f64 (lgPoly u q)))))], []⟩ := by kernel_rfl

theorem lk104_2 : LOK T0 a104 l104 Try.f104.ntmps (loopAt Try.f104 2) := by
  intro ins outs hA s k out h
  have hA' : ([3, 4, 5, 6, 7], [3, 4, 6]) = (ins, outs) := Option.some.inj ((show a104.lp (firstRegion (loopAt Try.f104 2)) = some ([3, 4, 5, 6, 7], [3, 4, 6]) by kernel_rfl).symm.trans hA)
  cases hA'
  have hk : firstRegion (loopAt Try.f104 2) = 11 := by kernel_rfl
  rw [hk] at h
  change lp104_2 s k = some out at h
  unfold lp104_2 at h
  split at h
  · rename_i e z u q i
    cases hg : Nat.beq i 4627730092099895296 with
    | false => rw [hg] at h; cases h
    | true =>
      rw [hg] at h
      replace hg := Nat.eq_of_beq_eq_true hg
      subst hg
      refine ⟨14, ?_⟩
      exact (un104_2 e z u q k).trans h
  · cases h
theorem e104 (y : Nat) : runFn T0 a104 l104 Try.f104 [.el (.sc (.fl .f64 y))] = (match ((!fcmp .lss .f64 (lgDn 200 y).1 4604930618986332160 && (Nat.beq 0 0 && Nat.ble (lgDn 200 y).2 400)) : Bool) with
  | true => (match ((!fcmp .geq .f64 (lgUp 200 ((lgDn 200 y).1)).1 4609434218613702656 && ((Nat.beq (fint .f64 (-((lgDn 200 y).2 : Int))) 0 || Nat.beq (lgUp 200 ((lgDn 200 y).1)).2 0) && Nat.ble (lgUp 200 ((lgDn 200 y).1)).2 400)) : Bool) with
    | true => (match (Nat.beq 4627730092099895296 4627730092099895296 : Bool) with
      | true => some ⟨[.el (.sc (.fl .f64 (fop .add .f64 (fop .mul .f64 4611686018427387904 (fop .mul .f64 ((fop .quo .f64 (fop .sub .f64 ((lgUp 200 ((lgDn 200 y).1)).1) 4607182418800017408) (fop .add .f64 ((lgUp 200 ((lgDn 200 y).1)).1) 4607182418800017408))) (lgPoly (fop .mul .f64 (fop .quo .f64 (fop .sub .f64 ((lgUp 200 ((lgDn 200 y).1)).1) 4607182418800017408) (fop .add .f64 ((lgUp 200 ((lgDn 200 y).1)).1) 4607182418800017408)) (fop .quo .f64 (fop .sub .f64 ((lgUp 200 ((lgDn 200 y).1)).1) 4607182418800017408) (fop .add .f64 ((lgUp 200 ((lgDn 200 y).1)).1) 4607182418800017408))) 0))) (fop .mul .f64 ((lgE ((fint .f64 (-((lgDn 200 y).2 : Int)))) ((lgUp 200 ((lgDn 200 y).1)).2))) 4604418534313441775))))], none⟩
      | false => none)
    | false => none)
  | false => none) := by kernel_rfl
theorem s104 (y : Nat) (hg : (lgIn y) = true) : runFn T0 a104 l104 Try.f104 [.el (.sc (.fl .f64 y))] = some ⟨[.el (.sc (.fl .f64 (logV y)))], none⟩ := by
  rw [e104]
  obtain ⟨f1, f2, f3, f4, f5, f6, f7, f8, f9, f10, f11, f12, f13, f14⟩ := lg_all (lgIn_of hg).1 (lgIn_of hg).2
  have b1 : Nat.ble (lgUp 200 y).2 400 = true := Nat.ble_eq_true_of_le (by omega)
  have b2 : Nat.ble (lgDn 200 y).2 400 = true := Nat.ble_eq_true_of_le (by omega)
  have b3 : Nat.ble (lgUp 200 (lgDn 200 y).1).2 400 = true := Nat.ble_eq_true_of_le (by omega)
  have hE : lgE (fint .f64 (-((lgDn 200 y).2 : Int))) (lgUp 200 (lgDn 200 y).1).2 = fint .f64 (lgN y) := f7
  have g5 : (Nat.beq (fint .f64 (-((lgDn 200 y).2 : Int))) 0 || Nat.beq (lgUp 200 (lgDn 200 y).1).2 0) = true := by
    rw [Bool.or_eq_true] at f5 ⊢
    rcases f5 with h | h
    · left
      rw [Nat.eq_of_beq_eq_true h]
      decide +kernel
    · exact .inr h
  rw [f6] at f4
  simp only [f3, f4, g5, hE, f6, b2, b3, decide_true, Nat.beq_refl, Bool.not_false, Bool.and_self, Bool.true_and, Bool.and_true]
  rfl
theorem c104 (y : Nat) (k : List RV → R) (out : Out) (h : (match (lgIn y : Bool) with
  | true => k [.el (.sc (.fl .f64 (logV y)))]
  | false => none) = some out) : ∃ rs, Real Try.prog 104 ∧ COK Try.prog 104 [.el (.sc (.fl .f64 y))] rs ∧ k rs = some out := by
  cases g0 : (lgIn y : Bool) with
  | true =>
    rw [g0] at h
    exact ⟨_, real Try.func104 (by kernel_rfl), fn_ok tok0 (A := a104) (L := l104) (r := none) Try.func104 (by kernel_rfl) (by kernel_rfl) (loops3 (by kernel_rfl) lk104 lk104_1 lk104_2) (by rw [s104 _ g0]), h⟩
  | false =>
    rw [g0] at h
    cases h

/-! math.Float64bits -/
theorem c110 (c : Nat) (k : List RV → R) (out : Out) (h : (match (isN .f64 c : Bool) with
  | true => none
  | false => k [.el (.sc (.int .u64 ((c : Int))))]) = some out) : ∃ rs, CallOK Try.prog 110 [.el (.sc (.fl .f64 c))] rs ∧ k rs = some out := by
  cases g0 : (isN .f64 c : Bool) with
  | true =>
    rw [g0] at h
    cases h
  | false =>
    rw [g0] at h
    exact ⟨_, x_f64bits Try.func110 (by kernel_rfl) (by kernel_rfl) (by kernel_rfl) (by kernel_rfl) g0, h⟩

/-! math.Float64frombits -/
theorem c113 (n : Int) (k : List RV → R) (out : Out) (h : k [.el (.sc (.fl .f64 (cn .f64 (Int.toNat n))))] = some out) : ∃ rs, CallOK Try.prog 113 [.el (.sc (.int .u64 n))] rs ∧ k rs = some out := by
  exact ⟨_, x_f64from Try.func113 (by kernel_rfl) (by kernel_rfl) (by kernel_rfl) (by kernel_rfl), h⟩

def S1 : SFn := fun f args k => match f, args with
  | 30, [.el (.sc (.fl .f64 a)), .el (.sc (.fl .f64 b))] => k [.el (.sc (.bo (sameF a b)))]
  | 51, [.el (.sc (.int .i64 n)), .el (.sc (.int .i64 a)), .el (.sc (.int .i64 b))] => k [.el (.sc (.bo (within n a b)))]
  | 53, [.el (.sc (.int .i64 n)), .el (.sc (.int .i64 a)), .el (.sc (.int .i64 b))] => k [.el (.sc (.bo (within n a b)))]
  | 56, [.el (.sc (.fl .f32 c))] => k [.el (.sc (.bo (fin c)))]
  | 80, [.el (.sc (.fl .f32 c))] => k [.el (.sc (.bo (fin c)))]
  | 96, [.el (.sc (.fl .f64 c))] => (match fconv .f64 .f32 c with
    | some rn2 => k [.el (.sc (.fl .f32 rn2))]
    | none => none)
  | 104, [.el (.sc (.fl .f64 y))] => (match (lgIn y : Bool) with
    | true => k [.el (.sc (.fl .f64 (logV y)))]
    | false => none)
  | 110, [.el (.sc (.fl .f64 c))] => (match (isN .f64 c : Bool) with
    | true => none
    | false => k [.el (.sc (.int .u64 ((c : Int))))])
  | 113, [.el (.sc (.int .u64 n))] => k [.el (.sc (.fl .f64 (cn .f64 (Int.toNat n))))]
  | _, _ => S0 f args k
abbrev M1 : MFn := M0
def T1 : TT := tab.T S1 muts M1
theorem tok1 : TOK Try.prog T1 := by
  refine (tab_ok tabok).tok (fun f args k out h => ?_) (fun f vec args k out h => ?_)
  · change S1 f args k = some out at h
    unfold S1 at h
    split at h
    · exact (fun k out h => cok_call (c30 _ _ k out h)) k out h
    · exact (fun k out h => cok_call (c51 _ _ _ k out h)) k out h
    · exact (fun k out h => cok_call (c53 _ _ _ k out h)) k out h
    · exact (fun k out h => cok_call (c56 _ k out h)) k out h
    · exact (fun k out h => cok_call (c80 _ k out h)) k out h
    · exact (fun k out h => cok_call (c96 _ k out h)) k out h
    · exact (fun k out h => cok_call (c104 _ k out h)) k out h
    · exact c110 _ k out h
    · exact c113 _ k out h
    · exact tok0.S f args k out h
  · exact tok0.M f vec args k out h

end Go.Sm.Ytdnfgoolapikmaa
