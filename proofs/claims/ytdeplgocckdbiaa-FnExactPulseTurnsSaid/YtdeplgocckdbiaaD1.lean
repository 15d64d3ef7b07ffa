/- What the functions hand back: level 0. -/
import Derived.Test.YtdeplgocckdbiaaD0
namespace Go.Sm.Ytdeplgocckdbiaa
open Go Go.Sm Go.RowKit Go.Proofs

/-! laws.sameFloat -/
theorem e29 (a : Nat) (b : Nat) : runFn T0 none0 noL Try.f29 [.el (.sc (.fl .f64 a)), .el (.sc (.fl .f64 b))] = (match (fcmp .neq .f64 a a : Bool) with
  | true => (match (fcmp .neq .f64 a a : Bool) with
    | true => some ⟨[.el (.sc (.bo (fcmp .neq .f64 b b)))], none⟩
    | false => some ⟨[.el (.sc (.bo false))], none⟩)
  | false => (match (fcmp .neq .f64 b b : Bool) with
    | true => (match (fcmp .neq .f64 a a : Bool) with
      | true => some ⟨[.el (.sc (.bo (fcmp .neq .f64 b b)))], none⟩
      | false => some ⟨[.el (.sc (.bo false))], none⟩)
    | false => (match (fcmp .eql .f64 a 0 : Bool) with
      | true => (match (fcmp .eql .f64 b 0 : Bool) with
        | true => some ⟨[.el (.sc (.bo ((fcmp .gtr .f64 (fop .quo .f64 4607182418800017408 a) 0) == (fcmp .gtr .f64 (fop .quo .f64 4607182418800017408 b) 0))))], none⟩
        | false => some ⟨[.el (.sc (.bo (fcmp .eql .f64 a b)))], none⟩)
      | false => some ⟨[.el (.sc (.bo (fcmp .eql .f64 a b)))], none⟩))) := by kernel_rfl
theorem s29 (a : Nat) (b : Nat) : runFn T0 none0 noL Try.f29 [.el (.sc (.fl .f64 a)), .el (.sc (.fl .f64 b))] = some ⟨[.el (.sc (.bo (sameF a b)))], none⟩ := by
  rw [e29]
  unfold sameF
  cases fcmp .neq .f64 a a <;> cases fcmp .neq .f64 b b <;> cases fcmp .eql .f64 a 0 <;> cases fcmp .eql .f64 b 0 <;> rfl
theorem c29 (a : Nat) (b : Nat) (k : List RV → R) (out : Out) (h : k [.el (.sc (.bo (sameF a b)))] = some out) : ∃ rs, Real Try.prog 29 ∧ COK Try.prog 29 [.el (.sc (.fl .f64 a)), .el (.sc (.fl .f64 b))] rs ∧ k rs = some out := by
  exact ⟨_, real Try.func29 (by kernel_rfl), fn_ok tok0 (A := none0) (L := noL) (r := none) Try.func29 (by kernel_rfl) (by kernel_rfl) (loops0 (by kernel_rfl)) (by rw [s29]), h⟩

/-! laws.toPulse -/
theorem s33 (pa : Nat) (pb : Nat) (pc : Nat) (pd : Nat) : runFn T0 none0 noL Try.f33 [.el (.ag [(.fl .f32 pa), (.fl .f32 pb), (.fl .f32 pc), (.fl .f32 pd)])] = some ⟨[.el (.ag [(.fl .f32 (((⟨pa, pb, pc, pd⟩ : PulseV)).a)), (.fl .f32 (((⟨pa, pb, pc, pd⟩ : PulseV)).b)), (.fl .f32 (((⟨pa, pb, pc, pd⟩ : PulseV)).c)), (.fl .f32 (((⟨pa, pb, pc, pd⟩ : PulseV)).d))])], none⟩ := by kernel_rfl
theorem c33 (pa : Nat) (pb : Nat) (pc : Nat) (pd : Nat) (k : List RV → R) (out : Out) (h : k [.el (.ag [(.fl .f32 (((⟨pa, pb, pc, pd⟩ : PulseV)).a)), (.fl .f32 (((⟨pa, pb, pc, pd⟩ : PulseV)).b)), (.fl .f32 (((⟨pa, pb, pc, pd⟩ : PulseV)).c)), (.fl .f32 (((⟨pa, pb, pc, pd⟩ : PulseV)).d))])] = some out) : ∃ rs, Real Try.prog 33 ∧ COK Try.prog 33 [.el (.ag [(.fl .f32 pa), (.fl .f32 pb), (.fl .f32 pc), (.fl .f32 pd)])] rs ∧ k rs = some out := by
  exact ⟨_, real Try.func33 (by kernel_rfl), fn_ok tok0 (A := none0) (L := noL) (r := none) Try.func33 (by kernel_rfl) (by kernel_rfl) (loops0 (by kernel_rfl)) (by rw [s33]), h⟩

/-! laws.markComplex64S -/
def a36 : Ann := ann [(2, [0, 1, 5], [0, 1])] [0, 4] 1
def lp36 : St → (Ex → St → R) → R := fun s k => match s with
  | ⟨[(0, .fv (.own 0)), (1, .fv (.el (.sc (.int .i64 n)))), (5, .fv (.el (.sc (.int .i64 i))))], [some ⟨e0, ⟨.c64, ys⟩⟩]⟩ => (match (decide (i = 0) && (decide (0 ≤ n) && decide (n + ((ys : List (Nat × Nat)).length : Int) ≤ 64)) : Bool) with
    | true => k (.exit 0) ⟨[(0, .fv (.own 0)), (1, .fv (.el (.sc (.int .i64 (n + ((ys : List (Nat × Nat)).length : Int))))))], [some ⟨e0, ⟨.c64, marksC n (ys : List (Nat × Nat)).length⟩⟩]⟩
    | false => none)
  | _ => none
def l36 : Loops := fun key s k => bif Nat.beq key 2 then lp36 s k else none
theorem st36 (n : Int) (i : Int) (ys : List ((Nat × Nat))) (e0 : Nat) (m : Nat) (k : Ex → St → R) : iterK a36 [0, 1, 5] [0, 1] (codeK T0 a36 l36 Try.f36.ntmps (loopAt Try.f36 0)) (m + 1) ⟨[(0, .fv (.own 0)), (1, .fv (.el (.sc (.int .i64 n)))), (5, .fv (.el (.sc (.int .i64 i))))], [some ⟨e0, ⟨.c64, ys⟩⟩]⟩ k = (match (decide ((i : Int) < (ys.length : Int)) : Bool) with
  | true => (match fconv .f64 .f32 (fint .f64 n) with
    | some r1 => (match fconv .f64 .f32 4607182418800017408 with
      | some s2 => (match (decide (0 ≤ (i : Int) ∧ (i : Int) < (ys.length : Int)) && true : Bool) with
        | true => (match (ys : List ((Nat × Nat)))[Int.toNat i]? with
          | some x3 => iterK a36 [0, 1, 5] [0, 1] (codeK T0 a36 l36 Try.f36.ntmps (loopAt Try.f36 0)) m ⟨[(0, .fv (.own 0)), (1, .fv (.el (.sc (.int .i64 (IntKind.i64.wrap (n + 1)))))), (5, .fv (.el (.sc (.int .i64 (IntKind.i64.wrap (i + 1))))))], [some ⟨e0, ⟨.c64, (ys : List ((Nat × Nat))).set (Int.toNat i) ((r1, s2))⟩⟩]⟩ k
          | none => none)
        | false => none)
      | none => none)
    | none => none)
  | false => k (.exit 0) ⟨[(0, .fv (.own 0)), (1, .fv (.el (.sc (.int .i64 n))))], [some ⟨e0, ⟨.c64, ys⟩⟩]⟩) := by kernel_rfl
theorem ind36 (e0 : Nat) (k : Ex → St → R) : ∀ (m j : Nat) (ys : List (Nat × Nat)) (n : Int), ys.length ≤ 64 → 0 ≤ n → n + m ≤ 64 → j + m = ys.length → iterK a36 [0, 1, 5] [0, 1] (codeK T0 a36 l36 Try.f36.ntmps (loopAt Try.f36 0)) (m + 1) ⟨[(0, .fv (.own 0)), (1, .fv (.el (.sc (.int .i64 n)))), (5, .fv (.el (.sc (.int .i64 (j : Int)))))], [some ⟨e0, ⟨.c64, ys⟩⟩]⟩ k =
    k (.exit 0) ⟨[(0, .fv (.own 0)), (1, .fv (.el (.sc (.int .i64 (n + (m : Int))))))], [some ⟨e0, ⟨.c64, ys.take j ++ marksC n m⟩⟩]⟩ := by
  intro m
  induction m with
  | zero =>
    intro j ys n hb h0 hn hj
    have h1 : ¬ ((j : Int) < (ys.length : Int)) := by omega
    rw [st36, List.take_of_length_le (show ys.length ≤ j by omega)]
    simp [h1, marksC]
  | succ m ih =>
    intro j ys n hb h0 hn hj
    have hlt : j < ys.length := by omega
    have h1 : ((j : Int) < (ys.length : Int)) := by omega
    have h2 : (0 : Int) ≤ (j : Int) := by omega
    have hw : IntKind.i64.wrap (n + 1) = n + 1 := wrap64 (by omega) (by omega)
    have hb2 : Nat.ble ys.length big = true := big_of (by omega)
    have hc := (cx_some h0 (by omega)).1
    have ho := cx_one
    rw [st36, wrap_succ hlt hb2, hw]
    have h4 : ys[Int.toNat (j : Int)]? = some ys[j] := by simp [hlt]
    simp only [h1, h2, h4, hc, ho, and_self, decide_true, Bool.and_true]
    refine (ih (j + 1) (ys.set (Int.toNat (j : Int)) (cxOf n)) (n + 1) (by simpa using hb) (by omega) (by omega) (by simp; omega)).trans ?_
    have h5 : (ys.set (Int.toNat (j : Int)) (cxOf n)).take (j + 1) ++ marksC (n + 1) m = ys.take j ++ marksC n (m + 1) := set_take hlt _ _
    have h6 : n + 1 + (m : Int) = n + ((m + 1 : Nat) : Int) := by omega
    rw [h5, h6]

theorem lk36 : LOK T0 a36 l36 Try.f36.ntmps (loopAt Try.f36 0) := by
  intro ins outs hA s k out h
  have hA' : ([0, 1, 5], [0, 1]) = (ins, outs) := Option.some.inj ((show a36.lp (firstRegion (loopAt Try.f36 0)) = some ([0, 1, 5], [0, 1]) by kernel_rfl).symm.trans hA)
  cases hA'
  have hk : firstRegion (loopAt Try.f36 0) = 2 := by kernel_rfl
  rw [hk] at h
  change lp36 s k = some out at h
  unfold lp36 at h
  split at h
  · rename_i n i e0 ys
    cases hg : (decide (i = 0) && (decide (0 ≤ n) && decide (n + (ys.length : Int) ≤ 64))) with
    | false => rw [hg] at h; cases h
    | true =>
      rw [hg] at h
      simp only [Bool.and_eq_true, decide_eq_true_eq] at hg
      obtain ⟨rfl, hn0, hx⟩ := hg
      refine ⟨ys.length + 1, ?_⟩
      have hh := ind36 e0 k ys.length 0 ys n (by omega) hn0 (by omega) (by omega)
      simp only [List.take_zero, List.nil_append] at hh
      exact hh.trans h
  · cases h
theorem e36 (e : Nat) (xs : List ((Nat × Nat))) (n : Int) : runMn T0 a36 l36 Try.f36 e ⟨.c64, xs⟩ [.el (.sc (.int .i64 n))] = (match (decide (0 = 0) && (decide (0 ≤ n) && decide (n + ((xs : List (Nat × Nat)).length : Int) ≤ 64)) : Bool) with
  | true => some ⟨[.el (.sc (.int .i64 (n + ((xs : List (Nat × Nat)).length : Int))))], some ⟨e, ⟨.c64, marksC n (xs : List (Nat × Nat)).length⟩⟩⟩
  | false => none) := by kernel_rfl
theorem s36 (e : Nat) (xs : List ((Nat × Nat))) (n : Int) : runMn T0 a36 l36 Try.f36 e ⟨.c64, xs⟩ [.el (.sc (.int .i64 n))] = (match (decide (0 ≤ n) && decide (n + (xs.length : Int) ≤ 64) : Bool) with
  | true => some ⟨[.el (.sc (.int .i64 (n + (xs.length : Int))))], some ⟨e, ⟨.c64, marksC n xs.length⟩⟩⟩
  | false => none) := by
  rw [e36]
  cases h : (decide (0 ≤ n) && decide (n + (xs.length : Int) ≤ 64)) <;> simp [h]
theorem c36 (xs : List ((Nat × Nat))) (n : Int) (k : List RV → Vec → R) (out : Out) (h : (match (decide (0 ≤ n) && decide (n + (xs.length : Int) ≤ 64) : Bool) with
  | true => k [.el (.sc (.int .i64 (n + (xs.length : Int))))] ⟨.c64, marksC n xs.length⟩
  | false => none) = some out) : ∃ rs vec, Real Try.prog 36 ∧ CMOK Try.prog 36 ⟨.c64, xs⟩ [.el (.sc (.int .i64 n))] rs vec ∧ k rs vec = some out := by
  cases g0 : (decide (0 ≤ n) && decide (n + (xs.length : Int) ≤ 64) : Bool) with
  | true =>
    rw [g0] at h
    exact ⟨_, _, real Try.func36 (by kernel_rfl), mfn_ok tok0 (A := a36) (L := l36) Try.func36 (by kernel_rfl) (by kernel_rfl) (loops1 (by kernel_rfl) lk36) (by decide) rfl (fun e => by rw [s36, g0]), h⟩
  | false =>
    rw [g0] at h
    cases h

/-! laws.heldComplex64S -/
def a37 : Ann := ann [(2, [0, 1, 5], [1])] [4] 0
def lp37 : St → (Ex → St → R) → R := fun s k => match s with
  | ⟨[(0, .fv (.vw (some 0) ⟨.c64, xs⟩)), (1, .fv (.el (.sc (.int .i64 n)))), (5, .fv (.el (.sc (.int .i64 i))))], []⟩ => (match (decide (i = 0) && (decide (0 ≤ n) && decide (n + (xs.length : Int) ≤ 64)) : Bool) with
    | true => (match (heldC n xs : Bool) with
      | true => k (.exit 0) ⟨[(1, .fv (.el (.sc (.int .i64 (n + (xs.length : Int))))))], []⟩
      | false => k .ret ⟨[(4, .fv (.el (.sc (.int .i64 ((-1))))))], []⟩)
    | false => none)
  | _ => none
def l37 : Loops := fun key s k => bif Nat.beq key 2 then lp37 s k else none
theorem st37 (xs : List ((Nat × Nat))) (n : Int) (i : Int) (m : Nat) (k : Ex → St → R) : iterK a37 [0, 1, 5] [1] (codeK T0 a37 l37 Try.f37.ntmps (loopAt Try.f37 0)) (m + 1) ⟨[(0, .fv (.vw (some 0) ⟨.c64, xs⟩)), (1, .fv (.el (.sc (.int .i64 n)))), (5, .fv (.el (.sc (.int .i64 i))))], []⟩ k = (match (decide ((i : Int) < (xs.length : Int)) : Bool) with
  | true => (match (decide (0 ≤ (i : Int) ∧ (i : Int) < (xs.length : Int)) && true : Bool) with
    | true => (match (xs : List ((Nat × Nat)))[Int.toNat i]? with
      | some x1 => (match fconv .f64 .f32 (fint .f64 n) with
        | some r2 => (match fconv .f64 .f32 4607182418800017408 with
          | some s3 => (match (!(fcmp .eql .f32 x1.1 r2 && fcmp .eql .f32 x1.2 s3) : Bool) with
            | true => k .ret ⟨[(4, .fv (.el (.sc (.int .i64 ((-1))))))], []⟩
            | false => iterK a37 [0, 1, 5] [1] (codeK T0 a37 l37 Try.f37.ntmps (loopAt Try.f37 0)) m ⟨[(0, .fv (.vw (some 0) ⟨.c64, xs⟩)), (1, .fv (.el (.sc (.int .i64 (IntKind.i64.wrap (n + 1)))))), (5, .fv (.el (.sc (.int .i64 (IntKind.i64.wrap (i + 1))))))], []⟩ k)
          | none => none)
        | none => none)
      | none => none)
    | false => none)
  | false => k (.exit 0) ⟨[(1, .fv (.el (.sc (.int .i64 n))))], []⟩) := by kernel_rfl
theorem ind37 (xs : List (Nat × Nat)) (k : Ex → St → R) : ∀ (m j : Nat) (n : Int), 0 ≤ n → n + m ≤ 64 → j + m = xs.length → xs.length ≤ 64 → iterK a37 [0, 1, 5] [1] (codeK T0 a37 l37 Try.f37.ntmps (loopAt Try.f37 0)) (m + 1) ⟨[(0, .fv (.vw (some 0) ⟨.c64, xs⟩)), (1, .fv (.el (.sc (.int .i64 n)))), (5, .fv (.el (.sc (.int .i64 (j : Int)))))], []⟩ k =
    (match heldC n (xs.drop j) with
    | true => k (.exit 0) ⟨[(1, .fv (.el (.sc (.int .i64 (n + (m : Int))))))], []⟩
    | false => k .ret ⟨[(4, .fv (.el (.sc (.int .i64 (-1)))))], []⟩) := by
  intro m
  induction m with
  | zero =>
    intro j n h0 hn hj hb
    have h1 : ¬ ((j : Int) < (xs.length : Int)) := by omega
    rw [st37, List.drop_of_length_le (by omega)]
    simp [h1, heldC]
  | succ m ih =>
    intro j n h0 hn hj hb
    have hlt : j < xs.length := by omega
    have h1 : ((j : Int) < (xs.length : Int)) := by omega
    have h2 : (0 : Int) ≤ (j : Int) := by omega
    have hw : IntKind.i64.wrap (n + 1) = n + 1 := wrap64 (by omega) (by omega)
    have hb2 : Nat.ble xs.length big = true := big_of (by omega)
    have hc := (cx_some h0 (by omega)).1
    have ho := cx_one
    rw [st37, wrap_succ hlt hb2, hw]
    have h4 : xs[Int.toNat (j : Int)]? = some xs[j] := by simp [hlt]
    have h6 : n + 1 + (m : Int) = n + ((m + 1 : Nat) : Int) := by omega
    have hi := ih (j + 1) (n + 1) (by omega) (by omega) (by omega) hb
    rw [h6] at hi
    rw [List.drop_eq_getElem_cons hlt, hi]
    simp only [h1, h2, h4, hc, ho, and_self, decide_true, Bool.and_true]
    have hh : heldC n (xs[j] :: xs.drop (j + 1)) = ((fcmp .eql .f32 xs[j].1 (nar (fint .f64 n)) && fcmp .eql .f32 xs[j].2 1065353216) && heldC (n + 1) (xs.drop (j + 1))) := rfl
    rw [hh]
    cases (fcmp .eql .f32 xs[j].1 (nar (fint .f64 n)) && fcmp .eql .f32 xs[j].2 1065353216) <;> rfl

theorem lk37 : LOK T0 a37 l37 Try.f37.ntmps (loopAt Try.f37 0) := by
  intro ins outs hA s k out h
  have hA' : ([0, 1, 5], [1]) = (ins, outs) := Option.some.inj ((show a37.lp (firstRegion (loopAt Try.f37 0)) = some ([0, 1, 5], [1]) by kernel_rfl).symm.trans hA)
  cases hA'
  have hk : firstRegion (loopAt Try.f37 0) = 2 := by kernel_rfl
  rw [hk] at h
  change lp37 s k = some out at h
  unfold lp37 at h
  split at h
  · rename_i xs n i
    cases hg : (decide (i = 0) && (decide (0 ≤ n) && decide (n + (xs.length : Int) ≤ 64))) with
    | false => rw [hg] at h; cases h
    | true =>
      rw [hg] at h
      simp only [Bool.and_eq_true, decide_eq_true_eq] at hg
      obtain ⟨rfl, hn0, hx⟩ := hg
      refine ⟨xs.length + 1, ?_⟩
      exact (ind37 xs k xs.length 0 n hn0 (by omega) (by omega) (by omega)).trans h
  · cases h
theorem e37 (xs : List ((Nat × Nat))) (n : Int) : runFn T0 a37 l37 Try.f37 [.vw none ⟨.c64, xs⟩, .el (.sc (.int .i64 n))] = (match (decide (0 = 0) && (decide (0 ≤ n) && decide (n + (xs.length : Int) ≤ 64)) : Bool) with
  | true => (match (heldC n xs : Bool) with
    | true => some ⟨[.el (.sc (.int .i64 (n + (xs.length : Int))))], none⟩
    | false => some ⟨[.el (.sc (.int .i64 ((-1))))], none⟩)
  | false => none) := by kernel_rfl
theorem s37 (xs : List ((Nat × Nat))) (n : Int) : runFn T0 a37 l37 Try.f37 [.vw none ⟨.c64, xs⟩, .el (.sc (.int .i64 n))] = (match (decide (0 ≤ n) && decide (n + (xs.length : Int) ≤ 64) : Bool) with
  | true => some ⟨[.el (.sc (.int .i64 (heldN (heldC n xs) (n + (xs.length : Int)))))], none⟩
  | false => none) := by
  rw [e37]
  unfold heldN
  cases h : (decide (0 ≤ n) && decide (n + (xs.length : Int) ≤ 64)) <;> cases h2 : heldC n xs <;> simp [h]
theorem c37 (xs : List ((Nat × Nat))) (n : Int) (k : List RV → R) (out : Out) (h : (match (decide (0 ≤ n) && decide (n + (xs.length : Int) ≤ 64) : Bool) with
  | true => k [.el (.sc (.int .i64 (heldN (heldC n xs) (n + (xs.length : Int)))))]
  | false => none) = some out) : ∃ rs, Real Try.prog 37 ∧ COK Try.prog 37 [.vw none ⟨.c64, xs⟩, .el (.sc (.int .i64 n))] rs ∧ k rs = some out := by
  cases g0 : (decide (0 ≤ n) && decide (n + (xs.length : Int) ≤ 64) : Bool) with
  | true =>
    rw [g0] at h
    exact ⟨_, real Try.func37 (by kernel_rfl), fn_ok tok0 (A := a37) (L := l37) (r := none) Try.func37 (by kernel_rfl) (by kernel_rfl) (loops1 (by kernel_rfl) lk37) (by rw [s37, g0]), h⟩
  | false =>
    rw [g0] at h
    cases h

/-! spec.l01Finite -/
theorem s92 (c : Nat) : runFn T0 none0 noL Try.f92 [.el (.sc (.fl .f32 c))] = some ⟨[.el (.sc (.bo (fin c)))], none⟩ := by kernel_rfl
theorem c92 (c : Nat) (k : List RV → R) (out : Out) (h : k [.el (.sc (.bo (fin c)))] = some out) : ∃ rs, Real Try.prog 92 ∧ COK Try.prog 92 [.el (.sc (.fl .f32 c))] rs ∧ k rs = some out := by
  exact ⟨_, real Try.func92 (by kernel_rfl), fn_ok tok0 (A := none0) (L := noL) (r := none) Try.func92 (by kernel_rfl) (by kernel_rfl) (loops0 (by kernel_rfl)) (by rw [s92]), h⟩

/-! impl.IsFinite -/
theorem s97 (c : Nat) : runFn T0 none0 noL Try.f97 [.el (.sc (.fl .f32 c))] = some ⟨[.el (.sc (.bo (fin c)))], none⟩ := by kernel_rfl
theorem c97 (c : Nat) (k : List RV → R) (out : Out) (h : k [.el (.sc (.bo (fin c)))] = some out) : ∃ rs, Real Try.prog 97 ∧ COK Try.prog 97 [.el (.sc (.fl .f32 c))] rs ∧ k rs = some out := by
  exact ⟨_, real Try.func97 (by kernel_rfl), fn_ok tok0 (A := none0) (L := noL) (r := none) Try.func97 (by kernel_rfl) (by kernel_rfl) (loops0 (by kernel_rfl)) (by rw [s97]), h⟩

/-! impl.turnsOf -/
theorem s104 (c : Nat) (w : Nat) : runFn T0 none0 noL Try.f104 [.el (.sc (.fl .f32 c)), .el (.sc (.fl .f32 w))] = some ⟨[.el (.sc (.fl .f64 (turns c w)))], none⟩ := by kernel_rfl
theorem c104 (c : Nat) (w : Nat) (k : List RV → R) (out : Out) (h : k [.el (.sc (.fl .f64 (turns c w)))] = some out) : ∃ rs, Real Try.prog 104 ∧ COK Try.prog 104 [.el (.sc (.fl .f32 c)), .el (.sc (.fl .f32 w))] rs ∧ k rs = some out := by
  exact ⟨_, real Try.func104 (by kernel_rfl), fn_ok tok0 (A := none0) (L := noL) (r := none) Try.func104 (by kernel_rfl) (by kernel_rfl) (loops0 (by kernel_rfl)) (by rw [s104]), h⟩

/-! impl.ScaleComplex -/
theorem s106 (a : Nat) (b : Nat) (y : Nat) : runFn T0 none0 noL Try.f106 [.el (.sc (.cx .f32 a b)), .el (.sc (.fl .f32 y))] = some ⟨[.el (.sc (.cx .f32 (fop .mul .f32 a y) (fop .mul .f32 b y)))], none⟩ := by kernel_rfl
theorem c106 (a : Nat) (b : Nat) (y : Nat) (k : List RV → R) (out : Out) (h : k [.el (.sc (.cx .f32 (fop .mul .f32 a y) (fop .mul .f32 b y)))] = some out) : ∃ rs, Real Try.prog 106 ∧ COK Try.prog 106 [.el (.sc (.cx .f32 a b)), .el (.sc (.fl .f32 y))] rs ∧ k rs = some out := by
  exact ⟨_, real Try.func106 (by kernel_rfl), fn_ok tok0 (A := none0) (L := noL) (r := none) Try.func106 (by kernel_rfl) (by kernel_rfl) (loops0 (by kernel_rfl)) (by rw [s106]), h⟩

/-! impl.ConjugateOf -/
theorem s108 (a : Nat) (b : Nat) : runFn T0 none0 noL Try.f108 [.el (.sc (.cx .f32 a b))] = some ⟨[.el (.sc (.cx .f32 a (fneg .f32 b)))], none⟩ := by kernel_rfl
theorem c108 (a : Nat) (b : Nat) (k : List RV → R) (out : Out) (h : k [.el (.sc (.cx .f32 a (fneg .f32 b)))] = some out) : ∃ rs, Real Try.prog 108 ∧ COK Try.prog 108 [.el (.sc (.cx .f32 a b))] rs ∧ k rs = some out := by
  exact ⟨_, real Try.func108 (by kernel_rfl), fn_ok tok0 (A := none0) (L := noL) (r := none) Try.func108 (by kernel_rfl) (by kernel_rfl) (loops0 (by kernel_rfl)) (by rw [s108]), h⟩

/-! spec.l01Narrow -/
theorem s148 (c : Nat) : runFn T0 none0 noL Try.f148 [.el (.sc (.fl .f64 c))] = (match fconv .f64 .f32 c with
  | some rn1 => some ⟨[.el (.sc (.fl .f32 rn1))], none⟩
  | none => none) := by kernel_rfl
theorem c148 (c : Nat) (k : List RV → R) (out : Out) (h : (match fconv .f64 .f32 c with
  | some rn0 => k [.el (.sc (.fl .f32 rn0))]
  | none => none) = some out) : ∃ rs, Real Try.prog 148 ∧ COK Try.prog 148 [.el (.sc (.fl .f64 c))] rs ∧ k rs = some out := by
  cases g0 : (fconv .f64 .f32 c) with
  | some rn0 =>
    rw [g0] at h
    exact ⟨_, real Try.func148 (by kernel_rfl), fn_ok tok0 (A := none0) (L := noL) (r := none) Try.func148 (by kernel_rfl) (by kernel_rfl) (loops0 (by kernel_rfl)) (by rw [s148, g0]), h⟩
  | none =>
    rw [g0] at h
    cases h

/-! spec.l04Turns -/
theorem s163 (c : Nat) (w : Nat) : runFn T0 none0 noL Try.f163 [.el (.sc (.fl .f32 c)), .el (.sc (.fl .f32 w))] = some ⟨[.el (.sc (.fl .f64 (turns w c)))], none⟩ := by kernel_rfl
theorem c163 (c : Nat) (w : Nat) (k : List RV → R) (out : Out) (h : k [.el (.sc (.fl .f64 (turns w c)))] = some out) : ∃ rs, Real Try.prog 163 ∧ COK Try.prog 163 [.el (.sc (.fl .f32 c)), .el (.sc (.fl .f32 w))] rs ∧ k rs = some out := by
  exact ⟨_, real Try.func163 (by kernel_rfl), fn_ok tok0 (A := none0) (L := noL) (r := none) Try.func163 (by kernel_rfl) (by kernel_rfl) (loops0 (by kernel_rfl)) (by rw [s163]), h⟩

/-! spec.l01Scale -/
theorem s164 (a : Nat) (b : Nat) (y : Nat) : runFn T0 none0 noL Try.f164 [.el (.sc (.cx .f32 a b)), .el (.sc (.fl .f32 y))] = some ⟨[.el (.sc (.cx .f32 (fop .mul .f32 a y) (fop .mul .f32 b y)))], none⟩ := by kernel_rfl
theorem c164 (a : Nat) (b : Nat) (y : Nat) (k : List RV → R) (out : Out) (h : k [.el (.sc (.cx .f32 (fop .mul .f32 a y) (fop .mul .f32 b y)))] = some out) : ∃ rs, Real Try.prog 164 ∧ COK Try.prog 164 [.el (.sc (.cx .f32 a b)), .el (.sc (.fl .f32 y))] rs ∧ k rs = some out := by
  exact ⟨_, real Try.func164 (by kernel_rfl), fn_ok tok0 (A := none0) (L := noL) (r := none) Try.func164 (by kernel_rfl) (by kernel_rfl) (loops0 (by kernel_rfl)) (by rw [s164]), h⟩

/-! spec.l01Conj -/
theorem s166 (a : Nat) (b : Nat) : runFn T0 none0 noL Try.f166 [.el (.sc (.cx .f32 a b))] = some ⟨[.el (.sc (.cx .f32 a (fneg .f32 b)))], none⟩ := by kernel_rfl
theorem c166 (a : Nat) (b : Nat) (k : List RV → R) (out : Out) (h : k [.el (.sc (.cx .f32 a (fneg .f32 b)))] = some out) : ∃ rs, Real Try.prog 166 ∧ COK Try.prog 166 [.el (.sc (.cx .f32 a b))] rs ∧ k rs = some out := by
  exact ⟨_, real Try.func166 (by kernel_rfl), fn_ok tok0 (A := none0) (L := noL) (r := none) Try.func166 (by kernel_rfl) (by kernel_rfl) (loops0 (by kernel_rfl)) (by rw [s166]), h⟩

/-! impl.times -/
theorem s168 (a : Nat) (b : Nat) (c : Nat) (d : Nat) : runFn T0 none0 noL Try.f168 [.el (.sc (.cx .f32 a b)), .el (.sc (.cx .f32 c d))] = some ⟨[.el (.sc (.fl .f64 (fop .sub .f64 (fop .mul .f64 (wid a) (wid c)) (fop .mul .f64 (wid b) (wid d))))), .el (.sc (.fl .f64 (fop .add .f64 (fop .mul .f64 (wid a) (wid d)) (fop .mul .f64 (wid b) (wid c)))))], none⟩ := by kernel_rfl
theorem c168 (a : Nat) (b : Nat) (c : Nat) (d : Nat) (k : List RV → R) (out : Out) (h : k [.el (.sc (.fl .f64 (fop .sub .f64 (fop .mul .f64 (wid a) (wid c)) (fop .mul .f64 (wid b) (wid d))))), .el (.sc (.fl .f64 (fop .add .f64 (fop .mul .f64 (wid a) (wid d)) (fop .mul .f64 (wid b) (wid c)))))] = some out) : ∃ rs, Real Try.prog 168 ∧ COK Try.prog 168 [.el (.sc (.cx .f32 a b)), .el (.sc (.cx .f32 c d))] rs ∧ k rs = some out := by
  exact ⟨_, real Try.func168 (by kernel_rfl), fn_ok tok0 (A := none0) (L := noL) (r := none) Try.func168 (by kernel_rfl) (by kernel_rfl) (loops0 (by kernel_rfl)) (by rw [s168]), h⟩

/-! math.Float32frombits -/
theorem c184 (n : Int) (k : List RV → R) (out : Out) (h : k [.el (.sc (.fl .f32 (cn .f32 (Int.toNat n))))] = some out) : ∃ rs, CallOK Try.prog 184 [.el (.sc (.int .u32 n))] rs ∧ k rs = some out := by
  exact ⟨_, x_f32from Try.func184 (by kernel_rfl) (by kernel_rfl) (by kernel_rfl) (by kernel_rfl), h⟩

/-! math.Float64frombits -/
theorem c185 (n : Int) (k : List RV → R) (out : Out) (h : k [.el (.sc (.fl .f64 (cn .f64 (Int.toNat n))))] = some out) : ∃ rs, CallOK Try.prog 185 [.el (.sc (.int .u64 n))] rs ∧ k rs = some out := by
  exact ⟨_, x_f64from Try.func185 (by kernel_rfl) (by kernel_rfl) (by kernel_rfl) (by kernel_rfl), h⟩

/-! math.sqrt -/
theorem c192 (c : Nat) (k : List RV → R) (out : Out) (h : k [.el (.sc (.fl .f64 (fsqrt c)))] = some out) : ∃ rs, CallOK Try.prog 192 [.el (.sc (.fl .f64 c))] rs ∧ k rs = some out := by
  exact ⟨_, x_sqrt Try.func192 (by kernel_rfl) (by kernel_rfl) (by kernel_rfl) (by kernel_rfl), h⟩

/-! spec.l01WideMul -/
theorem s195 (a : Nat) (b : Nat) (c : Nat) (d : Nat) : runFn T0 none0 noL Try.f195 [.el (.sc (.cx .f64 a b)), .el (.sc (.cx .f64 c d))] = some ⟨[.el (.sc (.cx .f64 (fop .sub .f64 (fop .mul .f64 a c) (fop .mul .f64 b d)) (fop .add .f64 (fop .mul .f64 a d) (fop .mul .f64 b c))))], none⟩ := by kernel_rfl
theorem c195 (a : Nat) (b : Nat) (c : Nat) (d : Nat) (k : List RV → R) (out : Out) (h : k [.el (.sc (.cx .f64 (fop .sub .f64 (fop .mul .f64 a c) (fop .mul .f64 b d)) (fop .add .f64 (fop .mul .f64 a d) (fop .mul .f64 b c))))] = some out) : ∃ rs, Real Try.prog 195 ∧ COK Try.prog 195 [.el (.sc (.cx .f64 a b)), .el (.sc (.cx .f64 c d))] rs ∧ k rs = some out := by
  exact ⟨_, real Try.func195 (by kernel_rfl), fn_ok tok0 (A := none0) (L := noL) (r := none) Try.func195 (by kernel_rfl) (by kernel_rfl) (loops0 (by kernel_rfl)) (by rw [s195]), h⟩

/-! spec.l01Wide -/
theorem s196 (a : Nat) (b : Nat) : runFn T0 none0 noL Try.f196 [.el (.sc (.cx .f32 a b))] = some ⟨[.el (.sc (.cx .f64 (wid a) (wid b)))], none⟩ := by kernel_rfl
theorem c196 (a : Nat) (b : Nat) (k : List RV → R) (out : Out) (h : k [.el (.sc (.cx .f64 (wid a) (wid b)))] = some out) : ∃ rs, Real Try.prog 196 ∧ COK Try.prog 196 [.el (.sc (.cx .f32 a b))] rs ∧ k rs = some out := by
  exact ⟨_, real Try.func196 (by kernel_rfl), fn_ok tok0 (A := none0) (L := noL) (r := none) Try.func196 (by kernel_rfl) (by kernel_rfl) (loops0 (by kernel_rfl)) (by rw [s196]), h⟩

/-! math.Float64bits -/
theorem c217 (c : Nat) (k : List RV → R) (out : Out) (h : (match (isN .f64 c : Bool) with
  | true => none
  | false => k [.el (.sc (.int .u64 ((c : Int))))]) = some out) : ∃ rs, CallOK Try.prog 217 [.el (.sc (.fl .f64 c))] rs ∧ k rs = some out := by
  cases g0 : (isN .f64 c : Bool) with
  | true =>
    rw [g0] at h
    cases h
  | false =>
    rw [g0] at h
    exact ⟨_, x_f64bits Try.func217 (by kernel_rfl) (by kernel_rfl) (by kernel_rfl) (by kernel_rfl) g0, h⟩

/-! math.archTrunc -/
theorem c218 (c : Nat) (k : List RV → R) (out : Out) (h : k [.el (.sc (.fl .f64 (fround .zero c)))] = some out) : ∃ rs, CallOK Try.prog 218 [.el (.sc (.fl .f64 c))] rs ∧ k rs = some out := by
  exact ⟨_, x_round (name := "math.archTrunc") (way := .zero) Try.func218 (by kernel_rfl) (by kernel_rfl) (by kernel_rfl) (by kernel_rfl), h⟩

def S1 : SFn := fun f args k => match f, args with
  | 29, [.el (.sc (.fl .f64 a)), .el (.sc (.fl .f64 b))] => k [.el (.sc (.bo (sameF a b)))]
  | 33, [.el (.ag [(.fl .f32 pa), (.fl .f32 pb), (.fl .f32 pc), (.fl .f32 pd)])] => k [.el (.ag [(.fl .f32 (((⟨pa, pb, pc, pd⟩ : PulseV)).a)), (.fl .f32 (((⟨pa, pb, pc, pd⟩ : PulseV)).b)), (.fl .f32 (((⟨pa, pb, pc, pd⟩ : PulseV)).c)), (.fl .f32 (((⟨pa, pb, pc, pd⟩ : PulseV)).d))])]
  | 37, [.vw none ⟨.c64, xs⟩, .el (.sc (.int .i64 n))] => (match (decide (0 ≤ n) && decide (n + (xs.length : Int) ≤ 64) : Bool) with
    | true => k [.el (.sc (.int .i64 (heldN (heldC n xs) (n + (xs.length : Int)))))]
    | false => none)
  | 92, [.el (.sc (.fl .f32 c))] => k [.el (.sc (.bo (fin c)))]
  | 97, [.el (.sc (.fl .f32 c))] => k [.el (.sc (.bo (fin c)))]
  | 104, [.el (.sc (.fl .f32 c)), .el (.sc (.fl .f32 w))] => k [.el (.sc (.fl .f64 (turns c w)))]
  | 106, [.el (.sc (.cx .f32 a b)), .el (.sc (.fl .f32 y))] => k [.el (.sc (.cx .f32 (fop .mul .f32 a y) (fop .mul .f32 b y)))]
  | 108, [.el (.sc (.cx .f32 a b))] => k [.el (.sc (.cx .f32 a (fneg .f32 b)))]
  | 148, [.el (.sc (.fl .f64 c))] => (match fconv .f64 .f32 c with
    | some rn2 => k [.el (.sc (.fl .f32 rn2))]
    | none => none)
  | 163, [.el (.sc (.fl .f32 c)), .el (.sc (.fl .f32 w))] => k [.el (.sc (.fl .f64 (turns w c)))]
  | 164, [.el (.sc (.cx .f32 a b)), .el (.sc (.fl .f32 y))] => k [.el (.sc (.cx .f32 (fop .mul .f32 a y) (fop .mul .f32 b y)))]
  | 166, [.el (.sc (.cx .f32 a b))] => k [.el (.sc (.cx .f32 a (fneg .f32 b)))]
  | 168, [.el (.sc (.cx .f32 a b)), .el (.sc (.cx .f32 c d))] => k [.el (.sc (.fl .f64 (fop .sub .f64 (fop .mul .f64 (wid a) (wid c)) (fop .mul .f64 (wid b) (wid d))))), .el (.sc (.fl .f64 (fop .add .f64 (fop .mul .f64 (wid a) (wid d)) (fop .mul .f64 (wid b) (wid c)))))]
  | 184, [.el (.sc (.int .u32 n))] => k [.el (.sc (.fl .f32 (cn .f32 (Int.toNat n))))]
  | 185, [.el (.sc (.int .u64 n))] => k [.el (.sc (.fl .f64 (cn .f64 (Int.toNat n))))]
  | 192, [.el (.sc (.fl .f64 c))] => k [.el (.sc (.fl .f64 (fsqrt c)))]
  | 195, [.el (.sc (.cx .f64 a b)), .el (.sc (.cx .f64 c d))] => k [.el (.sc (.cx .f64 (fop .sub .f64 (fop .mul .f64 a c) (fop .mul .f64 b d)) (fop .add .f64 (fop .mul .f64 a d) (fop .mul .f64 b c))))]
  | 196, [.el (.sc (.cx .f32 a b))] => k [.el (.sc (.cx .f64 (wid a) (wid b)))]
  | 217, [.el (.sc (.fl .f64 c))] => (match (isN .f64 c : Bool) with
    | true => none
    | false => k [.el (.sc (.int .u64 ((c : Int))))])
  | 218, [.el (.sc (.fl .f64 c))] => k [.el (.sc (.fl .f64 (fround .zero c)))]
  | _, _ => S0 f args k
def M1 : MFn := fun f vec args k => match f, vec, args with
  | 36, ⟨.c64, xs⟩, [.el (.sc (.int .i64 n))] => (match (decide (0 ≤ n) && decide (n + (xs.length : Int) ≤ 64) : Bool) with
    | true => k [.el (.sc (.int .i64 (n + (xs.length : Int))))] ⟨.c64, marksC n xs.length⟩
    | false => none)
  | _, _, _ => M0 f vec args k
def T1 : TT := tab.T S1 muts M1
theorem tok1 : TOK Try.prog T1 := by
  refine (tab_ok tabok).tok (fun f args k out h => ?_) (fun f vec args k out h => ?_)
  · change S1 f args k = some out at h
    unfold S1 at h
    split at h
    · exact (fun k out h => cok_call (c29 _ _ k out h)) k out h
    · exact (fun k out h => cok_call (c33 _ _ _ _ k out h)) k out h
    · exact (fun k out h => cok_call (c37 _ _ k out h)) k out h
    · exact (fun k out h => cok_call (c92 _ k out h)) k out h
    · exact (fun k out h => cok_call (c97 _ k out h)) k out h
    · exact (fun k out h => cok_call (c104 _ _ k out h)) k out h
    · exact (fun k out h => cok_call (c106 _ _ _ k out h)) k out h
    · exact (fun k out h => cok_call (c108 _ _ k out h)) k out h
    · exact (fun k out h => cok_call (c148 _ k out h)) k out h
    · exact (fun k out h => cok_call (c163 _ _ k out h)) k out h
    · exact (fun k out h => cok_call (c164 _ _ _ k out h)) k out h
    · exact (fun k out h => cok_call (c166 _ _ k out h)) k out h
    · exact (fun k out h => cok_call (c168 _ _ _ _ k out h)) k out h
    · exact c184 _ k out h
    · exact c185 _ k out h
    · exact c192 _ k out h
    · exact (fun k out h => cok_call (c195 _ _ _ _ k out h)) k out h
    · exact (fun k out h => cok_call (c196 _ _ k out h)) k out h
    · exact c217 _ k out h
    · exact c218 _ k out h
    · exact tok0.S f args k out h
  · change M1 f vec args k = some out at h
    unfold M1 at h
    split at h
    · exact c36 _ _ k out h
    · exact tok0.M f vec args k out h

end Go.Sm.Ytdeplgocckdbiaa
