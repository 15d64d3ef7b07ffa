/- What the functions hand back: level 0. -/
import Derived.Test.YtpnkcjlapkhclaaD0
namespace Go.Sm.Ytpnkcjlapkhclaa
open Go Go.Sm Go.RowKit Go.Proofs

/-! laws.sameFloat -/
theorem e19 (a : Nat) (b : Nat) : runFn T0 none0 noL Try.f19 [.el (.sc (.fl .f64 a)), .el (.sc (.fl .f64 b))] = (match (fcmp .neq .f64 a a : Bool) with
  | true => (match (fcmp .neq .f64 a a : Bool) with
    | true => some ⟨[.el (.sc (.bo (fcmp .neq .f64 b b)))], none⟩
    | false => some ⟨[.el (.sc (.bo false))], none⟩)
  | false => (match (fcmp .neq .f64 b b : Bool) with
    | true => (match (fcmp .neq .f64 a a : Bool) with
      | true => some ⟨[.el (.sc (.bo (fcmp .neq .f64 b b)))], none⟩
      | false => some ⟨[.el (.sc (.bo false))], none⟩)
    | false => (match (fcmp .eql .f64 a 0 : Bool) with
      | true => (match (fcmp .eql .f64 b 0 : Bool) with
        | true => some ⟨[.el (.sc (.bo ((fcmp .gtr .f64 (fop .quo .f64 4607182418800017408 a) 0) == (fcmp .gtr .f64 (fop .quo .f64 4607182418800017408 b) 0))))], none⟩
        | false => some ⟨[.el (.sc (.bo (fcmp .eql .f64 a b)))], none⟩)
      | false => some ⟨[.el (.sc (.bo (fcmp .eql .f64 a b)))], none⟩))) := by kernel_rfl
theorem s19 (a : Nat) (b : Nat) : runFn T0 none0 noL Try.f19 [.el (.sc (.fl .f64 a)), .el (.sc (.fl .f64 b))] = some ⟨[.el (.sc (.bo (sameF a b)))], none⟩ := by
  rw [e19]
  unfold sameF
  cases fcmp .neq .f64 a a <;> cases fcmp .neq .f64 b b <;> cases fcmp .eql .f64 a 0 <;> cases fcmp .eql .f64 b 0 <;> rfl
theorem c19 (a : Nat) (b : Nat) (k : List RV → R) (out : Out) (h : k [.el (.sc (.bo (sameF a b)))] = some out) : ∃ rs, Real Try.prog 19 ∧ COK Try.prog 19 [.el (.sc (.fl .f64 a)), .el (.sc (.fl .f64 b))] rs ∧ k rs = some out := by
  exact ⟨_, real Try.func19 (by kernel_rfl), fn_ok tok0 (A := none0) (L := noL) (r := none) Try.func19 (by kernel_rfl) (by kernel_rfl) (loops0 (by kernel_rfl)) (by rw [s19]), h⟩

/-! laws.toFloat32S -/
def a23 : Ann := ann [(3, [0, 3, 4], [3])] [2] 0
def l23 : Loops := fun key s k => match key, s with
  | 3, ⟨[(0, .fv (.vw (some 0) ⟨.f32, xs⟩)), (3, .fv (.own 0)), (4, .fv (.el (.sc (.int .i64 i))))], [some ⟨e0, ⟨.f32, ys⟩⟩]⟩ => (match (decide (i = 0) && (Nat.beq (ys : List Nat).length xs.length && Nat.ble xs.length big) : Bool) with
    | true => k (.exit 0) ⟨[(3, .fv (.own 0))], [some ⟨e0, ⟨.f32, xs⟩⟩]⟩
    | false => none)
  | _, _ => none
theorem st23 (xs : List Nat) (i : Int) (ys : List Nat) (e0 : Nat) (m : Nat) (k : Ex → St → R) : iterK a23 [0, 3, 4] [3] (codeK T0 a23 l23 Try.f23.ntmps (loopAt Try.f23 0)) (m + 1) ⟨[(0, .fv (.vw (some 0) ⟨.f32, xs⟩)), (3, .fv (.own 0)), (4, .fv (.el (.sc (.int .i64 i))))], [some ⟨e0, ⟨.f32, ys⟩⟩]⟩ k = (match (decide ((i : Int) < (xs.length : Int)) : Bool) with
  | true => (match (decide (0 ≤ (i : Int) ∧ (i : Int) < (xs.length : Int)) && true : Bool) with
    | true => (match (xs : List Nat)[Int.toNat i]? with
      | some x1 => (match (decide (0 ≤ (i : Int) ∧ (i : Int) < (ys.length : Int)) && true : Bool) with
        | true => (match (ys : List Nat)[Int.toNat i]? with
          | some x2 => iterK a23 [0, 3, 4] [3] (codeK T0 a23 l23 Try.f23.ntmps (loopAt Try.f23 0)) m ⟨[(0, .fv (.vw (some 0) ⟨.f32, xs⟩)), (3, .fv (.own 0)), (4, .fv (.el (.sc (.int .i64 (IntKind.i64.wrap (i + 1))))))], [some ⟨e0, ⟨.f32, (ys : List Nat).set (Int.toNat i) x1⟩⟩]⟩ k
          | none => none)
        | false => none)
      | none => none)
    | false => none)
  | false => k (.exit 0) ⟨[(3, .fv (.own 0))], [some ⟨e0, ⟨.f32, ys⟩⟩]⟩) := by kernel_rfl
theorem ind23 (xs : List Nat) (hx : Nat.ble xs.length big = true) (e0 : Nat) (k : Ex → St → R) : ∀ (m j : Nat) (ys : List Nat), ys.length = xs.length → j + m = xs.length → iterK a23 [0, 3, 4] [3] (codeK T0 a23 l23 Try.f23.ntmps (loopAt Try.f23 0)) (m + 1) ⟨[(0, .fv (.vw (some 0) ⟨.f32, xs⟩)), (3, .fv (.own 0)), (4, .fv (.el (.sc (.int .i64 (j : Int)))))], [some ⟨e0, ⟨.f32, ys⟩⟩]⟩ k =
    k (.exit 0) ⟨[(3, .fv (.own 0))], [some ⟨e0, ⟨.f32, ys.take j ++ xs.drop j⟩⟩]⟩ := by
  intro m
  induction m with
  | zero =>
    intro j ys hl hj
    have h1 : ¬ ((j : Int) < (xs.length : Int)) := by omega
    rw [st23, List.drop_of_length_le (show xs.length ≤ j by omega), List.take_of_length_le (show ys.length ≤ j by omega)]
    simp [h1]
  | succ m ih =>
    intro j ys hl hj
    have hlt : j < xs.length := by omega
    have hlt2 : j < ys.length := by omega
    have h1 : ((j : Int) < (xs.length : Int)) := by omega
    have h12 : ((j : Int) < (ys.length : Int)) := by omega
    have h2 : (0 : Int) ≤ (j : Int) := by omega
    rw [st23, wrap_succ hlt hx]
    have h3 : xs[Int.toNat (j : Int)]? = some xs[j] := by simp [hlt]
    have h4 : ys[Int.toNat (j : Int)]? = some ys[j] := by simp [hlt2]
    simp only [h1, h12, h2, h3, h4, and_self, decide_true, Bool.and_true]
    refine (ih (j + 1) (ys.set (Int.toNat (j : Int)) xs[j]) (by simpa using hl) (by omega)).trans ?_
    have h5 : (ys.set (Int.toNat (j : Int)) xs[j]).take (j + 1) ++ xs.drop (j + 1) = ys.take j ++ xs.drop j := by
      rw [List.drop_eq_getElem_cons hlt]
      exact set_take hlt2 _ _
    rw [h5]

theorem lk23 : LOK T0 a23 l23 Try.f23.ntmps (loopAt Try.f23 0) := by
  intro ins outs hA s k out h
  have hA' : ([0, 3, 4], [3]) = (ins, outs) := Option.some.inj ((show a23.lp (firstRegion (loopAt Try.f23 0)) = some ([0, 3, 4], [3]) by kernel_rfl).symm.trans hA)
  cases hA'
  have hk : firstRegion (loopAt Try.f23 0) = 3 := by kernel_rfl
  rw [hk] at h
  unfold l23 at h
  split at h
  · rename_i xs i e0 ys _
    cases hg : (decide (i = 0) && (Nat.beq ys.length xs.length && Nat.ble xs.length big)) with
    | false => rw [hg] at h; cases h
    | true =>
      rw [hg] at h
      simp only [Bool.and_eq_true, decide_eq_true_eq] at hg
      obtain ⟨rfl, hl, hx⟩ := hg
      refine ⟨xs.length + 1, ?_⟩
      have hh := ind23 xs hx e0 k xs.length 0 ys (Nat.eq_of_beq_eq_true hl) (by omega)
      simp only [List.take_zero, List.nil_append, List.drop_zero] at hh
      exact hh.trans h
  · cases h
theorem e23 (xs : List Nat) : runFn T0 a23 l23 Try.f23 [.vw none ⟨.f32, xs⟩] = (match (decide (0 ≤ ((xs.length : Int) : Int) ∧ ((xs.length : Int) : Int) = (xs.length : Int) ∧ ((xs.length : Int) : Int) ≤ 1099511627776) : Bool) with
  | true => (match (decide (0 = 0) && (Nat.beq (List.replicate (Int.toNat ((xs.length : Int))) ((0 : Nat)) : List Nat).length xs.length && Nat.ble xs.length big) : Bool) with
    | true => some ⟨[.fresh 22 ⟨.f32, xs⟩], none⟩
    | false => none)
  | false => none) := by kernel_rfl
theorem s23 (xs : List Nat) : runFn T0 a23 l23 Try.f23 [.vw none ⟨.f32, xs⟩] = (match (Nat.ble xs.length big : Bool) with
  | true => some ⟨[.fresh 22 ⟨.f32, xs⟩], none⟩
  | false => none) := by
  rw [e23]
  cases h : Nat.ble xs.length big with
  | false => cases hd : decide ((xs.length : Int) ≤ 1099511627776) <;> simp [hd]
  | true =>
    have hx := Nat.le_of_ble_eq_true h
    unfold big at hx
    have h2 : ((xs.length : Int) ≤ 1099511627776) := by omega
    simp [h2]
theorem c23 (xs : List Nat) (k : List RV → R) (out : Out) (h : (match (Nat.ble xs.length big : Bool) with
  | true => k [.fresh 22 ⟨.f32, xs⟩]
  | false => none) = some out) : ∃ rs, Real Try.prog 23 ∧ COK Try.prog 23 [.vw none ⟨.f32, xs⟩] rs ∧ k rs = some out := by
  cases g0 : (Nat.ble xs.length big : Bool) with
  | true =>
    rw [g0] at h
    exact ⟨_, real Try.func23 (by kernel_rfl), fn_ok tok0 (A := a23) (L := l23) (r := none) Try.func23 (by kernel_rfl) (by kernel_rfl) (loops1 (by kernel_rfl) lk23) (by rw [s23, g0]), h⟩
  | false =>
    rw [g0] at h
    cases h

/-! laws.markFloat32S -/
def a37 : Ann := ann [(2, [0, 1, 5], [0, 1])] [0, 4] 1
def l37 : Loops := fun key s k => match key, s with
  | 2, ⟨[(0, .fv (.own 0)), (1, .fv (.el (.sc (.int .i64 n)))), (5, .fv (.el (.sc (.int .i64 i))))], [some ⟨e0, ⟨.f32, ys⟩⟩]⟩ => (match (decide (i = 0) && (decide (0 ≤ n ∧ n ≤ 1099511627776) && Nat.ble (ys : List Nat).length big) : Bool) with
    | true => k (.exit 0) ⟨[(0, .fv (.own 0)), (1, .fv (.el (.sc (.int .i64 (n + ((ys : List Nat).length : Int))))))], [some ⟨e0, ⟨.f32, marks n (ys : List Nat).length⟩⟩]⟩
    | false => none)
  | _, _ => none
theorem st37 (n : Int) (i : Int) (ys : List Nat) (e0 : Nat) (m : Nat) (k : Ex → St → R) : iterK a37 [0, 1, 5] [0, 1] (codeK T0 a37 l37 Try.f37.ntmps (loopAt Try.f37 0)) (m + 1) ⟨[(0, .fv (.own 0)), (1, .fv (.el (.sc (.int .i64 n)))), (5, .fv (.el (.sc (.int .i64 i))))], [some ⟨e0, ⟨.f32, ys⟩⟩]⟩ k = (match (decide ((i : Int) < (ys.length : Int)) : Bool) with
  | true => (match (decide (0 ≤ (i : Int) ∧ (i : Int) < (ys.length : Int)) && true : Bool) with
    | true => (match (ys : List Nat)[Int.toNat i]? with
      | some x1 => iterK a37 [0, 1, 5] [0, 1] (codeK T0 a37 l37 Try.f37.ntmps (loopAt Try.f37 0)) m ⟨[(0, .fv (.own 0)), (1, .fv (.el (.sc (.int .i64 (IntKind.i64.wrap (n + 1)))))), (5, .fv (.el (.sc (.int .i64 (IntKind.i64.wrap (i + 1))))))], [some ⟨e0, ⟨.f32, (ys : List Nat).set (Int.toNat i) (fint .f32 n)⟩⟩]⟩ k
      | none => none)
    | false => none)
  | false => k (.exit 0) ⟨[(0, .fv (.own 0)), (1, .fv (.el (.sc (.int .i64 n))))], [some ⟨e0, ⟨.f32, ys⟩⟩]⟩) := by kernel_rfl
theorem ind37 (e0 : Nat) (k : Ex → St → R) : ∀ (m j : Nat) (ys : List Nat) (n : Int), Nat.ble ys.length big = true → 0 ≤ n → n + m ≤ 2199023255552 → j + m = ys.length → iterK a37 [0, 1, 5] [0, 1] (codeK T0 a37 l37 Try.f37.ntmps (loopAt Try.f37 0)) (m + 1) ⟨[(0, .fv (.own 0)), (1, .fv (.el (.sc (.int .i64 n)))), (5, .fv (.el (.sc (.int .i64 (j : Int)))))], [some ⟨e0, ⟨.f32, ys⟩⟩]⟩ k =
    k (.exit 0) ⟨[(0, .fv (.own 0)), (1, .fv (.el (.sc (.int .i64 (n + (m : Int))))))], [some ⟨e0, ⟨.f32, ys.take j ++ marks n m⟩⟩]⟩ := by
  intro m
  induction m with
  | zero =>
    intro j ys n hb h0 hn hj
    have h1 : ¬ ((j : Int) < (ys.length : Int)) := by omega
    rw [st37, List.take_of_length_le (show ys.length ≤ j by omega)]
    simp [h1, marks]
  | succ m ih =>
    intro j ys n hb h0 hn hj
    have hlt : j < ys.length := by omega
    have h1 : ((j : Int) < (ys.length : Int)) := by omega
    have h2 : (0 : Int) ≤ (j : Int) := by omega
    have hw : IntKind.i64.wrap (n + 1) = n + 1 := wrap64 (by omega) (by omega)
    have hw2 : IntKind.i64.wrap n = n := wrap64 (by omega) (by omega)
    rw [st37, wrap_succ hlt hb, hw]
    have h4 : ys[Int.toNat (j : Int)]? = some ys[j] := by simp [hlt]
    try rw [hw2]
    simp only [h1, h2, h4, and_self, decide_true, Bool.and_true]
    refine (ih (j + 1) (ys.set (Int.toNat (j : Int)) (fint .f32 n)) (n + 1) (by simpa using hb) (by omega) (by omega) (by simp; omega)).trans ?_
    have h5 : (ys.set (Int.toNat (j : Int)) (fint .f32 n)).take (j + 1) ++ marks (n + 1) m = ys.take j ++ marks n (m + 1) := set_take hlt _ _
    have h6 : n + 1 + (m : Int) = n + ((m + 1 : Nat) : Int) := by omega
    rw [h5, h6]

theorem lk37 : LOK T0 a37 l37 Try.f37.ntmps (loopAt Try.f37 0) := by
  intro ins outs hA s k out h
  have hA' : ([0, 1, 5], [0, 1]) = (ins, outs) := Option.some.inj ((show a37.lp (firstRegion (loopAt Try.f37 0)) = some ([0, 1, 5], [0, 1]) by kernel_rfl).symm.trans hA)
  cases hA'
  have hk : firstRegion (loopAt Try.f37 0) = 2 := by kernel_rfl
  rw [hk] at h
  unfold l37 at h
  split at h
  · rename_i n i e0 ys _
    cases hg : (decide (i = 0) && (decide (0 ≤ n ∧ n ≤ 1099511627776) && Nat.ble ys.length big)) with
    | false => rw [hg] at h; cases h
    | true =>
      rw [hg] at h
      simp only [Bool.and_eq_true, decide_eq_true_eq] at hg
      obtain ⟨rfl, ⟨hn0, hn1⟩, hx⟩ := hg
      refine ⟨ys.length + 1, ?_⟩
      have hxl := Nat.le_of_ble_eq_true hx
      unfold big at hxl
      have hh := ind37 e0 k ys.length 0 ys n hx hn0 (by omega) (by omega)
      simp only [List.take_zero, List.nil_append] at hh
      exact hh.trans h
  · cases h
theorem e37 (e : Nat) (xs : List Nat) (n : Int) : runMn T0 a37 l37 Try.f37 e ⟨.f32, xs⟩ [.el (.sc (.int .i64 n))] = (match (decide (0 = 0) && (decide (0 ≤ n ∧ n ≤ 1099511627776) && Nat.ble (xs : List Nat).length big) : Bool) with
  | true => some ⟨[.el (.sc (.int .i64 (n + ((xs : List Nat).length : Int))))], some ⟨e, ⟨.f32, marks n (xs : List Nat).length⟩⟩⟩
  | false => none) := by kernel_rfl
theorem s37 (e : Nat) (xs : List Nat) (n : Int) : runMn T0 a37 l37 Try.f37 e ⟨.f32, xs⟩ [.el (.sc (.int .i64 n))] = (match (decide (0 ≤ n ∧ n ≤ 1099511627776) && Nat.ble xs.length big : Bool) with
  | true => some ⟨[.el (.sc (.int .i64 (n + (xs.length : Int))))], some ⟨e, ⟨.f32, marks n xs.length⟩⟩⟩
  | false => none) := by
  rw [e37]
  cases h : (decide (0 ≤ n ∧ n ≤ 1099511627776) && Nat.ble xs.length big) <;> simp [h]
theorem c37 (xs : List Nat) (n : Int) (k : List RV → Vec → R) (out : Out) (h : (match (decide (0 ≤ n ∧ n ≤ 1099511627776) && Nat.ble xs.length big : Bool) with
  | true => k [.el (.sc (.int .i64 (n + (xs.length : Int))))] ⟨.f32, marks n xs.length⟩
  | false => none) = some out) : ∃ rs vec, Real Try.prog 37 ∧ CMOK Try.prog 37 ⟨.f32, xs⟩ [.el (.sc (.int .i64 n))] rs vec ∧ k rs vec = some out := by
  cases g0 : (decide (0 ≤ n ∧ n ≤ 1099511627776) && Nat.ble xs.length big : Bool) with
  | true =>
    rw [g0] at h
    exact ⟨_, _, real Try.func37 (by kernel_rfl), mfn_ok tok0 (A := a37) (L := l37) Try.func37 (by kernel_rfl) (by kernel_rfl) (loops1 (by kernel_rfl) lk37) (by decide) rfl (fun e => by rw [s37, g0]), h⟩
  | false =>
    rw [g0] at h
    cases h

/-! laws.heldFloat32S -/
def a38 : Ann := ann [(2, [0, 1, 5], [1])] [4] 0
def l38 : Loops := fun key s k => match key, s with
  | 2, ⟨[(0, .fv (.vw (some 0) ⟨.f32, xs⟩)), (1, .fv (.el (.sc (.int .i64 n)))), (5, .fv (.el (.sc (.int .i64 i))))], []⟩ => (match (decide (i = 0) && (decide (0 ≤ n ∧ n ≤ 1099511627776) && Nat.ble xs.length big) : Bool) with
    | true => (match (heldF n xs : Bool) with
      | true => k (.exit 0) ⟨[(1, .fv (.el (.sc (.int .i64 (n + (xs.length : Int))))))], []⟩
      | false => k .ret ⟨[(4, .fv (.el (.sc (.int .i64 ((-1))))))], []⟩)
    | false => none)
  | _, _ => none
theorem st38 (xs : List Nat) (n : Int) (i : Int) (m : Nat) (k : Ex → St → R) : iterK a38 [0, 1, 5] [1] (codeK T0 a38 l38 Try.f38.ntmps (loopAt Try.f38 0)) (m + 1) ⟨[(0, .fv (.vw (some 0) ⟨.f32, xs⟩)), (1, .fv (.el (.sc (.int .i64 n)))), (5, .fv (.el (.sc (.int .i64 i))))], []⟩ k = (match (decide ((i : Int) < (xs.length : Int)) : Bool) with
  | true => (match (decide (0 ≤ (i : Int) ∧ (i : Int) < (xs.length : Int)) && true : Bool) with
    | true => (match (xs : List Nat)[Int.toNat i]? with
      | some x1 => (match (fcmp .neq .f32 x1 (fint .f32 n) : Bool) with
        | true => k .ret ⟨[(4, .fv (.el (.sc (.int .i64 ((-1))))))], []⟩
        | false => iterK a38 [0, 1, 5] [1] (codeK T0 a38 l38 Try.f38.ntmps (loopAt Try.f38 0)) m ⟨[(0, .fv (.vw (some 0) ⟨.f32, xs⟩)), (1, .fv (.el (.sc (.int .i64 (IntKind.i64.wrap (n + 1)))))), (5, .fv (.el (.sc (.int .i64 (IntKind.i64.wrap (i + 1))))))], []⟩ k)
      | none => none)
    | false => none)
  | false => k (.exit 0) ⟨[(1, .fv (.el (.sc (.int .i64 n))))], []⟩) := by kernel_rfl
theorem ind38 (xs : List Nat) (hb : Nat.ble xs.length big = true) (k : Ex → St → R) : ∀ (m j : Nat) (n : Int), 0 ≤ n → n + m ≤ 2199023255552 → j + m = xs.length → iterK a38 [0, 1, 5] [1] (codeK T0 a38 l38 Try.f38.ntmps (loopAt Try.f38 0)) (m + 1) ⟨[(0, .fv (.vw (some 0) ⟨.f32, xs⟩)), (1, .fv (.el (.sc (.int .i64 n)))), (5, .fv (.el (.sc (.int .i64 (j : Int)))))], []⟩ k =
    (match heldF n (xs.drop j) with
    | true => k (.exit 0) ⟨[(1, .fv (.el (.sc (.int .i64 (n + (m : Int))))))], []⟩
    | false => k .ret ⟨[(4, .fv (.el (.sc (.int .i64 (-1)))))], []⟩) := by
  intro m
  induction m with
  | zero =>
    intro j n h0 hn hj
    have h1 : ¬ ((j : Int) < (xs.length : Int)) := by omega
    rw [st38, List.drop_of_length_le (by omega)]
    simp [h1, heldF]
  | succ m ih =>
    intro j n h0 hn hj
    have hlt : j < xs.length := by omega
    have h1 : ((j : Int) < (xs.length : Int)) := by omega
    have h2 : (0 : Int) ≤ (j : Int) := by omega
    have hw : IntKind.i64.wrap (n + 1) = n + 1 := wrap64 (by omega) (by omega)
    have hw2 : IntKind.i64.wrap n = n := wrap64 (by omega) (by omega)
    rw [st38, wrap_succ hlt hb, hw]
    try rw [hw2]
    have h4 : xs[Int.toNat (j : Int)]? = some xs[j] := by simp [hlt]
    have h6 : n + 1 + (m : Int) = n + ((m + 1 : Nat) : Int) := by omega
    rw [List.drop_eq_getElem_cons hlt, ih (j + 1) (n + 1) (by omega) (by omega) (by omega), h6]
    simp only [h1, h2, h4, and_self, decide_true, Bool.and_true, heldF]
    cases fcmp .neq .f32 xs[j] (fint .f32 n) <;> simp

theorem lk38 : LOK T0 a38 l38 Try.f38.ntmps (loopAt Try.f38 0) := by
  intro ins outs hA s k out h
  have hA' : ([0, 1, 5], [1]) = (ins, outs) := Option.some.inj ((show a38.lp (firstRegion (loopAt Try.f38 0)) = some ([0, 1, 5], [1]) by kernel_rfl).symm.trans hA)
  cases hA'
  have hk : firstRegion (loopAt Try.f38 0) = 2 := by kernel_rfl
  rw [hk] at h
  unfold l38 at h
  split at h
  · rename_i xs n i _
    cases hg : (decide (i = 0) && (decide (0 ≤ n ∧ n ≤ 1099511627776) && Nat.ble xs.length big)) with
    | false => rw [hg] at h; cases h
    | true =>
      rw [hg] at h
      simp only [Bool.and_eq_true, decide_eq_true_eq] at hg
      obtain ⟨rfl, ⟨hn0, hn1⟩, hx⟩ := hg
      refine ⟨xs.length + 1, ?_⟩
      have hxl := Nat.le_of_ble_eq_true hx
      unfold big at hxl
      exact (ind38 xs hx k xs.length 0 n hn0 (by omega) (by omega)).trans h
  · cases h
theorem e38 (xs : List Nat) (n : Int) : runFn T0 a38 l38 Try.f38 [.vw none ⟨.f32, xs⟩, .el (.sc (.int .i64 n))] = (match (decide (0 = 0) && (decide (0 ≤ n ∧ n ≤ 1099511627776) && Nat.ble xs.length big) : Bool) with
  | true => (match (heldF n xs : Bool) with
    | true => some ⟨[.el (.sc (.int .i64 (n + (xs.length : Int))))], none⟩
    | false => some ⟨[.el (.sc (.int .i64 ((-1))))], none⟩)
  | false => none) := by kernel_rfl
theorem s38 (xs : List Nat) (n : Int) : runFn T0 a38 l38 Try.f38 [.vw none ⟨.f32, xs⟩, .el (.sc (.int .i64 n))] = (match (decide (0 ≤ n ∧ n ≤ 1099511627776) && Nat.ble xs.length big : Bool) with
  | true => some ⟨[.el (.sc (.int .i64 (heldN (heldF n xs) (n + (xs.length : Int)))))], none⟩
  | false => none) := by
  rw [e38]
  unfold heldN
  cases h : (decide (0 ≤ n ∧ n ≤ 1099511627776) && Nat.ble xs.length big) <;> cases h2 : heldF n xs <;> simp [h]
theorem c38 (xs : List Nat) (n : Int) (k : List RV → R) (out : Out) (h : (match (decide (0 ≤ n ∧ n ≤ 1099511627776) && Nat.ble xs.length big : Bool) with
  | true => k [.el (.sc (.int .i64 (heldN (heldF n xs) (n + (xs.length : Int)))))]
  | false => none) = some out) : ∃ rs, Real Try.prog 38 ∧ COK Try.prog 38 [.vw none ⟨.f32, xs⟩, .el (.sc (.int .i64 n))] rs ∧ k rs = some out := by
  cases g0 : (decide (0 ≤ n ∧ n ≤ 1099511627776) && Nat.ble xs.length big : Bool) with
  | true =>
    rw [g0] at h
    exact ⟨_, real Try.func38 (by kernel_rfl), fn_ok tok0 (A := a38) (L := l38) (r := none) Try.func38 (by kernel_rfl) (by kernel_rfl) (loops1 (by kernel_rfl) lk38) (by rw [s38, g0]), h⟩
  | false =>
    rw [g0] at h
    cases h

/-! laws.eqInt64S -/
def a41 : Ann := ann [(4, [0, 1, 5], [])] [4] 0
def l41 : Loops := fun key s k => match key, s with
  | 4, ⟨[(0, .fv (.vw (some 0) ⟨.i64, xs⟩)), (1, .fv (.vw (some 1) ⟨.i64, ys⟩)), (5, .fv (.el (.sc (.int .i64 i))))], []⟩ => (match (decide (i = 0) && (Nat.beq xs.length ys.length && Nat.ble xs.length big) : Bool) with
    | true => (match (all2 sameI xs ys : Bool) with
      | true => k (.exit 0) ⟨[], []⟩
      | false => k .ret ⟨[(4, .fv (.el (.sc (.bo false))))], []⟩)
    | false => none)
  | _, _ => none
theorem st41 (xs : List Int) (ys : List Int) (i : Int) (m : Nat) (k : Ex → St → R) : iterK a41 [0, 1, 5] [] (codeK T0 a41 l41 Try.f41.ntmps (loopAt Try.f41 0)) (m + 1) ⟨[(0, .fv (.vw (some 0) ⟨.i64, xs⟩)), (1, .fv (.vw (some 1) ⟨.i64, ys⟩)), (5, .fv (.el (.sc (.int .i64 i))))], []⟩ k = (match (decide ((i : Int) < (xs.length : Int)) : Bool) with
  | true => (match (decide (0 ≤ (i : Int) ∧ (i : Int) < (xs.length : Int)) && true : Bool) with
    | true => (match (xs : List Int)[Int.toNat i]? with
      | some x1 => (match (decide (0 ≤ (i : Int) ∧ (i : Int) < (ys.length : Int)) && true : Bool) with
        | true => (match (ys : List Int)[Int.toNat i]? with
          | some x2 => (match (!((x1 : Int) == x2) : Bool) with
            | true => k .ret ⟨[(4, .fv (.el (.sc (.bo false))))], []⟩
            | false => iterK a41 [0, 1, 5] [] (codeK T0 a41 l41 Try.f41.ntmps (loopAt Try.f41 0)) m ⟨[(0, .fv (.vw (some 0) ⟨.i64, xs⟩)), (1, .fv (.vw (some 1) ⟨.i64, ys⟩)), (5, .fv (.el (.sc (.int .i64 (IntKind.i64.wrap (i + 1))))))], []⟩ k)
          | none => none)
        | false => none)
      | none => none)
    | false => none)
  | false => k (.exit 0) ⟨[], []⟩) := by kernel_rfl
theorem ind41 (xs ys : List Int) (hl : xs.length = ys.length) (hx : Nat.ble xs.length big = true) (k : Ex → St → R) : ∀ (m j : Nat), j + m = xs.length → iterK a41 [0, 1, 5] [] (codeK T0 a41 l41 Try.f41.ntmps (loopAt Try.f41 0)) (m + 1) ⟨[(0, .fv (.vw (some 0) ⟨.i64, xs⟩)), (1, .fv (.vw (some 1) ⟨.i64, ys⟩)), (5, .fv (.el (.sc (.int .i64 (j : Int)))))], []⟩ k =
    (match all2 sameI (xs.drop j) (ys.drop j) with
    | true => k (.exit 0) ⟨[], []⟩
    | false => k .ret ⟨[(4, .fv (.el (.sc (.bo false))))], []⟩) := by
  intro m
  induction m with
  | zero =>
    intro j hj
    have h1 : ¬ ((j : Int) < (xs.length : Int)) := by omega
    rw [st41, List.drop_of_length_le (by omega)]
    simp [h1, all2]
  | succ m ih =>
    intro j hj
    have hlt : j < xs.length := by omega
    have hlt2 : j < ys.length := by omega
    have h1 : ((j : Int) < (xs.length : Int)) := by omega
    have h12 : ((j : Int) < (ys.length : Int)) := by omega
    have h2 : (0 : Int) ≤ (j : Int) := by omega
    rw [st41, wrap_succ hlt hx]
    have h3 : xs[Int.toNat (j : Int)]? = some xs[j] := by simp [hlt]
    have h4 : ys[Int.toNat (j : Int)]? = some ys[j] := by simp [hlt2]
    rw [List.drop_eq_getElem_cons hlt, List.drop_eq_getElem_cons hlt2, ih (j + 1) (by omega)]
    simp only [h1, h12, h2, h3, h4, and_self, decide_true, Bool.and_true, all2]
    unfold sameI
    cases hp : (xs[j] == ys[j]) <;> simp_all

theorem lk41 : LOK T0 a41 l41 Try.f41.ntmps (loopAt Try.f41 0) := by
  intro ins outs hA s k out h
  have hA' : ([0, 1, 5], []) = (ins, outs) := Option.some.inj ((show a41.lp (firstRegion (loopAt Try.f41 0)) = some ([0, 1, 5], []) by kernel_rfl).symm.trans hA)
  cases hA'
  have hk : firstRegion (loopAt Try.f41 0) = 4 := by kernel_rfl
  rw [hk] at h
  unfold l41 at h
  split at h
  · rename_i xs ys i _
    cases hg : (decide (i = 0) && (Nat.beq xs.length ys.length && Nat.ble xs.length big)) with
    | false => rw [hg] at h; cases h
    | true =>
      rw [hg] at h
      simp only [Bool.and_eq_true, decide_eq_true_eq] at hg
      obtain ⟨rfl, hl, hx⟩ := hg
      refine ⟨xs.length + 1, ?_⟩
      exact (ind41 xs ys (Nat.eq_of_beq_eq_true hl) hx k xs.length 0 (by omega)).trans h
  · cases h
theorem e41 (xs : List Int) (ys : List Int) : runFn T0 a41 l41 Try.f41 [.vw none ⟨.i64, xs⟩, .vw none ⟨.i64, ys⟩] = (match (!(((xs.length : Int) : Int) == (ys.length : Int)) : Bool) with
  | true => some ⟨[.el (.sc (.bo false))], none⟩
  | false => (match (decide (0 = 0) && (Nat.beq xs.length ys.length && Nat.ble xs.length big) : Bool) with
    | true => (match (all2 sameI xs ys : Bool) with
      | true => some ⟨[.el (.sc (.bo true))], none⟩
      | false => some ⟨[.el (.sc (.bo false))], none⟩)
    | false => none)) := by kernel_rfl
theorem s41 (xs : List Int) (ys : List Int) : runFn T0 a41 l41 Try.f41 [.vw none ⟨.i64, xs⟩, .vw none ⟨.i64, ys⟩] = (match (Nat.beq xs.length ys.length : Bool) with
  | true => (match (Nat.ble xs.length big : Bool) with
    | true => some ⟨[.el (.sc (.bo (all2 sameI xs ys)))], none⟩
    | false => none)
  | false => some ⟨[.el (.sc (.bo false))], none⟩) := by
  rw [e41]
  cases hl : Nat.beq xs.length ys.length with
  | false =>
    have h1 : xs.length ≠ ys.length := fun e => by rw [e, Nat.beq_refl] at hl; cases hl
    have h2 : ((xs.length : Int) == (ys.length : Int)) = false := beq_false_of_ne (by omega)
    simp only [h2, Bool.not_false]
  | true =>
    have h1 := Nat.eq_of_beq_eq_true hl
    have h2 : ((xs.length : Int) == (ys.length : Int)) = true := beq_iff_eq.2 (by omega)
    simp only [h2, Bool.not_true]
    cases h : Nat.ble xs.length big with
    | false => simp
    | true => cases h3 : all2 sameI xs ys <;> simp
theorem c41 (xs : List Int) (ys : List Int) (k : List RV → R) (out : Out) (h : (match (Nat.beq xs.length ys.length : Bool) with
  | true => (match (Nat.ble xs.length big : Bool) with
    | true => k [.el (.sc (.bo (all2 sameI xs ys)))]
    | false => none)
  | false => k [.el (.sc (.bo false))]) = some out) : ∃ rs, Real Try.prog 41 ∧ COK Try.prog 41 [.vw none ⟨.i64, xs⟩, .vw none ⟨.i64, ys⟩] rs ∧ k rs = some out := by
  cases g0 : (Nat.beq xs.length ys.length : Bool) with
  | true =>
    rw [g0] at h
    cases g1 : (Nat.ble xs.length big : Bool) with
    | true =>
      rw [g1] at h
      exact ⟨_, real Try.func41 (by kernel_rfl), fn_ok tok0 (A := a41) (L := l41) (r := none) Try.func41 (by kernel_rfl) (by kernel_rfl) (loops1 (by kernel_rfl) lk41) (by rw [s41, g0, g1]), h⟩
    | false =>
      rw [g1] at h
      cases h
  | false =>
    rw [g0] at h
    exact ⟨_, real Try.func41 (by kernel_rfl), fn_ok tok0 (A := a41) (L := l41) (r := none) Try.func41 (by kernel_rfl) (by kernel_rfl) (loops1 (by kernel_rfl) lk41) (by rw [s41, g0]), h⟩

/-! laws.markInt64S -/
def a42 : Ann := ann [(2, [0, 1, 5], [0, 1])] [0, 4] 1
def l42 : Loops := fun key s k => match key, s with
  | 2, ⟨[(0, .fv (.own 0)), (1, .fv (.el (.sc (.int .i64 n)))), (5, .fv (.el (.sc (.int .i64 i))))], [some ⟨e0, ⟨.i64, ys⟩⟩]⟩ => (match (decide (i = 0) && (decide (0 ≤ n ∧ n ≤ 1099511627776) && Nat.ble (ys : List Int).length big) : Bool) with
    | true => k (.exit 0) ⟨[(0, .fv (.own 0)), (1, .fv (.el (.sc (.int .i64 (n + ((ys : List Int).length : Int))))))], [some ⟨e0, ⟨.i64, marksI n (ys : List Int).length⟩⟩]⟩
    | false => none)
  | _, _ => none
theorem st42 (n : Int) (i : Int) (ys : List Int) (e0 : Nat) (m : Nat) (k : Ex → St → R) : iterK a42 [0, 1, 5] [0, 1] (codeK T0 a42 l42 Try.f42.ntmps (loopAt Try.f42 0)) (m + 1) ⟨[(0, .fv (.own 0)), (1, .fv (.el (.sc (.int .i64 n)))), (5, .fv (.el (.sc (.int .i64 i))))], [some ⟨e0, ⟨.i64, ys⟩⟩]⟩ k = (match (decide ((i : Int) < (ys.length : Int)) : Bool) with
  | true => (match (decide (0 ≤ (i : Int) ∧ (i : Int) < (ys.length : Int)) && true : Bool) with
    | true => (match (ys : List Int)[Int.toNat i]? with
      | some x1 => iterK a42 [0, 1, 5] [0, 1] (codeK T0 a42 l42 Try.f42.ntmps (loopAt Try.f42 0)) m ⟨[(0, .fv (.own 0)), (1, .fv (.el (.sc (.int .i64 (IntKind.i64.wrap (n + 1)))))), (5, .fv (.el (.sc (.int .i64 (IntKind.i64.wrap (i + 1))))))], [some ⟨e0, ⟨.i64, (ys : List Int).set (Int.toNat i) n⟩⟩]⟩ k
      | none => none)
    | false => none)
  | false => k (.exit 0) ⟨[(0, .fv (.own 0)), (1, .fv (.el (.sc (.int .i64 n))))], [some ⟨e0, ⟨.i64, ys⟩⟩]⟩) := by kernel_rfl
theorem ind42 (e0 : Nat) (k : Ex → St → R) : ∀ (m j : Nat) (ys : List Int) (n : Int), Nat.ble ys.length big = true → 0 ≤ n → n + m ≤ 2199023255552 → j + m = ys.length → iterK a42 [0, 1, 5] [0, 1] (codeK T0 a42 l42 Try.f42.ntmps (loopAt Try.f42 0)) (m + 1) ⟨[(0, .fv (.own 0)), (1, .fv (.el (.sc (.int .i64 n)))), (5, .fv (.el (.sc (.int .i64 (j : Int)))))], [some ⟨e0, ⟨.i64, ys⟩⟩]⟩ k =
    k (.exit 0) ⟨[(0, .fv (.own 0)), (1, .fv (.el (.sc (.int .i64 (n + (m : Int))))))], [some ⟨e0, ⟨.i64, ys.take j ++ marksI n m⟩⟩]⟩ := by
  intro m
  induction m with
  | zero =>
    intro j ys n hb h0 hn hj
    have h1 : ¬ ((j : Int) < (ys.length : Int)) := by omega
    rw [st42, List.take_of_length_le (show ys.length ≤ j by omega)]
    simp [h1, marksI]
  | succ m ih =>
    intro j ys n hb h0 hn hj
    have hlt : j < ys.length := by omega
    have h1 : ((j : Int) < (ys.length : Int)) := by omega
    have h2 : (0 : Int) ≤ (j : Int) := by omega
    have hw : IntKind.i64.wrap (n + 1) = n + 1 := wrap64 (by omega) (by omega)
    have hw2 : IntKind.i64.wrap n = n := wrap64 (by omega) (by omega)
    rw [st42, wrap_succ hlt hb, hw]
    have h4 : ys[Int.toNat (j : Int)]? = some ys[j] := by simp [hlt]
    try rw [hw2]
    simp only [h1, h2, h4, and_self, decide_true, Bool.and_true]
    refine (ih (j + 1) (ys.set (Int.toNat (j : Int)) n) (n + 1) (by simpa using hb) (by omega) (by omega) (by simp; omega)).trans ?_
    have h5 : (ys.set (Int.toNat (j : Int)) n).take (j + 1) ++ marksI (n + 1) m = ys.take j ++ marksI n (m + 1) := set_take hlt _ _
    have h6 : n + 1 + (m : Int) = n + ((m + 1 : Nat) : Int) := by omega
    rw [h5, h6]

theorem lk42 : LOK T0 a42 l42 Try.f42.ntmps (loopAt Try.f42 0) := by
  intro ins outs hA s k out h
  have hA' : ([0, 1, 5], [0, 1]) = (ins, outs) := Option.some.inj ((show a42.lp (firstRegion (loopAt Try.f42 0)) = some ([0, 1, 5], [0, 1]) by kernel_rfl).symm.trans hA)
  cases hA'
  have hk : firstRegion (loopAt Try.f42 0) = 2 := by kernel_rfl
  rw [hk] at h
  unfold l42 at h
  split at h
  · rename_i n i e0 ys _
    cases hg : (decide (i = 0) && (decide (0 ≤ n ∧ n ≤ 1099511627776) && Nat.ble ys.length big)) with
    | false => rw [hg] at h; cases h
    | true =>
      rw [hg] at h
      simp only [Bool.and_eq_true, decide_eq_true_eq] at hg
      obtain ⟨rfl, ⟨hn0, hn1⟩, hx⟩ := hg
      refine ⟨ys.length + 1, ?_⟩
      have hxl := Nat.le_of_ble_eq_true hx
      unfold big at hxl
      have hh := ind42 e0 k ys.length 0 ys n hx hn0 (by omega) (by omega)
      simp only [List.take_zero, List.nil_append] at hh
      exact hh.trans h
  · cases h
theorem e42 (e : Nat) (xs : List Int) (n : Int) : runMn T0 a42 l42 Try.f42 e ⟨.i64, xs⟩ [.el (.sc (.int .i64 n))] = (match (decide (0 = 0) && (decide (0 ≤ n ∧ n ≤ 1099511627776) && Nat.ble (xs : List Int).length big) : Bool) with
  | true => some ⟨[.el (.sc (.int .i64 (n + ((xs : List Int).length : Int))))], some ⟨e, ⟨.i64, marksI n (xs : List Int).length⟩⟩⟩
  | false => none) := by kernel_rfl
theorem s42 (e : Nat) (xs : List Int) (n : Int) : runMn T0 a42 l42 Try.f42 e ⟨.i64, xs⟩ [.el (.sc (.int .i64 n))] = (match (decide (0 ≤ n ∧ n ≤ 1099511627776) && Nat.ble xs.length big : Bool) with
  | true => some ⟨[.el (.sc (.int .i64 (n + (xs.length : Int))))], some ⟨e, ⟨.i64, marksI n xs.length⟩⟩⟩
  | false => none) := by
  rw [e42]
  cases h : (decide (0 ≤ n ∧ n ≤ 1099511627776) && Nat.ble xs.length big) <;> simp [h]
theorem c42 (xs : List Int) (n : Int) (k : List RV → Vec → R) (out : Out) (h : (match (decide (0 ≤ n ∧ n ≤ 1099511627776) && Nat.ble xs.length big : Bool) with
  | true => k [.el (.sc (.int .i64 (n + (xs.length : Int))))] ⟨.i64, marksI n xs.length⟩
  | false => none) = some out) : ∃ rs vec, Real Try.prog 42 ∧ CMOK Try.prog 42 ⟨.i64, xs⟩ [.el (.sc (.int .i64 n))] rs vec ∧ k rs vec = some out := by
  cases g0 : (decide (0 ≤ n ∧ n ≤ 1099511627776) && Nat.ble xs.length big : Bool) with
  | true =>
    rw [g0] at h
    exact ⟨_, _, real Try.func42 (by kernel_rfl), mfn_ok tok0 (A := a42) (L := l42) Try.func42 (by kernel_rfl) (by kernel_rfl) (loops1 (by kernel_rfl) lk42) (by decide) rfl (fun e => by rw [s42, g0]), h⟩
  | false =>
    rw [g0] at h
    cases h

/-! laws.heldInt64S -/
def a43 : Ann := ann [(2, [0, 1, 5], [1])] [4] 0
def l43 : Loops := fun key s k => match key, s with
  | 2, ⟨[(0, .fv (.vw (some 0) ⟨.i64, xs⟩)), (1, .fv (.el (.sc (.int .i64 n)))), (5, .fv (.el (.sc (.int .i64 i))))], []⟩ => (match (decide (i = 0) && (decide (0 ≤ n ∧ n ≤ 1099511627776) && Nat.ble xs.length big) : Bool) with
    | true => (match (heldI n xs : Bool) with
      | true => k (.exit 0) ⟨[(1, .fv (.el (.sc (.int .i64 (n + (xs.length : Int))))))], []⟩
      | false => k .ret ⟨[(4, .fv (.el (.sc (.int .i64 ((-1))))))], []⟩)
    | false => none)
  | _, _ => none
theorem st43 (xs : List Int) (n : Int) (i : Int) (m : Nat) (k : Ex → St → R) : iterK a43 [0, 1, 5] [1] (codeK T0 a43 l43 Try.f43.ntmps (loopAt Try.f43 0)) (m + 1) ⟨[(0, .fv (.vw (some 0) ⟨.i64, xs⟩)), (1, .fv (.el (.sc (.int .i64 n)))), (5, .fv (.el (.sc (.int .i64 i))))], []⟩ k = (match (decide ((i : Int) < (xs.length : Int)) : Bool) with
  | true => (match (decide (0 ≤ (i : Int) ∧ (i : Int) < (xs.length : Int)) && true : Bool) with
    | true => (match (xs : List Int)[Int.toNat i]? with
      | some x1 => (match (!((x1 : Int) == n) : Bool) with
        | true => k .ret ⟨[(4, .fv (.el (.sc (.int .i64 ((-1))))))], []⟩
        | false => iterK a43 [0, 1, 5] [1] (codeK T0 a43 l43 Try.f43.ntmps (loopAt Try.f43 0)) m ⟨[(0, .fv (.vw (some 0) ⟨.i64, xs⟩)), (1, .fv (.el (.sc (.int .i64 (IntKind.i64.wrap (n + 1)))))), (5, .fv (.el (.sc (.int .i64 (IntKind.i64.wrap (i + 1))))))], []⟩ k)
      | none => none)
    | false => none)
  | false => k (.exit 0) ⟨[(1, .fv (.el (.sc (.int .i64 n))))], []⟩) := by kernel_rfl
theorem ind43 (xs : List Int) (hb : Nat.ble xs.length big = true) (k : Ex → St → R) : ∀ (m j : Nat) (n : Int), 0 ≤ n → n + m ≤ 2199023255552 → j + m = xs.length → iterK a43 [0, 1, 5] [1] (codeK T0 a43 l43 Try.f43.ntmps (loopAt Try.f43 0)) (m + 1) ⟨[(0, .fv (.vw (some 0) ⟨.i64, xs⟩)), (1, .fv (.el (.sc (.int .i64 n)))), (5, .fv (.el (.sc (.int .i64 (j : Int)))))], []⟩ k =
    (match heldI n (xs.drop j) with
    | true => k (.exit 0) ⟨[(1, .fv (.el (.sc (.int .i64 (n + (m : Int))))))], []⟩
    | false => k .ret ⟨[(4, .fv (.el (.sc (.int .i64 (-1)))))], []⟩) := by
  intro m
  induction m with
  | zero =>
    intro j n h0 hn hj
    have h1 : ¬ ((j : Int) < (xs.length : Int)) := by omega
    rw [st43, List.drop_of_length_le (by omega)]
    simp [h1, heldI]
  | succ m ih =>
    intro j n h0 hn hj
    have hlt : j < xs.length := by omega
    have h1 : ((j : Int) < (xs.length : Int)) := by omega
    have h2 : (0 : Int) ≤ (j : Int) := by omega
    have hw : IntKind.i64.wrap (n + 1) = n + 1 := wrap64 (by omega) (by omega)
    have hw2 : IntKind.i64.wrap n = n := wrap64 (by omega) (by omega)
    rw [st43, wrap_succ hlt hb, hw]
    try rw [hw2]
    have h4 : xs[Int.toNat (j : Int)]? = some xs[j] := by simp [hlt]
    have h6 : n + 1 + (m : Int) = n + ((m + 1 : Nat) : Int) := by omega
    rw [List.drop_eq_getElem_cons hlt, ih (j + 1) (n + 1) (by omega) (by omega) (by omega), h6]
    simp only [h1, h2, h4, and_self, decide_true, Bool.and_true, heldI]
    cases (xs[j] == n) <;> simp

theorem lk43 : LOK T0 a43 l43 Try.f43.ntmps (loopAt Try.f43 0) := by
  intro ins outs hA s k out h
  have hA' : ([0, 1, 5], [1]) = (ins, outs) := Option.some.inj ((show a43.lp (firstRegion (loopAt Try.f43 0)) = some ([0, 1, 5], [1]) by kernel_rfl).symm.trans hA)
  cases hA'
  have hk : firstRegion (loopAt Try.f43 0) = 2 := by kernel_rfl
  rw [hk] at h
  unfold l43 at h
  split at h
  · rename_i xs n i _
    cases hg : (decide (i = 0) && (decide (0 ≤ n ∧ n ≤ 1099511627776) && Nat.ble xs.length big)) with
    | false => rw [hg] at h; cases h
    | true =>
      rw [hg] at h
      simp only [Bool.and_eq_true, decide_eq_true_eq] at hg
      obtain ⟨rfl, ⟨hn0, hn1⟩, hx⟩ := hg
      refine ⟨xs.length + 1, ?_⟩
      have hxl := Nat.le_of_ble_eq_true hx
      unfold big at hxl
      exact (ind43 xs hx k xs.length 0 n hn0 (by omega) (by omega)).trans h
  · cases h
theorem e43 (xs : List Int) (n : Int) : runFn T0 a43 l43 Try.f43 [.vw none ⟨.i64, xs⟩, .el (.sc (.int .i64 n))] = (match (decide (0 = 0) && (decide (0 ≤ n ∧ n ≤ 1099511627776) && Nat.ble xs.length big) : Bool) with
  | true => (match (heldI n xs : Bool) with
    | true => some ⟨[.el (.sc (.int .i64 (n + (xs.length : Int))))], none⟩
    | false => some ⟨[.el (.sc (.int .i64 ((-1))))], none⟩)
  | false => none) := by kernel_rfl
theorem s43 (xs : List Int) (n : Int) : runFn T0 a43 l43 Try.f43 [.vw none ⟨.i64, xs⟩, .el (.sc (.int .i64 n))] = (match (decide (0 ≤ n ∧ n ≤ 1099511627776) && Nat.ble xs.length big : Bool) with
  | true => some ⟨[.el (.sc (.int .i64 (heldN (heldI n xs) (n + (xs.length : Int)))))], none⟩
  | false => none) := by
  rw [e43]
  unfold heldN
  cases h : (decide (0 ≤ n ∧ n ≤ 1099511627776) && Nat.ble xs.length big) <;> cases h2 : heldI n xs <;> simp [h]
theorem c43 (xs : List Int) (n : Int) (k : List RV → R) (out : Out) (h : (match (decide (0 ≤ n ∧ n ≤ 1099511627776) && Nat.ble xs.length big : Bool) with
  | true => k [.el (.sc (.int .i64 (heldN (heldI n xs) (n + (xs.length : Int)))))]
  | false => none) = some out) : ∃ rs, Real Try.prog 43 ∧ COK Try.prog 43 [.vw none ⟨.i64, xs⟩, .el (.sc (.int .i64 n))] rs ∧ k rs = some out := by
  cases g0 : (decide (0 ≤ n ∧ n ≤ 1099511627776) && Nat.ble xs.length big : Bool) with
  | true =>
    rw [g0] at h
    exact ⟨_, real Try.func43 (by kernel_rfl), fn_ok tok0 (A := a43) (L := l43) (r := none) Try.func43 (by kernel_rfl) (by kernel_rfl) (loops1 (by kernel_rfl) lk43) (by rw [s43, g0]), h⟩
  | false =>
    rw [g0] at h
    cases h

/-! impl.within -/
theorem e52 (n : Int) (a : Int) (b : Int) : runFn T0 none0 noL Try.f52 [.el (.sc (.int .i64 n)), .el (.sc (.int .i64 a)), .el (.sc (.int .i64 b))] = (match (decide ((n : Int) ≥ a) : Bool) with
  | true => some ⟨[.el (.sc (.bo (decide ((n : Int) ≤ b))))], none⟩
  | false => some ⟨[.el (.sc (.bo false))], none⟩) := by kernel_rfl
theorem s52 (n : Int) (a : Int) (b : Int) : runFn T0 none0 noL Try.f52 [.el (.sc (.int .i64 n)), .el (.sc (.int .i64 a)), .el (.sc (.int .i64 b))] = some ⟨[.el (.sc (.bo (within n a b)))], none⟩ := by
  rw [e52]
  unfold within
  cases decide (n ≥ a) <;> rfl
theorem c52 (n : Int) (a : Int) (b : Int) (k : List RV → R) (out : Out) (h : k [.el (.sc (.bo (within n a b)))] = some out) : ∃ rs, Real Try.prog 52 ∧ COK Try.prog 52 [.el (.sc (.int .i64 n)), .el (.sc (.int .i64 a)), .el (.sc (.int .i64 b))] rs ∧ k rs = some out := by
  exact ⟨_, real Try.func52 (by kernel_rfl), fn_ok tok0 (A := none0) (L := noL) (r := none) Try.func52 (by kernel_rfl) (by kernel_rfl) (loops0 (by kernel_rfl)) (by rw [s52]), h⟩

/-! spec.l00In -/
theorem e54 (n : Int) (a : Int) (b : Int) : runFn T0 none0 noL Try.f54 [.el (.sc (.int .i64 n)), .el (.sc (.int .i64 a)), .el (.sc (.int .i64 b))] = (match (decide ((n : Int) ≥ a) : Bool) with
  | true => some ⟨[.el (.sc (.bo (decide ((n : Int) ≤ b))))], none⟩
  | false => some ⟨[.el (.sc (.bo false))], none⟩) := by kernel_rfl
theorem s54 (n : Int) (a : Int) (b : Int) : runFn T0 none0 noL Try.f54 [.el (.sc (.int .i64 n)), .el (.sc (.int .i64 a)), .el (.sc (.int .i64 b))] = some ⟨[.el (.sc (.bo (within n a b)))], none⟩ := by
  rw [e54]
  unfold within
  cases decide (n ≥ a) <;> rfl
theorem c54 (n : Int) (a : Int) (b : Int) (k : List RV → R) (out : Out) (h : k [.el (.sc (.bo (within n a b)))] = some out) : ∃ rs, Real Try.prog 54 ∧ COK Try.prog 54 [.el (.sc (.int .i64 n)), .el (.sc (.int .i64 a)), .el (.sc (.int .i64 b))] rs ∧ k rs = some out := by
  exact ⟨_, real Try.func54 (by kernel_rfl), fn_ok tok0 (A := none0) (L := noL) (r := none) Try.func54 (by kernel_rfl) (by kernel_rfl) (loops0 (by kernel_rfl)) (by rw [s54]), h⟩

/-! spec.l01Finite -/
theorem s56 (c : Nat) : runFn T0 none0 noL Try.f56 [.el (.sc (.fl .f32 c))] = some ⟨[.el (.sc (.bo (fin c)))], none⟩ := by kernel_rfl
theorem c56 (c : Nat) (k : List RV → R) (out : Out) (h : k [.el (.sc (.bo (fin c)))] = some out) : ∃ rs, Real Try.prog 56 ∧ COK Try.prog 56 [.el (.sc (.fl .f32 c))] rs ∧ k rs = some out := by
  exact ⟨_, real Try.func56 (by kernel_rfl), fn_ok tok0 (A := none0) (L := noL) (r := none) Try.func56 (by kernel_rfl) (by kernel_rfl) (loops0 (by kernel_rfl)) (by rw [s56]), h⟩

/-! spec.l06Out -/
theorem e57 (a : Nat) (b : Nat) (c : Nat) (n : Int) : runFn T0 none0 noL Try.f57 [.el (.sc (.fl .f32 a)), .el (.sc (.fl .f32 b)), .el (.sc (.fl .f32 c)), .el (.sc (.int .i64 n))] = (match (fcmp .geq .f32 (fop .sub .f32 (fop .quo .f32 (fop .mul .f32 (fint .f32 n) a) b) c) 3212836864 : Bool) with
  | true => some ⟨[.el (.sc (.fl .f32 (fop .sub .f32 (fop .quo .f32 (fop .mul .f32 (fint .f32 n) a) b) c))), .el (.sc (.bo (fcmp .leq .f32 (fop .sub .f32 (fop .quo .f32 (fop .mul .f32 (fint .f32 n) a) b) c) 1065353216)))], none⟩
  | false => some ⟨[.el (.sc (.fl .f32 (fop .sub .f32 (fop .quo .f32 (fop .mul .f32 (fint .f32 n) a) b) c))), .el (.sc (.bo false))], none⟩) := by kernel_rfl
theorem s57 (a : Nat) (b : Nat) (c : Nat) (n : Int) : runFn T0 none0 noL Try.f57 [.el (.sc (.fl .f32 a)), .el (.sc (.fl .f32 b)), .el (.sc (.fl .f32 c)), .el (.sc (.int .i64 n))] = some ⟨[.el (.sc (.fl .f32 (gout a b c n))), .el (.sc (.bo (unit (gout a b c n))))], none⟩ := by
  rw [e57]
  unfold unit gout
  cases fcmp .geq .f32 (fop .sub .f32 (fop .quo .f32 (fop .mul .f32 (fint .f32 n) a) b) c) 3212836864 <;> rfl
theorem c57 (a : Nat) (b : Nat) (c : Nat) (n : Int) (k : List RV → R) (out : Out) (h : k [.el (.sc (.fl .f32 (gout a b c n))), .el (.sc (.bo (unit (gout a b c n))))] = some out) : ∃ rs, Real Try.prog 57 ∧ COK Try.prog 57 [.el (.sc (.fl .f32 a)), .el (.sc (.fl .f32 b)), .el (.sc (.fl .f32 c)), .el (.sc (.int .i64 n))] rs ∧ k rs = some out := by
  exact ⟨_, real Try.func57 (by kernel_rfl), fn_ok tok0 (A := none0) (L := noL) (r := none) Try.func57 (by kernel_rfl) (by kernel_rfl) (loops0 (by kernel_rfl)) (by rw [s57]), h⟩

/-! impl.IsFinite -/
theorem s58 (c : Nat) : runFn T0 none0 noL Try.f58 [.el (.sc (.fl .f32 c))] = some ⟨[.el (.sc (.bo (fin c)))], none⟩ := by kernel_rfl
theorem c58 (c : Nat) (k : List RV → R) (out : Out) (h : k [.el (.sc (.bo (fin c)))] = some out) : ∃ rs, Real Try.prog 58 ∧ COK Try.prog 58 [.el (.sc (.fl .f32 c))] rs ∧ k rs = some out := by
  exact ⟨_, real Try.func58 (by kernel_rfl), fn_ok tok0 (A := none0) (L := noL) (r := none) Try.func58 (by kernel_rfl) (by kernel_rfl) (loops0 (by kernel_rfl)) (by rw [s58]), h⟩

/-! impl.magnitude -/
theorem e59 (c : Nat) : runFn T0 none0 noL Try.f59 [.el (.sc (.fl .f32 c))] = (match (fcmp .lss .f32 c 0 : Bool) with
  | true => some ⟨[.el (.sc (.fl .f32 (fneg .f32 c)))], none⟩
  | false => some ⟨[.el (.sc (.fl .f32 c))], none⟩) := by kernel_rfl
theorem s59 (c : Nat) : runFn T0 none0 noL Try.f59 [.el (.sc (.fl .f32 c))] = some ⟨[.el (.sc (.fl .f32 (mag c)))], none⟩ := by
  rw [e59]
  unfold mag
  cases fcmp .lss .f32 c 0 <;> rfl
theorem c59 (c : Nat) (k : List RV → R) (out : Out) (h : k [.el (.sc (.fl .f32 (mag c)))] = some out) : ∃ rs, Real Try.prog 59 ∧ COK Try.prog 59 [.el (.sc (.fl .f32 c))] rs ∧ k rs = some out := by
  exact ⟨_, real Try.func59 (by kernel_rfl), fn_ok tok0 (A := none0) (L := noL) (r := none) Try.func59 (by kernel_rfl) (by kernel_rfl) (loops0 (by kernel_rfl)) (by rw [s59]), h⟩

/-! spec.l06At -/
def a70 : Ann := ann [(3, [0, 1, 5, 6], [5])] [4] 0
def l70 : Loops := fun key s k => match key, s with
  | 3, ⟨[(0, .fv (.vw (some 0) ⟨.f32, xs⟩)), (1, .fv (.el (.sc (.fl .f32 p)))), (5, .fv (.el (.sc (.fl .f32 x)))), (6, .fv (.el (.sc (.int .i64 i))))], []⟩ => (match (decide (i = (xs.length : Int) - 1) && Nat.ble xs.length big : Bool) with
    | true => k (.exit 0) ⟨[(5, .fv (.el (.sc (.fl .f32 (horner p x xs)))))], []⟩
    | false => none)
  | _, _ => none
theorem st70 (xs : List Nat) (p : Nat) (x : Nat) (i : Int) (m : Nat) (k : Ex → St → R) : iterK a70 [0, 1, 5, 6] [5] (codeK T0 a70 l70 Try.f70.ntmps (loopAt Try.f70 0)) (m + 1) ⟨[(0, .fv (.vw (some 0) ⟨.f32, xs⟩)), (1, .fv (.el (.sc (.fl .f32 p)))), (5, .fv (.el (.sc (.fl .f32 x)))), (6, .fv (.el (.sc (.int .i64 i))))], []⟩ k = (match (decide ((i : Int) ≥ 0) : Bool) with
  | true => (match (decide (0 ≤ (i : Int) ∧ (i : Int) < (xs.length : Int)) && true : Bool) with
    | true => (match (xs : List Nat)[Int.toNat i]? with
      | some x1 => iterK a70 [0, 1, 5, 6] [5] (codeK T0 a70 l70 Try.f70.ntmps (loopAt Try.f70 0)) m ⟨[(0, .fv (.vw (some 0) ⟨.f32, xs⟩)), (1, .fv (.el (.sc (.fl .f32 p)))), (5, .fv (.el (.sc (.fl .f32 (fop .add .f32 (fop .mul .f32 x p) x1))))), (6, .fv (.el (.sc (.int .i64 (IntKind.i64.wrap (i - 1))))))], []⟩ k
      | none => none)
    | false => none)
  | false => k (.exit 0) ⟨[(5, .fv (.el (.sc (.fl .f32 x))))], []⟩) := by kernel_rfl
theorem ind70 (xs : List Nat) (p : Nat) (hx : Nat.ble xs.length big = true) (k : Ex → St → R) : ∀ (j : Nat) (x : Nat), j ≤ xs.length → iterK a70 [0, 1, 5, 6] [5] (codeK T0 a70 l70 Try.f70.ntmps (loopAt Try.f70 0)) (j + 1) ⟨[(0, .fv (.vw (some 0) ⟨.f32, xs⟩)), (1, .fv (.el (.sc (.fl .f32 p)))), (5, .fv (.el (.sc (.fl .f32 x)))), (6, .fv (.el (.sc (.int .i64 ((j : Int) - 1)))))], []⟩ k =
    k (.exit 0) ⟨[(5, .fv (.el (.sc (.fl .f32 (horner p x (xs.take j))))))], []⟩ := by
  intro j
  induction j with
  | zero =>
    intro x hj
    have h1 : ¬ (((0 : Nat) : Int) - 1 ≥ 0) := by omega
    rw [st70]
    simp [horner]
  | succ j ih =>
    intro x hj
    have hlt : j < xs.length := by omega
    have hxl := Nat.le_of_ble_eq_true hx
    unfold big at hxl
    have e1 : ((j + 1 : Nat) : Int) - 1 = (j : Int) := by omega
    rw [e1, st70]
    have h1 : ((j : Int) ≥ 0) := by omega
    have h2 : (0 : Int) ≤ (j : Int) ∧ (j : Int) < (xs.length : Int) := by omega
    have hw : IntKind.i64.wrap ((j : Int) - 1) = (j : Int) - 1 := wrap64 (by omega) (by omega)
    have h3 : xs[Int.toNat (j : Int)]? = some xs[j] := by simp [hlt]
    rw [hw]
    simp only [h1, h2, h3, and_self, decide_true, Bool.and_true]
    refine (ih _ (by omega)).trans ?_
    have h5 : horner p x (xs.take (j + 1)) = horner p (fop .add .f32 (fop .mul .f32 x p) xs[j]) (xs.take j) := by
      unfold horner
      rw [List.take_succ_eq_append_getElem hlt, List.foldr_append]
      rfl
    rw [h5]

theorem lk70 : LOK T0 a70 l70 Try.f70.ntmps (loopAt Try.f70 0) := by
  intro ins outs hA s k out h
  have hA' : ([0, 1, 5, 6], [5]) = (ins, outs) := Option.some.inj ((show a70.lp (firstRegion (loopAt Try.f70 0)) = some ([0, 1, 5, 6], [5]) by kernel_rfl).symm.trans hA)
  cases hA'
  have hk : firstRegion (loopAt Try.f70 0) = 3 := by kernel_rfl
  rw [hk] at h
  unfold l70 at h
  split at h
  · rename_i xs p x i _
    cases hg : (decide (i = (xs.length : Int) - 1) && Nat.ble xs.length big) with
    | false => rw [hg] at h; cases h
    | true =>
      rw [hg] at h
      simp only [Bool.and_eq_true, decide_eq_true_eq] at hg
      obtain ⟨rfl, hx⟩ := hg
      refine ⟨xs.length + 1, ?_⟩
      have hh := ind70 xs p hx k xs.length x (Nat.le_refl _)
      rw [List.take_length] at hh
      exact hh.trans h
  · cases h
theorem e70 (xs : List Nat) (p : Nat) : runFn T0 a70 l70 Try.f70 [.vw none ⟨.f32, xs⟩, .el (.sc (.fl .f32 p))] = (match (decide (IntKind.i64.wrap (((xs.length : Int)) - 1) = (xs.length : Int) - 1) && Nat.ble xs.length big : Bool) with
  | true => some ⟨[.el (.sc (.fl .f32 (horner p 0 xs)))], none⟩
  | false => none) := by kernel_rfl
theorem s70 (xs : List Nat) (p : Nat) : runFn T0 a70 l70 Try.f70 [.vw none ⟨.f32, xs⟩, .el (.sc (.fl .f32 p))] = (match (Nat.ble xs.length big : Bool) with
  | true => some ⟨[.el (.sc (.fl .f32 (horner p 0 xs)))], none⟩
  | false => none) := by
  rw [e70]
  cases h : Nat.ble xs.length big with
  | false => simp
  | true =>
    have hx := Nat.le_of_ble_eq_true h
    unfold big at hx
    have hw : IntKind.i64.wrap ((xs.length : Int) - 1) = (xs.length : Int) - 1 := wrap64 (by omega) (by omega)
    simp [hw]
theorem c70 (xs : List Nat) (p : Nat) (k : List RV → R) (out : Out) (h : (match (Nat.ble xs.length big : Bool) with
  | true => k [.el (.sc (.fl .f32 (horner p 0 xs)))]
  | false => none) = some out) : ∃ rs, Real Try.prog 70 ∧ COK Try.prog 70 [.vw none ⟨.f32, xs⟩, .el (.sc (.fl .f32 p))] rs ∧ k rs = some out := by
  cases g0 : (Nat.ble xs.length big : Bool) with
  | true =>
    rw [g0] at h
    exact ⟨_, real Try.func70 (by kernel_rfl), fn_ok tok0 (A := a70) (L := l70) (r := none) Try.func70 (by kernel_rfl) (by kernel_rfl) (loops1 (by kernel_rfl) lk70) (by rw [s70, g0]), h⟩
  | false =>
    rw [g0] at h
    cases h

def S1 : SFn := fun f args k => match f, args with
  | 19, [.el (.sc (.fl .f64 a)), .el (.sc (.fl .f64 b))] => k [.el (.sc (.bo (sameF a b)))]
  | 23, [.vw none ⟨.f32, xs⟩] => (match (Nat.ble xs.length big : Bool) with
    | true => k [.fresh 22 ⟨.f32, xs⟩]
    | false => none)
  | 38, [.vw none ⟨.f32, xs⟩, .el (.sc (.int .i64 n))] => (match (decide (0 ≤ n ∧ n ≤ 1099511627776) && Nat.ble xs.length big : Bool) with
    | true => k [.el (.sc (.int .i64 (heldN (heldF n xs) (n + (xs.length : Int)))))]
    | false => none)
  | 41, [.vw none ⟨.i64, xs⟩, .vw none ⟨.i64, ys⟩] => (match (Nat.beq xs.length ys.length : Bool) with
    | true => (match (Nat.ble xs.length big : Bool) with
      | true => k [.el (.sc (.bo (all2 sameI xs ys)))]
      | false => none)
    | false => k [.el (.sc (.bo false))])
  | 43, [.vw none ⟨.i64, xs⟩, .el (.sc (.int .i64 n))] => (match (decide (0 ≤ n ∧ n ≤ 1099511627776) && Nat.ble xs.length big : Bool) with
    | true => k [.el (.sc (.int .i64 (heldN (heldI n xs) (n + (xs.length : Int)))))]
    | false => none)
  | 52, [.el (.sc (.int .i64 n)), .el (.sc (.int .i64 a)), .el (.sc (.int .i64 b))] => k [.el (.sc (.bo (within n a b)))]
  | 54, [.el (.sc (.int .i64 n)), .el (.sc (.int .i64 a)), .el (.sc (.int .i64 b))] => k [.el (.sc (.bo (within n a b)))]
  | 56, [.el (.sc (.fl .f32 c))] => k [.el (.sc (.bo (fin c)))]
  | 57, [.el (.sc (.fl .f32 a)), .el (.sc (.fl .f32 b)), .el (.sc (.fl .f32 c)), .el (.sc (.int .i64 n))] => k [.el (.sc (.fl .f32 (gout a b c n))), .el (.sc (.bo (unit (gout a b c n))))]
  | 58, [.el (.sc (.fl .f32 c))] => k [.el (.sc (.bo (fin c)))]
  | 59, [.el (.sc (.fl .f32 c))] => k [.el (.sc (.fl .f32 (mag c)))]
  | 70, [.vw none ⟨.f32, xs⟩, .el (.sc (.fl .f32 p))] => (match (Nat.ble xs.length big : Bool) with
    | true => k [.el (.sc (.fl .f32 (horner p 0 xs)))]
    | false => none)
  | _, _ => S0 f args k
def M1 : MFn := fun f vec args k => match f, vec, args with
  | 37, ⟨.f32, xs⟩, [.el (.sc (.int .i64 n))] => (match (decide (0 ≤ n ∧ n ≤ 1099511627776) && Nat.ble xs.length big : Bool) with
    | true => k [.el (.sc (.int .i64 (n + (xs.length : Int))))] ⟨.f32, marks n xs.length⟩
    | false => none)
  | 42, ⟨.i64, xs⟩, [.el (.sc (.int .i64 n))] => (match (decide (0 ≤ n ∧ n ≤ 1099511627776) && Nat.ble xs.length big : Bool) with
    | true => k [.el (.sc (.int .i64 (n + (xs.length : Int))))] ⟨.i64, marksI n xs.length⟩
    | false => none)
  | _, _, _ => M0 f vec args k
def T1 : TT := tab.T S1 muts M1
theorem tok1 : TOK Try.prog T1 := by
  refine (tab_ok tabok).tok (fun f args k out h => ?_) (fun f vec args k out h => ?_)
  · change S1 f args k = some out at h
    unfold S1 at h
    split at h
    · exact c19 _ _ k out h
    · exact c23 _ k out h
    · exact c38 _ _ k out h
    · exact c41 _ _ k out h
    · exact c43 _ _ k out h
    · exact c52 _ _ _ k out h
    · exact c54 _ _ _ k out h
    · exact c56 _ k out h
    · exact c57 _ _ _ _ k out h
    · exact c58 _ k out h
    · exact c59 _ k out h
    · exact c70 _ _ k out h
    · exact tok0.S f args k out h
  · change M1 f vec args k = some out at h
    unfold M1 at h
    split at h
    · exact c37 _ _ k out h
    · exact c42 _ _ k out h
    · exact tok0.M f vec args k out h

end Go.Sm.Ytpnkcjlapkhclaa
