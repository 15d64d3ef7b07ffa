/- What the functions hand back: level 0. -/
import Derived.Test.YtdeplgocckdbiaaD0
namespace Go.Sm.Ytdeplgocckdbiaa
open Go Go.Sm Go.RowKit Go.Proofs

/-! laws.toFloat32S -/
def a16 : Ann := ann [(3, [0, 3, 4], [3])] [2] 0
def lp16 : St → (Ex → St → R) → R := fun s k => match s with
  | ⟨[(0, .fv (.vw (some 0) ⟨.f32, xs⟩)), (3, .fv (.own 0)), (4, .fv (.el (.sc (.int .i64 i))))], [some ⟨e0, ⟨.f32, ys⟩⟩]⟩ => (match (decide (i = 0) && (Nat.beq (ys : List Nat).length xs.length && Nat.ble xs.length big) : Bool) with
    | true => k (.exit 0) ⟨[(3, .fv (.own 0))], [some ⟨e0, ⟨.f32, xs⟩⟩]⟩
    | false => none)
  | _ => none
def l16 : Loops := fun key s k => bif Nat.beq key 3 then lp16 s k else none
theorem st16 (xs : List Nat) (i : Int) (ys : List Nat) (e0 : Nat) (m : Nat) (k : Ex → St → R) : iterK a16 [0, 3, 4] [3] (codeK T0 a16 l16 Try.f16.ntmps (loopAt Try.f16 0)) (m + 1) ⟨[(0, .fv (.vw (some 0) ⟨.f32, xs⟩)), (3, .fv (.own 0)), (4, .fv (.el (.sc (.int .i64 i))))], [some ⟨e0, ⟨.f32, ys⟩⟩]⟩ k = (match (decide ((i : Int) < (xs.length : Int)) : Bool) with
  | true => (match (decide (0 ≤ (i : Int) ∧ (i : Int) < (xs.length : Int)) && true : Bool) with
    | true => (match (xs : List Nat)[Int.toNat i]? with
      | some x1 => (match (decide (0 ≤ (i : Int) ∧ (i : Int) < (ys.length : Int)) && true : Bool) with
        | true => (match (ys : List Nat)[Int.toNat i]? with
          | some x2 => iterK a16 [0, 3, 4] [3] (codeK T0 a16 l16 Try.f16.ntmps (loopAt Try.f16 0)) m ⟨[(0, .fv (.vw (some 0) ⟨.f32, xs⟩)), (3, .fv (.own 0)), (4, .fv (.el (.sc (.int .i64 (IntKind.i64.wrap (i + 1))))))], [some ⟨e0, ⟨.f32, (ys : List Nat).set (Int.toNat i) x1⟩⟩]⟩ k
          | none => none)
        | false => none)
      | none => none)
    | false => none)
  | false => k (.exit 0) ⟨[(3, .fv (.own 0))], [some ⟨e0, ⟨.f32, ys⟩⟩]⟩) := by kernel_rfl
theorem ind16 (xs : List Nat) (hx : Nat.ble xs.length big = true) (e0 : Nat) (k : Ex → St → R) : ∀ (m j : Nat) (ys : List Nat), ys.length = xs.length → j + m = xs.length → iterK a16 [0, 3, 4] [3] (codeK T0 a16 l16 Try.f16.ntmps (loopAt Try.f16 0)) (m + 1) ⟨[(0, .fv (.vw (some 0) ⟨.f32, xs⟩)), (3, .fv (.own 0)), (4, .fv (.el (.sc (.int .i64 (j : Int)))))], [some ⟨e0, ⟨.f32, ys⟩⟩]⟩ k =
    k (.exit 0) ⟨[(3, .fv (.own 0))], [some ⟨e0, ⟨.f32, ys.take j ++ xs.drop j⟩⟩]⟩ := by
  intro m
  induction m with
  | zero =>
    intro j ys hl hj
    have h1 : ¬ ((j : Int) < (xs.length : Int)) := by omega
    rw [st16, List.drop_of_length_le (show xs.length ≤ j by omega), List.take_of_length_le (show ys.length ≤ j by omega)]
    simp [h1]
  | succ m ih =>
    intro j ys hl hj
    have hlt : j < xs.length := by omega
    have hlt2 : j < ys.length := by omega
    have h1 : ((j : Int) < (xs.length : Int)) := by omega
    have h12 : ((j : Int) < (ys.length : Int)) := by omega
    have h2 : (0 : Int) ≤ (j : Int) := by omega
    rw [st16, wrap_succ hlt hx]
    have h3 : xs[Int.toNat (j : Int)]? = some xs[j] := by simp [hlt]
    have h4 : ys[Int.toNat (j : Int)]? = some ys[j] := by simp [hlt2]
    simp only [h1, h12, h2, h3, h4, and_self, decide_true, Bool.and_true]
    refine (ih (j + 1) (ys.set (Int.toNat (j : Int)) xs[j]) (by simpa using hl) (by omega)).trans ?_
    have h5 : (ys.set (Int.toNat (j : Int)) xs[j]).take (j + 1) ++ xs.drop (j + 1) = ys.take j ++ xs.drop j := by
      rw [List.drop_eq_getElem_cons hlt]
      exact set_take hlt2 _ _
    rw [h5]

theorem lk16 : LOK T0 a16 l16 Try.f16.ntmps (loopAt Try.f16 0) := by
  intro ins outs hA s k out h
  have hA' : ([0, 3, 4], [3]) = (ins, outs) := Option.some.inj ((show a16.lp (firstRegion (loopAt Try.f16 0)) = some ([0, 3, 4], [3]) by kernel_rfl).symm.trans hA)
  cases hA'
  have hk : firstRegion (loopAt Try.f16 0) = 3 := by kernel_rfl
  rw [hk] at h
  change lp16 s k = some out at h
  unfold lp16 at h
  split at h
  · rename_i xs i e0 ys
    cases hg : (decide (i = 0) && (Nat.beq ys.length xs.length && Nat.ble xs.length big)) with
    | false => rw [hg] at h; cases h
    | true =>
      rw [hg] at h
      simp only [Bool.and_eq_true, decide_eq_true_eq] at hg
      obtain ⟨rfl, hl, hx⟩ := hg
      refine ⟨xs.length + 1, ?_⟩
      have hh := ind16 xs hx e0 k xs.length 0 ys (Nat.eq_of_beq_eq_true hl) (by omega)
      simp only [List.take_zero, List.nil_append, List.drop_zero] at hh
      exact hh.trans h
  · cases h
theorem e16 (xs : List Nat) : runFn T0 a16 l16 Try.f16 [.vw none ⟨.f32, xs⟩] = (match (decide (0 ≤ ((xs.length : Int) : Int) ∧ ((xs.length : Int) : Int) = (xs.length : Int) ∧ ((xs.length : Int) : Int) ≤ 1099511627776) : Bool) with
  | true => (match (decide (0 = 0) && (Nat.beq (List.replicate (Int.toNat ((xs.length : Int))) ((0 : Nat)) : List Nat).length xs.length && Nat.ble xs.length big) : Bool) with
    | true => some ⟨[.fresh 30 ⟨.f32, xs⟩], none⟩
    | false => none)
  | false => none) := by kernel_rfl
theorem s16 (xs : List Nat) : runFn T0 a16 l16 Try.f16 [.vw none ⟨.f32, xs⟩] = (match (Nat.ble xs.length big : Bool) with
  | true => some ⟨[.fresh 30 ⟨.f32, xs⟩], none⟩
  | false => none) := by
  rw [e16]
  cases h : Nat.ble xs.length big with
  | false => cases hd : decide ((xs.length : Int) ≤ 1099511627776) <;> simp [hd]
  | true =>
    have hx := Nat.le_of_ble_eq_true h
    unfold big at hx
    have h2 : ((xs.length : Int) ≤ 1099511627776) := by omega
    simp [h2]
theorem c16 (xs : List Nat) (k : List RV → R) (out : Out) (h : (match (Nat.ble xs.length big : Bool) with
  | true => k [.fresh 30 ⟨.f32, xs⟩]
  | false => none) = some out) : ∃ rs, Real Try.prog 16 ∧ COK Try.prog 16 [.vw none ⟨.f32, xs⟩] rs ∧ k rs = some out := by
  cases g0 : (Nat.ble xs.length big : Bool) with
  | true =>
    rw [g0] at h
    exact ⟨_, real Try.func16 (by kernel_rfl), fn_ok tok0 (A := a16) (L := l16) (r := none) Try.func16 (by kernel_rfl) (by kernel_rfl) (loops1 (by kernel_rfl) lk16) (by rw [s16, g0]), h⟩
  | false =>
    rw [g0] at h
    cases h

/-! laws.markFloat32S -/
def a19 : Ann := ann [(2, [0, 1, 5], [0, 1])] [0, 4] 1
def lp19 : St → (Ex → St → R) → R := fun s k => match s with
  | ⟨[(0, .fv (.own 0)), (1, .fv (.el (.sc (.int .i64 n)))), (5, .fv (.el (.sc (.int .i64 i))))], [some ⟨e0, ⟨.f32, ys⟩⟩]⟩ => (match (decide (i = 0) && (decide (0 ≤ n ∧ n ≤ 1099511627776) && Nat.ble (ys : List Nat).length big) : Bool) with
    | true => k (.exit 0) ⟨[(0, .fv (.own 0)), (1, .fv (.el (.sc (.int .i64 (n + ((ys : List Nat).length : Int))))))], [some ⟨e0, ⟨.f32, marks n (ys : List Nat).length⟩⟩]⟩
    | false => none)
  | _ => none
def l19 : Loops := fun key s k => bif Nat.beq key 2 then lp19 s k else none
theorem st19 (n : Int) (i : Int) (ys : List Nat) (e0 : Nat) (m : Nat) (k : Ex → St → R) : iterK a19 [0, 1, 5] [0, 1] (codeK T0 a19 l19 Try.f19.ntmps (loopAt Try.f19 0)) (m + 1) ⟨[(0, .fv (.own 0)), (1, .fv (.el (.sc (.int .i64 n)))), (5, .fv (.el (.sc (.int .i64 i))))], [some ⟨e0, ⟨.f32, ys⟩⟩]⟩ k = (match (decide ((i : Int) < (ys.length : Int)) : Bool) with
  | true => (match (decide (0 ≤ (i : Int) ∧ (i : Int) < (ys.length : Int)) && true : Bool) with
    | true => (match (ys : List Nat)[Int.toNat i]? with
      | some x1 => iterK a19 [0, 1, 5] [0, 1] (codeK T0 a19 l19 Try.f19.ntmps (loopAt Try.f19 0)) m ⟨[(0, .fv (.own 0)), (1, .fv (.el (.sc (.int .i64 (IntKind.i64.wrap (n + 1)))))), (5, .fv (.el (.sc (.int .i64 (IntKind.i64.wrap (i + 1))))))], [some ⟨e0, ⟨.f32, (ys : List Nat).set (Int.toNat i) (fint .f32 n)⟩⟩]⟩ k
      | none => none)
    | false => none)
  | false => k (.exit 0) ⟨[(0, .fv (.own 0)), (1, .fv (.el (.sc (.int .i64 n))))], [some ⟨e0, ⟨.f32, ys⟩⟩]⟩) := by kernel_rfl
theorem ind19 (e0 : Nat) (k : Ex → St → R) : ∀ (m j : Nat) (ys : List Nat) (n : Int), Nat.ble ys.length big = true → 0 ≤ n → n + m ≤ 2199023255552 → j + m = ys.length → iterK a19 [0, 1, 5] [0, 1] (codeK T0 a19 l19 Try.f19.ntmps (loopAt Try.f19 0)) (m + 1) ⟨[(0, .fv (.own 0)), (1, .fv (.el (.sc (.int .i64 n)))), (5, .fv (.el (.sc (.int .i64 (j : Int)))))], [some ⟨e0, ⟨.f32, ys⟩⟩]⟩ k =
    k (.exit 0) ⟨[(0, .fv (.own 0)), (1, .fv (.el (.sc (.int .i64 (n + (m : Int))))))], [some ⟨e0, ⟨.f32, ys.take j ++ marks n m⟩⟩]⟩ := by
  intro m
  induction m with
  | zero =>
    intro j ys n hb h0 hn hj
    have h1 : ¬ ((j : Int) < (ys.length : Int)) := by omega
    rw [st19, List.take_of_length_le (show ys.length ≤ j by omega)]
    simp [h1, marks]
  | succ m ih =>
    intro j ys n hb h0 hn hj
    have hlt : j < ys.length := by omega
    have h1 : ((j : Int) < (ys.length : Int)) := by omega
    have h2 : (0 : Int) ≤ (j : Int) := by omega
    have hw : IntKind.i64.wrap (n + 1) = n + 1 := wrap64 (by omega) (by omega)
    have hw2 : IntKind.i64.wrap n = n := wrap64 (by omega) (by omega)
    rw [st19, wrap_succ hlt hb, hw]
    have h4 : ys[Int.toNat (j : Int)]? = some ys[j] := by simp [hlt]
    try rw [hw2]
    simp only [h1, h2, h4, and_self, decide_true, Bool.and_true]
    refine (ih (j + 1) (ys.set (Int.toNat (j : Int)) (fint .f32 n)) (n + 1) (by simpa using hb) (by omega) (by omega) (by simp; omega)).trans ?_
    have h5 : (ys.set (Int.toNat (j : Int)) (fint .f32 n)).take (j + 1) ++ marks (n + 1) m = ys.take j ++ marks n (m + 1) := set_take hlt _ _
    have h6 : n + 1 + (m : Int) = n + ((m + 1 : Nat) : Int) := by omega
    rw [h5, h6]

theorem lk19 : LOK T0 a19 l19 Try.f19.ntmps (loopAt Try.f19 0) := by
  intro ins outs hA s k out h
  have hA' : ([0, 1, 5], [0, 1]) = (ins, outs) := Option.some.inj ((show a19.lp (firstRegion (loopAt Try.f19 0)) = some ([0, 1, 5], [0, 1]) by kernel_rfl).symm.trans hA)
  cases hA'
  have hk : firstRegion (loopAt Try.f19 0) = 2 := by kernel_rfl
  rw [hk] at h
  change lp19 s k = some out at h
  unfold lp19 at h
  split at h
  · rename_i n i e0 ys
    cases hg : (decide (i = 0) && (decide (0 ≤ n ∧ n ≤ 1099511627776) && Nat.ble ys.length big)) with
    | false => rw [hg] at h; cases h
    | true =>
      rw [hg] at h
      simp only [Bool.and_eq_true, decide_eq_true_eq] at hg
      obtain ⟨rfl, ⟨hn0, hn1⟩, hx⟩ := hg
      refine ⟨ys.length + 1, ?_⟩
      have hxl := Nat.le_of_ble_eq_true hx
      unfold big at hxl
      have hh := ind19 e0 k ys.length 0 ys n hx hn0 (by omega) (by omega)
      simp only [List.take_zero, List.nil_append] at hh
      exact hh.trans h
  · cases h
theorem e19 (e : Nat) (xs : List Nat) (n : Int) : runMn T0 a19 l19 Try.f19 e ⟨.f32, xs⟩ [.el (.sc (.int .i64 n))] = (match (decide (0 = 0) && (decide (0 ≤ n ∧ n ≤ 1099511627776) && Nat.ble (xs : List Nat).length big) : Bool) with
  | true => some ⟨[.el (.sc (.int .i64 (n + ((xs : List Nat).length : Int))))], some ⟨e, ⟨.f32, marks n (xs : List Nat).length⟩⟩⟩
  | false => none) := by kernel_rfl
theorem s19 (e : Nat) (xs : List Nat) (n : Int) : runMn T0 a19 l19 Try.f19 e ⟨.f32, xs⟩ [.el (.sc (.int .i64 n))] = (match (decide (0 ≤ n ∧ n ≤ 1099511627776) && Nat.ble xs.length big : Bool) with
  | true => some ⟨[.el (.sc (.int .i64 (n + (xs.length : Int))))], some ⟨e, ⟨.f32, marks n xs.length⟩⟩⟩
  | false => none) := by
  rw [e19]
  cases h : (decide (0 ≤ n ∧ n ≤ 1099511627776) && Nat.ble xs.length big) <;> simp [h]
theorem c19 (xs : List Nat) (n : Int) (k : List RV → Vec → R) (out : Out) (h : (match (decide (0 ≤ n ∧ n ≤ 1099511627776) && Nat.ble xs.length big : Bool) with
  | true => k [.el (.sc (.int .i64 (n + (xs.length : Int))))] ⟨.f32, marks n xs.length⟩
  | false => none) = some out) : ∃ rs vec, Real Try.prog 19 ∧ CMOK Try.prog 19 ⟨.f32, xs⟩ [.el (.sc (.int .i64 n))] rs vec ∧ k rs vec = some out := by
  cases g0 : (decide (0 ≤ n ∧ n ≤ 1099511627776) && Nat.ble xs.length big : Bool) with
  | true =>
    rw [g0] at h
    exact ⟨_, _, real Try.func19 (by kernel_rfl), mfn_ok tok0 (A := a19) (L := l19) Try.func19 (by kernel_rfl) (by kernel_rfl) (loops1 (by kernel_rfl) lk19) (by decide) rfl (fun e => by rw [s19, g0]), h⟩
  | false =>
    rw [g0] at h
    cases h

/-! laws.heldFloat32S -/
def a20 : Ann := ann [(2, [0, 1, 5], [1])] [4] 0
def lp20 : St → (Ex → St → R) → R := fun s k => match s with
  | ⟨[(0, .fv (.vw (some 0) ⟨.f32, xs⟩)), (1, .fv (.el (.sc (.int .i64 n)))), (5, .fv (.el (.sc (.int .i64 i))))], []⟩ => (match (decide (i = 0) && (decide (0 ≤ n ∧ n ≤ 1099511627776) && Nat.ble xs.length big) : Bool) with
    | true => (match (heldF n xs : Bool) with
      | true => k (.exit 0) ⟨[(1, .fv (.el (.sc (.int .i64 (n + (xs.length : Int))))))], []⟩
      | false => k .ret ⟨[(4, .fv (.el (.sc (.int .i64 ((-1))))))], []⟩)
    | false => none)
  | _ => none
def l20 : Loops := fun key s k => bif Nat.beq key 2 then lp20 s k else none
theorem st20 (xs : List Nat) (n : Int) (i : Int) (m : Nat) (k : Ex → St → R) : iterK a20 [0, 1, 5] [1] (codeK T0 a20 l20 Try.f20.ntmps (loopAt Try.f20 0)) (m + 1) ⟨[(0, .fv (.vw (some 0) ⟨.f32, xs⟩)), (1, .fv (.el (.sc (.int .i64 n)))), (5, .fv (.el (.sc (.int .i64 i))))], []⟩ k = (match (decide ((i : Int) < (xs.length : Int)) : Bool) with
  | true => (match (decide (0 ≤ (i : Int) ∧ (i : Int) < (xs.length : Int)) && true : Bool) with
    | true => (match (xs : List Nat)[Int.toNat i]? with
      | some x1 => (match (fcmp .neq .f32 x1 (fint .f32 n) : Bool) with
        | true => k .ret ⟨[(4, .fv (.el (.sc (.int .i64 ((-1))))))], []⟩
        | false => iterK a20 [0, 1, 5] [1] (codeK T0 a20 l20 Try.f20.ntmps (loopAt Try.f20 0)) m ⟨[(0, .fv (.vw (some 0) ⟨.f32, xs⟩)), (1, .fv (.el (.sc (.int .i64 (IntKind.i64.wrap (n + 1)))))), (5, .fv (.el (.sc (.int .i64 (IntKind.i64.wrap (i + 1))))))], []⟩ k)
      | none => none)
    | false => none)
  | false => k (.exit 0) ⟨[(1, .fv (.el (.sc (.int .i64 n))))], []⟩) := by kernel_rfl
theorem ind20 (xs : List Nat) (hb : Nat.ble xs.length big = true) (k : Ex → St → R) : ∀ (m j : Nat) (n : Int), 0 ≤ n → n + m ≤ 2199023255552 → j + m = xs.length → iterK a20 [0, 1, 5] [1] (codeK T0 a20 l20 Try.f20.ntmps (loopAt Try.f20 0)) (m + 1) ⟨[(0, .fv (.vw (some 0) ⟨.f32, xs⟩)), (1, .fv (.el (.sc (.int .i64 n)))), (5, .fv (.el (.sc (.int .i64 (j : Int)))))], []⟩ k =
    (match heldF n (xs.drop j) with
    | true => k (.exit 0) ⟨[(1, .fv (.el (.sc (.int .i64 (n + (m : Int))))))], []⟩
    | false => k .ret ⟨[(4, .fv (.el (.sc (.int .i64 (-1)))))], []⟩) := by
  intro m
  induction m with
  | zero =>
    intro j n h0 hn hj
    have h1 : ¬ ((j : Int) < (xs.length : Int)) := by omega
    rw [st20, List.drop_of_length_le (by omega)]
    simp [h1, heldF]
  | succ m ih =>
    intro j n h0 hn hj
    have hlt : j < xs.length := by omega
    have h1 : ((j : Int) < (xs.length : Int)) := by omega
    have h2 : (0 : Int) ≤ (j : Int) := by omega
    have hw : IntKind.i64.wrap (n + 1) = n + 1 := wrap64 (by omega) (by omega)
    have hw2 : IntKind.i64.wrap n = n := wrap64 (by omega) (by omega)
    rw [st20, wrap_succ hlt hb, hw]
    try rw [hw2]
    have h4 : xs[Int.toNat (j : Int)]? = some xs[j] := by simp [hlt]
    have h6 : n + 1 + (m : Int) = n + ((m + 1 : Nat) : Int) := by omega
    rw [List.drop_eq_getElem_cons hlt, ih (j + 1) (n + 1) (by omega) (by omega) (by omega), h6]
    simp only [h1, h2, h4, and_self, decide_true, Bool.and_true, heldF]
    cases fcmp .neq .f32 xs[j] (fint .f32 n) <;> simp

theorem lk20 : LOK T0 a20 l20 Try.f20.ntmps (loopAt Try.f20 0) := by
  intro ins outs hA s k out h
  have hA' : ([0, 1, 5], [1]) = (ins, outs) := Option.some.inj ((show a20.lp (firstRegion (loopAt Try.f20 0)) = some ([0, 1, 5], [1]) by kernel_rfl).symm.trans hA)
  cases hA'
  have hk : firstRegion (loopAt Try.f20 0) = 2 := by kernel_rfl
  rw [hk] at h
  change lp20 s k = some out at h
  unfold lp20 at h
  split at h
  · rename_i xs n i
    cases hg : (decide (i = 0) && (decide (0 ≤ n ∧ n ≤ 1099511627776) && Nat.ble xs.length big)) with
    | false => rw [hg] at h; cases h
    | true =>
      rw [hg] at h
      simp only [Bool.and_eq_true, decide_eq_true_eq] at hg
      obtain ⟨rfl, ⟨hn0, hn1⟩, hx⟩ := hg
      refine ⟨xs.length + 1, ?_⟩
      have hxl := Nat.le_of_ble_eq_true hx
      unfold big at hxl
      exact (ind20 xs hx k xs.length 0 n hn0 (by omega) (by omega)).trans h
  · cases h
theorem e20 (xs : List Nat) (n : Int) : runFn T0 a20 l20 Try.f20 [.vw none ⟨.f32, xs⟩, .el (.sc (.int .i64 n))] = (match (decide (0 = 0) && (decide (0 ≤ n ∧ n ≤ 1099511627776) && Nat.ble xs.length big) : Bool) with
  | true => (match (heldF n xs : Bool) with
    | true => some ⟨[.el (.sc (.int .i64 (n + (xs.length : Int))))], none⟩
    | false => some ⟨[.el (.sc (.int .i64 ((-1))))], none⟩)
  | false => none) := by kernel_rfl
theorem s20 (xs : List Nat) (n : Int) : runFn T0 a20 l20 Try.f20 [.vw none ⟨.f32, xs⟩, .el (.sc (.int .i64 n))] = (match (decide (0 ≤ n ∧ n ≤ 1099511627776) && Nat.ble xs.length big : Bool) with
  | true => some ⟨[.el (.sc (.int .i64 (heldN (heldF n xs) (n + (xs.length : Int)))))], none⟩
  | false => none) := by
  rw [e20]
  unfold heldN
  cases h : (decide (0 ≤ n ∧ n ≤ 1099511627776) && Nat.ble xs.length big) <;> cases h2 : heldF n xs <;> simp [h]
theorem c20 (xs : List Nat) (n : Int) (k : List RV → R) (out : Out) (h : (match (decide (0 ≤ n ∧ n ≤ 1099511627776) && Nat.ble xs.length big : Bool) with
  | true => k [.el (.sc (.int .i64 (heldN (heldF n xs) (n + (xs.length : Int)))))]
  | false => none) = some out) : ∃ rs, Real Try.prog 20 ∧ COK Try.prog 20 [.vw none ⟨.f32, xs⟩, .el (.sc (.int .i64 n))] rs ∧ k rs = some out := by
  cases g0 : (decide (0 ≤ n ∧ n ≤ 1099511627776) && Nat.ble xs.length big : Bool) with
  | true =>
    rw [g0] at h
    exact ⟨_, real Try.func20 (by kernel_rfl), fn_ok tok0 (A := a20) (L := l20) (r := none) Try.func20 (by kernel_rfl) (by kernel_rfl) (loops1 (by kernel_rfl) lk20) (by rw [s20, g0]), h⟩
  | false =>
    rw [g0] at h
    cases h

/-! laws.sameFloat -/
theorem e29 (a : Nat) (b : Nat) : runFn T0 none0 noL Try.f29 [.el (.sc (.fl .f64 a)), .el (.sc (.fl .f64 b))] = (match (fcmp .neq .f64 a a : Bool) with
  | true => (match (fcmp .neq .f64 a a : Bool) with
    | true => some ⟨[.el (.sc (.bo (fcmp .neq .f64 b b)))], none⟩
    | false => some ⟨[.el (.sc (.bo false))], none⟩)
  | false => (match (fcmp .neq .f64 b b : Bool) with
    | true => (match (fcmp .neq .f64 a a : Bool) with
      | true => some ⟨[.el (.sc (.bo (fcmp .neq .f64 b b)))], none⟩
      | false => some ⟨[.el (.sc (.bo false))], none⟩)
    | false => (match (fcmp .eql .f64 a 0 : Bool) with
      | true => (match (fcmp .eql .f64 b 0 : Bool) with
        | true => some ⟨[.el (.sc (.bo ((fcmp .gtr .f64 (fop .quo .f64 4607182418800017408 a) 0) == (fcmp .gtr .f64 (fop .quo .f64 4607182418800017408 b) 0))))], none⟩
        | false => some ⟨[.el (.sc (.bo (fcmp .eql .f64 a b)))], none⟩)
      | false => some ⟨[.el (.sc (.bo (fcmp .eql .f64 a b)))], none⟩))) := by kernel_rfl
theorem s29 (a : Nat) (b : Nat) : runFn T0 none0 noL Try.f29 [.el (.sc (.fl .f64 a)), .el (.sc (.fl .f64 b))] = some ⟨[.el (.sc (.bo (sameF a b)))], none⟩ := by
  rw [e29]
  unfold sameF
  cases fcmp .neq .f64 a a <;> cases fcmp .neq .f64 b b <;> cases fcmp .eql .f64 a 0 <;> cases fcmp .eql .f64 b 0 <;> rfl
theorem c29 (a : Nat) (b : Nat) (k : List RV → R) (out : Out) (h : k [.el (.sc (.bo (sameF a b)))] = some out) : ∃ rs, Real Try.prog 29 ∧ COK Try.prog 29 [.el (.sc (.fl .f64 a)), .el (.sc (.fl .f64 b))] rs ∧ k rs = some out := by
  exact ⟨_, real Try.func29 (by kernel_rfl), fn_ok tok0 (A := none0) (L := noL) (r := none) Try.func29 (by kernel_rfl) (by kernel_rfl) (loops0 (by kernel_rfl)) (by rw [s29]), h⟩

/-! spec.l01Finite -/
theorem s92 (c : Nat) : runFn T0 none0 noL Try.f92 [.el (.sc (.fl .f32 c))] = some ⟨[.el (.sc (.bo (fin c)))], none⟩ := by kernel_rfl
theorem c92 (c : Nat) (k : List RV → R) (out : Out) (h : k [.el (.sc (.bo (fin c)))] = some out) : ∃ rs, Real Try.prog 92 ∧ COK Try.prog 92 [.el (.sc (.fl .f32 c))] rs ∧ k rs = some out := by
  exact ⟨_, real Try.func92 (by kernel_rfl), fn_ok tok0 (A := none0) (L := noL) (r := none) Try.func92 (by kernel_rfl) (by kernel_rfl) (loops0 (by kernel_rfl)) (by rw [s92]), h⟩

/-! spec.l01Dot -/
def a94 : Ann := ann [(3, [0, 1, 5, 6], [5])] [4] 0
def lp94 : St → (Ex → St → R) → R := fun s k => match s with
  | ⟨[(0, .fv (.vw (some 0) ⟨.f32, xs⟩)), (1, .fv (.vw (some 1) ⟨.f32, ys⟩)), (5, .fv (.el (.sc (.fl .f32 a)))), (6, .fv (.el (.sc (.int .i64 i))))], []⟩ => (match ((decide (i = 0) && (Nat.ble xs.length big && Nat.ble xs.length ys.length)) : Bool) with
    | true => k (.exit 0) ⟨[(5, .fv (.el (.sc (.fl .f32 (rep (fun j a => fop .add .f32 a (fop .mul .f32 (xs.getD j 0) (ys.getD j 0))) (xs.length) 0 (a : Nat))))))], []⟩
    | false => none)
  | _ => none
def l94 : Loops := fun key s k => bif Nat.beq key 3 then lp94 s k else none
theorem st94 (xs : List Nat) (ys : List Nat) (a : Nat) (i : Int) (m : Nat) (k : Ex → St → R) : iterK a94 [0, 1, 5, 6] [5] (codeK T0 a94 l94 Try.f94.ntmps (loopAt Try.f94 0)) (m + 1) ⟨[(0, .fv (.vw (some 0) ⟨.f32, xs⟩)), (1, .fv (.vw (some 1) ⟨.f32, ys⟩)), (5, .fv (.el (.sc (.fl .f32 a)))), (6, .fv (.el (.sc (.int .i64 i))))], []⟩ k = (match (decide ((i : Int) < (xs.length : Int)) : Bool) with
  | true => (match (decide (0 ≤ (i : Int) ∧ (i : Int) < (xs.length : Int)) && true : Bool) with
    | true => (match (xs : List Nat)[Int.toNat i]? with
      | some x1 => (match (decide (0 ≤ (i : Int) ∧ (i : Int) < (ys.length : Int)) && true : Bool) with
        | true => (match (ys : List Nat)[Int.toNat i]? with
          | some x2 => iterK a94 [0, 1, 5, 6] [5] (codeK T0 a94 l94 Try.f94.ntmps (loopAt Try.f94 0)) m ⟨[(0, .fv (.vw (some 0) ⟨.f32, xs⟩)), (1, .fv (.vw (some 1) ⟨.f32, ys⟩)), (5, .fv (.el (.sc (.fl .f32 (fop .add .f32 a (fop .mul .f32 x1 x2)))))), (6, .fv (.el (.sc (.int .i64 (IntKind.i64.wrap (i + 1))))))], []⟩ k
          | none => none)
        | false => none)
      | none => none)
    | false => none)
  | false => k (.exit 0) ⟨[(5, .fv (.el (.sc (.fl .f32 a))))], []⟩) := by kernel_rfl
theorem ind94 (xs : List Nat) (ys : List Nat) (hx : (Nat.ble xs.length big) = true) (hl : (Nat.ble xs.length ys.length) = true) (k : Ex → St → R) : ∀ (m j : Nat) (a : Nat), 0 ≤ j → j + m = xs.length → iterK a94 [0, 1, 5, 6] [5] (codeK T0 a94 l94 Try.f94.ntmps (loopAt Try.f94 0)) (m + 1) ⟨[(0, .fv (.vw (some 0) ⟨.f32, xs⟩)), (1, .fv (.vw (some 1) ⟨.f32, ys⟩)), (5, .fv (.el (.sc (.fl .f32 a)))), (6, .fv (.el (.sc (.int .i64 (j : Int)))))], []⟩ k =
    k (.exit 0) ⟨[(5, .fv (.el (.sc (.fl .f32 (rep (fun j a => fop .add .f32 a (fop .mul .f32 (xs.getD j 0) (ys.getD j 0))) m j (a : Nat))))))], []⟩ := by
  intro m
  induction m with
  | zero =>
    intro j a hlo hj
    have hx_ := big_le hx
    have hl_ := Nat.le_of_ble_eq_true hl
    have h1 : ¬ (((j : Int) < (xs.length : Int))) := by omega
    rw [st94]
    simp only [h1, rep, decide_false] <;> rfl
  | succ m ih =>
    intro j a hlo hj
    have hx_ := big_le hx
    have hl_ := Nat.le_of_ble_eq_true hl
    have h1 : ((j : Int) < (xs.length : Int)) := by omega
    have xb : (0 : Int) ≤ ((j : Nat) : Int) ∧ ((j : Nat) : Int) < (xs.length : Int) := by omega
    have xq : xs[Int.toNat ((j : Nat) : Int)]? = some (xs.getD (j) 0) := getI (by omega)
    have xp : xs[j]? = some (xs.getD (j) 0) := getI2 (by omega)
    have yl : j < ys.length := by omega
    have yb : (0 : Int) ≤ ((j : Nat) : Int) ∧ ((j : Nat) : Int) < (ys.length : Int) := by omega
    have yq : ys[Int.toNat ((j : Nat) : Int)]? = some (ys.getD (j) 0) := getI (by omega)
    have yp : ys[j]? = some (ys.getD (j) 0) := getI2 (by omega)
    have wn : IntKind.i64.wrap ((j : Int) + 1) = ((j + 1 : Nat) : Int) := wrapN (by omega) (by omega)
    rw [st94]
    simp only [h1, wn, xb, xq, xp, yl, yb, yq, yp, and_self, decide_true, Bool.and_true, Int.le_refl]
    exact ih (j + 1) _ (by omega) (by omega)

theorem lk94 : LOK T0 a94 l94 Try.f94.ntmps (loopAt Try.f94 0) := by
  intro ins outs hA s k out h
  have hA' : ([0, 1, 5, 6], [5]) = (ins, outs) := Option.some.inj ((show a94.lp (firstRegion (loopAt Try.f94 0)) = some ([0, 1, 5, 6], [5]) by kernel_rfl).symm.trans hA)
  cases hA'
  have hk : firstRegion (loopAt Try.f94 0) = 3 := by kernel_rfl
  rw [hk] at h
  change lp94 s k = some out at h
  unfold lp94 at h
  split at h
  · rename_i xs ys a i
    cases hg : (decide (i = 0) && (Nat.ble xs.length big && Nat.ble xs.length ys.length)) with
    | false => rw [hg] at h; cases h
    | true =>
      rw [hg] at h
      simp only [Bool.and_eq_true, decide_eq_true_eq] at hg
      obtain ⟨rfl, hx, hl⟩ := hg
      refine ⟨(xs.length) + 1, ?_⟩
      have hx_ := big_le hx
      have hl_ := Nat.le_of_ble_eq_true hl
      exact (ind94 xs ys hx hl k (xs.length) 0 a (by omega) (by omega)).trans h
  · cases h
theorem e94 (xs : List Nat) (ys : List Nat) : runFn T0 a94 l94 Try.f94 [.vw none ⟨.f32, xs⟩, .vw none ⟨.f32, ys⟩] = (match ((decide (0 = 0) && (Nat.ble xs.length big && Nat.ble xs.length ys.length)) : Bool) with
  | true => some ⟨[.el (.sc (.fl .f32 (rep (fun j a => fop .add .f32 a (fop .mul .f32 (xs.getD j 0) (ys.getD j 0))) (xs.length) 0 (0 : Nat))))], none⟩
  | false => none) := by kernel_rfl
theorem s94 (xs : List Nat) (ys : List Nat) (hg : (Nat.ble xs.length big && Nat.ble xs.length ys.length) = true) : runFn T0 a94 l94 Try.f94 [.vw none ⟨.f32, xs⟩, .vw none ⟨.f32, ys⟩] = some ⟨[.el (.sc (.fl .f32 (dot2 xs ys)))], none⟩ := by
  rw [e94]
  have hg2 := hg
  rw [Bool.and_eq_true] at hg2
  simp only [hg2.1, hg2.2, Bool.and_self]
  rfl
theorem c94 (xs : List Nat) (ys : List Nat) (k : List RV → R) (out : Out) (h : (match (Nat.ble xs.length big && Nat.ble xs.length ys.length : Bool) with
  | true => k [.el (.sc (.fl .f32 (dot2 xs ys)))]
  | false => none) = some out) : ∃ rs, Real Try.prog 94 ∧ COK Try.prog 94 [.vw none ⟨.f32, xs⟩, .vw none ⟨.f32, ys⟩] rs ∧ k rs = some out := by
  cases g0 : (Nat.ble xs.length big && Nat.ble xs.length ys.length : Bool) with
  | true =>
    rw [g0] at h
    exact ⟨_, real Try.func94 (by kernel_rfl), fn_ok tok0 (A := a94) (L := l94) (r := none) Try.func94 (by kernel_rfl) (by kernel_rfl) (loops1 (by kernel_rfl) lk94) (by rw [s94 _ _ g0]), h⟩
  | false =>
    rw [g0] at h
    cases h

/-! impl.IsFinite -/
theorem s97 (c : Nat) : runFn T0 none0 noL Try.f97 [.el (.sc (.fl .f32 c))] = some ⟨[.el (.sc (.bo (fin c)))], none⟩ := by kernel_rfl
theorem c97 (c : Nat) (k : List RV → R) (out : Out) (h : k [.el (.sc (.bo (fin c)))] = some out) : ∃ rs, Real Try.prog 97 ∧ COK Try.prog 97 [.el (.sc (.fl .f32 c))] rs ∧ k rs = some out := by
  exact ⟨_, real Try.func97 (by kernel_rfl), fn_ok tok0 (A := none0) (L := noL) (r := none) Try.func97 (by kernel_rfl) (by kernel_rfl) (loops0 (by kernel_rfl)) (by rw [s97]), h⟩

/-! spec.l01Narrow -/
theorem s148 (c : Nat) : runFn T0 none0 noL Try.f148 [.el (.sc (.fl .f64 c))] = (match fconv .f64 .f32 c with
  | some rn1 => some ⟨[.el (.sc (.fl .f32 rn1))], none⟩
  | none => none) := by kernel_rfl
theorem c148 (c : Nat) (k : List RV → R) (out : Out) (h : (match fconv .f64 .f32 c with
  | some rn0 => k [.el (.sc (.fl .f32 rn0))]
  | none => none) = some out) : ∃ rs, Real Try.prog 148 ∧ COK Try.prog 148 [.el (.sc (.fl .f64 c))] rs ∧ k rs = some out := by
  cases g0 : (fconv .f64 .f32 c) with
  | some rn0 =>
    rw [g0] at h
    exact ⟨_, real Try.func148 (by kernel_rfl), fn_ok tok0 (A := none0) (L := noL) (r := none) Try.func148 (by kernel_rfl) (by kernel_rfl) (loops0 (by kernel_rfl)) (by rw [s148, g0]), h⟩
  | none =>
    rw [g0] at h
    cases h

/-! math.Float32frombits -/
theorem c184 (n : Int) (k : List RV → R) (out : Out) (h : k [.el (.sc (.fl .f32 (cn .f32 (Int.toNat n))))] = some out) : ∃ rs, CallOK Try.prog 184 [.el (.sc (.int .u32 n))] rs ∧ k rs = some out := by
  exact ⟨_, x_f32from Try.func184 (by kernel_rfl) (by kernel_rfl) (by kernel_rfl) (by kernel_rfl), h⟩

/-! math.Float64frombits -/
theorem c185 (n : Int) (k : List RV → R) (out : Out) (h : k [.el (.sc (.fl .f64 (cn .f64 (Int.toNat n))))] = some out) : ∃ rs, CallOK Try.prog 185 [.el (.sc (.int .u64 n))] rs ∧ k rs = some out := by
  exact ⟨_, x_f64from Try.func185 (by kernel_rfl) (by kernel_rfl) (by kernel_rfl) (by kernel_rfl), h⟩

/-! math.sqrt -/
theorem c192 (c : Nat) (k : List RV → R) (out : Out) (h : k [.el (.sc (.fl .f64 (fsqrt c)))] = some out) : ∃ rs, CallOK Try.prog 192 [.el (.sc (.fl .f64 c))] rs ∧ k rs = some out := by
  exact ⟨_, x_sqrt Try.func192 (by kernel_rfl) (by kernel_rfl) (by kernel_rfl) (by kernel_rfl), h⟩

/-! math.Float64bits -/
theorem c217 (c : Nat) (k : List RV → R) (out : Out) (h : (match (isN .f64 c : Bool) with
  | true => none
  | false => k [.el (.sc (.int .u64 ((c : Int))))]) = some out) : ∃ rs, CallOK Try.prog 217 [.el (.sc (.fl .f64 c))] rs ∧ k rs = some out := by
  cases g0 : (isN .f64 c : Bool) with
  | true =>
    rw [g0] at h
    cases h
  | false =>
    rw [g0] at h
    exact ⟨_, x_f64bits Try.func217 (by kernel_rfl) (by kernel_rfl) (by kernel_rfl) (by kernel_rfl) g0, h⟩

/-! math.archTrunc -/
theorem c218 (c : Nat) (k : List RV → R) (out : Out) (h : k [.el (.sc (.fl .f64 (fround .zero c)))] = some out) : ∃ rs, CallOK Try.prog 218 [.el (.sc (.fl .f64 c))] rs ∧ k rs = some out := by
  exact ⟨_, x_round (name := "math.archTrunc") (way := .zero) Try.func218 (by kernel_rfl) (by kernel_rfl) (by kernel_rfl) (by kernel_rfl), h⟩

def S1 : SFn := fun f args k => match f, args with
  | 16, [.vw none ⟨.f32, xs⟩] => (match (Nat.ble xs.length big : Bool) with
    | true => k [.fresh 30 ⟨.f32, xs⟩]
    | false => none)
  | 20, [.vw none ⟨.f32, xs⟩, .el (.sc (.int .i64 n))] => (match (decide (0 ≤ n ∧ n ≤ 1099511627776) && Nat.ble xs.length big : Bool) with
    | true => k [.el (.sc (.int .i64 (heldN (heldF n xs) (n + (xs.length : Int)))))]
    | false => none)
  | 29, [.el (.sc (.fl .f64 a)), .el (.sc (.fl .f64 b))] => k [.el (.sc (.bo (sameF a b)))]
  | 92, [.el (.sc (.fl .f32 c))] => k [.el (.sc (.bo (fin c)))]
  | 94, [.vw none ⟨.f32, xs⟩, .vw none ⟨.f32, ys⟩] => (match (Nat.ble xs.length big && Nat.ble xs.length ys.length : Bool) with
    | true => k [.el (.sc (.fl .f32 (dot2 xs ys)))]
    | false => none)
  | 97, [.el (.sc (.fl .f32 c))] => k [.el (.sc (.bo (fin c)))]
  | 148, [.el (.sc (.fl .f64 c))] => (match fconv .f64 .f32 c with
    | some rn2 => k [.el (.sc (.fl .f32 rn2))]
    | none => none)
  | 184, [.el (.sc (.int .u32 n))] => k [.el (.sc (.fl .f32 (cn .f32 (Int.toNat n))))]
  | 185, [.el (.sc (.int .u64 n))] => k [.el (.sc (.fl .f64 (cn .f64 (Int.toNat n))))]
  | 192, [.el (.sc (.fl .f64 c))] => k [.el (.sc (.fl .f64 (fsqrt c)))]
  | 217, [.el (.sc (.fl .f64 c))] => (match (isN .f64 c : Bool) with
    | true => none
    | false => k [.el (.sc (.int .u64 ((c : Int))))])
  | 218, [.el (.sc (.fl .f64 c))] => k [.el (.sc (.fl .f64 (fround .zero c)))]
  | _, _ => S0 f args k
def M1 : MFn := fun f vec args k => match f, vec, args with
  | 19, ⟨.f32, xs⟩, [.el (.sc (.int .i64 n))] => (match (decide (0 ≤ n ∧ n ≤ 1099511627776) && Nat.ble xs.length big : Bool) with
    | true => k [.el (.sc (.int .i64 (n + (xs.length : Int))))] ⟨.f32, marks n xs.length⟩
    | false => none)
  | _, _, _ => M0 f vec args k
def T1 : TT := tab.T S1 muts M1
theorem tok1 : TOK Try.prog T1 := by
  refine (tab_ok tabok).tok (fun f args k out h => ?_) (fun f vec args k out h => ?_)
  · change S1 f args k = some out at h
    unfold S1 at h
    split at h
    · exact (fun k out h => cok_call (c16 _ k out h)) k out h
    · exact (fun k out h => cok_call (c20 _ _ k out h)) k out h
    · exact (fun k out h => cok_call (c29 _ _ k out h)) k out h
    · exact (fun k out h => cok_call (c92 _ k out h)) k out h
    · exact (fun k out h => cok_call (c94 _ _ k out h)) k out h
    · exact (fun k out h => cok_call (c97 _ k out h)) k out h
    · exact (fun k out h => cok_call (c148 _ k out h)) k out h
    · exact c184 _ k out h
    · exact c185 _ k out h
    · exact c192 _ k out h
    · exact c217 _ k out h
    · exact c218 _ k out h
    · exact tok0.S f args k out h
  · change M1 f vec args k = some out at h
    unfold M1 at h
    split at h
    · exact c19 _ _ k out h
    · exact tok0.M f vec args k out h

end Go.Sm.Ytdeplgocckdbiaa
