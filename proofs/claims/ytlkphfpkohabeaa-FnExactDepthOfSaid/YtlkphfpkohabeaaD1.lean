/- What the functions hand back: level 0. -/
import Derived.Test.YtlkphfpkohabeaaD0
namespace Go.Sm.Ytlkphfpkohabeaa
open Go Go.Sm Go.RowKit Go.Proofs

/-! laws.toFloat32S -/
def a16 : Ann := ann [(3, [0, 3, 4], [3])] [2] 0
def lp16 : St → (Ex → St → R) → R := fun s k => match s with
  | ⟨[(0, .fv (.vw (some 0) ⟨.f32, xs⟩)), (3, .fv (.own 0)), (4, .fv (.el (.sc (.int .i64 i))))], [some ⟨e0, ⟨.f32, ys⟩⟩]⟩ => (match (decide (i = 0) && (Nat.beq (ys : List Nat).length xs.length && Nat.ble xs.length big) : Bool) with
    | true => k (.exit 0) ⟨[(3, .fv (.own 0))], [some ⟨e0, ⟨.f32, xs⟩⟩]⟩
    | false => none)
  | _ => none
def l16 : Loops := fun key s k => bif Nat.beq key 3 then lp16 s k else none
theorem st16 (xs : List Nat) (i : Int) (ys : List Nat) (e0 : Nat) (m : Nat) (k : Ex → St → R) : iterK a16 [0, 3, 4] [3] (codeK T0 a16 l16 Try.f16.ntmps (loopAt Try.f16 0)) (m + 1) ⟨[(0, .fv (.vw (some 0) ⟨.f32, xs⟩)), (3, .fv (.own 0)), (4, .fv (.el (.sc (.int .i64 i))))], [some ⟨e0, ⟨.f32, ys⟩⟩]⟩ k = (match (decide ((i : Int) < (xs.length : Int)) : Bool) with
  | true => (match (decide (0 ≤ (i : Int) ∧ (i : Int) < (xs.length : Int)) && true : Bool) with
    | true => (match (xs : List Nat)[Int.toNat i]? with
      | some x1 => (match (decide (0 ≤ (i : Int) ∧ (i : Int) < (ys.length : Int)) && true : Bool) with
        | true => (match (ys : List Nat)[Int.toNat i]? with
          | some x2 => iterK a16 [0, 3, 4] [3] (codeK T0 a16 l16 Try.f16.ntmps (loopAt Try.f16 0)) m ⟨[(0, .fv (.vw (some 0) ⟨.f32, xs⟩)), (3, .fv (.own 0)), (4, .fv (.el (.sc (.int .i64 (IntKind.i64.wrap (i + 1))))))], [some ⟨e0, ⟨.f32, (ys : List Nat).set (Int.toNat i) x1⟩⟩]⟩ k
          | none => none)
        | false => none)
      | none => none)
    | false => none)
  | false => k (.exit 0) ⟨[(3, .fv (.own 0))], [some ⟨e0, ⟨.f32, ys⟩⟩]⟩) := by kernel_rfl
theorem ind16 (xs : List Nat) (hx : Nat.ble xs.length big = true) (e0 : Nat) (k : Ex → St → R) : ∀ (m j : Nat) (ys : List Nat), ys.length = xs.length → j + m = xs.length → iterK a16 [0, 3, 4] [3] (codeK T0 a16 l16 Try.f16.ntmps (loopAt Try.f16 0)) (m + 1) ⟨[(0, .fv (.vw (some 0) ⟨.f32, xs⟩)), (3, .fv (.own 0)), (4, .fv (.el (.sc (.int .i64 (j : Int)))))], [some ⟨e0, ⟨.f32, ys⟩⟩]⟩ k =
    k (.exit 0) ⟨[(3, .fv (.own 0))], [some ⟨e0, ⟨.f32, ys.take j ++ xs.drop j⟩⟩]⟩ := by
  intro m
  induction m with
  | zero =>
    intro j ys hl hj
    have h1 : ¬ ((j : Int) < (xs.length : Int)) := by omega
    rw [st16, List.drop_of_length_le (show xs.length ≤ j by omega), List.take_of_length_le (show ys.length ≤ j by omega)]
    simp [h1]
  | succ m ih =>
    intro j ys hl hj
    have hlt : j < xs.length := by omega
    have hlt2 : j < ys.length := by omega
    have h1 : ((j : Int) < (xs.length : Int)) := by omega
    have h12 : ((j : Int) < (ys.length : Int)) := by omega
    have h2 : (0 : Int) ≤ (j : Int) := by omega
    rw [st16, wrap_succ hlt hx]
    have h3 : xs[Int.toNat (j : Int)]? = some xs[j] := by simp [hlt]
    have h4 : ys[Int.toNat (j : Int)]? = some ys[j] := by simp [hlt2]
    simp only [h1, h12, h2, h3, h4, and_self, decide_true, Bool.and_true]
    refine (ih (j + 1) (ys.set (Int.toNat (j : Int)) xs[j]) (by simpa using hl) (by omega)).trans ?_
    have h5 : (ys.set (Int.toNat (j : Int)) xs[j]).take (j + 1) ++ xs.drop (j + 1) = ys.take j ++ xs.drop j := by
      rw [List.drop_eq_getElem_cons hlt]
      exact set_take hlt2 _ _
    rw [h5]

theorem lk16 : LOK T0 a16 l16 Try.f16.ntmps (loopAt Try.f16 0) := by
  intro ins outs hA s k out h
  have hA' : ([0, 3, 4], [3]) = (ins, outs) := Option.some.inj ((show a16.lp (firstRegion (loopAt Try.f16 0)) = some ([0, 3, 4], [3]) by kernel_rfl).symm.trans hA)
  cases hA'
  have hk : firstRegion (loopAt Try.f16 0) = 3 := by kernel_rfl
  rw [hk] at h
  change lp16 s k = some out at h
  unfold lp16 at h
  split at h
  · rename_i xs i e0 ys
    cases hg : (decide (i = 0) && (Nat.beq ys.length xs.length && Nat.ble xs.length big)) with
    | false => rw [hg] at h; cases h
    | true =>
      rw [hg] at h
      simp only [Bool.and_eq_true, decide_eq_true_eq] at hg
      obtain ⟨rfl, hl, hx⟩ := hg
      refine ⟨xs.length + 1, ?_⟩
      have hh := ind16 xs hx e0 k xs.length 0 ys (Nat.eq_of_beq_eq_true hl) (by omega)
      simp only [List.take_zero, List.nil_append, List.drop_zero] at hh
      exact hh.trans h
  · cases h
theorem e16 (xs : List Nat) : runFn T0 a16 l16 Try.f16 [.vw none ⟨.f32, xs⟩] = (match (decide (0 ≤ ((xs.length : Int) : Int) ∧ ((xs.length : Int) : Int) = (xs.length : Int) ∧ ((xs.length : Int) : Int) ≤ 1099511627776) : Bool) with
  | true => (match (decide (0 = 0) && (Nat.beq (List.replicate (Int.toNat ((xs.length : Int))) ((0 : Nat)) : List Nat).length xs.length && Nat.ble xs.length big) : Bool) with
    | true => some ⟨[.fresh 30 ⟨.f32, xs⟩], none⟩
    | false => none)
  | false => none) := by kernel_rfl
theorem s16 (xs : List Nat) : runFn T0 a16 l16 Try.f16 [.vw none ⟨.f32, xs⟩] = (match (Nat.ble xs.length big : Bool) with
  | true => some ⟨[.fresh 30 ⟨.f32, xs⟩], none⟩
  | false => none) := by
  rw [e16]
  cases h : Nat.ble xs.length big with
  | false => cases hd : decide ((xs.length : Int) ≤ 1099511627776) <;> simp [hd]
  | true =>
    have hx := Nat.le_of_ble_eq_true h
    unfold big at hx
    have h2 : ((xs.length : Int) ≤ 1099511627776) := by omega
    simp [h2]
theorem c16 (xs : List Nat) (k : List RV → R) (out : Out) (h : (match (Nat.ble xs.length big : Bool) with
  | true => k [.fresh 30 ⟨.f32, xs⟩]
  | false => none) = some out) : ∃ rs, Real Try.prog 16 ∧ COK Try.prog 16 [.vw none ⟨.f32, xs⟩] rs ∧ k rs = some out := by
  cases g0 : (Nat.ble xs.length big : Bool) with
  | true =>
    rw [g0] at h
    exact ⟨_, real Try.func16 (by kernel_rfl), fn_ok tok0 (A := a16) (L := l16) (r := none) Try.func16 (by kernel_rfl) (by kernel_rfl) (loops1 (by kernel_rfl) lk16) (by rw [s16, g0]), h⟩
  | false =>
    rw [g0] at h
    cases h

/-! laws.markFloat32S -/
def a19 : Ann := ann [(2, [0, 1, 5], [0, 1])] [0, 4] 1
def lp19 : St → (Ex → St → R) → R := fun s k => match s with
  | ⟨[(0, .fv (.own 0)), (1, .fv (.el (.sc (.int .i64 n)))), (5, .fv (.el (.sc (.int .i64 i))))], [some ⟨e0, ⟨.f32, ys⟩⟩]⟩ => (match (decide (i = 0) && (decide (0 ≤ n ∧ n ≤ 1099511627776) && Nat.ble (ys : List Nat).length big) : Bool) with
    | true => k (.exit 0) ⟨[(0, .fv (.own 0)), (1, .fv (.el (.sc (.int .i64 (n + ((ys : List Nat).length : Int))))))], [some ⟨e0, ⟨.f32, marks n (ys : List Nat).length⟩⟩]⟩
    | false => none)
  | _ => none
def l19 : Loops := fun key s k => bif Nat.beq key 2 then lp19 s k else none
theorem st19 (n : Int) (i : Int) (ys : List Nat) (e0 : Nat) (m : Nat) (k : Ex → St → R) : iterK a19 [0, 1, 5] [0, 1] (codeK T0 a19 l19 Try.f19.ntmps (loopAt Try.f19 0)) (m + 1) ⟨[(0, .fv (.own 0)), (1, .fv (.el (.sc (.int .i64 n)))), (5, .fv (.el (.sc (.int .i64 i))))], [some ⟨e0, ⟨.f32, ys⟩⟩]⟩ k = (match (decide ((i : Int) < (ys.length : Int)) : Bool) with
  | true => (match (decide (0 ≤ (i : Int) ∧ (i : Int) < (ys.length : Int)) && true : Bool) with
    | true => (match (ys : List Nat)[Int.toNat i]? with
      | some x1 => iterK a19 [0, 1, 5] [0, 1] (codeK T0 a19 l19 Try.f19.ntmps (loopAt Try.f19 0)) m ⟨[(0, .fv (.own 0)), (1, .fv (.el (.sc (.int .i64 (IntKind.i64.wrap (n + 1)))))), (5, .fv (.el (.sc (.int .i64 (IntKind.i64.wrap (i + 1))))))], [some ⟨e0, ⟨.f32, (ys : List Nat).set (Int.toNat i) (fint .f32 n)⟩⟩]⟩ k
      | none => none)
    | false => none)
  | false => k (.exit 0) ⟨[(0, .fv (.own 0)), (1, .fv (.el (.sc (.int .i64 n))))], [some ⟨e0, ⟨.f32, ys⟩⟩]⟩) := by kernel_rfl
theorem ind19 (e0 : Nat) (k : Ex → St → R) : ∀ (m j : Nat) (ys : List Nat) (n : Int), Nat.ble ys.length big = true → 0 ≤ n → n + m ≤ 2199023255552 → j + m = ys.length → iterK a19 [0, 1, 5] [0, 1] (codeK T0 a19 l19 Try.f19.ntmps (loopAt Try.f19 0)) (m + 1) ⟨[(0, .fv (.own 0)), (1, .fv (.el (.sc (.int .i64 n)))), (5, .fv (.el (.sc (.int .i64 (j : Int)))))], [some ⟨e0, ⟨.f32, ys⟩⟩]⟩ k =
    k (.exit 0) ⟨[(0, .fv (.own 0)), (1, .fv (.el (.sc (.int .i64 (n + (m : Int))))))], [some ⟨e0, ⟨.f32, ys.take j ++ marks n m⟩⟩]⟩ := by
  intro m
  induction m with
  | zero =>
    intro j ys n hb h0 hn hj
    have h1 : ¬ ((j : Int) < (ys.length : Int)) := by omega
    rw [st19, List.take_of_length_le (show ys.length ≤ j by omega)]
    simp [h1, marks]
  | succ m ih =>
    intro j ys n hb h0 hn hj
    have hlt : j < ys.length := by omega
    have h1 : ((j : Int) < (ys.length : Int)) := by omega
    have h2 : (0 : Int) ≤ (j : Int) := by omega
    have hw : IntKind.i64.wrap (n + 1) = n + 1 := wrap64 (by omega) (by omega)
    have hw2 : IntKind.i64.wrap n = n := wrap64 (by omega) (by omega)
    rw [st19, wrap_succ hlt hb, hw]
    have h4 : ys[Int.toNat (j : Int)]? = some ys[j] := by simp [hlt]
    try rw [hw2]
    simp only [h1, h2, h4, and_self, decide_true, Bool.and_true]
    refine (ih (j + 1) (ys.set (Int.toNat (j : Int)) (fint .f32 n)) (n + 1) (by simpa using hb) (by omega) (by omega) (by simp; omega)).trans ?_
    have h5 : (ys.set (Int.toNat (j : Int)) (fint .f32 n)).take (j + 1) ++ marks (n + 1) m = ys.take j ++ marks n (m + 1) := set_take hlt _ _
    have h6 : n + 1 + (m : Int) = n + ((m + 1 : Nat) : Int) := by omega
    rw [h5, h6]

theorem lk19 : LOK T0 a19 l19 Try.f19.ntmps (loopAt Try.f19 0) := by
  intro ins outs hA s k out h
  have hA' : ([0, 1, 5], [0, 1]) = (ins, outs) := Option.some.inj ((show a19.lp (firstRegion (loopAt Try.f19 0)) = some ([0, 1, 5], [0, 1]) by kernel_rfl).symm.trans hA)
  cases hA'
  have hk : firstRegion (loopAt Try.f19 0) = 2 := by kernel_rfl
  rw [hk] at h
  change lp19 s k = some out at h
  unfold lp19 at h
  split at h
  · rename_i n i e0 ys
    cases hg : (decide (i = 0) && (decide (0 ≤ n ∧ n ≤ 1099511627776) && Nat.ble ys.length big)) with
    | false => rw [hg] at h; cases h
    | true =>
      rw [hg] at h
      simp only [Bool.and_eq_true, decide_eq_true_eq] at hg
      obtain ⟨rfl, ⟨hn0, hn1⟩, hx⟩ := hg
      refine ⟨ys.length + 1, ?_⟩
      have hxl := Nat.le_of_ble_eq_true hx
      unfold big at hxl
      have hh := ind19 e0 k ys.length 0 ys n hx hn0 (by omega) (by omega)
      simp only [List.take_zero, List.nil_append] at hh
      exact hh.trans h
  · cases h
theorem e19 (e : Nat) (xs : List Nat) (n : Int) : runMn T0 a19 l19 Try.f19 e ⟨.f32, xs⟩ [.el (.sc (.int .i64 n))] = (match (decide (0 = 0) && (decide (0 ≤ n ∧ n ≤ 1099511627776) && Nat.ble (xs : List Nat).length big) : Bool) with
  | true => some ⟨[.el (.sc (.int .i64 (n + ((xs : List Nat).length : Int))))], some ⟨e, ⟨.f32, marks n (xs : List Nat).length⟩⟩⟩
  | false => none) := by kernel_rfl
theorem s19 (e : Nat) (xs : List Nat) (n : Int) : runMn T0 a19 l19 Try.f19 e ⟨.f32, xs⟩ [.el (.sc (.int .i64 n))] = (match (decide (0 ≤ n ∧ n ≤ 1099511627776) && Nat.ble xs.length big : Bool) with
  | true => some ⟨[.el (.sc (.int .i64 (n + (xs.length : Int))))], some ⟨e, ⟨.f32, marks n xs.length⟩⟩⟩
  | false => none) := by
  rw [e19]
  cases h : (decide (0 ≤ n ∧ n ≤ 1099511627776) && Nat.ble xs.length big) <;> simp [h]
theorem c19 (xs : List Nat) (n : Int) (k : List RV → Vec → R) (out : Out) (h : (match (decide (0 ≤ n ∧ n ≤ 1099511627776) && Nat.ble xs.length big : Bool) with
  | true => k [.el (.sc (.int .i64 (n + (xs.length : Int))))] ⟨.f32, marks n xs.length⟩
  | false => none) = some out) : ∃ rs vec, Real Try.prog 19 ∧ CMOK Try.prog 19 ⟨.f32, xs⟩ [.el (.sc (.int .i64 n))] rs vec ∧ k rs vec = some out := by
  cases g0 : (decide (0 ≤ n ∧ n ≤ 1099511627776) && Nat.ble xs.length big : Bool) with
  | true =>
    rw [g0] at h
    exact ⟨_, _, real Try.func19 (by kernel_rfl), mfn_ok tok0 (A := a19) (L := l19) Try.func19 (by kernel_rfl) (by kernel_rfl) (loops1 (by kernel_rfl) lk19) (by decide) rfl (fun e => by rw [s19, g0]), h⟩
  | false =>
    rw [g0] at h
    cases h

/-! laws.heldFloat32S -/
def a20 : Ann := ann [(2, [0, 1, 5], [1])] [4] 0
def lp20 : St → (Ex → St → R) → R := fun s k => match s with
  | ⟨[(0, .fv (.vw (some 0) ⟨.f32, xs⟩)), (1, .fv (.el (.sc (.int .i64 n)))), (5, .fv (.el (.sc (.int .i64 i))))], []⟩ => (match (decide (i = 0) && (decide (0 ≤ n ∧ n ≤ 1099511627776) && Nat.ble xs.length big) : Bool) with
    | true => (match (heldF n xs : Bool) with
      | true => k (.exit 0) ⟨[(1, .fv (.el (.sc (.int .i64 (n + (xs.length : Int))))))], []⟩
      | false => k .ret ⟨[(4, .fv (.el (.sc (.int .i64 ((-1))))))], []⟩)
    | false => none)
  | _ => none
def l20 : Loops := fun key s k => bif Nat.beq key 2 then lp20 s k else none
theorem st20 (xs : List Nat) (n : Int) (i : Int) (m : Nat) (k : Ex → St → R) : iterK a20 [0, 1, 5] [1] (codeK T0 a20 l20 Try.f20.ntmps (loopAt Try.f20 0)) (m + 1) ⟨[(0, .fv (.vw (some 0) ⟨.f32, xs⟩)), (1, .fv (.el (.sc (.int .i64 n)))), (5, .fv (.el (.sc (.int .i64 i))))], []⟩ k = (match (decide ((i : Int) < (xs.length : Int)) : Bool) with
  | true => (match (decide (0 ≤ (i : Int) ∧ (i : Int) < (xs.length : Int)) && true : Bool) with
    | true => (match (xs : List Nat)[Int.toNat i]? with
      | some x1 => (match (fcmp .neq .f32 x1 (fint .f32 n) : Bool) with
        | true => k .ret ⟨[(4, .fv (.el (.sc (.int .i64 ((-1))))))], []⟩
        | false => iterK a20 [0, 1, 5] [1] (codeK T0 a20 l20 Try.f20.ntmps (loopAt Try.f20 0)) m ⟨[(0, .fv (.vw (some 0) ⟨.f32, xs⟩)), (1, .fv (.el (.sc (.int .i64 (IntKind.i64.wrap (n + 1)))))), (5, .fv (.el (.sc (.int .i64 (IntKind.i64.wrap (i + 1))))))], []⟩ k)
      | none => none)
    | false => none)
  | false => k (.exit 0) ⟨[(1, .fv (.el (.sc (.int .i64 n))))], []⟩) := by kernel_rfl
theorem ind20 (xs : List Nat) (hb : Nat.ble xs.length big = true) (k : Ex → St → R) : ∀ (m j : Nat) (n : Int), 0 ≤ n → n + m ≤ 2199023255552 → j + m = xs.length → iterK a20 [0, 1, 5] [1] (codeK T0 a20 l20 Try.f20.ntmps (loopAt Try.f20 0)) (m + 1) ⟨[(0, .fv (.vw (some 0) ⟨.f32, xs⟩)), (1, .fv (.el (.sc (.int .i64 n)))), (5, .fv (.el (.sc (.int .i64 (j : Int)))))], []⟩ k =
    (match heldF n (xs.drop j) with
    | true => k (.exit 0) ⟨[(1, .fv (.el (.sc (.int .i64 (n + (m : Int))))))], []⟩
    | false => k .ret ⟨[(4, .fv (.el (.sc (.int .i64 (-1)))))], []⟩) := by
  intro m
  induction m with
  | zero =>
    intro j n h0 hn hj
    have h1 : ¬ ((j : Int) < (xs.length : Int)) := by omega
    rw [st20, List.drop_of_length_le (by omega)]
    simp [h1, heldF]
  | succ m ih =>
    intro j n h0 hn hj
    have hlt : j < xs.length := by omega
    have h1 : ((j : Int) < (xs.length : Int)) := by omega
    have h2 : (0 : Int) ≤ (j : Int) := by omega
    have hw : IntKind.i64.wrap (n + 1) = n + 1 := wrap64 (by omega) (by omega)
    have hw2 : IntKind.i64.wrap n = n := wrap64 (by omega) (by omega)
    rw [st20, wrap_succ hlt hb, hw]
    try rw [hw2]
    have h4 : xs[Int.toNat (j : Int)]? = some xs[j] := by simp [hlt]
    have h6 : n + 1 + (m : Int) = n + ((m + 1 : Nat) : Int) := by omega
    rw [List.drop_eq_getElem_cons hlt, ih (j + 1) (n + 1) (by omega) (by omega) (by omega), h6]
    simp only [h1, h2, h4, and_self, decide_true, Bool.and_true, heldF]
    cases fcmp .neq .f32 xs[j] (fint .f32 n) <;> simp

theorem lk20 : LOK T0 a20 l20 Try.f20.ntmps (loopAt Try.f20 0) := by
  intro ins outs hA s k out h
  have hA' : ([0, 1, 5], [1]) = (ins, outs) := Option.some.inj ((show a20.lp (firstRegion (loopAt Try.f20 0)) = some ([0, 1, 5], [1]) by kernel_rfl).symm.trans hA)
  cases hA'
  have hk : firstRegion (loopAt Try.f20 0) = 2 := by kernel_rfl
  rw [hk] at h
  change lp20 s k = some out at h
  unfold lp20 at h
  split at h
  · rename_i xs n i
    cases hg : (decide (i = 0) && (decide (0 ≤ n ∧ n ≤ 1099511627776) && Nat.ble xs.length big)) with
    | false => rw [hg] at h; cases h
    | true =>
      rw [hg] at h
      simp only [Bool.and_eq_true, decide_eq_true_eq] at hg
      obtain ⟨rfl, ⟨hn0, hn1⟩, hx⟩ := hg
      refine ⟨xs.length + 1, ?_⟩
      have hxl := Nat.le_of_ble_eq_true hx
      unfold big at hxl
      exact (ind20 xs hx k xs.length 0 n hn0 (by omega) (by omega)).trans h
  · cases h
theorem e20 (xs : List Nat) (n : Int) : runFn T0 a20 l20 Try.f20 [.vw none ⟨.f32, xs⟩, .el (.sc (.int .i64 n))] = (match (decide (0 = 0) && (decide (0 ≤ n ∧ n ≤ 1099511627776) && Nat.ble xs.length big) : Bool) with
  | true => (match (heldF n xs : Bool) with
    | true => some ⟨[.el (.sc (.int .i64 (n + (xs.length : Int))))], none⟩
    | false => some ⟨[.el (.sc (.int .i64 ((-1))))], none⟩)
  | false => none) := by kernel_rfl
theorem s20 (xs : List Nat) (n : Int) : runFn T0 a20 l20 Try.f20 [.vw none ⟨.f32, xs⟩, .el (.sc (.int .i64 n))] = (match (decide (0 ≤ n ∧ n ≤ 1099511627776) && Nat.ble xs.length big : Bool) with
  | true => some ⟨[.el (.sc (.int .i64 (heldN (heldF n xs) (n + (xs.length : Int)))))], none⟩
  | false => none) := by
  rw [e20]
  unfold heldN
  cases h : (decide (0 ≤ n ∧ n ≤ 1099511627776) && Nat.ble xs.length big) <;> cases h2 : heldF n xs <;> simp [h]
theorem c20 (xs : List Nat) (n : Int) (k : List RV → R) (out : Out) (h : (match (decide (0 ≤ n ∧ n ≤ 1099511627776) && Nat.ble xs.length big : Bool) with
  | true => k [.el (.sc (.int .i64 (heldN (heldF n xs) (n + (xs.length : Int)))))]
  | false => none) = some out) : ∃ rs, Real Try.prog 20 ∧ COK Try.prog 20 [.vw none ⟨.f32, xs⟩, .el (.sc (.int .i64 n))] rs ∧ k rs = some out := by
  cases g0 : (decide (0 ≤ n ∧ n ≤ 1099511627776) && Nat.ble xs.length big : Bool) with
  | true =>
    rw [g0] at h
    exact ⟨_, real Try.func20 (by kernel_rfl), fn_ok tok0 (A := a20) (L := l20) (r := none) Try.func20 (by kernel_rfl) (by kernel_rfl) (loops1 (by kernel_rfl) lk20) (by rw [s20, g0]), h⟩
  | false =>
    rw [g0] at h
    cases h

/-! laws.sameFloat -/
theorem e36 (a : Nat) (b : Nat) : runFn T0 none0 noL Try.f36 [.el (.sc (.fl .f64 a)), .el (.sc (.fl .f64 b))] = (match (fcmp .neq .f64 a a : Bool) with
  | true => (match (fcmp .neq .f64 a a : Bool) with
    | true => some ⟨[.el (.sc (.bo (fcmp .neq .f64 b b)))], none⟩
    | false => some ⟨[.el (.sc (.bo false))], none⟩)
  | false => (match (fcmp .neq .f64 b b : Bool) with
    | true => (match (fcmp .neq .f64 a a : Bool) with
      | true => some ⟨[.el (.sc (.bo (fcmp .neq .f64 b b)))], none⟩
      | false => some ⟨[.el (.sc (.bo false))], none⟩)
    | false => (match (fcmp .eql .f64 a 0 : Bool) with
      | true => (match (fcmp .eql .f64 b 0 : Bool) with
        | true => some ⟨[.el (.sc (.bo ((fcmp .gtr .f64 (fop .quo .f64 4607182418800017408 a) 0) == (fcmp .gtr .f64 (fop .quo .f64 4607182418800017408 b) 0))))], none⟩
        | false => some ⟨[.el (.sc (.bo (fcmp .eql .f64 a b)))], none⟩)
      | false => some ⟨[.el (.sc (.bo (fcmp .eql .f64 a b)))], none⟩))) := by kernel_rfl
theorem s36 (a : Nat) (b : Nat) : runFn T0 none0 noL Try.f36 [.el (.sc (.fl .f64 a)), .el (.sc (.fl .f64 b))] = some ⟨[.el (.sc (.bo (sameF a b)))], none⟩ := by
  rw [e36]
  unfold sameF
  cases fcmp .neq .f64 a a <;> cases fcmp .neq .f64 b b <;> cases fcmp .eql .f64 a 0 <;> cases fcmp .eql .f64 b 0 <;> rfl
theorem c36 (a : Nat) (b : Nat) (k : List RV → R) (out : Out) (h : k [.el (.sc (.bo (sameF a b)))] = some out) : ∃ rs, Real Try.prog 36 ∧ COK Try.prog 36 [.el (.sc (.fl .f64 a)), .el (.sc (.fl .f64 b))] rs ∧ k rs = some out := by
  exact ⟨_, real Try.func36 (by kernel_rfl), fn_ok tok0 (A := none0) (L := noL) (r := none) Try.func36 (by kernel_rfl) (by kernel_rfl) (loops0 (by kernel_rfl)) (by rw [s36]), h⟩

/-! impl.IsFinite -/
theorem s65 (c : Nat) : runFn T0 none0 noL Try.f65 [.el (.sc (.fl .f32 c))] = some ⟨[.el (.sc (.bo (fin c)))], none⟩ := by kernel_rfl
theorem c65 (c : Nat) (k : List RV → R) (out : Out) (h : k [.el (.sc (.bo (fin c)))] = some out) : ∃ rs, Real Try.prog 65 ∧ COK Try.prog 65 [.el (.sc (.fl .f32 c))] rs ∧ k rs = some out := by
  exact ⟨_, real Try.func65 (by kernel_rfl), fn_ok tok0 (A := none0) (L := noL) (r := none) Try.func65 (by kernel_rfl) (by kernel_rfl) (loops0 (by kernel_rfl)) (by rw [s65]), h⟩

/-! spec.l01Finite -/
theorem s68 (c : Nat) : runFn T0 none0 noL Try.f68 [.el (.sc (.fl .f32 c))] = some ⟨[.el (.sc (.bo (fin c)))], none⟩ := by kernel_rfl
theorem c68 (c : Nat) (k : List RV → R) (out : Out) (h : k [.el (.sc (.bo (fin c)))] = some out) : ∃ rs, Real Try.prog 68 ∧ COK Try.prog 68 [.el (.sc (.fl .f32 c))] rs ∧ k rs = some out := by
  exact ⟨_, real Try.func68 (by kernel_rfl), fn_ok tok0 (A := none0) (L := noL) (r := none) Try.func68 (by kernel_rfl) (by kernel_rfl) (loops0 (by kernel_rfl)) (by rw [s68]), h⟩

/-! spec.l01Narrow -/
theorem s117 (c : Nat) : runFn T0 none0 noL Try.f117 [.el (.sc (.fl .f64 c))] = (match fconv .f64 .f32 c with
  | some rn1 => some ⟨[.el (.sc (.fl .f32 rn1))], none⟩
  | none => none) := by kernel_rfl
theorem c117 (c : Nat) (k : List RV → R) (out : Out) (h : (match fconv .f64 .f32 c with
  | some rn0 => k [.el (.sc (.fl .f32 rn0))]
  | none => none) = some out) : ∃ rs, Real Try.prog 117 ∧ COK Try.prog 117 [.el (.sc (.fl .f64 c))] rs ∧ k rs = some out := by
  cases g0 : (fconv .f64 .f32 c) with
  | some rn0 =>
    rw [g0] at h
    exact ⟨_, real Try.func117 (by kernel_rfl), fn_ok tok0 (A := none0) (L := noL) (r := none) Try.func117 (by kernel_rfl) (by kernel_rfl) (loops0 (by kernel_rfl)) (by rw [s117, g0]), h⟩
  | none =>
    rw [g0] at h
    cases h

/-! impl.logarithm -/
def a124 : Ann := ann [(2, [0, 3], [0, 3]), (5, [0, 3], [0, 3]), (11, [3, 4, 5, 6, 7], [3, 4, 6])] [2] 0
def lp124 : St → (Ex → St → R) → R := fun s k => match s with
  | ⟨[(0, .fv (.el (.sc (.fl .f64 y)))), (3, .fv (.el (.sc (.fl .f64 e))))], []⟩ => (match ((!fcmp .lss .f64 (lgDn 200 y).1 4604930618986332160 && (Nat.beq e 0 && Nat.ble (lgDn 200 y).2 400)) : Bool) with
    | true => k (.exit 0) ⟨[(0, .fv (.el (.sc (.fl .f64 ((lgDn 200 y).1))))), (3, .fv (.el (.sc (.fl .f64 (fint .f64 (-((lgDn 200 y).2 : Int)))))))], []⟩
    | false => none)
  | _ => none
def lp124_1 : St → (Ex → St → R) → R := fun s k => match s with
  | ⟨[(0, .fv (.el (.sc (.fl .f64 y)))), (3, .fv (.el (.sc (.fl .f64 e))))], []⟩ => (match ((!fcmp .geq .f64 (lgUp 200 y).1 4609434218613702656 && ((Nat.beq e 0 || Nat.beq (lgUp 200 y).2 0) && Nat.ble (lgUp 200 y).2 400)) : Bool) with
    | true => k (.exit 2) ⟨[(0, .fv (.el (.sc (.fl .f64 ((lgUp 200 y).1))))), (3, .fv (.el (.sc (.fl .f64 (lgE e ((lgUp 200 y).2))))))], []⟩
    | false => none)
  | _ => none
def lp124_2 : St → (Ex → St → R) → R := fun s k => match s with
  | ⟨[(3, .fv (.el (.sc (.fl .f64 e)))), (4, .fv (.el (.sc (.fl .f64 z)))), (5, .fv (.el (.sc (.fl .f64 u)))), (6, .fv (.el (.sc (.fl .f64 q)))), (7, .fv (.el (.sc (.fl .f64 i))))], []⟩ => (match (Nat.beq i 4627730092099895296 : Bool) with
    | true => k (.exit 4) ⟨[(3, .fv (.el (.sc (.fl .f64 e)))), (4, .fv (.el (.sc (.fl .f64 z)))), (6, .fv (.el (.sc (.fl .f64 (lgPoly u q)))))], []⟩
    | false => none)
  | _ => none
def l124 : Loops := fun key s k => bif Nat.beq key 2 then lp124 s k else bif Nat.beq key 5 then lp124_1 s k else bif Nat.beq key 11 then lp124_2 s k else none
theorem st124 (y : Nat) (e : Nat) (m : Nat) (k : Ex → St → R) : iterK a124 [0, 3] [0, 3] (codeK T0 a124 l124 Try.f124.ntmps (loopAt Try.f124 0)) (m + 1) ⟨[(0, .fv (.el (.sc (.fl .f64 y)))), (3, .fv (.el (.sc (.fl .f64 e))))], []⟩ k = (match (fcmp .lss .f64 y 4604930618986332160 : Bool) with
  | true => iterK a124 [0, 3] [0, 3] (codeK T0 a124 l124 Try.f124.ntmps (loopAt Try.f124 0)) m ⟨[(0, .fv (.el (.sc (.fl .f64 (fop .mul .f64 y 4611686018427387904))))), (3, .fv (.el (.sc (.fl .f64 (fop .sub .f64 e 4607182418800017408)))))], []⟩ k
  | false => k (.exit 0) ⟨[(0, .fv (.el (.sc (.fl .f64 y)))), (3, .fv (.el (.sc (.fl .f64 e))))], []⟩) := by kernel_rfl
theorem ind124 (k : Ex → St → R) : ∀ (m y c : Nat), c + m ≤ 400 → fcmp .lss .f64 (lgDn m y).1 4604930618986332160 = false → iterK a124 [0, 3] [0, 3] (codeK T0 a124 l124 Try.f124.ntmps (loopAt Try.f124 0)) (m + 1) ⟨[(0, .fv (.el (.sc (.fl .f64 y)))), (3, .fv (.el (.sc (.fl .f64 (fint .f64 (-(c : Int)))))))], []⟩ k = k (.exit 0) ⟨[(0, .fv (.el (.sc (.fl .f64 ((lgDn m y).1))))), (3, .fv (.el (.sc (.fl .f64 (fint .f64 (-((c + (lgDn m y).2 : Nat) : Int)))))))], []⟩ := by
  intro m
  induction m with
  | zero =>
    intro y c h0 hd
    rw [st124]
    have hd2 : fcmp .lss .f64 y 4604930618986332160 = false := hd
    rw [hd2]
    rfl
  | succ m ih =>
    intro y c h0 hd
    have hc := (count_up (n := c) (by omega)).2
    rw [st124, hc]
    unfold lgDn at hd ⊢
    cases hg : fcmp .lss .f64 y 4604930618986332160 with
    | true =>
      rw [hg] at hd
      refine (ih (fop .mul .f64 y 4611686018427387904) (c + 1) (by omega) hd).trans ?_
      have he : ∀ q : Nat, c + 1 + q = c + (q + 1) := by intro q; omega
      rw [he]
      rfl
    | false => rfl

theorem lk124 : LOK T0 a124 l124 Try.f124.ntmps (loopAt Try.f124 0) := by
  intro ins outs hA s k out h
  have hA' : ([0, 3], [0, 3]) = (ins, outs) := Option.some.inj ((show a124.lp (firstRegion (loopAt Try.f124 0)) = some ([0, 3], [0, 3]) by kernel_rfl).symm.trans hA)
  cases hA'
  have hk : firstRegion (loopAt Try.f124 0) = 2 := by kernel_rfl
  rw [hk] at h
  change lp124 s k = some out at h
  unfold lp124 at h
  split at h
  · rename_i y e
    cases hg : (!fcmp .lss .f64 (lgDn 200 y).1 4604930618986332160 && (Nat.beq e 0 && Nat.ble (lgDn 200 y).2 400)) with
    | false => rw [hg] at h; cases h
    | true =>
      rw [hg] at h
      simp only [Bool.and_eq_true, decide_eq_true_eq] at hg
      obtain ⟨hd, he, hm⟩ := hg
      refine ⟨201, ?_⟩
      rw [Bool.not_eq_true'] at hd
      have he2 := Nat.eq_of_beq_eq_true he
      subst he2
      have hi := ind124 k 200 y 0 (by omega) hd
      rw [show fint .f64 (-((0 : Nat) : Int)) = 0 by decide +kernel, Nat.zero_add] at hi
      exact hi.trans h
  · cases h
theorem st124_1 (y : Nat) (e : Nat) (m : Nat) (k : Ex → St → R) : iterK a124 [0, 3] [0, 3] (codeK T0 a124 l124 Try.f124.ntmps (loopAt Try.f124 1)) (m + 1) ⟨[(0, .fv (.el (.sc (.fl .f64 y)))), (3, .fv (.el (.sc (.fl .f64 e))))], []⟩ k = (match (fcmp .geq .f64 y 4609434218613702656 : Bool) with
  | true => iterK a124 [0, 3] [0, 3] (codeK T0 a124 l124 Try.f124.ntmps (loopAt Try.f124 1)) m ⟨[(0, .fv (.el (.sc (.fl .f64 (fop .quo .f64 y 4611686018427387904))))), (3, .fv (.el (.sc (.fl .f64 (fop .add .f64 e 4607182418800017408)))))], []⟩ k
  | false => k (.exit 2) ⟨[(0, .fv (.el (.sc (.fl .f64 y)))), (3, .fv (.el (.sc (.fl .f64 e))))], []⟩) := by kernel_rfl
theorem ind124_1 (k : Ex → St → R) : ∀ (m y c : Nat), c + m ≤ 400 → fcmp .geq .f64 (lgUp m y).1 4609434218613702656 = false → iterK a124 [0, 3] [0, 3] (codeK T0 a124 l124 Try.f124.ntmps (loopAt Try.f124 1)) (m + 1) ⟨[(0, .fv (.el (.sc (.fl .f64 y)))), (3, .fv (.el (.sc (.fl .f64 (fint .f64 ((c : Int)))))))], []⟩ k = k (.exit 2) ⟨[(0, .fv (.el (.sc (.fl .f64 ((lgUp m y).1))))), (3, .fv (.el (.sc (.fl .f64 (fint .f64 (((c + (lgUp m y).2 : Nat) : Int)))))))], []⟩ := by
  intro m
  induction m with
  | zero =>
    intro y c h0 hd
    rw [st124_1]
    have hd2 : fcmp .geq .f64 y 4609434218613702656 = false := hd
    rw [hd2]
    rfl
  | succ m ih =>
    intro y c h0 hd
    have hc := (count_up (n := c) (by omega)).1
    rw [st124_1, hc]
    unfold lgUp at hd ⊢
    cases hg : fcmp .geq .f64 y 4609434218613702656 with
    | true =>
      rw [hg] at hd
      refine (ih (fop .quo .f64 y 4611686018427387904) (c + 1) (by omega) hd).trans ?_
      have he : ∀ q : Nat, c + 1 + q = c + (q + 1) := by intro q; omega
      rw [he]
      rfl
    | false => rfl

theorem lk124_1 : LOK T0 a124 l124 Try.f124.ntmps (loopAt Try.f124 1) := by
  intro ins outs hA s k out h
  have hA' : ([0, 3], [0, 3]) = (ins, outs) := Option.some.inj ((show a124.lp (firstRegion (loopAt Try.f124 1)) = some ([0, 3], [0, 3]) by kernel_rfl).symm.trans hA)
  cases hA'
  have hk : firstRegion (loopAt Try.f124 1) = 5 := by kernel_rfl
  rw [hk] at h
  change lp124_1 s k = some out at h
  unfold lp124_1 at h
  split at h
  · rename_i y e
    cases hg : (!fcmp .geq .f64 (lgUp 200 y).1 4609434218613702656 && ((Nat.beq e 0 || Nat.beq (lgUp 200 y).2 0) && Nat.ble (lgUp 200 y).2 400)) with
    | false => rw [hg] at h; cases h
    | true =>
      rw [hg] at h
      simp only [Bool.and_eq_true, decide_eq_true_eq] at hg
      obtain ⟨hd, he, hm⟩ := hg
      refine ⟨201, ?_⟩
      rw [Bool.not_eq_true'] at hd
      have hi := ind124_1 k 200 y 0 (by omega) hd
      rw [show fint .f64 (((0 : Nat) : Int)) = 0 by decide +kernel, Nat.zero_add] at hi
      cases hn : Nat.beq (lgUp 200 y).2 0 with
      | false =>
        have he2 : e = 0 := by
          rw [hn, Bool.or_false] at he
          exact Nat.eq_of_beq_eq_true he
        subst he2
        unfold lgE at h
        rw [hn] at h
        exact hi.trans h
      | true =>
        have hg2 : fcmp .geq .f64 y 4609434218613702656 = false := by
          cases hg : fcmp .geq .f64 y 4609434218613702656 with
          | false => rfl
          | true =>
            have hn2 := Nat.eq_of_beq_eq_true hn
            have : (lgUp (199 + 1) y).2 = 0 := hn2
            unfold lgUp at this
            rw [hg] at this
            exact absurd this (Nat.succ_ne_zero _)
        have hy : lgUp 200 y = (y, 0) := by
          show lgUp (199 + 1) y = (y, 0)
          unfold lgUp
          rw [hg2]
          rfl
        rw [hy] at h
        rw [st124_1, hg2]
        exact h
  · cases h
theorem st124_2 (e : Nat) (z : Nat) (u : Nat) (q : Nat) (i : Nat) (m : Nat) (k : Ex → St → R) : iterK a124 [3, 4, 5, 6, 7] [3, 4, 6] (codeK T0 a124 l124 Try.f124.ntmps (loopAt Try.f124 2)) (m + 1) ⟨[(3, .fv (.el (.sc (.fl .f64 e)))), (4, .fv (.el (.sc (.fl .f64 z)))), (5, .fv (.el (.sc (.fl .f64 u)))), (6, .fv (.el (.sc (.fl .f64 q)))), (7, .fv (.el (.sc (.fl .f64 i))))], []⟩ k = (match (fcmp .geq .f64 i 4607182418800017408 : Bool) with
  | true => iterK a124 [3, 4, 5, 6, 7] [3, 4, 6] (codeK T0 a124 l124 Try.f124.ntmps (loopAt Try.f124 2)) m ⟨[(3, .fv (.el (.sc (.fl .f64 e)))), (4, .fv (.el (.sc (.fl .f64 z)))), (5, .fv (.el (.sc (.fl .f64 u)))), (6, .fv (.el (.sc (.fl .f64 (fop .add .f64 (fop .quo .f64 4607182418800017408 i) (fop .mul .f64 u q)))))), (7, .fv (.el (.sc (.fl .f64 (fop .sub .f64 i 4611686018427387904)))))], []⟩ k
  | false => k (.exit 4) ⟨[(3, .fv (.el (.sc (.fl .f64 e)))), (4, .fv (.el (.sc (.fl .f64 z)))), (6, .fv (.el (.sc (.fl .f64 q))))], []⟩) := by kernel_rfl
theorem un124_2 (e : Nat) (z : Nat) (u : Nat) (q : Nat) (k : Ex → St → R) : iterK a124 [3, 4, 5, 6, 7] [3, 4, 6] (codeK T0 a124 l124 Try.f124.ntmps (loopAt Try.f124 2)) 14 ⟨[(3, .fv (.el (.sc (.fl .f64 e)))), (4, .fv (.el (.sc (.fl .f64 z)))), (5, .fv (.el (.sc (.fl .f64 u)))), (6, .fv (.el (.sc (.fl .f64 q)))), (7, .fv (.el (.sc (.fl .f64 4627730092099895296))))], []⟩ k = k (.exit 4) ⟨[(3, .fv (.el (.sc (.fl .f64 e)))), (4, .fv (.el (.sc (.fl .f64 z)))), (6, .fv (.el (.sc (.fl .f64 (lgPoly u q)))))], []⟩ := by kernel_rfl

theorem lk124_2 : LOK T0 a124 l124 Try.f124.ntmps (loopAt Try.f124 2) := by
  intro ins outs hA s k out h
  have hA' : ([3, 4, 5, 6, 7], [3, 4, 6]) = (ins, outs) := Option.some.inj ((show a124.lp (firstRegion (loopAt Try.f124 2)) = some ([3, 4, 5, 6, 7], [3, 4, 6]) by kernel_rfl).symm.trans hA)
  cases hA'
  have hk : firstRegion (loopAt Try.f124 2) = 11 := by kernel_rfl
  rw [hk] at h
  change lp124_2 s k = some out at h
  unfold lp124_2 at h
  split at h
  · rename_i e z u q i
    cases hg : Nat.beq i 4627730092099895296 with
    | false => rw [hg] at h; cases h
    | true =>
      rw [hg] at h
      replace hg := Nat.eq_of_beq_eq_true hg
      subst hg
      refine ⟨14, ?_⟩
      exact (un124_2 e z u q k).trans h
  · cases h
theorem e124 (y : Nat) : runFn T0 a124 l124 Try.f124 [.el (.sc (.fl .f64 y))] = (match ((!fcmp .lss .f64 (lgDn 200 y).1 4604930618986332160 && (Nat.beq 0 0 && Nat.ble (lgDn 200 y).2 400)) : Bool) with
  | true => (match ((!fcmp .geq .f64 (lgUp 200 ((lgDn 200 y).1)).1 4609434218613702656 && ((Nat.beq (fint .f64 (-((lgDn 200 y).2 : Int))) 0 || Nat.beq (lgUp 200 ((lgDn 200 y).1)).2 0) && Nat.ble (lgUp 200 ((lgDn 200 y).1)).2 400)) : Bool) with
    | true => (match (Nat.beq 4627730092099895296 4627730092099895296 : Bool) with
      | true => some ⟨[.el (.sc (.fl .f64 (fop .add .f64 (fop .mul .f64 4611686018427387904 (fop .mul .f64 ((fop .quo .f64 (fop .sub .f64 ((lgUp 200 ((lgDn 200 y).1)).1) 4607182418800017408) (fop .add .f64 ((lgUp 200 ((lgDn 200 y).1)).1) 4607182418800017408))) (lgPoly (fop .mul .f64 (fop .quo .f64 (fop .sub .f64 ((lgUp 200 ((lgDn 200 y).1)).1) 4607182418800017408) (fop .add .f64 ((lgUp 200 ((lgDn 200 y).1)).1) 4607182418800017408)) (fop .quo .f64 (fop .sub .f64 ((lgUp 200 ((lgDn 200 y).1)).1) 4607182418800017408) (fop .add .f64 ((lgUp 200 ((lgDn 200 y).1)).1) 4607182418800017408))) 0))) (fop .mul .f64 ((lgE ((fint .f64 (-((lgDn 200 y).2 : Int)))) ((lgUp 200 ((lgDn 200 y).1)).2))) 4604418534313441775))))], none⟩
      | false => none)
    | false => none)
  | false => none) := by kernel_rfl
theorem s124 (y : Nat) (hg : (lgIn y) = true) : runFn T0 a124 l124 Try.f124 [.el (.sc (.fl .f64 y))] = some ⟨[.el (.sc (.fl .f64 (logV y)))], none⟩ := by
  rw [e124]
  obtain ⟨f1, f2, f3, f4, f5, f6, f7, f8, f9, f10, f11, f12, f13, f14⟩ := lg_all (lgIn_of hg).1 (lgIn_of hg).2
  have b1 : Nat.ble (lgUp 200 y).2 400 = true := Nat.ble_eq_true_of_le (by omega)
  have b2 : Nat.ble (lgDn 200 y).2 400 = true := Nat.ble_eq_true_of_le (by omega)
  have b3 : Nat.ble (lgUp 200 (lgDn 200 y).1).2 400 = true := Nat.ble_eq_true_of_le (by omega)
  have hE : lgE (fint .f64 (-((lgDn 200 y).2 : Int))) (lgUp 200 (lgDn 200 y).1).2 = fint .f64 (lgN y) := f7
  have g5 : (Nat.beq (fint .f64 (-((lgDn 200 y).2 : Int))) 0 || Nat.beq (lgUp 200 (lgDn 200 y).1).2 0) = true := by
    rw [Bool.or_eq_true] at f5 ⊢
    rcases f5 with h | h
    · left
      rw [Nat.eq_of_beq_eq_true h]
      decide +kernel
    · exact .inr h
  rw [f6] at f4
  simp only [f3, f4, g5, hE, f6, b2, b3, decide_true, Nat.beq_refl, Bool.not_false, Bool.and_self, Bool.true_and, Bool.and_true]
  rfl
theorem c124 (y : Nat) (k : List RV → R) (out : Out) (h : (match (lgIn y : Bool) with
  | true => k [.el (.sc (.fl .f64 (logV y)))]
  | false => none) = some out) : ∃ rs, Real Try.prog 124 ∧ COK Try.prog 124 [.el (.sc (.fl .f64 y))] rs ∧ k rs = some out := by
  cases g0 : (lgIn y : Bool) with
  | true =>
    rw [g0] at h
    exact ⟨_, real Try.func124 (by kernel_rfl), fn_ok tok0 (A := a124) (L := l124) (r := none) Try.func124 (by kernel_rfl) (by kernel_rfl) (loops3 (by kernel_rfl) lk124 lk124_1 lk124_2) (by rw [s124 _ g0]), h⟩
  | false =>
    rw [g0] at h
    cases h

/-! math.Float64frombits -/
theorem c141 (n : Int) (k : List RV → R) (out : Out) (h : k [.el (.sc (.fl .f64 (cn .f64 (Int.toNat n))))] = some out) : ∃ rs, CallOK Try.prog 141 [.el (.sc (.int .u64 n))] rs ∧ k rs = some out := by
  exact ⟨_, x_f64from Try.func141 (by kernel_rfl) (by kernel_rfl) (by kernel_rfl) (by kernel_rfl), h⟩

/-! math.Float64bits -/
theorem c145 (c : Nat) (k : List RV → R) (out : Out) (h : (match (isN .f64 c : Bool) with
  | true => none
  | false => k [.el (.sc (.int .u64 ((c : Int))))]) = some out) : ∃ rs, CallOK Try.prog 145 [.el (.sc (.fl .f64 c))] rs ∧ k rs = some out := by
  cases g0 : (isN .f64 c : Bool) with
  | true =>
    rw [g0] at h
    cases h
  | false =>
    rw [g0] at h
    exact ⟨_, x_f64bits Try.func145 (by kernel_rfl) (by kernel_rfl) (by kernel_rfl) (by kernel_rfl) g0, h⟩

def S1 : SFn := fun f args k => match f, args with
  | 16, [.vw none ⟨.f32, xs⟩] => (match (Nat.ble xs.length big : Bool) with
    | true => k [.fresh 30 ⟨.f32, xs⟩]
    | false => none)
  | 20, [.vw none ⟨.f32, xs⟩, .el (.sc (.int .i64 n))] => (match (decide (0 ≤ n ∧ n ≤ 1099511627776) && Nat.ble xs.length big : Bool) with
    | true => k [.el (.sc (.int .i64 (heldN (heldF n xs) (n + (xs.length : Int)))))]
    | false => none)
  | 36, [.el (.sc (.fl .f64 a)), .el (.sc (.fl .f64 b))] => k [.el (.sc (.bo (sameF a b)))]
  | 65, [.el (.sc (.fl .f32 c))] => k [.el (.sc (.bo (fin c)))]
  | 68, [.el (.sc (.fl .f32 c))] => k [.el (.sc (.bo (fin c)))]
  | 117, [.el (.sc (.fl .f64 c))] => (match fconv .f64 .f32 c with
    | some rn2 => k [.el (.sc (.fl .f32 rn2))]
    | none => none)
  | 124, [.el (.sc (.fl .f64 y))] => (match (lgIn y : Bool) with
    | true => k [.el (.sc (.fl .f64 (logV y)))]
    | false => none)
  | 141, [.el (.sc (.int .u64 n))] => k [.el (.sc (.fl .f64 (cn .f64 (Int.toNat n))))]
  | 145, [.el (.sc (.fl .f64 c))] => (match (isN .f64 c : Bool) with
    | true => none
    | false => k [.el (.sc (.int .u64 ((c : Int))))])
  | _, _ => S0 f args k
def M1 : MFn := fun f vec args k => match f, vec, args with
  | 19, ⟨.f32, xs⟩, [.el (.sc (.int .i64 n))] => (match (decide (0 ≤ n ∧ n ≤ 1099511627776) && Nat.ble xs.length big : Bool) with
    | true => k [.el (.sc (.int .i64 (n + (xs.length : Int))))] ⟨.f32, marks n xs.length⟩
    | false => none)
  | _, _, _ => M0 f vec args k
def T1 : TT := tab.T S1 muts M1
theorem tok1 : TOK Try.prog T1 := by
  refine (tab_ok tabok).tok (fun f args k out h => ?_) (fun f vec args k out h => ?_)
  · change S1 f args k = some out at h
    unfold S1 at h
    split at h
    · exact (fun k out h => cok_call (c16 _ k out h)) k out h
    · exact (fun k out h => cok_call (c20 _ _ k out h)) k out h
    · exact (fun k out h => cok_call (c36 _ _ k out h)) k out h
    · exact (fun k out h => cok_call (c65 _ k out h)) k out h
    · exact (fun k out h => cok_call (c68 _ k out h)) k out h
    · exact (fun k out h => cok_call (c117 _ k out h)) k out h
    · exact (fun k out h => cok_call (c124 _ k out h)) k out h
    · exact c141 _ k out h
    · exact c145 _ k out h
    · exact tok0.S f args k out h
  · change M1 f vec args k = some out at h
    unfold M1 at h
    split at h
    · exact c19 _ _ k out h
    · exact tok0.M f vec args k out h

end Go.Sm.Ytlkphfpkohabeaa
