/- What the functions hand back: level 0. -/
import Derived.Test.YtlkphfpkohabeaaD0
namespace Go.Sm.Ytlkphfpkohabeaa
open Go Go.Sm Go.RowKit Go.Proofs

/-! laws.toFloat32S -/
def a16 : Ann := ann [(3, [0, 3, 4], [3])] [2] 0
def lp16 : St → (Ex → St → R) → R := fun s k => match s with
  | ⟨[(0, .fv (.vw (some 0) ⟨.f32, xs⟩)), (3, .fv (.own 0)), (4, .fv (.el (.sc (.int .i64 i))))], [some ⟨e0, ⟨.f32, ys⟩⟩]⟩ => (match (decide (i = 0) && (Nat.beq (ys : List Nat).length xs.length && Nat.ble xs.length big) : Bool) with
    | true => k (.exit 0) ⟨[(3, .fv (.own 0))], [some ⟨e0, ⟨.f32, xs⟩⟩]⟩
    | false => none)
  | _ => none
def l16 : Loops := fun key s k => bif Nat.beq key 3 then lp16 s k else none
theorem st16 (xs : List Nat) (i : Int) (ys : List Nat) (e0 : Nat) (m : Nat) (k : Ex → St → R) : iterK a16 [0, 3, 4] [3] (codeK T0 a16 l16 Try.f16.ntmps (loopAt Try.f16 0)) (m + 1) ⟨[(0, .fv (.vw (some 0) ⟨.f32, xs⟩)), (3, .fv (.own 0)), (4, .fv (.el (.sc (.int .i64 i))))], [some ⟨e0, ⟨.f32, ys⟩⟩]⟩ k = (match (decide ((i : Int) < (xs.length : Int)) : Bool) with
  | true => (match (decide (0 ≤ (i : Int) ∧ (i : Int) < (xs.length : Int)) && true : Bool) with
    | true => (match (xs : List Nat)[Int.toNat i]? with
      | some x1 => (match (decide (0 ≤ (i : Int) ∧ (i : Int) < (ys.length : Int)) && true : Bool) with
        | true => (match (ys : List Nat)[Int.toNat i]? with
          | some x2 => iterK a16 [0, 3, 4] [3] (codeK T0 a16 l16 Try.f16.ntmps (loopAt Try.f16 0)) m ⟨[(0, .fv (.vw (some 0) ⟨.f32, xs⟩)), (3, .fv (.own 0)), (4, .fv (.el (.sc (.int .i64 (IntKind.i64.wrap (i + 1))))))], [some ⟨e0, ⟨.f32, (ys : List Nat).set (Int.toNat i) x1⟩⟩]⟩ k
          | none => none)
        | false => none)
      | none => none)
    | false => none)
  | false => k (.exit 0) ⟨[(3, .fv (.own 0))], [some ⟨e0, ⟨.f32, ys⟩⟩]⟩) := by kernel_rfl
theorem ind16 (xs : List Nat) (hx : Nat.ble xs.length big = true) (e0 : Nat) (k : Ex → St → R) : ∀ (m j : Nat) (ys : List Nat), ys.length = xs.length → j + m = xs.length → iterK a16 [0, 3, 4] [3] (codeK T0 a16 l16 Try.f16.ntmps (loopAt Try.f16 0)) (m + 1) ⟨[(0, .fv (.vw (some 0) ⟨.f32, xs⟩)), (3, .fv (.own 0)), (4, .fv (.el (.sc (.int .i64 (j : Int)))))], [some ⟨e0, ⟨.f32, ys⟩⟩]⟩ k =
    k (.exit 0) ⟨[(3, .fv (.own 0))], [some ⟨e0, ⟨.f32, ys.take j ++ xs.drop j⟩⟩]⟩ := by
  intro m
  induction m with
  | zero =>
    intro j ys hl hj
    have h1 : ¬ ((j : Int) < (xs.length : Int)) := by omega
    rw [st16, List.drop_of_length_le (show xs.length ≤ j by omega), List.take_of_length_le (show ys.length ≤ j by omega)]
    simp [h1]
  | succ m ih =>
    intro j ys hl hj
    have hlt : j < xs.length := by omega
    have hlt2 : j < ys.length := by omega
    have h1 : ((j : Int) < (xs.length : Int)) := by omega
    have h12 : ((j : Int) < (ys.length : Int)) := by omega
    have h2 : (0 : Int) ≤ (j : Int) := by omega
    rw [st16, wrap_succ hlt hx]
    have h3 : xs[Int.toNat (j : Int)]? = some xs[j] := by simp [hlt]
    have h4 : ys[Int.toNat (j : Int)]? = some ys[j] := by simp [hlt2]
    simp only [h1, h12, h2, h3, h4, and_self, decide_true, Bool.and_true]
    refine (ih (j + 1) (ys.set (Int.toNat (j : Int)) xs[j]) (by simpa using hl) (by omega)).trans ?_
    have h5 : (ys.set (Int.toNat (j : Int)) xs[j]).take (j + 1) ++ xs.drop (j + 1) = ys.take j ++ xs.drop j := by
      rw [List.drop_eq_getElem_cons hlt]
      exact set_take hlt2 _ _
    rw [h5]

theorem lk16 : LOK T0 a16 l16 Try.f16.ntmps (loopAt Try.f16 0) := by
  intro ins outs hA s k out h
  have hA' : ([0, 3, 4], [3]) = (ins, outs) := Option.some.inj ((show a16.lp (firstRegion (loopAt Try.f16 0)) = some ([0, 3, 4], [3]) by kernel_rfl).symm.trans hA)
  cases hA'
  have hk : firstRegion (loopAt Try.f16 0) = 3 := by kernel_rfl
  rw [hk] at h
  change lp16 s k = some out at h
  unfold lp16 at h
  split at h
  · rename_i xs i e0 ys
    cases hg : (decide (i = 0) && (Nat.beq ys.length xs.length && Nat.ble xs.length big)) with
    | false => rw [hg] at h; cases h
    | true =>
      rw [hg] at h
      simp only [Bool.and_eq_true, decide_eq_true_eq] at hg
      obtain ⟨rfl, hl, hx⟩ := hg
      refine ⟨xs.length + 1, ?_⟩
      have hh := ind16 xs hx e0 k xs.length 0 ys (Nat.eq_of_beq_eq_true hl) (by omega)
      simp only [List.take_zero, List.nil_append, List.drop_zero] at hh
      exact hh.trans h
  · cases h
theorem e16 (xs : List Nat) : runFn T0 a16 l16 Try.f16 [.vw none ⟨.f32, xs⟩] = (match (decide (0 ≤ ((xs.length : Int) : Int) ∧ ((xs.length : Int) : Int) = (xs.length : Int) ∧ ((xs.length : Int) : Int) ≤ 1099511627776) : Bool) with
  | true => (match (decide (0 = 0) && (Nat.beq (List.replicate (Int.toNat ((xs.length : Int))) ((0 : Nat)) : List Nat).length xs.length && Nat.ble xs.length big) : Bool) with
    | true => some ⟨[.fresh 30 ⟨.f32, xs⟩], none⟩
    | false => none)
  | false => none) := by kernel_rfl
theorem s16 (xs : List Nat) : runFn T0 a16 l16 Try.f16 [.vw none ⟨.f32, xs⟩] = (match (Nat.ble xs.length big : Bool) with
  | true => some ⟨[.fresh 30 ⟨.f32, xs⟩], none⟩
  | false => none) := by
  rw [e16]
  cases h : Nat.ble xs.length big with
  | false => cases hd : decide ((xs.length : Int) ≤ 1099511627776) <;> simp [hd]
  | true =>
    have hx := Nat.le_of_ble_eq_true h
    unfold big at hx
    have h2 : ((xs.length : Int) ≤ 1099511627776) := by omega
    simp [h2]
theorem c16 (xs : List Nat) (k : List RV → R) (out : Out) (h : (match (Nat.ble xs.length big : Bool) with
  | true => k [.fresh 30 ⟨.f32, xs⟩]
  | false => none) = some out) : ∃ rs, Real Try.prog 16 ∧ COK Try.prog 16 [.vw none ⟨.f32, xs⟩] rs ∧ k rs = some out := by
  cases g0 : (Nat.ble xs.length big : Bool) with
  | true =>
    rw [g0] at h
    exact ⟨_, real Try.func16 (by kernel_rfl), fn_ok tok0 (A := a16) (L := l16) (r := none) Try.func16 (by kernel_rfl) (by kernel_rfl) (loops1 (by kernel_rfl) lk16) (by rw [s16, g0]), h⟩
  | false =>
    rw [g0] at h
    cases h

/-! laws.markFloat32S -/
def a19 : Ann := ann [(2, [0, 1, 5], [0, 1])] [0, 4] 1
def lp19 : St → (Ex → St → R) → R := fun s k => match s with
  | ⟨[(0, .fv (.own 0)), (1, .fv (.el (.sc (.int .i64 n)))), (5, .fv (.el (.sc (.int .i64 i))))], [some ⟨e0, ⟨.f32, ys⟩⟩]⟩ => (match (decide (i = 0) && (decide (0 ≤ n ∧ n ≤ 1099511627776) && Nat.ble (ys : List Nat).length big) : Bool) with
    | true => k (.exit 0) ⟨[(0, .fv (.own 0)), (1, .fv (.el (.sc (.int .i64 (n + ((ys : List Nat).length : Int))))))], [some ⟨e0, ⟨.f32, marks n (ys : List Nat).length⟩⟩]⟩
    | false => none)
  | _ => none
def l19 : Loops := fun key s k => bif Nat.beq key 2 then lp19 s k else none
theorem st19 (n : Int) (i : Int) (ys : List Nat) (e0 : Nat) (m : Nat) (k : Ex → St → R) : iterK a19 [0, 1, 5] [0, 1] (codeK T0 a19 l19 Try.f19.ntmps (loopAt Try.f19 0)) (m + 1) ⟨[(0, .fv (.own 0)), (1, .fv (.el (.sc (.int .i64 n)))), (5, .fv (.el (.sc (.int .i64 i))))], [some ⟨e0, ⟨.f32, ys⟩⟩]⟩ k = (match (decide ((i : Int) < (ys.length : Int)) : Bool) with
  | true => (match (decide (0 ≤ (i : Int) ∧ (i : Int) < (ys.length : Int)) && true : Bool) with
    | true => (match (ys : List Nat)[Int.toNat i]? with
      | some x1 => iterK a19 [0, 1, 5] [0, 1] (codeK T0 a19 l19 Try.f19.ntmps (loopAt Try.f19 0)) m ⟨[(0, .fv (.own 0)), (1, .fv (.el (.sc (.int .i64 (IntKind.i64.wrap (n + 1)))))), (5, .fv (.el (.sc (.int .i64 (IntKind.i64.wrap (i + 1))))))], [some ⟨e0, ⟨.f32, (ys : List Nat).set (Int.toNat i) (fint .f32 n)⟩⟩]⟩ k
      | none => none)
    | false => none)
  | false => k (.exit 0) ⟨[(0, .fv (.own 0)), (1, .fv (.el (.sc (.int .i64 n))))], [some ⟨e0, ⟨.f32, ys⟩⟩]⟩) := by kernel_rfl
theorem ind19 (e0 : Nat) (k : Ex → St → R) : ∀ (m j : Nat) (ys : List Nat) (n : Int), Nat.ble ys.length big = true → 0 ≤ n → n + m ≤ 2199023255552 → j + m = ys.length → iterK a19 [0, 1, 5] [0, 1] (codeK T0 a19 l19 Try.f19.ntmps (loopAt Try.f19 0)) (m + 1) ⟨[(0, .fv (.own 0)), (1, .fv (.el (.sc (.int .i64 n)))), (5, .fv (.el (.sc (.int .i64 (j : Int)))))], [some ⟨e0, ⟨.f32, ys⟩⟩]⟩ k =
    k (.exit 0) ⟨[(0, .fv (.own 0)), (1, .fv (.el (.sc (.int .i64 (n + (m : Int))))))], [some ⟨e0, ⟨.f32, ys.take j ++ marks n m⟩⟩]⟩ := by
  intro m
  induction m with
  | zero =>
    intro j ys n hb h0 hn hj
    have h1 : ¬ ((j : Int) < (ys.length : Int)) := by omega
    rw [st19, List.take_of_length_le (show ys.length ≤ j by omega)]
    simp [h1, marks]
  | succ m ih =>
    intro j ys n hb h0 hn hj
    have hlt : j < ys.length := by omega
    have h1 : ((j : Int) < (ys.length : Int)) := by omega
    have h2 : (0 : Int) ≤ (j : Int) := by omega
    have hw : IntKind.i64.wrap (n + 1) = n + 1 := wrap64 (by omega) (by omega)
    have hw2 : IntKind.i64.wrap n = n := wrap64 (by omega) (by omega)
    rw [st19, wrap_succ hlt hb, hw]
    have h4 : ys[Int.toNat (j : Int)]? = some ys[j] := by simp [hlt]
    try rw [hw2]
    simp only [h1, h2, h4, and_self, decide_true, Bool.and_true]
    refine (ih (j + 1) (ys.set (Int.toNat (j : Int)) (fint .f32 n)) (n + 1) (by simpa using hb) (by omega) (by omega) (by simp; omega)).trans ?_
    have h5 : (ys.set (Int.toNat (j : Int)) (fint .f32 n)).take (j + 1) ++ marks (n + 1) m = ys.take j ++ marks n (m + 1) := set_take hlt _ _
    have h6 : n + 1 + (m : Int) = n + ((m + 1 : Nat) : Int) := by omega
    rw [h5, h6]

theorem lk19 : LOK T0 a19 l19 Try.f19.ntmps (loopAt Try.f19 0) := by
  intro ins outs hA s k out h
  have hA' : ([0, 1, 5], [0, 1]) = (ins, outs) := Option.some.inj ((show a19.lp (firstRegion (loopAt Try.f19 0)) = some ([0, 1, 5], [0, 1]) by kernel_rfl).symm.trans hA)
  cases hA'
  have hk : firstRegion (loopAt Try.f19 0) = 2 := by kernel_rfl
  rw [hk] at h
  change lp19 s k = some out at h
  unfold lp19 at h
  split at h
  · rename_i n i e0 ys
    cases hg : (decide (i = 0) && (decide (0 ≤ n ∧ n ≤ 1099511627776) && Nat.ble ys.length big)) with
    | false => rw [hg] at h; cases h
    | true =>
      rw [hg] at h
      simp only [Bool.and_eq_true, decide_eq_true_eq] at hg
      obtain ⟨rfl, ⟨hn0, hn1⟩, hx⟩ := hg
      refine ⟨ys.length + 1, ?_⟩
      have hxl := Nat.le_of_ble_eq_true hx
      unfold big at hxl
      have hh := ind19 e0 k ys.length 0 ys n hx hn0 (by omega) (by omega)
      simp only [List.take_zero, List.nil_append] at hh
      exact hh.trans h
  · cases h
theorem e19 (e : Nat) (xs : List Nat) (n : Int) : runMn T0 a19 l19 Try.f19 e ⟨.f32, xs⟩ [.el (.sc (.int .i64 n))] = (match (decide (0 = 0) && (decide (0 ≤ n ∧ n ≤ 1099511627776) && Nat.ble (xs : List Nat).length big) : Bool) with
  | true => some ⟨[.el (.sc (.int .i64 (n + ((xs : List Nat).length : Int))))], some ⟨e, ⟨.f32, marks n (xs : List Nat).length⟩⟩⟩
  | false => none) := by kernel_rfl
theorem s19 (e : Nat) (xs : List Nat) (n : Int) : runMn T0 a19 l19 Try.f19 e ⟨.f32, xs⟩ [.el (.sc (.int .i64 n))] = (match (decide (0 ≤ n ∧ n ≤ 1099511627776) && Nat.ble xs.length big : Bool) with
  | true => some ⟨[.el (.sc (.int .i64 (n + (xs.length : Int))))], some ⟨e, ⟨.f32, marks n xs.length⟩⟩⟩
  | false => none) := by
  rw [e19]
  cases h : (decide (0 ≤ n ∧ n ≤ 1099511627776) && Nat.ble xs.length big) <;> simp [h]
theorem c19 (xs : List Nat) (n : Int) (k : List RV → Vec → R) (out : Out) (h : (match (decide (0 ≤ n ∧ n ≤ 1099511627776) && Nat.ble xs.length big : Bool) with
  | true => k [.el (.sc (.int .i64 (n + (xs.length : Int))))] ⟨.f32, marks n xs.length⟩
  | false => none) = some out) : ∃ rs vec, Real Try.prog 19 ∧ CMOK Try.prog 19 ⟨.f32, xs⟩ [.el (.sc (.int .i64 n))] rs vec ∧ k rs vec = some out := by
  cases g0 : (decide (0 ≤ n ∧ n ≤ 1099511627776) && Nat.ble xs.length big : Bool) with
  | true =>
    rw [g0] at h
    exact ⟨_, _, real Try.func19 (by kernel_rfl), mfn_ok tok0 (A := a19) (L := l19) Try.func19 (by kernel_rfl) (by kernel_rfl) (loops1 (by kernel_rfl) lk19) (by decide) rfl (fun e => by rw [s19, g0]), h⟩
  | false =>
    rw [g0] at h
    cases h

/-! laws.heldFloat32S -/
def a20 : Ann := ann [(2, [0, 1, 5], [1])] [4] 0
def lp20 : St → (Ex → St → R) → R := fun s k => match s with
  | ⟨[(0, .fv (.vw (some 0) ⟨.f32, xs⟩)), (1, .fv (.el (.sc (.int .i64 n)))), (5, .fv (.el (.sc (.int .i64 i))))], []⟩ => (match (decide (i = 0) && (decide (0 ≤ n ∧ n ≤ 1099511627776) && Nat.ble xs.length big) : Bool) with
    | true => (match (heldF n xs : Bool) with
      | true => k (.exit 0) ⟨[(1, .fv (.el (.sc (.int .i64 (n + (xs.length : Int))))))], []⟩
      | false => k .ret ⟨[(4, .fv (.el (.sc (.int .i64 ((-1))))))], []⟩)
    | false => none)
  | _ => none
def l20 : Loops := fun key s k => bif Nat.beq key 2 then lp20 s k else none
theorem st20 (xs : List Nat) (n : Int) (i : Int) (m : Nat) (k : Ex → St → R) : iterK a20 [0, 1, 5] [1] (codeK T0 a20 l20 Try.f20.ntmps (loopAt Try.f20 0)) (m + 1) ⟨[(0, .fv (.vw (some 0) ⟨.f32, xs⟩)), (1, .fv (.el (.sc (.int .i64 n)))), (5, .fv (.el (.sc (.int .i64 i))))], []⟩ k = (match (decide ((i : Int) < (xs.length : Int)) : Bool) with
  | true => (match (decide (0 ≤ (i : Int) ∧ (i : Int) < (xs.length : Int)) && true : Bool) with
    | true => (match (xs : List Nat)[Int.toNat i]? with
      | some x1 => (match (fcmp .neq .f32 x1 (fint .f32 n) : Bool) with
        | true => k .ret ⟨[(4, .fv (.el (.sc (.int .i64 ((-1))))))], []⟩
        | false => iterK a20 [0, 1, 5] [1] (codeK T0 a20 l20 Try.f20.ntmps (loopAt Try.f20 0)) m ⟨[(0, .fv (.vw (some 0) ⟨.f32, xs⟩)), (1, .fv (.el (.sc (.int .i64 (IntKind.i64.wrap (n + 1)))))), (5, .fv (.el (.sc (.int .i64 (IntKind.i64.wrap (i + 1))))))], []⟩ k)
      | none => none)
    | false => none)
  | false => k (.exit 0) ⟨[(1, .fv (.el (.sc (.int .i64 n))))], []⟩) := by kernel_rfl
theorem ind20 (xs : List Nat) (hb : Nat.ble xs.length big = true) (k : Ex → St → R) : ∀ (m j : Nat) (n : Int), 0 ≤ n → n + m ≤ 2199023255552 → j + m = xs.length → iterK a20 [0, 1, 5] [1] (codeK T0 a20 l20 Try.f20.ntmps (loopAt Try.f20 0)) (m + 1) ⟨[(0, .fv (.vw (some 0) ⟨.f32, xs⟩)), (1, .fv (.el (.sc (.int .i64 n)))), (5, .fv (.el (.sc (.int .i64 (j : Int)))))], []⟩ k =
    (match heldF n (xs.drop j) with
    | true => k (.exit 0) ⟨[(1, .fv (.el (.sc (.int .i64 (n + (m : Int))))))], []⟩
    | false => k .ret ⟨[(4, .fv (.el (.sc (.int .i64 (-1)))))], []⟩) := by
  intro m
  induction m with
  | zero =>
    intro j n h0 hn hj
    have h1 : ¬ ((j : Int) < (xs.length : Int)) := by omega
    rw [st20, List.drop_of_length_le (by omega)]
    simp [h1, heldF]
  | succ m ih =>
    intro j n h0 hn hj
    have hlt : j < xs.length := by omega
    have h1 : ((j : Int) < (xs.length : Int)) := by omega
    have h2 : (0 : Int) ≤ (j : Int) := by omega
    have hw : IntKind.i64.wrap (n + 1) = n + 1 := wrap64 (by omega) (by omega)
    have hw2 : IntKind.i64.wrap n = n := wrap64 (by omega) (by omega)
    rw [st20, wrap_succ hlt hb, hw]
    try rw [hw2]
    have h4 : xs[Int.toNat (j : Int)]? = some xs[j] := by simp [hlt]
    have h6 : n + 1 + (m : Int) = n + ((m + 1 : Nat) : Int) := by omega
    rw [List.drop_eq_getElem_cons hlt, ih (j + 1) (n + 1) (by omega) (by omega) (by omega), h6]
    simp only [h1, h2, h4, and_self, decide_true, Bool.and_true, heldF]
    cases fcmp .neq .f32 xs[j] (fint .f32 n) <;> simp

theorem lk20 : LOK T0 a20 l20 Try.f20.ntmps (loopAt Try.f20 0) := by
  intro ins outs hA s k out h
  have hA' : ([0, 1, 5], [1]) = (ins, outs) := Option.some.inj ((show a20.lp (firstRegion (loopAt Try.f20 0)) = some ([0, 1, 5], [1]) by kernel_rfl).symm.trans hA)
  cases hA'
  have hk : firstRegion (loopAt Try.f20 0) = 2 := by kernel_rfl
  rw [hk] at h
  change lp20 s k = some out at h
  unfold lp20 at h
  split at h
  · rename_i xs n i
    cases hg : (decide (i = 0) && (decide (0 ≤ n ∧ n ≤ 1099511627776) && Nat.ble xs.length big)) with
    | false => rw [hg] at h; cases h
    | true =>
      rw [hg] at h
      simp only [Bool.and_eq_true, decide_eq_true_eq] at hg
      obtain ⟨rfl, ⟨hn0, hn1⟩, hx⟩ := hg
      refine ⟨xs.length + 1, ?_⟩
      have hxl := Nat.le_of_ble_eq_true hx
      unfold big at hxl
      exact (ind20 xs hx k xs.length 0 n hn0 (by omega) (by omega)).trans h
  · cases h
theorem e20 (xs : List Nat) (n : Int) : runFn T0 a20 l20 Try.f20 [.vw none ⟨.f32, xs⟩, .el (.sc (.int .i64 n))] = (match (decide (0 = 0) && (decide (0 ≤ n ∧ n ≤ 1099511627776) && Nat.ble xs.length big) : Bool) with
  | true => (match (heldF n xs : Bool) with
    | true => some ⟨[.el (.sc (.int .i64 (n + (xs.length : Int))))], none⟩
    | false => some ⟨[.el (.sc (.int .i64 ((-1))))], none⟩)
  | false => none) := by kernel_rfl
theorem s20 (xs : List Nat) (n : Int) : runFn T0 a20 l20 Try.f20 [.vw none ⟨.f32, xs⟩, .el (.sc (.int .i64 n))] = (match (decide (0 ≤ n ∧ n ≤ 1099511627776) && Nat.ble xs.length big : Bool) with
  | true => some ⟨[.el (.sc (.int .i64 (heldN (heldF n xs) (n + (xs.length : Int)))))], none⟩
  | false => none) := by
  rw [e20]
  unfold heldN
  cases h : (decide (0 ≤ n ∧ n ≤ 1099511627776) && Nat.ble xs.length big) <;> cases h2 : heldF n xs <;> simp [h]
theorem c20 (xs : List Nat) (n : Int) (k : List RV → R) (out : Out) (h : (match (decide (0 ≤ n ∧ n ≤ 1099511627776) && Nat.ble xs.length big : Bool) with
  | true => k [.el (.sc (.int .i64 (heldN (heldF n xs) (n + (xs.length : Int)))))]
  | false => none) = some out) : ∃ rs, Real Try.prog 20 ∧ COK Try.prog 20 [.vw none ⟨.f32, xs⟩, .el (.sc (.int .i64 n))] rs ∧ k rs = some out := by
  cases g0 : (decide (0 ≤ n ∧ n ≤ 1099511627776) && Nat.ble xs.length big : Bool) with
  | true =>
    rw [g0] at h
    exact ⟨_, real Try.func20 (by kernel_rfl), fn_ok tok0 (A := a20) (L := l20) (r := none) Try.func20 (by kernel_rfl) (by kernel_rfl) (loops1 (by kernel_rfl) lk20) (by rw [s20, g0]), h⟩
  | false =>
    rw [g0] at h
    cases h

/-! laws.szLineS -/
theorem e21 (xs : List LineV) (n : Int) : runFn T0 none0 noL Try.f21 [.vw none ⟨.line, xs⟩, .el (.sc (.int .i64 n))] = (match (decide ((IntKind.i64.wrap (n - ((xs.length : Int))) : Int) < 0) : Bool) with
  | true => some ⟨[.el (.sc (.int .i64 ((-1))))], none⟩
  | false => some ⟨[.el (.sc (.int .i64 (IntKind.i64.wrap (n - ((xs.length : Int))))))], none⟩) := by kernel_rfl
theorem s21 (xs : List LineV) (n : Int) : runFn T0 none0 noL Try.f21 [.vw none ⟨.line, xs⟩, .el (.sc (.int .i64 n))] = some ⟨[.el (.sc (.int .i64 (szLeft xs.length n)))], none⟩ := by
  rw [e21]
  unfold szLeft
  cases decide ((IntKind.i64.wrap (n - (xs.length : Int)) : Int) < 0) <;> simp
theorem c21 (xs : List LineV) (n : Int) (k : List RV → R) (out : Out) (h : k [.el (.sc (.int .i64 (szLeft xs.length n)))] = some out) : ∃ rs, Real Try.prog 21 ∧ COK Try.prog 21 [.vw none ⟨.line, xs⟩, .el (.sc (.int .i64 n))] rs ∧ k rs = some out := by
  exact ⟨_, real Try.func21 (by kernel_rfl), fn_ok tok0 (A := none0) (L := noL) (r := none) Try.func21 (by kernel_rfl) (by kernel_rfl) (loops0 (by kernel_rfl)) (by rw [s21]), h⟩

/-! laws.markLineS -/
def a26 : Ann := ann [(2, [0, 1, 5], [0, 1])] [0, 4] 1
def lp26 : St → (Ex → St → R) → R := fun s k => match s with
  | ⟨[(0, .fv (.own 0)), (1, .fv (.el (.sc (.int .i64 n)))), (5, .fv (.el (.sc (.int .i64 i))))], [some ⟨e0, ⟨.line, ys⟩⟩]⟩ => (match (decide (i = 0) && (decide (0 ≤ n ∧ n ≤ 1099511627776) && Nat.ble (ys : List LineV).length big) : Bool) with
    | true => k (.exit 0) ⟨[(0, .fv (.own 0)), (1, .fv (.el (.sc (.int .i64 (n + 4 * ((ys : List LineV).length : Int))))))], [some ⟨e0, ⟨.line, marksL n (ys : List LineV).length⟩⟩]⟩
    | false => none)
  | _ => none
def l26 : Loops := fun key s k => bif Nat.beq key 2 then lp26 s k else none
theorem st26 (n : Int) (i : Int) (ys : List LineV) (e0 : Nat) (m : Nat) (k : Ex → St → R) : iterK a26 [0, 1, 5] [0, 1] (codeK T0 a26 l26 Try.f26.ntmps (loopAt Try.f26 0)) (m + 1) ⟨[(0, .fv (.own 0)), (1, .fv (.el (.sc (.int .i64 n)))), (5, .fv (.el (.sc (.int .i64 i))))], [some ⟨e0, ⟨.line, ys⟩⟩]⟩ k = (match (decide ((i : Int) < (ys.length : Int)) : Bool) with
  | true => (match (decide (0 ≤ (i : Int) ∧ (i : Int) < (ys.length : Int)) && true : Bool) with
    | true => (match (ys : List LineV)[Int.toNat i]? with
      | some x1 => (match (decide (0 ≤ (i : Int) ∧ (i : Int) < (((ys : List LineV).set (Int.toNat i) ((⟨fint .f32 n, x1.h, x1.w, x1.k⟩ : LineV))).length : Int)) && true : Bool) with
        | true => (match ((ys : List LineV).set (Int.toNat i) ((⟨fint .f32 n, x1.h, x1.w, x1.k⟩ : LineV)) : List LineV)[Int.toNat i]? with
          | some x2 => (match (decide (0 ≤ (i : Int) ∧ (i : Int) < ((((ys : List LineV).set (Int.toNat i) ((⟨fint .f32 n, x1.h, x1.w, x1.k⟩ : LineV)) : List LineV).set (Int.toNat i) ((⟨x2.p, fint .f32 (IntKind.i64.wrap (n + 1)), x2.w, x2.k⟩ : LineV))).length : Int)) && true : Bool) with
            | true => (match (((ys : List LineV).set (Int.toNat i) ((⟨fint .f32 n, x1.h, x1.w, x1.k⟩ : LineV)) : List LineV).set (Int.toNat i) ((⟨x2.p, fint .f32 (IntKind.i64.wrap (n + 1)), x2.w, x2.k⟩ : LineV)) : List LineV)[Int.toNat i]? with
              | some x3 => (match (decide (0 ≤ (i : Int) ∧ (i : Int) < (((((ys : List LineV).set (Int.toNat i) ((⟨fint .f32 n, x1.h, x1.w, x1.k⟩ : LineV)) : List LineV).set (Int.toNat i) ((⟨x2.p, fint .f32 (IntKind.i64.wrap (n + 1)), x2.w, x2.k⟩ : LineV)) : List LineV).set (Int.toNat i) ((⟨x3.p, x3.h, fint .f32 (IntKind.i64.wrap ((IntKind.i64.wrap (n + 1)) + 1)), x3.k⟩ : LineV))).length : Int)) && true : Bool) with
                | true => (match ((((ys : List LineV).set (Int.toNat i) ((⟨fint .f32 n, x1.h, x1.w, x1.k⟩ : LineV)) : List LineV).set (Int.toNat i) ((⟨x2.p, fint .f32 (IntKind.i64.wrap (n + 1)), x2.w, x2.k⟩ : LineV)) : List LineV).set (Int.toNat i) ((⟨x3.p, x3.h, fint .f32 (IntKind.i64.wrap ((IntKind.i64.wrap (n + 1)) + 1)), x3.k⟩ : LineV)) : List LineV)[Int.toNat i]? with
                  | some x4 => iterK a26 [0, 1, 5] [0, 1] (codeK T0 a26 l26 Try.f26.ntmps (loopAt Try.f26 0)) m ⟨[(0, .fv (.own 0)), (1, .fv (.el (.sc (.int .i64 (IntKind.i64.wrap ((IntKind.i64.wrap ((IntKind.i64.wrap ((IntKind.i64.wrap (n + 1)) + 1)) + 1)) + 1)))))), (5, .fv (.el (.sc (.int .i64 (IntKind.i64.wrap (i + 1))))))], [some ⟨e0, ⟨.line, ((((ys : List LineV).set (Int.toNat i) ((⟨fint .f32 n, x1.h, x1.w, x1.k⟩ : LineV)) : List LineV).set (Int.toNat i) ((⟨x2.p, fint .f32 (IntKind.i64.wrap (n + 1)), x2.w, x2.k⟩ : LineV)) : List LineV).set (Int.toNat i) ((⟨x3.p, x3.h, fint .f32 (IntKind.i64.wrap ((IntKind.i64.wrap (n + 1)) + 1)), x3.k⟩ : LineV)) : List LineV).set (Int.toNat i) ((⟨x4.p, x4.h, x4.w, IntKind.i64.wrap ((IntKind.i64.wrap ((IntKind.i64.wrap (n + 1)) + 1)) + 1)⟩ : LineV))⟩⟩]⟩ k
                  | none => none)
                | false => none)
              | none => none)
            | false => none)
          | none => none)
        | false => none)
      | none => none)
    | false => none)
  | false => k (.exit 0) ⟨[(0, .fv (.own 0)), (1, .fv (.el (.sc (.int .i64 n))))], [some ⟨e0, ⟨.line, ys⟩⟩]⟩) := by kernel_rfl
theorem ind26 (e0 : Nat) (k : Ex → St → R) : ∀ (m j : Nat) (ys : List LineV) (n : Int), Nat.ble ys.length big = true → 0 ≤ n → n + 4 * m ≤ 8796093022208 → j + m = ys.length → iterK a26 [0, 1, 5] [0, 1] (codeK T0 a26 l26 Try.f26.ntmps (loopAt Try.f26 0)) (m + 1) ⟨[(0, .fv (.own 0)), (1, .fv (.el (.sc (.int .i64 n)))), (5, .fv (.el (.sc (.int .i64 (j : Int)))))], [some ⟨e0, ⟨.line, ys⟩⟩]⟩ k =
    k (.exit 0) ⟨[(0, .fv (.own 0)), (1, .fv (.el (.sc (.int .i64 (n + 4 * (m : Int))))))], [some ⟨e0, ⟨.line, ys.take j ++ marksL n m⟩⟩]⟩ := by
  intro m
  induction m with
  | zero =>
    intro j ys n hb h0 hn hj
    have h1 : ¬ ((j : Int) < (ys.length : Int)) := by omega
    rw [st26, List.take_of_length_le (show ys.length ≤ j by omega)]
    simp [h1, marksL]
  | succ m ih =>
    intro j ys n hb h0 hn hj
    have hlt : j < ys.length := by omega
    have h1 : ((j : Int) < (ys.length : Int)) := by omega
    have h2 : (0 : Int) ≤ (j : Int) := by omega
    have hw1 : IntKind.i64.wrap (n + 1) = n + 1 := wrap64 (by omega) (by omega)
    have hw2 : IntKind.i64.wrap (n + 1 + 1) = n + 1 + 1 := wrap64 (by omega) (by omega)
    have hw3 : IntKind.i64.wrap (n + 1 + 1 + 1) = n + 1 + 1 + 1 := wrap64 (by omega) (by omega)
    have hw4 : IntKind.i64.wrap (n + 1 + 1 + 1 + 1) = n + 1 + 1 + 1 + 1 := wrap64 (by omega) (by omega)
    rw [st26, wrap_succ hlt hb]
    have h4 : ys[Int.toNat (j : Int)]? = some ys[j] := by simp [hlt]
    have h5 : ∀ b : LineV, (ys.set (Int.toNat (j : Int)) b)[Int.toNat (j : Int)]? = some b := by
      intro b
      simp [hlt]
    simp only [hw1, hw2, hw3, hw4, h1, h2, h4, h5, List.length_set, List.set_set, and_self, decide_true, Bool.and_true]
    refine (ih (j + 1) (ys.set (Int.toNat (j : Int)) (lineOf n)) (n + 1 + 1 + 1 + 1) (by simpa using hb) (by omega) (by omega) (by simp; omega)).trans ?_
    have h5 : (ys.set (Int.toNat (j : Int)) (lineOf n)).take (j + 1) ++ marksL (n + 1 + 1 + 1 + 1) m = ys.take j ++ marksL n (m + 1) := set_take hlt _ _
    have h6 : n + 1 + 1 + 1 + 1 + 4 * (m : Int) = n + 4 * ((m + 1 : Nat) : Int) := by omega
    rw [h5, h6]

theorem lk26 : LOK T0 a26 l26 Try.f26.ntmps (loopAt Try.f26 0) := by
  intro ins outs hA s k out h
  have hA' : ([0, 1, 5], [0, 1]) = (ins, outs) := Option.some.inj ((show a26.lp (firstRegion (loopAt Try.f26 0)) = some ([0, 1, 5], [0, 1]) by kernel_rfl).symm.trans hA)
  cases hA'
  have hk : firstRegion (loopAt Try.f26 0) = 2 := by kernel_rfl
  rw [hk] at h
  change lp26 s k = some out at h
  unfold lp26 at h
  split at h
  · rename_i n i e0 ys
    cases hg : (decide (i = 0) && (decide (0 ≤ n ∧ n ≤ 1099511627776) && Nat.ble ys.length big)) with
    | false => rw [hg] at h; cases h
    | true =>
      rw [hg] at h
      simp only [Bool.and_eq_true, decide_eq_true_eq] at hg
      obtain ⟨rfl, ⟨hn0, hn1⟩, hx⟩ := hg
      refine ⟨ys.length + 1, ?_⟩
      have hxl := Nat.le_of_ble_eq_true hx
      unfold big at hxl
      have hh := ind26 e0 k ys.length 0 ys n hx hn0 (by omega) (by omega)
      simp only [List.take_zero, List.nil_append] at hh
      exact hh.trans h
  · cases h
theorem e26 (e : Nat) (xs : List LineV) (n : Int) : runMn T0 a26 l26 Try.f26 e ⟨.line, xs⟩ [.el (.sc (.int .i64 n))] = (match (decide (0 = 0) && (decide (0 ≤ n ∧ n ≤ 1099511627776) && Nat.ble (xs : List LineV).length big) : Bool) with
  | true => some ⟨[.el (.sc (.int .i64 (n + 4 * ((xs : List LineV).length : Int))))], some ⟨e, ⟨.line, marksL n (xs : List LineV).length⟩⟩⟩
  | false => none) := by kernel_rfl
theorem s26 (e : Nat) (xs : List LineV) (n : Int) : runMn T0 a26 l26 Try.f26 e ⟨.line, xs⟩ [.el (.sc (.int .i64 n))] = (match (decide (0 ≤ n ∧ n ≤ 1099511627776) && Nat.ble xs.length big : Bool) with
  | true => some ⟨[.el (.sc (.int .i64 (n + 4 * (xs.length : Int))))], some ⟨e, ⟨.line, marksL n xs.length⟩⟩⟩
  | false => none) := by
  rw [e26]
  cases h : (decide (0 ≤ n ∧ n ≤ 1099511627776) && Nat.ble xs.length big) <;> simp [h]
theorem c26 (xs : List LineV) (n : Int) (k : List RV → Vec → R) (out : Out) (h : (match (decide (0 ≤ n ∧ n ≤ 1099511627776) && Nat.ble xs.length big : Bool) with
  | true => k [.el (.sc (.int .i64 (n + 4 * (xs.length : Int))))] ⟨.line, marksL n xs.length⟩
  | false => none) = some out) : ∃ rs vec, Real Try.prog 26 ∧ CMOK Try.prog 26 ⟨.line, xs⟩ [.el (.sc (.int .i64 n))] rs vec ∧ k rs vec = some out := by
  cases g0 : (decide (0 ≤ n ∧ n ≤ 1099511627776) && Nat.ble xs.length big : Bool) with
  | true =>
    rw [g0] at h
    exact ⟨_, _, real Try.func26 (by kernel_rfl), mfn_ok tok0 (A := a26) (L := l26) Try.func26 (by kernel_rfl) (by kernel_rfl) (loops1 (by kernel_rfl) lk26) (by decide) rfl (fun e => by rw [s26, g0]), h⟩
  | false =>
    rw [g0] at h
    cases h

/-! laws.heldLineS -/
def a27 : Ann := ann [(2, [0, 1, 5], [1])] [4] 0
def lp27 : St → (Ex → St → R) → R := fun s k => match s with
  | ⟨[(0, .fv (.vw (some 0) ⟨.line, xs⟩)), (1, .fv (.el (.sc (.int .i64 n)))), (5, .fv (.el (.sc (.int .i64 i))))], []⟩ => (match (decide (i = 0) && (decide (0 ≤ n ∧ n ≤ 1099511627776) && Nat.ble xs.length big) : Bool) with
    | true => (match (heldL n xs : Bool) with
      | true => k (.exit 0) ⟨[(1, .fv (.el (.sc (.int .i64 (n + 4 * (xs.length : Int))))))], []⟩
      | false => k .ret ⟨[(4, .fv (.el (.sc (.int .i64 ((-1))))))], []⟩)
    | false => none)
  | _ => none
def l27 : Loops := fun key s k => bif Nat.beq key 2 then lp27 s k else none
theorem st27 (xs : List LineV) (n : Int) (i : Int) (m : Nat) (k : Ex → St → R) : iterK a27 [0, 1, 5] [1] (codeK T0 a27 l27 Try.f27.ntmps (loopAt Try.f27 0)) (m + 1) ⟨[(0, .fv (.vw (some 0) ⟨.line, xs⟩)), (1, .fv (.el (.sc (.int .i64 n)))), (5, .fv (.el (.sc (.int .i64 i))))], []⟩ k = (match (decide ((i : Int) < (xs.length : Int)) : Bool) with
  | true => (match (decide (0 ≤ (i : Int) ∧ (i : Int) < (xs.length : Int)) && true : Bool) with
    | true => (match (xs : List LineV)[Int.toNat i]? with
      | some x1 => (match (fcmp .neq .f32 x1.p (fint .f32 n) : Bool) with
        | true => k .ret ⟨[(4, .fv (.el (.sc (.int .i64 ((-1))))))], []⟩
        | false => (match (decide (0 ≤ (i : Int) ∧ (i : Int) < (xs.length : Int)) && true : Bool) with
          | true => (match (xs : List LineV)[Int.toNat i]? with
            | some x2 => (match (fcmp .neq .f32 x2.h (fint .f32 (IntKind.i64.wrap (n + 1))) : Bool) with
              | true => k .ret ⟨[(4, .fv (.el (.sc (.int .i64 ((-1))))))], []⟩
              | false => (match (decide (0 ≤ (i : Int) ∧ (i : Int) < (xs.length : Int)) && true : Bool) with
                | true => (match (xs : List LineV)[Int.toNat i]? with
                  | some x3 => (match (fcmp .neq .f32 x3.w (fint .f32 (IntKind.i64.wrap ((IntKind.i64.wrap (n + 1)) + 1))) : Bool) with
                    | true => k .ret ⟨[(4, .fv (.el (.sc (.int .i64 ((-1))))))], []⟩
                    | false => (match (decide (0 ≤ (i : Int) ∧ (i : Int) < (xs.length : Int)) && true : Bool) with
                      | true => (match (xs : List LineV)[Int.toNat i]? with
                        | some x4 => (match (!((x4.k : Int) == IntKind.i64.wrap ((IntKind.i64.wrap ((IntKind.i64.wrap (n + 1)) + 1)) + 1)) : Bool) with
                          | true => k .ret ⟨[(4, .fv (.el (.sc (.int .i64 ((-1))))))], []⟩
                          | false => iterK a27 [0, 1, 5] [1] (codeK T0 a27 l27 Try.f27.ntmps (loopAt Try.f27 0)) m ⟨[(0, .fv (.vw (some 0) ⟨.line, xs⟩)), (1, .fv (.el (.sc (.int .i64 (IntKind.i64.wrap ((IntKind.i64.wrap ((IntKind.i64.wrap ((IntKind.i64.wrap (n + 1)) + 1)) + 1)) + 1)))))), (5, .fv (.el (.sc (.int .i64 (IntKind.i64.wrap (i + 1))))))], []⟩ k)
                        | none => none)
                      | false => none))
                  | none => none)
                | false => none))
            | none => none)
          | false => none))
      | none => none)
    | false => none)
  | false => k (.exit 0) ⟨[(1, .fv (.el (.sc (.int .i64 n))))], []⟩) := by kernel_rfl
theorem ind27 (xs : List LineV) (hb : Nat.ble xs.length big = true) (k : Ex → St → R) : ∀ (m j : Nat) (n : Int), 0 ≤ n → n + 4 * m ≤ 8796093022208 → j + m = xs.length → iterK a27 [0, 1, 5] [1] (codeK T0 a27 l27 Try.f27.ntmps (loopAt Try.f27 0)) (m + 1) ⟨[(0, .fv (.vw (some 0) ⟨.line, xs⟩)), (1, .fv (.el (.sc (.int .i64 n)))), (5, .fv (.el (.sc (.int .i64 (j : Int)))))], []⟩ k =
    (match heldL n (xs.drop j) with
    | true => k (.exit 0) ⟨[(1, .fv (.el (.sc (.int .i64 (n + 4 * (m : Int))))))], []⟩
    | false => k .ret ⟨[(4, .fv (.el (.sc (.int .i64 (-1)))))], []⟩) := by
  intro m
  induction m with
  | zero =>
    intro j n h0 hn hj
    have h1 : ¬ ((j : Int) < (xs.length : Int)) := by omega
    rw [st27, List.drop_of_length_le (by omega)]
    simp [h1, heldL]
  | succ m ih =>
    intro j n h0 hn hj
    have hlt : j < xs.length := by omega
    have h1 : ((j : Int) < (xs.length : Int)) := by omega
    have h2 : (0 : Int) ≤ (j : Int) := by omega
    have hw1 : IntKind.i64.wrap (n + 1) = n + 1 := wrap64 (by omega) (by omega)
    have hw2 : IntKind.i64.wrap (n + 1 + 1) = n + 1 + 1 := wrap64 (by omega) (by omega)
    have hw3 : IntKind.i64.wrap (n + 1 + 1 + 1) = n + 1 + 1 + 1 := wrap64 (by omega) (by omega)
    have hw4 : IntKind.i64.wrap (n + 1 + 1 + 1 + 1) = n + 1 + 1 + 1 + 1 := wrap64 (by omega) (by omega)
    rw [st27, wrap_succ hlt hb]
    have h4 : xs[Int.toNat (j : Int)]? = some xs[j] := by simp [hlt]
    have h6 : n + 1 + 1 + 1 + 1 + 4 * (m : Int) = n + 4 * ((m + 1 : Nat) : Int) := by omega
    simp only [hw1, hw2, hw3, hw4, h1, h2, h4, and_self, decide_true, Bool.and_true]
    have hi := ih (j + 1) (n + 1 + 1 + 1 + 1) (by omega) (by omega) (by omega)
    rw [h6] at hi
    rw [List.drop_eq_getElem_cons hlt, hi]
    have hh : heldL n (xs[j] :: xs.drop (j + 1)) = (heldL1 n xs[j] && heldL (n + 1 + 1 + 1 + 1) (xs.drop (j + 1))) := rfl
    rw [hh]
    unfold heldL1
    cases fcmp .neq .f32 xs[j].p (fint .f32 n) with
    | true => rfl
    | false =>
      cases fcmp .neq .f32 xs[j].h (fint .f32 (n + 1)) with
      | true => rfl
      | false =>
        cases fcmp .neq .f32 xs[j].w (fint .f32 (n + 1 + 1)) with
        | true => rfl
        | false => cases (xs[j].k == n + 1 + 1 + 1) <;> rfl

theorem lk27 : LOK T0 a27 l27 Try.f27.ntmps (loopAt Try.f27 0) := by
  intro ins outs hA s k out h
  have hA' : ([0, 1, 5], [1]) = (ins, outs) := Option.some.inj ((show a27.lp (firstRegion (loopAt Try.f27 0)) = some ([0, 1, 5], [1]) by kernel_rfl).symm.trans hA)
  cases hA'
  have hk : firstRegion (loopAt Try.f27 0) = 2 := by kernel_rfl
  rw [hk] at h
  change lp27 s k = some out at h
  unfold lp27 at h
  split at h
  · rename_i xs n i
    cases hg : (decide (i = 0) && (decide (0 ≤ n ∧ n ≤ 1099511627776) && Nat.ble xs.length big)) with
    | false => rw [hg] at h; cases h
    | true =>
      rw [hg] at h
      simp only [Bool.and_eq_true, decide_eq_true_eq] at hg
      obtain ⟨rfl, ⟨hn0, hn1⟩, hx⟩ := hg
      refine ⟨xs.length + 1, ?_⟩
      have hxl := Nat.le_of_ble_eq_true hx
      unfold big at hxl
      exact (ind27 xs hx k xs.length 0 n hn0 (by omega) (by omega)).trans h
  · cases h
theorem e27 (xs : List LineV) (n : Int) : runFn T0 a27 l27 Try.f27 [.vw none ⟨.line, xs⟩, .el (.sc (.int .i64 n))] = (match (decide (0 = 0) && (decide (0 ≤ n ∧ n ≤ 1099511627776) && Nat.ble xs.length big) : Bool) with
  | true => (match (heldL n xs : Bool) with
    | true => some ⟨[.el (.sc (.int .i64 (n + 4 * (xs.length : Int))))], none⟩
    | false => some ⟨[.el (.sc (.int .i64 ((-1))))], none⟩)
  | false => none) := by kernel_rfl
theorem s27 (xs : List LineV) (n : Int) : runFn T0 a27 l27 Try.f27 [.vw none ⟨.line, xs⟩, .el (.sc (.int .i64 n))] = (match (decide (0 ≤ n ∧ n ≤ 1099511627776) && Nat.ble xs.length big : Bool) with
  | true => some ⟨[.el (.sc (.int .i64 (heldN (heldL n xs) (n + 4 * (xs.length : Int)))))], none⟩
  | false => none) := by
  rw [e27]
  unfold heldN
  cases h : (decide (0 ≤ n ∧ n ≤ 1099511627776) && Nat.ble xs.length big) <;> cases h2 : heldL n xs <;> simp [h]
theorem c27 (xs : List LineV) (n : Int) (k : List RV → R) (out : Out) (h : (match (decide (0 ≤ n ∧ n ≤ 1099511627776) && Nat.ble xs.length big : Bool) with
  | true => k [.el (.sc (.int .i64 (heldN (heldL n xs) (n + 4 * (xs.length : Int)))))]
  | false => none) = some out) : ∃ rs, Real Try.prog 27 ∧ COK Try.prog 27 [.vw none ⟨.line, xs⟩, .el (.sc (.int .i64 n))] rs ∧ k rs = some out := by
  cases g0 : (decide (0 ≤ n ∧ n ≤ 1099511627776) && Nat.ble xs.length big : Bool) with
  | true =>
    rw [g0] at h
    exact ⟨_, real Try.func27 (by kernel_rfl), fn_ok tok0 (A := a27) (L := l27) (r := none) Try.func27 (by kernel_rfl) (by kernel_rfl) (loops1 (by kernel_rfl) lk27) (by rw [s27, g0]), h⟩
  | false =>
    rw [g0] at h
    cases h

/-! laws.toLine -/
theorem s34 (lp : Nat) (lh : Nat) (lw : Nat) (lk : Int) : runFn T0 none0 noL Try.f34 [.el (.ag [(.fl .f32 lp), (.fl .f32 lh), (.fl .f32 lw), (.int .i64 lk)])] = some ⟨[.el (.ag [(.fl .f32 (((⟨lp, lh, lw, lk⟩ : LineV)).p)), (.fl .f32 (((⟨lp, lh, lw, lk⟩ : LineV)).h)), (.fl .f32 (((⟨lp, lh, lw, lk⟩ : LineV)).w)), (.int .i64 (((⟨lp, lh, lw, lk⟩ : LineV)).k))])], none⟩ := by kernel_rfl
theorem c34 (lp : Nat) (lh : Nat) (lw : Nat) (lk : Int) (k : List RV → R) (out : Out) (h : k [.el (.ag [(.fl .f32 (((⟨lp, lh, lw, lk⟩ : LineV)).p)), (.fl .f32 (((⟨lp, lh, lw, lk⟩ : LineV)).h)), (.fl .f32 (((⟨lp, lh, lw, lk⟩ : LineV)).w)), (.int .i64 (((⟨lp, lh, lw, lk⟩ : LineV)).k))])] = some out) : ∃ rs, Real Try.prog 34 ∧ COK Try.prog 34 [.el (.ag [(.fl .f32 lp), (.fl .f32 lh), (.fl .f32 lw), (.int .i64 lk)])] rs ∧ k rs = some out := by
  exact ⟨_, real Try.func34 (by kernel_rfl), fn_ok tok0 (A := none0) (L := noL) (r := none) Try.func34 (by kernel_rfl) (by kernel_rfl) (loops0 (by kernel_rfl)) (by rw [s34]), h⟩

/-! laws.sameFloat -/
theorem e36 (a : Nat) (b : Nat) : runFn T0 none0 noL Try.f36 [.el (.sc (.fl .f64 a)), .el (.sc (.fl .f64 b))] = (match (fcmp .neq .f64 a a : Bool) with
  | true => (match (fcmp .neq .f64 a a : Bool) with
    | true => some ⟨[.el (.sc (.bo (fcmp .neq .f64 b b)))], none⟩
    | false => some ⟨[.el (.sc (.bo false))], none⟩)
  | false => (match (fcmp .neq .f64 b b : Bool) with
    | true => (match (fcmp .neq .f64 a a : Bool) with
      | true => some ⟨[.el (.sc (.bo (fcmp .neq .f64 b b)))], none⟩
      | false => some ⟨[.el (.sc (.bo false))], none⟩)
    | false => (match (fcmp .eql .f64 a 0 : Bool) with
      | true => (match (fcmp .eql .f64 b 0 : Bool) with
        | true => some ⟨[.el (.sc (.bo ((fcmp .gtr .f64 (fop .quo .f64 4607182418800017408 a) 0) == (fcmp .gtr .f64 (fop .quo .f64 4607182418800017408 b) 0))))], none⟩
        | false => some ⟨[.el (.sc (.bo (fcmp .eql .f64 a b)))], none⟩)
      | false => some ⟨[.el (.sc (.bo (fcmp .eql .f64 a b)))], none⟩))) := by kernel_rfl
theorem s36 (a : Nat) (b : Nat) : runFn T0 none0 noL Try.f36 [.el (.sc (.fl .f64 a)), .el (.sc (.fl .f64 b))] = some ⟨[.el (.sc (.bo (sameF a b)))], none⟩ := by
  rw [e36]
  unfold sameF
  cases fcmp .neq .f64 a a <;> cases fcmp .neq .f64 b b <;> cases fcmp .eql .f64 a 0 <;> cases fcmp .eql .f64 b 0 <;> rfl
theorem c36 (a : Nat) (b : Nat) (k : List RV → R) (out : Out) (h : k [.el (.sc (.bo (sameF a b)))] = some out) : ∃ rs, Real Try.prog 36 ∧ COK Try.prog 36 [.el (.sc (.fl .f64 a)), .el (.sc (.fl .f64 b))] rs ∧ k rs = some out := by
  exact ⟨_, real Try.func36 (by kernel_rfl), fn_ok tok0 (A := none0) (L := noL) (r := none) Try.func36 (by kernel_rfl) (by kernel_rfl) (loops0 (by kernel_rfl)) (by rw [s36]), h⟩

/-! spec.l00In -/
theorem e58 (n : Int) (a : Int) (b : Int) : runFn T0 none0 noL Try.f58 [.el (.sc (.int .i64 n)), .el (.sc (.int .i64 a)), .el (.sc (.int .i64 b))] = (match (decide ((n : Int) ≥ a) : Bool) with
  | true => some ⟨[.el (.sc (.bo (decide ((n : Int) ≤ b))))], none⟩
  | false => some ⟨[.el (.sc (.bo false))], none⟩) := by kernel_rfl
theorem s58 (n : Int) (a : Int) (b : Int) : runFn T0 none0 noL Try.f58 [.el (.sc (.int .i64 n)), .el (.sc (.int .i64 a)), .el (.sc (.int .i64 b))] = some ⟨[.el (.sc (.bo (within n a b)))], none⟩ := by
  rw [e58]
  unfold within
  cases decide (n ≥ a) <;> rfl
theorem c58 (n : Int) (a : Int) (b : Int) (k : List RV → R) (out : Out) (h : k [.el (.sc (.bo (within n a b)))] = some out) : ∃ rs, Real Try.prog 58 ∧ COK Try.prog 58 [.el (.sc (.int .i64 n)), .el (.sc (.int .i64 a)), .el (.sc (.int .i64 b))] rs ∧ k rs = some out := by
  exact ⟨_, real Try.func58 (by kernel_rfl), fn_ok tok0 (A := none0) (L := noL) (r := none) Try.func58 (by kernel_rfl) (by kernel_rfl) (loops0 (by kernel_rfl)) (by rw [s58]), h⟩

/-! impl.IsFinite -/
theorem s65 (c : Nat) : runFn T0 none0 noL Try.f65 [.el (.sc (.fl .f32 c))] = some ⟨[.el (.sc (.bo (fin c)))], none⟩ := by kernel_rfl
theorem c65 (c : Nat) (k : List RV → R) (out : Out) (h : k [.el (.sc (.bo (fin c)))] = some out) : ∃ rs, Real Try.prog 65 ∧ COK Try.prog 65 [.el (.sc (.fl .f32 c))] rs ∧ k rs = some out := by
  exact ⟨_, real Try.func65 (by kernel_rfl), fn_ok tok0 (A := none0) (L := noL) (r := none) Try.func65 (by kernel_rfl) (by kernel_rfl) (loops0 (by kernel_rfl)) (by rw [s65]), h⟩

/-! spec.l01Finite -/
theorem s68 (c : Nat) : runFn T0 none0 noL Try.f68 [.el (.sc (.fl .f32 c))] = some ⟨[.el (.sc (.bo (fin c)))], none⟩ := by kernel_rfl
theorem c68 (c : Nat) (k : List RV → R) (out : Out) (h : k [.el (.sc (.bo (fin c)))] = some out) : ∃ rs, Real Try.prog 68 ∧ COK Try.prog 68 [.el (.sc (.fl .f32 c))] rs ∧ k rs = some out := by
  exact ⟨_, real Try.func68 (by kernel_rfl), fn_ok tok0 (A := none0) (L := noL) (r := none) Try.func68 (by kernel_rfl) (by kernel_rfl) (loops0 (by kernel_rfl)) (by rw [s68]), h⟩

/-! spec.l06At -/
def a100 : Ann := ann [(3, [0, 1, 5, 6], [5])] [4] 0
def lp100 : St → (Ex → St → R) → R := fun s k => match s with
  | ⟨[(0, .fv (.vw (some 0) ⟨.f32, xs⟩)), (1, .fv (.el (.sc (.fl .f32 p)))), (5, .fv (.el (.sc (.fl .f32 x)))), (6, .fv (.el (.sc (.int .i64 i))))], []⟩ => (match (decide (i = (xs.length : Int) - 1) && Nat.ble xs.length big : Bool) with
    | true => k (.exit 0) ⟨[(5, .fv (.el (.sc (.fl .f32 (horner p x xs)))))], []⟩
    | false => none)
  | _ => none
def l100 : Loops := fun key s k => bif Nat.beq key 3 then lp100 s k else none
theorem st100 (xs : List Nat) (p : Nat) (x : Nat) (i : Int) (m : Nat) (k : Ex → St → R) : iterK a100 [0, 1, 5, 6] [5] (codeK T0 a100 l100 Try.f100.ntmps (loopAt Try.f100 0)) (m + 1) ⟨[(0, .fv (.vw (some 0) ⟨.f32, xs⟩)), (1, .fv (.el (.sc (.fl .f32 p)))), (5, .fv (.el (.sc (.fl .f32 x)))), (6, .fv (.el (.sc (.int .i64 i))))], []⟩ k = (match (decide ((i : Int) ≥ 0) : Bool) with
  | true => (match (decide (0 ≤ (i : Int) ∧ (i : Int) < (xs.length : Int)) && true : Bool) with
    | true => (match (xs : List Nat)[Int.toNat i]? with
      | some x1 => iterK a100 [0, 1, 5, 6] [5] (codeK T0 a100 l100 Try.f100.ntmps (loopAt Try.f100 0)) m ⟨[(0, .fv (.vw (some 0) ⟨.f32, xs⟩)), (1, .fv (.el (.sc (.fl .f32 p)))), (5, .fv (.el (.sc (.fl .f32 (fop .add .f32 (fop .mul .f32 x p) x1))))), (6, .fv (.el (.sc (.int .i64 (IntKind.i64.wrap (i - 1))))))], []⟩ k
      | none => none)
    | false => none)
  | false => k (.exit 0) ⟨[(5, .fv (.el (.sc (.fl .f32 x))))], []⟩) := by kernel_rfl
theorem ind100 (xs : List Nat) (p : Nat) (hx : Nat.ble xs.length big = true) (k : Ex → St → R) : ∀ (j : Nat) (x : Nat), j ≤ xs.length → iterK a100 [0, 1, 5, 6] [5] (codeK T0 a100 l100 Try.f100.ntmps (loopAt Try.f100 0)) (j + 1) ⟨[(0, .fv (.vw (some 0) ⟨.f32, xs⟩)), (1, .fv (.el (.sc (.fl .f32 p)))), (5, .fv (.el (.sc (.fl .f32 x)))), (6, .fv (.el (.sc (.int .i64 ((j : Int) - 1)))))], []⟩ k =
    k (.exit 0) ⟨[(5, .fv (.el (.sc (.fl .f32 (horner p x (xs.take j))))))], []⟩ := by
  intro j
  induction j with
  | zero =>
    intro x hj
    have h1 : ¬ (((0 : Nat) : Int) - 1 ≥ 0) := by omega
    rw [st100]
    simp [horner]
  | succ j ih =>
    intro x hj
    have hlt : j < xs.length := by omega
    have hxl := Nat.le_of_ble_eq_true hx
    unfold big at hxl
    have e1 : ((j + 1 : Nat) : Int) - 1 = (j : Int) := by omega
    rw [e1, st100]
    have h1 : ((j : Int) ≥ 0) := by omega
    have h2 : (0 : Int) ≤ (j : Int) ∧ (j : Int) < (xs.length : Int) := by omega
    have hw : IntKind.i64.wrap ((j : Int) - 1) = (j : Int) - 1 := wrap64 (by omega) (by omega)
    have h3 : xs[Int.toNat (j : Int)]? = some xs[j] := by simp [hlt]
    rw [hw]
    simp only [h1, h2, h3, and_self, decide_true, Bool.and_true]
    refine (ih _ (by omega)).trans ?_
    have h5 : horner p x (xs.take (j + 1)) = horner p (fop .add .f32 (fop .mul .f32 x p) xs[j]) (xs.take j) := by
      unfold horner
      rw [List.take_succ_eq_append_getElem hlt, List.foldr_append]
      rfl
    rw [h5]

theorem lk100 : LOK T0 a100 l100 Try.f100.ntmps (loopAt Try.f100 0) := by
  intro ins outs hA s k out h
  have hA' : ([0, 1, 5, 6], [5]) = (ins, outs) := Option.some.inj ((show a100.lp (firstRegion (loopAt Try.f100 0)) = some ([0, 1, 5, 6], [5]) by kernel_rfl).symm.trans hA)
  cases hA'
  have hk : firstRegion (loopAt Try.f100 0) = 3 := by kernel_rfl
  rw [hk] at h
  change lp100 s k = some out at h
  unfold lp100 at h
  split at h
  · rename_i xs p x i
    cases hg : (decide (i = (xs.length : Int) - 1) && Nat.ble xs.length big) with
    | false => rw [hg] at h; cases h
    | true =>
      rw [hg] at h
      simp only [Bool.and_eq_true, decide_eq_true_eq] at hg
      obtain ⟨rfl, hx⟩ := hg
      refine ⟨xs.length + 1, ?_⟩
      have hh := ind100 xs p hx k xs.length x (Nat.le_refl _)
      rw [List.take_length] at hh
      exact hh.trans h
  · cases h
theorem e100 (xs : List Nat) (p : Nat) : runFn T0 a100 l100 Try.f100 [.vw none ⟨.f32, xs⟩, .el (.sc (.fl .f32 p))] = (match (decide (IntKind.i64.wrap (((xs.length : Int)) - 1) = (xs.length : Int) - 1) && Nat.ble xs.length big : Bool) with
  | true => some ⟨[.el (.sc (.fl .f32 (horner p 0 xs)))], none⟩
  | false => none) := by kernel_rfl
theorem s100 (xs : List Nat) (p : Nat) : runFn T0 a100 l100 Try.f100 [.vw none ⟨.f32, xs⟩, .el (.sc (.fl .f32 p))] = (match (Nat.ble xs.length big : Bool) with
  | true => some ⟨[.el (.sc (.fl .f32 (horner p 0 xs)))], none⟩
  | false => none) := by
  rw [e100]
  cases h : Nat.ble xs.length big with
  | false => simp
  | true =>
    have hx := Nat.le_of_ble_eq_true h
    unfold big at hx
    have hw : IntKind.i64.wrap ((xs.length : Int) - 1) = (xs.length : Int) - 1 := wrap64 (by omega) (by omega)
    simp [hw]
theorem c100 (xs : List Nat) (p : Nat) (k : List RV → R) (out : Out) (h : (match (Nat.ble xs.length big : Bool) with
  | true => k [.el (.sc (.fl .f32 (horner p 0 xs)))]
  | false => none) = some out) : ∃ rs, Real Try.prog 100 ∧ COK Try.prog 100 [.vw none ⟨.f32, xs⟩, .el (.sc (.fl .f32 p))] rs ∧ k rs = some out := by
  cases g0 : (Nat.ble xs.length big : Bool) with
  | true =>
    rw [g0] at h
    exact ⟨_, real Try.func100 (by kernel_rfl), fn_ok tok0 (A := a100) (L := l100) (r := none) Try.func100 (by kernel_rfl) (by kernel_rfl) (loops1 (by kernel_rfl) lk100) (by rw [s100, g0]), h⟩
  | false =>
    rw [g0] at h
    cases h

/-! spec.l01Dot -/
def a101 : Ann := ann [(3, [0, 1, 5, 6], [5])] [4] 0
def lp101 : St → (Ex → St → R) → R := fun s k => match s with
  | ⟨[(0, .fv (.vw (some 0) ⟨.f32, xs⟩)), (1, .fv (.vw (some 1) ⟨.f32, ys⟩)), (5, .fv (.el (.sc (.fl .f32 a)))), (6, .fv (.el (.sc (.int .i64 i))))], []⟩ => (match ((decide (i = 0) && (Nat.ble xs.length big && Nat.ble xs.length ys.length)) : Bool) with
    | true => k (.exit 0) ⟨[(5, .fv (.el (.sc (.fl .f32 (rep (fun j a => fop .add .f32 a (fop .mul .f32 (xs.getD j 0) (ys.getD j 0))) (xs.length) 0 (a : Nat))))))], []⟩
    | false => none)
  | _ => none
def l101 : Loops := fun key s k => bif Nat.beq key 3 then lp101 s k else none
theorem st101 (xs : List Nat) (ys : List Nat) (a : Nat) (i : Int) (m : Nat) (k : Ex → St → R) : iterK a101 [0, 1, 5, 6] [5] (codeK T0 a101 l101 Try.f101.ntmps (loopAt Try.f101 0)) (m + 1) ⟨[(0, .fv (.vw (some 0) ⟨.f32, xs⟩)), (1, .fv (.vw (some 1) ⟨.f32, ys⟩)), (5, .fv (.el (.sc (.fl .f32 a)))), (6, .fv (.el (.sc (.int .i64 i))))], []⟩ k = (match (decide ((i : Int) < (xs.length : Int)) : Bool) with
  | true => (match (decide (0 ≤ (i : Int) ∧ (i : Int) < (xs.length : Int)) && true : Bool) with
    | true => (match (xs : List Nat)[Int.toNat i]? with
      | some x1 => (match (decide (0 ≤ (i : Int) ∧ (i : Int) < (ys.length : Int)) && true : Bool) with
        | true => (match (ys : List Nat)[Int.toNat i]? with
          | some x2 => iterK a101 [0, 1, 5, 6] [5] (codeK T0 a101 l101 Try.f101.ntmps (loopAt Try.f101 0)) m ⟨[(0, .fv (.vw (some 0) ⟨.f32, xs⟩)), (1, .fv (.vw (some 1) ⟨.f32, ys⟩)), (5, .fv (.el (.sc (.fl .f32 (fop .add .f32 a (fop .mul .f32 x1 x2)))))), (6, .fv (.el (.sc (.int .i64 (IntKind.i64.wrap (i + 1))))))], []⟩ k
          | none => none)
        | false => none)
      | none => none)
    | false => none)
  | false => k (.exit 0) ⟨[(5, .fv (.el (.sc (.fl .f32 a))))], []⟩) := by kernel_rfl
theorem ind101 (xs : List Nat) (ys : List Nat) (hx : (Nat.ble xs.length big) = true) (hl : (Nat.ble xs.length ys.length) = true) (k : Ex → St → R) : ∀ (m j : Nat) (a : Nat), 0 ≤ j → j + m = xs.length → iterK a101 [0, 1, 5, 6] [5] (codeK T0 a101 l101 Try.f101.ntmps (loopAt Try.f101 0)) (m + 1) ⟨[(0, .fv (.vw (some 0) ⟨.f32, xs⟩)), (1, .fv (.vw (some 1) ⟨.f32, ys⟩)), (5, .fv (.el (.sc (.fl .f32 a)))), (6, .fv (.el (.sc (.int .i64 (j : Int)))))], []⟩ k =
    k (.exit 0) ⟨[(5, .fv (.el (.sc (.fl .f32 (rep (fun j a => fop .add .f32 a (fop .mul .f32 (xs.getD j 0) (ys.getD j 0))) m j (a : Nat))))))], []⟩ := by
  intro m
  induction m with
  | zero =>
    intro j a hlo hj
    have hx_ := big_le hx
    have hl_ := Nat.le_of_ble_eq_true hl
    have h1 : ¬ (((j : Int) < (xs.length : Int))) := by omega
    rw [st101]
    simp only [h1, rep, decide_false] <;> rfl
  | succ m ih =>
    intro j a hlo hj
    have hx_ := big_le hx
    have hl_ := Nat.le_of_ble_eq_true hl
    have h1 : ((j : Int) < (xs.length : Int)) := by omega
    have xb : (0 : Int) ≤ ((j : Nat) : Int) ∧ ((j : Nat) : Int) < (xs.length : Int) := by omega
    have xq : xs[Int.toNat ((j : Nat) : Int)]? = some (xs.getD (j) 0) := getI (by omega)
    have xp : xs[j]? = some (xs.getD (j) 0) := getI2 (by omega)
    have yl : j < ys.length := by omega
    have yb : (0 : Int) ≤ ((j : Nat) : Int) ∧ ((j : Nat) : Int) < (ys.length : Int) := by omega
    have yq : ys[Int.toNat ((j : Nat) : Int)]? = some (ys.getD (j) 0) := getI (by omega)
    have yp : ys[j]? = some (ys.getD (j) 0) := getI2 (by omega)
    have wn : IntKind.i64.wrap ((j : Int) + 1) = ((j + 1 : Nat) : Int) := wrapN (by omega) (by omega)
    rw [st101]
    simp only [h1, wn, xb, xq, xp, yl, yb, yq, yp, and_self, decide_true, Bool.and_true, Int.le_refl]
    exact ih (j + 1) _ (by omega) (by omega)

theorem lk101 : LOK T0 a101 l101 Try.f101.ntmps (loopAt Try.f101 0) := by
  intro ins outs hA s k out h
  have hA' : ([0, 1, 5, 6], [5]) = (ins, outs) := Option.some.inj ((show a101.lp (firstRegion (loopAt Try.f101 0)) = some ([0, 1, 5, 6], [5]) by kernel_rfl).symm.trans hA)
  cases hA'
  have hk : firstRegion (loopAt Try.f101 0) = 3 := by kernel_rfl
  rw [hk] at h
  change lp101 s k = some out at h
  unfold lp101 at h
  split at h
  · rename_i xs ys a i
    cases hg : (decide (i = 0) && (Nat.ble xs.length big && Nat.ble xs.length ys.length)) with
    | false => rw [hg] at h; cases h
    | true =>
      rw [hg] at h
      simp only [Bool.and_eq_true, decide_eq_true_eq] at hg
      obtain ⟨rfl, hx, hl⟩ := hg
      refine ⟨(xs.length) + 1, ?_⟩
      have hx_ := big_le hx
      have hl_ := Nat.le_of_ble_eq_true hl
      exact (ind101 xs ys hx hl k (xs.length) 0 a (by omega) (by omega)).trans h
  · cases h
theorem e101 (xs : List Nat) (ys : List Nat) : runFn T0 a101 l101 Try.f101 [.vw none ⟨.f32, xs⟩, .vw none ⟨.f32, ys⟩] = (match ((decide (0 = 0) && (Nat.ble xs.length big && Nat.ble xs.length ys.length)) : Bool) with
  | true => some ⟨[.el (.sc (.fl .f32 (rep (fun j a => fop .add .f32 a (fop .mul .f32 (xs.getD j 0) (ys.getD j 0))) (xs.length) 0 (0 : Nat))))], none⟩
  | false => none) := by kernel_rfl
theorem s101 (xs : List Nat) (ys : List Nat) (hg : (Nat.ble xs.length big && Nat.ble xs.length ys.length) = true) : runFn T0 a101 l101 Try.f101 [.vw none ⟨.f32, xs⟩, .vw none ⟨.f32, ys⟩] = some ⟨[.el (.sc (.fl .f32 (dot2 xs ys)))], none⟩ := by
  rw [e101]
  have hg2 := hg
  rw [Bool.and_eq_true] at hg2
  simp only [hg2.1, hg2.2, Bool.and_self]
  rfl
theorem c101 (xs : List Nat) (ys : List Nat) (k : List RV → R) (out : Out) (h : (match (Nat.ble xs.length big && Nat.ble xs.length ys.length : Bool) with
  | true => k [.el (.sc (.fl .f32 (dot2 xs ys)))]
  | false => none) = some out) : ∃ rs, Real Try.prog 101 ∧ COK Try.prog 101 [.vw none ⟨.f32, xs⟩, .vw none ⟨.f32, ys⟩] rs ∧ k rs = some out := by
  cases g0 : (Nat.ble xs.length big && Nat.ble xs.length ys.length : Bool) with
  | true =>
    rw [g0] at h
    exact ⟨_, real Try.func101 (by kernel_rfl), fn_ok tok0 (A := a101) (L := l101) (r := none) Try.func101 (by kernel_rfl) (by kernel_rfl) (loops1 (by kernel_rfl) lk101) (by rw [s101 _ _ g0]), h⟩
  | false =>
    rw [g0] at h
    cases h

/-! impl.within -/
theorem e109 (n : Int) (a : Int) (b : Int) : runFn T0 none0 noL Try.f109 [.el (.sc (.int .i64 n)), .el (.sc (.int .i64 a)), .el (.sc (.int .i64 b))] = (match (decide ((n : Int) ≥ a) : Bool) with
  | true => some ⟨[.el (.sc (.bo (decide ((n : Int) ≤ b))))], none⟩
  | false => some ⟨[.el (.sc (.bo false))], none⟩) := by kernel_rfl
theorem s109 (n : Int) (a : Int) (b : Int) : runFn T0 none0 noL Try.f109 [.el (.sc (.int .i64 n)), .el (.sc (.int .i64 a)), .el (.sc (.int .i64 b))] = some ⟨[.el (.sc (.bo (within n a b)))], none⟩ := by
  rw [e109]
  unfold within
  cases decide (n ≥ a) <;> rfl
theorem c109 (n : Int) (a : Int) (b : Int) (k : List RV → R) (out : Out) (h : k [.el (.sc (.bo (within n a b)))] = some out) : ∃ rs, Real Try.prog 109 ∧ COK Try.prog 109 [.el (.sc (.int .i64 n)), .el (.sc (.int .i64 a)), .el (.sc (.int .i64 b))] rs ∧ k rs = some out := by
  exact ⟨_, real Try.func109 (by kernel_rfl), fn_ok tok0 (A := none0) (L := noL) (r := none) Try.func109 (by kernel_rfl) (by kernel_rfl) (loops0 (by kernel_rfl)) (by rw [s109]), h⟩

/-! spec.l01Narrow -/
theorem s117 (c : Nat) : runFn T0 none0 noL Try.f117 [.el (.sc (.fl .f64 c))] = (match fconv .f64 .f32 c with
  | some r => some ⟨[.el (.sc (.fl .f32 r))], none⟩
  | none => none) := by kernel_rfl
theorem c117 (c : Nat) (k : List RV → R) (out : Out) (h : (match fconv .f64 .f32 c with
  | some r => k [.el (.sc (.fl .f32 r))]
  | none => none) = some out) : ∃ rs, Real Try.prog 117 ∧ COK Try.prog 117 [.el (.sc (.fl .f64 c))] rs ∧ k rs = some out := by
  cases g0 : (fconv .f64 .f32 c) with
  | some r =>
    rw [g0] at h
    exact ⟨_, real Try.func117 (by kernel_rfl), fn_ok tok0 (A := none0) (L := noL) (r := none) Try.func117 (by kernel_rfl) (by kernel_rfl) (loops0 (by kernel_rfl)) (by rw [s117, g0]), h⟩
  | none =>
    rw [g0] at h
    cases h

/-! math.sqrt -/
theorem c139 (c : Nat) (k : List RV → R) (out : Out) (h : k [.el (.sc (.fl .f64 (fsqrt c)))] = some out) : ∃ rs, CallOK Try.prog 139 [.el (.sc (.fl .f64 c))] rs ∧ k rs = some out := by
  exact ⟨_, x_sqrt Try.func139 (by kernel_rfl) (by kernel_rfl) (by kernel_rfl) (by kernel_rfl), h⟩

def S1 : SFn := fun f args k => match f, args with
  | 16, [.vw none ⟨.f32, xs⟩] => (match (Nat.ble xs.length big : Bool) with
    | true => k [.fresh 30 ⟨.f32, xs⟩]
    | false => none)
  | 20, [.vw none ⟨.f32, xs⟩, .el (.sc (.int .i64 n))] => (match (decide (0 ≤ n ∧ n ≤ 1099511627776) && Nat.ble xs.length big : Bool) with
    | true => k [.el (.sc (.int .i64 (heldN (heldF n xs) (n + (xs.length : Int)))))]
    | false => none)
  | 21, [.vw none ⟨.line, xs⟩, .el (.sc (.int .i64 n))] => k [.el (.sc (.int .i64 (szLeft xs.length n)))]
  | 27, [.vw none ⟨.line, xs⟩, .el (.sc (.int .i64 n))] => (match (decide (0 ≤ n ∧ n ≤ 1099511627776) && Nat.ble xs.length big : Bool) with
    | true => k [.el (.sc (.int .i64 (heldN (heldL n xs) (n + 4 * (xs.length : Int)))))]
    | false => none)
  | 34, [.el (.ag [(.fl .f32 lp), (.fl .f32 lh), (.fl .f32 lw), (.int .i64 lk)])] => k [.el (.ag [(.fl .f32 (((⟨lp, lh, lw, lk⟩ : LineV)).p)), (.fl .f32 (((⟨lp, lh, lw, lk⟩ : LineV)).h)), (.fl .f32 (((⟨lp, lh, lw, lk⟩ : LineV)).w)), (.int .i64 (((⟨lp, lh, lw, lk⟩ : LineV)).k))])]
  | 36, [.el (.sc (.fl .f64 a)), .el (.sc (.fl .f64 b))] => k [.el (.sc (.bo (sameF a b)))]
  | 58, [.el (.sc (.int .i64 n)), .el (.sc (.int .i64 a)), .el (.sc (.int .i64 b))] => k [.el (.sc (.bo (within n a b)))]
  | 65, [.el (.sc (.fl .f32 c))] => k [.el (.sc (.bo (fin c)))]
  | 68, [.el (.sc (.fl .f32 c))] => k [.el (.sc (.bo (fin c)))]
  | 100, [.vw none ⟨.f32, xs⟩, .el (.sc (.fl .f32 p))] => (match (Nat.ble xs.length big : Bool) with
    | true => k [.el (.sc (.fl .f32 (horner p 0 xs)))]
    | false => none)
  | 101, [.vw none ⟨.f32, xs⟩, .vw none ⟨.f32, ys⟩] => (match (Nat.ble xs.length big && Nat.ble xs.length ys.length : Bool) with
    | true => k [.el (.sc (.fl .f32 (dot2 xs ys)))]
    | false => none)
  | 109, [.el (.sc (.int .i64 n)), .el (.sc (.int .i64 a)), .el (.sc (.int .i64 b))] => k [.el (.sc (.bo (within n a b)))]
  | 117, [.el (.sc (.fl .f64 c))] => (match fconv .f64 .f32 c with
    | some r => k [.el (.sc (.fl .f32 r))]
    | none => none)
  | 139, [.el (.sc (.fl .f64 c))] => k [.el (.sc (.fl .f64 (fsqrt c)))]
  | _, _ => S0 f args k
def M1 : MFn := fun f vec args k => match f, vec, args with
  | 19, ⟨.f32, xs⟩, [.el (.sc (.int .i64 n))] => (match (decide (0 ≤ n ∧ n ≤ 1099511627776) && Nat.ble xs.length big : Bool) with
    | true => k [.el (.sc (.int .i64 (n + (xs.length : Int))))] ⟨.f32, marks n xs.length⟩
    | false => none)
  | 26, ⟨.line, xs⟩, [.el (.sc (.int .i64 n))] => (match (decide (0 ≤ n ∧ n ≤ 1099511627776) && Nat.ble xs.length big : Bool) with
    | true => k [.el (.sc (.int .i64 (n + 4 * (xs.length : Int))))] ⟨.line, marksL n xs.length⟩
    | false => none)
  | _, _, _ => M0 f vec args k
def T1 : TT := tab.T S1 muts M1
theorem tok1 : TOK Try.prog T1 := by
  refine (tab_ok tabok).tok (fun f args k out h => ?_) (fun f vec args k out h => ?_)
  · change S1 f args k = some out at h
    unfold S1 at h
    split at h
    · exact (fun k out h => cok_call (c16 _ k out h)) k out h
    · exact (fun k out h => cok_call (c20 _ _ k out h)) k out h
    · exact (fun k out h => cok_call (c21 _ _ k out h)) k out h
    · exact (fun k out h => cok_call (c27 _ _ k out h)) k out h
    · exact (fun k out h => cok_call (c34 _ _ _ _ k out h)) k out h
    · exact (fun k out h => cok_call (c36 _ _ k out h)) k out h
    · exact (fun k out h => cok_call (c58 _ _ _ k out h)) k out h
    · exact (fun k out h => cok_call (c65 _ k out h)) k out h
    · exact (fun k out h => cok_call (c68 _ k out h)) k out h
    · exact (fun k out h => cok_call (c100 _ _ k out h)) k out h
    · exact (fun k out h => cok_call (c101 _ _ k out h)) k out h
    · exact (fun k out h => cok_call (c109 _ _ _ k out h)) k out h
    · exact (fun k out h => cok_call (c117 _ k out h)) k out h
    · exact c139 _ k out h
    · exact tok0.S f args k out h
  · change M1 f vec args k = some out at h
    unfold M1 at h
    split at h
    · exact c19 _ _ k out h
    · exact c26 _ _ k out h
    · exact tok0.M f vec args k out h

end Go.Sm.Ytlkphfpkohabeaa
