/- What the functions hand back: level 0. -/
import Derived.Test.YtdnfgoolapikmaaD0
namespace Go.Sm.Ytdnfgoolapikmaa
open Go Go.Sm Go.RowKit Go.Proofs

/-! laws.toFloat32S -/
def a16 : Ann := ann [(3, [0, 3, 4], [3])] [2] 0
def lp16 : St → (Ex → St → R) → R := fun s k => match s with
  | ⟨[(0, .fv (.vw (some 0) ⟨.f32, xs⟩)), (3, .fv (.own 0)), (4, .fv (.el (.sc (.int .i64 i))))], [some ⟨e0, ⟨.f32, ys⟩⟩]⟩ => (match (decide (i = 0) && (Nat.beq (ys : List Nat).length xs.length && Nat.ble xs.length big) : Bool) with
    | true => k (.exit 0) ⟨[(3, .fv (.own 0))], [some ⟨e0, ⟨.f32, xs⟩⟩]⟩
    | false => none)
  | _ => none
def l16 : Loops := fun key s k => bif Nat.beq key 3 then lp16 s k else none
theorem st16 (xs : List Nat) (i : Int) (ys : List Nat) (e0 : Nat) (m : Nat) (k : Ex → St → R) : iterK a16 [0, 3, 4] [3] (codeK T0 a16 l16 Try.f16.ntmps (loopAt Try.f16 0)) (m + 1) ⟨[(0, .fv (.vw (some 0) ⟨.f32, xs⟩)), (3, .fv (.own 0)), (4, .fv (.el (.sc (.int .i64 i))))], [some ⟨e0, ⟨.f32, ys⟩⟩]⟩ k = (match (decide ((i : Int) < (xs.length : Int)) : Bool) with
  | true => (match (decide (0 ≤ (i : Int) ∧ (i : Int) < (xs.length : Int)) && true : Bool) with
    | true => (match (xs : List Nat)[Int.toNat i]? with
      | some x1 => (match (decide (0 ≤ (i : Int) ∧ (i : Int) < (ys.length : Int)) && true : Bool) with
        | true => (match (ys : List Nat)[Int.toNat i]? with
          | some x2 => iterK a16 [0, 3, 4] [3] (codeK T0 a16 l16 Try.f16.ntmps (loopAt Try.f16 0)) m ⟨[(0, .fv (.vw (some 0) ⟨.f32, xs⟩)), (3, .fv (.own 0)), (4, .fv (.el (.sc (.int .i64 (IntKind.i64.wrap (i + 1))))))], [some ⟨e0, ⟨.f32, (ys : List Nat).set (Int.toNat i) x1⟩⟩]⟩ k
          | none => none)
        | false => none)
      | none => none)
    | false => none)
  | false => k (.exit 0) ⟨[(3, .fv (.own 0))], [some ⟨e0, ⟨.f32, ys⟩⟩]⟩) := by kernel_rfl
theorem ind16 (xs : List Nat) (hx : Nat.ble xs.length big = true) (e0 : Nat) (k : Ex → St → R) : ∀ (m j : Nat) (ys : List Nat), ys.length = xs.length → j + m = xs.length → iterK a16 [0, 3, 4] [3] (codeK T0 a16 l16 Try.f16.ntmps (loopAt Try.f16 0)) (m + 1) ⟨[(0, .fv (.vw (some 0) ⟨.f32, xs⟩)), (3, .fv (.own 0)), (4, .fv (.el (.sc (.int .i64 (j : Int)))))], [some ⟨e0, ⟨.f32, ys⟩⟩]⟩ k =
    k (.exit 0) ⟨[(3, .fv (.own 0))], [some ⟨e0, ⟨.f32, ys.take j ++ xs.drop j⟩⟩]⟩ := by
  intro m
  induction m with
  | zero =>
    intro j ys hl hj
    have h1 : ¬ ((j : Int) < (xs.length : Int)) := by omega
    rw [st16, List.drop_of_length_le (show xs.length ≤ j by omega), List.take_of_length_le (show ys.length ≤ j by omega)]
    simp [h1]
  | succ m ih =>
    intro j ys hl hj
    have hlt : j < xs.length := by omega
    have hlt2 : j < ys.length := by omega
    have h1 : ((j : Int) < (xs.length : Int)) := by omega
    have h12 : ((j : Int) < (ys.length : Int)) := by omega
    have h2 : (0 : Int) ≤ (j : Int) := by omega
    rw [st16, wrap_succ hlt hx]
    have h3 : xs[Int.toNat (j : Int)]? = some xs[j] := by simp [hlt]
    have h4 : ys[Int.toNat (j : Int)]? = some ys[j] := by simp [hlt2]
    simp only [h1, h12, h2, h3, h4, and_self, decide_true, Bool.and_true]
    refine (ih (j + 1) (ys.set (Int.toNat (j : Int)) xs[j]) (by simpa using hl) (by omega)).trans ?_
    have h5 : (ys.set (Int.toNat (j : Int)) xs[j]).take (j + 1) ++ xs.drop (j + 1) = ys.take j ++ xs.drop j := by
      rw [List.drop_eq_getElem_cons hlt]
      exact set_take hlt2 _ _
    rw [h5]

theorem lk16 : LOK T0 a16 l16 Try.f16.ntmps (loopAt Try.f16 0) := by
  intro ins outs hA s k out h
  have hA' : ([0, 3, 4], [3]) = (ins, outs) := Option.some.inj ((show a16.lp (firstRegion (loopAt Try.f16 0)) = some ([0, 3, 4], [3]) by kernel_rfl).symm.trans hA)
  cases hA'
  have hk : firstRegion (loopAt Try.f16 0) = 3 := by kernel_rfl
  rw [hk] at h
  change lp16 s k = some out at h
  unfold lp16 at h
  split at h
  · rename_i xs i e0 ys
    cases hg : (decide (i = 0) && (Nat.beq ys.length xs.length && Nat.ble xs.length big)) with
    | false => rw [hg] at h; cases h
    | true =>
      rw [hg] at h
      simp only [Bool.and_eq_true, decide_eq_true_eq] at hg
      obtain ⟨rfl, hl, hx⟩ := hg
      refine ⟨xs.length + 1, ?_⟩
      have hh := ind16 xs hx e0 k xs.length 0 ys (Nat.eq_of_beq_eq_true hl) (by omega)
      simp only [List.take_zero, List.nil_append, List.drop_zero] at hh
      exact hh.trans h
  · cases h
theorem e16 (xs : List Nat) : runFn T0 a16 l16 Try.f16 [.vw none ⟨.f32, xs⟩] = (match (decide (0 ≤ ((xs.length : Int) : Int) ∧ ((xs.length : Int) : Int) = (xs.length : Int) ∧ ((xs.length : Int) : Int) ≤ 1099511627776) : Bool) with
  | true => (match (decide (0 = 0) && (Nat.beq (List.replicate (Int.toNat ((xs.length : Int))) ((0 : Nat)) : List Nat).length xs.length && Nat.ble xs.length big) : Bool) with
    | true => some ⟨[.fresh 37 ⟨.f32, xs⟩], none⟩
    | false => none)
  | false => none) := by kernel_rfl
theorem s16 (xs : List Nat) : runFn T0 a16 l16 Try.f16 [.vw none ⟨.f32, xs⟩] = (match (Nat.ble xs.length big : Bool) with
  | true => some ⟨[.fresh 37 ⟨.f32, xs⟩], none⟩
  | false => none) := by
  rw [e16]
  cases h : Nat.ble xs.length big with
  | false => cases hd : decide ((xs.length : Int) ≤ 1099511627776) <;> simp [hd]
  | true =>
    have hx := Nat.le_of_ble_eq_true h
    unfold big at hx
    have h2 : ((xs.length : Int) ≤ 1099511627776) := by omega
    simp [h2]
theorem c16 (xs : List Nat) (k : List RV → R) (out : Out) (h : (match (Nat.ble xs.length big : Bool) with
  | true => k [.fresh 37 ⟨.f32, xs⟩]
  | false => none) = some out) : ∃ rs, Real Try.prog 16 ∧ COK Try.prog 16 [.vw none ⟨.f32, xs⟩] rs ∧ k rs = some out := by
  cases g0 : (Nat.ble xs.length big : Bool) with
  | true =>
    rw [g0] at h
    exact ⟨_, real Try.func16 (by kernel_rfl), fn_ok tok0 (A := a16) (L := l16) (r := none) Try.func16 (by kernel_rfl) (by kernel_rfl) (loops1 (by kernel_rfl) lk16) (by rw [s16, g0]), h⟩
  | false =>
    rw [g0] at h
    cases h

/-! laws.markFloat32S -/
def a19 : Ann := ann [(2, [0, 1, 5], [0, 1])] [0, 4] 1
def lp19 : St → (Ex → St → R) → R := fun s k => match s with
  | ⟨[(0, .fv (.own 0)), (1, .fv (.el (.sc (.int .i64 n)))), (5, .fv (.el (.sc (.int .i64 i))))], [some ⟨e0, ⟨.f32, ys⟩⟩]⟩ => (match (decide (i = 0) && (decide (0 ≤ n ∧ n ≤ 1099511627776) && Nat.ble (ys : List Nat).length big) : Bool) with
    | true => k (.exit 0) ⟨[(0, .fv (.own 0)), (1, .fv (.el (.sc (.int .i64 (n + ((ys : List Nat).length : Int))))))], [some ⟨e0, ⟨.f32, marks n (ys : List Nat).length⟩⟩]⟩
    | false => none)
  | _ => none
def l19 : Loops := fun key s k => bif Nat.beq key 2 then lp19 s k else none
theorem st19 (n : Int) (i : Int) (ys : List Nat) (e0 : Nat) (m : Nat) (k : Ex → St → R) : iterK a19 [0, 1, 5] [0, 1] (codeK T0 a19 l19 Try.f19.ntmps (loopAt Try.f19 0)) (m + 1) ⟨[(0, .fv (.own 0)), (1, .fv (.el (.sc (.int .i64 n)))), (5, .fv (.el (.sc (.int .i64 i))))], [some ⟨e0, ⟨.f32, ys⟩⟩]⟩ k = (match (decide ((i : Int) < (ys.length : Int)) : Bool) with
  | true => (match (decide (0 ≤ (i : Int) ∧ (i : Int) < (ys.length : Int)) && true : Bool) with
    | true => (match (ys : List Nat)[Int.toNat i]? with
      | some x1 => iterK a19 [0, 1, 5] [0, 1] (codeK T0 a19 l19 Try.f19.ntmps (loopAt Try.f19 0)) m ⟨[(0, .fv (.own 0)), (1, .fv (.el (.sc (.int .i64 (IntKind.i64.wrap (n + 1)))))), (5, .fv (.el (.sc (.int .i64 (IntKind.i64.wrap (i + 1))))))], [some ⟨e0, ⟨.f32, (ys : List Nat).set (Int.toNat i) (fint .f32 n)⟩⟩]⟩ k
      | none => none)
    | false => none)
  | false => k (.exit 0) ⟨[(0, .fv (.own 0)), (1, .fv (.el (.sc (.int .i64 n))))], [some ⟨e0, ⟨.f32, ys⟩⟩]⟩) := by kernel_rfl
theorem ind19 (e0 : Nat) (k : Ex → St → R) : ∀ (m j : Nat) (ys : List Nat) (n : Int), Nat.ble ys.length big = true → 0 ≤ n → n + m ≤ 2199023255552 → j + m = ys.length → iterK a19 [0, 1, 5] [0, 1] (codeK T0 a19 l19 Try.f19.ntmps (loopAt Try.f19 0)) (m + 1) ⟨[(0, .fv (.own 0)), (1, .fv (.el (.sc (.int .i64 n)))), (5, .fv (.el (.sc (.int .i64 (j : Int)))))], [some ⟨e0, ⟨.f32, ys⟩⟩]⟩ k =
    k (.exit 0) ⟨[(0, .fv (.own 0)), (1, .fv (.el (.sc (.int .i64 (n + (m : Int))))))], [some ⟨e0, ⟨.f32, ys.take j ++ marks n m⟩⟩]⟩ := by
  intro m
  induction m with
  | zero =>
    intro j ys n hb h0 hn hj
    have h1 : ¬ ((j : Int) < (ys.length : Int)) := by omega
    rw [st19, List.take_of_length_le (show ys.length ≤ j by omega)]
    simp [h1, marks]
  | succ m ih =>
    intro j ys n hb h0 hn hj
    have hlt : j < ys.length := by omega
    have h1 : ((j : Int) < (ys.length : Int)) := by omega
    have h2 : (0 : Int) ≤ (j : Int) := by omega
    have hw : IntKind.i64.wrap (n + 1) = n + 1 := wrap64 (by omega) (by omega)
    have hw2 : IntKind.i64.wrap n = n := wrap64 (by omega) (by omega)
    rw [st19, wrap_succ hlt hb, hw]
    have h4 : ys[Int.toNat (j : Int)]? = some ys[j] := by simp [hlt]
    try rw [hw2]
    simp only [h1, h2, h4, and_self, decide_true, Bool.and_true]
    refine (ih (j + 1) (ys.set (Int.toNat (j : Int)) (fint .f32 n)) (n + 1) (by simpa using hb) (by omega) (by omega) (by simp; omega)).trans ?_
    have h5 : (ys.set (Int.toNat (j : Int)) (fint .f32 n)).take (j + 1) ++ marks (n + 1) m = ys.take j ++ marks n (m + 1) := set_take hlt _ _
    have h6 : n + 1 + (m : Int) = n + ((m + 1 : Nat) : Int) := by omega
    rw [h5, h6]

theorem lk19 : LOK T0 a19 l19 Try.f19.ntmps (loopAt Try.f19 0) := by
  intro ins outs hA s k out h
  have hA' : ([0, 1, 5], [0, 1]) = (ins, outs) := Option.some.inj ((show a19.lp (firstRegion (loopAt Try.f19 0)) = some ([0, 1, 5], [0, 1]) by kernel_rfl).symm.trans hA)
  cases hA'
  have hk : firstRegion (loopAt Try.f19 0) = 2 := by kernel_rfl
  rw [hk] at h
  change lp19 s k = some out at h
  unfold lp19 at h
  split at h
  · rename_i n i e0 ys
    cases hg : (decide (i = 0) && (decide (0 ≤ n ∧ n ≤ 1099511627776) && Nat.ble ys.length big)) with
    | false => rw [hg] at h; cases h
    | true =>
      rw [hg] at h
      simp only [Bool.and_eq_true, decide_eq_true_eq] at hg
      obtain ⟨rfl, ⟨hn0, hn1⟩, hx⟩ := hg
      refine ⟨ys.length + 1, ?_⟩
      have hxl := Nat.le_of_ble_eq_true hx
      unfold big at hxl
      have hh := ind19 e0 k ys.length 0 ys n hx hn0 (by omega) (by omega)
      simp only [List.take_zero, List.nil_append] at hh
      exact hh.trans h
  · cases h
theorem e19 (e : Nat) (xs : List Nat) (n : Int) : runMn T0 a19 l19 Try.f19 e ⟨.f32, xs⟩ [.el (.sc (.int .i64 n))] = (match (decide (0 = 0) && (decide (0 ≤ n ∧ n ≤ 1099511627776) && Nat.ble (xs : List Nat).length big) : Bool) with
  | true => some ⟨[.el (.sc (.int .i64 (n + ((xs : List Nat).length : Int))))], some ⟨e, ⟨.f32, marks n (xs : List Nat).length⟩⟩⟩
  | false => none) := by kernel_rfl
theorem s19 (e : Nat) (xs : List Nat) (n : Int) : runMn T0 a19 l19 Try.f19 e ⟨.f32, xs⟩ [.el (.sc (.int .i64 n))] = (match (decide (0 ≤ n ∧ n ≤ 1099511627776) && Nat.ble xs.length big : Bool) with
  | true => some ⟨[.el (.sc (.int .i64 (n + (xs.length : Int))))], some ⟨e, ⟨.f32, marks n xs.length⟩⟩⟩
  | false => none) := by
  rw [e19]
  cases h : (decide (0 ≤ n ∧ n ≤ 1099511627776) && Nat.ble xs.length big) <;> simp [h]
theorem c19 (xs : List Nat) (n : Int) (k : List RV → Vec → R) (out : Out) (h : (match (decide (0 ≤ n ∧ n ≤ 1099511627776) && Nat.ble xs.length big : Bool) with
  | true => k [.el (.sc (.int .i64 (n + (xs.length : Int))))] ⟨.f32, marks n xs.length⟩
  | false => none) = some out) : ∃ rs vec, Real Try.prog 19 ∧ CMOK Try.prog 19 ⟨.f32, xs⟩ [.el (.sc (.int .i64 n))] rs vec ∧ k rs vec = some out := by
  cases g0 : (decide (0 ≤ n ∧ n ≤ 1099511627776) && Nat.ble xs.length big : Bool) with
  | true =>
    rw [g0] at h
    exact ⟨_, _, real Try.func19 (by kernel_rfl), mfn_ok tok0 (A := a19) (L := l19) Try.func19 (by kernel_rfl) (by kernel_rfl) (loops1 (by kernel_rfl) lk19) (by decide) rfl (fun e => by rw [s19, g0]), h⟩
  | false =>
    rw [g0] at h
    cases h

/-! laws.heldFloat32S -/
def a20 : Ann := ann [(2, [0, 1, 5], [1])] [4] 0
def lp20 : St → (Ex → St → R) → R := fun s k => match s with
  | ⟨[(0, .fv (.vw (some 0) ⟨.f32, xs⟩)), (1, .fv (.el (.sc (.int .i64 n)))), (5, .fv (.el (.sc (.int .i64 i))))], []⟩ => (match (decide (i = 0) && (decide (0 ≤ n ∧ n ≤ 1099511627776) && Nat.ble xs.length big) : Bool) with
    | true => (match (heldF n xs : Bool) with
      | true => k (.exit 0) ⟨[(1, .fv (.el (.sc (.int .i64 (n + (xs.length : Int))))))], []⟩
      | false => k .ret ⟨[(4, .fv (.el (.sc (.int .i64 ((-1))))))], []⟩)
    | false => none)
  | _ => none
def l20 : Loops := fun key s k => bif Nat.beq key 2 then lp20 s k else none
theorem st20 (xs : List Nat) (n : Int) (i : Int) (m : Nat) (k : Ex → St → R) : iterK a20 [0, 1, 5] [1] (codeK T0 a20 l20 Try.f20.ntmps (loopAt Try.f20 0)) (m + 1) ⟨[(0, .fv (.vw (some 0) ⟨.f32, xs⟩)), (1, .fv (.el (.sc (.int .i64 n)))), (5, .fv (.el (.sc (.int .i64 i))))], []⟩ k = (match (decide ((i : Int) < (xs.length : Int)) : Bool) with
  | true => (match (decide (0 ≤ (i : Int) ∧ (i : Int) < (xs.length : Int)) && true : Bool) with
    | true => (match (xs : List Nat)[Int.toNat i]? with
      | some x1 => (match (fcmp .neq .f32 x1 (fint .f32 n) : Bool) with
        | true => k .ret ⟨[(4, .fv (.el (.sc (.int .i64 ((-1))))))], []⟩
        | false => iterK a20 [0, 1, 5] [1] (codeK T0 a20 l20 Try.f20.ntmps (loopAt Try.f20 0)) m ⟨[(0, .fv (.vw (some 0) ⟨.f32, xs⟩)), (1, .fv (.el (.sc (.int .i64 (IntKind.i64.wrap (n + 1)))))), (5, .fv (.el (.sc (.int .i64 (IntKind.i64.wrap (i + 1))))))], []⟩ k)
      | none => none)
    | false => none)
  | false => k (.exit 0) ⟨[(1, .fv (.el (.sc (.int .i64 n))))], []⟩) := by kernel_rfl
theorem ind20 (xs : List Nat) (hb : Nat.ble xs.length big = true) (k : Ex → St → R) : ∀ (m j : Nat) (n : Int), 0 ≤ n → n + m ≤ 2199023255552 → j + m = xs.length → iterK a20 [0, 1, 5] [1] (codeK T0 a20 l20 Try.f20.ntmps (loopAt Try.f20 0)) (m + 1) ⟨[(0, .fv (.vw (some 0) ⟨.f32, xs⟩)), (1, .fv (.el (.sc (.int .i64 n)))), (5, .fv (.el (.sc (.int .i64 (j : Int)))))], []⟩ k =
    (match heldF n (xs.drop j) with
    | true => k (.exit 0) ⟨[(1, .fv (.el (.sc (.int .i64 (n + (m : Int))))))], []⟩
    | false => k .ret ⟨[(4, .fv (.el (.sc (.int .i64 (-1)))))], []⟩) := by
  intro m
  induction m with
  | zero =>
    intro j n h0 hn hj
    have h1 : ¬ ((j : Int) < (xs.length : Int)) := by omega
    rw [st20, List.drop_of_length_le (by omega)]
    simp [h1, heldF]
  | succ m ih =>
    intro j n h0 hn hj
    have hlt : j < xs.length := by omega
    have h1 : ((j : Int) < (xs.length : Int)) := by omega
    have h2 : (0 : Int) ≤ (j : Int) := by omega
    have hw : IntKind.i64.wrap (n + 1) = n + 1 := wrap64 (by omega) (by omega)
    have hw2 : IntKind.i64.wrap n = n := wrap64 (by omega) (by omega)
    rw [st20, wrap_succ hlt hb, hw]
    try rw [hw2]
    have h4 : xs[Int.toNat (j : Int)]? = some xs[j] := by simp [hlt]
    have h6 : n + 1 + (m : Int) = n + ((m + 1 : Nat) : Int) := by omega
    rw [List.drop_eq_getElem_cons hlt, ih (j + 1) (n + 1) (by omega) (by omega) (by omega), h6]
    simp only [h1, h2, h4, and_self, decide_true, Bool.and_true, heldF]
    cases fcmp .neq .f32 xs[j] (fint .f32 n) <;> simp

theorem lk20 : LOK T0 a20 l20 Try.f20.ntmps (loopAt Try.f20 0) := by
  intro ins outs hA s k out h
  have hA' : ([0, 1, 5], [1]) = (ins, outs) := Option.some.inj ((show a20.lp (firstRegion (loopAt Try.f20 0)) = some ([0, 1, 5], [1]) by kernel_rfl).symm.trans hA)
  cases hA'
  have hk : firstRegion (loopAt Try.f20 0) = 2 := by kernel_rfl
  rw [hk] at h
  change lp20 s k = some out at h
  unfold lp20 at h
  split at h
  · rename_i xs n i
    cases hg : (decide (i = 0) && (decide (0 ≤ n ∧ n ≤ 1099511627776) && Nat.ble xs.length big)) with
    | false => rw [hg] at h; cases h
    | true =>
      rw [hg] at h
      simp only [Bool.and_eq_true, decide_eq_true_eq] at hg
      obtain ⟨rfl, ⟨hn0, hn1⟩, hx⟩ := hg
      refine ⟨xs.length + 1, ?_⟩
      have hxl := Nat.le_of_ble_eq_true hx
      unfold big at hxl
      exact (ind20 xs hx k xs.length 0 n hn0 (by omega) (by omega)).trans h
  · cases h
theorem e20 (xs : List Nat) (n : Int) : runFn T0 a20 l20 Try.f20 [.vw none ⟨.f32, xs⟩, .el (.sc (.int .i64 n))] = (match (decide (0 = 0) && (decide (0 ≤ n ∧ n ≤ 1099511627776) && Nat.ble xs.length big) : Bool) with
  | true => (match (heldF n xs : Bool) with
    | true => some ⟨[.el (.sc (.int .i64 (n + (xs.length : Int))))], none⟩
    | false => some ⟨[.el (.sc (.int .i64 ((-1))))], none⟩)
  | false => none) := by kernel_rfl
theorem s20 (xs : List Nat) (n : Int) : runFn T0 a20 l20 Try.f20 [.vw none ⟨.f32, xs⟩, .el (.sc (.int .i64 n))] = (match (decide (0 ≤ n ∧ n ≤ 1099511627776) && Nat.ble xs.length big : Bool) with
  | true => some ⟨[.el (.sc (.int .i64 (heldN (heldF n xs) (n + (xs.length : Int)))))], none⟩
  | false => none) := by
  rw [e20]
  unfold heldN
  cases h : (decide (0 ≤ n ∧ n ≤ 1099511627776) && Nat.ble xs.length big) <;> cases h2 : heldF n xs <;> simp [h]
theorem c20 (xs : List Nat) (n : Int) (k : List RV → R) (out : Out) (h : (match (decide (0 ≤ n ∧ n ≤ 1099511627776) && Nat.ble xs.length big : Bool) with
  | true => k [.el (.sc (.int .i64 (heldN (heldF n xs) (n + (xs.length : Int)))))]
  | false => none) = some out) : ∃ rs, Real Try.prog 20 ∧ COK Try.prog 20 [.vw none ⟨.f32, xs⟩, .el (.sc (.int .i64 n))] rs ∧ k rs = some out := by
  cases g0 : (decide (0 ≤ n ∧ n ≤ 1099511627776) && Nat.ble xs.length big : Bool) with
  | true =>
    rw [g0] at h
    exact ⟨_, real Try.func20 (by kernel_rfl), fn_ok tok0 (A := a20) (L := l20) (r := none) Try.func20 (by kernel_rfl) (by kernel_rfl) (loops1 (by kernel_rfl) lk20) (by rw [s20, g0]), h⟩
  | false =>
    rw [g0] at h
    cases h

/-! laws.sameFloat -/
theorem e30 (a : Nat) (b : Nat) : runFn T0 none0 noL Try.f30 [.el (.sc (.fl .f64 a)), .el (.sc (.fl .f64 b))] = (match (fcmp .neq .f64 a a : Bool) with
  | true => (match (fcmp .neq .f64 a a : Bool) with
    | true => some ⟨[.el (.sc (.bo (fcmp .neq .f64 b b)))], none⟩
    | false => some ⟨[.el (.sc (.bo false))], none⟩)
  | false => (match (fcmp .neq .f64 b b : Bool) with
    | true => (match (fcmp .neq .f64 a a : Bool) with
      | true => some ⟨[.el (.sc (.bo (fcmp .neq .f64 b b)))], none⟩
      | false => some ⟨[.el (.sc (.bo false))], none⟩)
    | false => (match (fcmp .eql .f64 a 0 : Bool) with
      | true => (match (fcmp .eql .f64 b 0 : Bool) with
        | true => some ⟨[.el (.sc (.bo ((fcmp .gtr .f64 (fop .quo .f64 4607182418800017408 a) 0) == (fcmp .gtr .f64 (fop .quo .f64 4607182418800017408 b) 0))))], none⟩
        | false => some ⟨[.el (.sc (.bo (fcmp .eql .f64 a b)))], none⟩)
      | false => some ⟨[.el (.sc (.bo (fcmp .eql .f64 a b)))], none⟩))) := by kernel_rfl
theorem s30 (a : Nat) (b : Nat) : runFn T0 none0 noL Try.f30 [.el (.sc (.fl .f64 a)), .el (.sc (.fl .f64 b))] = some ⟨[.el (.sc (.bo (sameF a b)))], none⟩ := by
  rw [e30]
  unfold sameF
  cases fcmp .neq .f64 a a <;> cases fcmp .neq .f64 b b <;> cases fcmp .eql .f64 a 0 <;> cases fcmp .eql .f64 b 0 <;> rfl
theorem c30 (a : Nat) (b : Nat) (k : List RV → R) (out : Out) (h : k [.el (.sc (.bo (sameF a b)))] = some out) : ∃ rs, Real Try.prog 30 ∧ COK Try.prog 30 [.el (.sc (.fl .f64 a)), .el (.sc (.fl .f64 b))] rs ∧ k rs = some out := by
  exact ⟨_, real Try.func30 (by kernel_rfl), fn_ok tok0 (A := none0) (L := noL) (r := none) Try.func30 (by kernel_rfl) (by kernel_rfl) (loops0 (by kernel_rfl)) (by rw [s30]), h⟩

/-! laws.eqInt64S -/
def a37 : Ann := ann [(4, [0, 1, 5], [])] [4] 0
def lp37 : St → (Ex → St → R) → R := fun s k => match s with
  | ⟨[(0, .fv (.vw (some 0) ⟨.i64, xs⟩)), (1, .fv (.vw (some 1) ⟨.i64, ys⟩)), (5, .fv (.el (.sc (.int .i64 i))))], []⟩ => (match (decide (i = 0) && (Nat.beq xs.length ys.length && Nat.ble xs.length big) : Bool) with
    | true => (match (all2 sameI xs ys : Bool) with
      | true => k (.exit 0) ⟨[], []⟩
      | false => k .ret ⟨[(4, .fv (.el (.sc (.bo false))))], []⟩)
    | false => none)
  | _ => none
def l37 : Loops := fun key s k => bif Nat.beq key 4 then lp37 s k else none
theorem st37 (xs : List Int) (ys : List Int) (i : Int) (m : Nat) (k : Ex → St → R) : iterK a37 [0, 1, 5] [] (codeK T0 a37 l37 Try.f37.ntmps (loopAt Try.f37 0)) (m + 1) ⟨[(0, .fv (.vw (some 0) ⟨.i64, xs⟩)), (1, .fv (.vw (some 1) ⟨.i64, ys⟩)), (5, .fv (.el (.sc (.int .i64 i))))], []⟩ k = (match (decide ((i : Int) < (xs.length : Int)) : Bool) with
  | true => (match (decide (0 ≤ (i : Int) ∧ (i : Int) < (xs.length : Int)) && true : Bool) with
    | true => (match (xs : List Int)[Int.toNat i]? with
      | some x1 => (match (decide (0 ≤ (i : Int) ∧ (i : Int) < (ys.length : Int)) && true : Bool) with
        | true => (match (ys : List Int)[Int.toNat i]? with
          | some x2 => (match (!((x1 : Int) == x2) : Bool) with
            | true => k .ret ⟨[(4, .fv (.el (.sc (.bo false))))], []⟩
            | false => iterK a37 [0, 1, 5] [] (codeK T0 a37 l37 Try.f37.ntmps (loopAt Try.f37 0)) m ⟨[(0, .fv (.vw (some 0) ⟨.i64, xs⟩)), (1, .fv (.vw (some 1) ⟨.i64, ys⟩)), (5, .fv (.el (.sc (.int .i64 (IntKind.i64.wrap (i + 1))))))], []⟩ k)
          | none => none)
        | false => none)
      | none => none)
    | false => none)
  | false => k (.exit 0) ⟨[], []⟩) := by kernel_rfl
theorem ind37 (xs ys : List Int) (hl : xs.length = ys.length) (hx : Nat.ble xs.length big = true) (k : Ex → St → R) : ∀ (m j : Nat), j + m = xs.length → iterK a37 [0, 1, 5] [] (codeK T0 a37 l37 Try.f37.ntmps (loopAt Try.f37 0)) (m + 1) ⟨[(0, .fv (.vw (some 0) ⟨.i64, xs⟩)), (1, .fv (.vw (some 1) ⟨.i64, ys⟩)), (5, .fv (.el (.sc (.int .i64 (j : Int)))))], []⟩ k =
    (match all2 sameI (xs.drop j) (ys.drop j) with
    | true => k (.exit 0) ⟨[], []⟩
    | false => k .ret ⟨[(4, .fv (.el (.sc (.bo false))))], []⟩) := by
  intro m
  induction m with
  | zero =>
    intro j hj
    have h1 : ¬ ((j : Int) < (xs.length : Int)) := by omega
    rw [st37, List.drop_of_length_le (by omega)]
    simp [h1, all2]
  | succ m ih =>
    intro j hj
    have hlt : j < xs.length := by omega
    have hlt2 : j < ys.length := by omega
    have h1 : ((j : Int) < (xs.length : Int)) := by omega
    have h12 : ((j : Int) < (ys.length : Int)) := by omega
    have h2 : (0 : Int) ≤ (j : Int) := by omega
    rw [st37, wrap_succ hlt hx]
    have h3 : xs[Int.toNat (j : Int)]? = some xs[j] := by simp [hlt]
    have h4 : ys[Int.toNat (j : Int)]? = some ys[j] := by simp [hlt2]
    rw [List.drop_eq_getElem_cons hlt, List.drop_eq_getElem_cons hlt2, ih (j + 1) (by omega)]
    simp only [h1, h12, h2, h3, h4, and_self, decide_true, Bool.and_true, all2]
    unfold sameI
    cases hp : (xs[j] == ys[j]) <;> simp_all

theorem lk37 : LOK T0 a37 l37 Try.f37.ntmps (loopAt Try.f37 0) := by
  intro ins outs hA s k out h
  have hA' : ([0, 1, 5], []) = (ins, outs) := Option.some.inj ((show a37.lp (firstRegion (loopAt Try.f37 0)) = some ([0, 1, 5], []) by kernel_rfl).symm.trans hA)
  cases hA'
  have hk : firstRegion (loopAt Try.f37 0) = 4 := by kernel_rfl
  rw [hk] at h
  change lp37 s k = some out at h
  unfold lp37 at h
  split at h
  · rename_i xs ys i
    cases hg : (decide (i = 0) && (Nat.beq xs.length ys.length && Nat.ble xs.length big)) with
    | false => rw [hg] at h; cases h
    | true =>
      rw [hg] at h
      simp only [Bool.and_eq_true, decide_eq_true_eq] at hg
      obtain ⟨rfl, hl, hx⟩ := hg
      refine ⟨xs.length + 1, ?_⟩
      exact (ind37 xs ys (Nat.eq_of_beq_eq_true hl) hx k xs.length 0 (by omega)).trans h
  · cases h
theorem e37 (xs : List Int) (ys : List Int) : runFn T0 a37 l37 Try.f37 [.vw none ⟨.i64, xs⟩, .vw none ⟨.i64, ys⟩] = (match (!(((xs.length : Int) : Int) == (ys.length : Int)) : Bool) with
  | true => some ⟨[.el (.sc (.bo false))], none⟩
  | false => (match (decide (0 = 0) && (Nat.beq xs.length ys.length && Nat.ble xs.length big) : Bool) with
    | true => (match (all2 sameI xs ys : Bool) with
      | true => some ⟨[.el (.sc (.bo true))], none⟩
      | false => some ⟨[.el (.sc (.bo false))], none⟩)
    | false => none)) := by kernel_rfl
theorem s37 (xs : List Int) (ys : List Int) : runFn T0 a37 l37 Try.f37 [.vw none ⟨.i64, xs⟩, .vw none ⟨.i64, ys⟩] = (match (Nat.beq xs.length ys.length : Bool) with
  | true => (match (Nat.ble xs.length big : Bool) with
    | true => some ⟨[.el (.sc (.bo (all2 sameI xs ys)))], none⟩
    | false => none)
  | false => some ⟨[.el (.sc (.bo false))], none⟩) := by
  rw [e37]
  cases hl : Nat.beq xs.length ys.length with
  | false =>
    have h1 : xs.length ≠ ys.length := fun e => by rw [e, Nat.beq_refl] at hl; cases hl
    have h2 : ((xs.length : Int) == (ys.length : Int)) = false := beq_false_of_ne (by omega)
    simp only [h2, Bool.not_false]
  | true =>
    have h1 := Nat.eq_of_beq_eq_true hl
    have h2 : ((xs.length : Int) == (ys.length : Int)) = true := beq_iff_eq.2 (by omega)
    simp only [h2, Bool.not_true]
    cases h : Nat.ble xs.length big with
    | false => simp
    | true => cases h3 : all2 sameI xs ys <;> simp
theorem c37 (xs : List Int) (ys : List Int) (k : List RV → R) (out : Out) (h : (match (Nat.beq xs.length ys.length : Bool) with
  | true => (match (Nat.ble xs.length big : Bool) with
    | true => k [.el (.sc (.bo (all2 sameI xs ys)))]
    | false => none)
  | false => k [.el (.sc (.bo false))]) = some out) : ∃ rs, Real Try.prog 37 ∧ COK Try.prog 37 [.vw none ⟨.i64, xs⟩, .vw none ⟨.i64, ys⟩] rs ∧ k rs = some out := by
  cases g0 : (Nat.beq xs.length ys.length : Bool) with
  | true =>
    rw [g0] at h
    cases g1 : (Nat.ble xs.length big : Bool) with
    | true =>
      rw [g1] at h
      exact ⟨_, real Try.func37 (by kernel_rfl), fn_ok tok0 (A := a37) (L := l37) (r := none) Try.func37 (by kernel_rfl) (by kernel_rfl) (loops1 (by kernel_rfl) lk37) (by rw [s37, g0, g1]), h⟩
    | false =>
      rw [g1] at h
      cases h
  | false =>
    rw [g0] at h
    exact ⟨_, real Try.func37 (by kernel_rfl), fn_ok tok0 (A := a37) (L := l37) (r := none) Try.func37 (by kernel_rfl) (by kernel_rfl) (loops1 (by kernel_rfl) lk37) (by rw [s37, g0]), h⟩

/-! laws.markInt64S -/
def a38 : Ann := ann [(2, [0, 1, 5], [0, 1])] [0, 4] 1
def lp38 : St → (Ex → St → R) → R := fun s k => match s with
  | ⟨[(0, .fv (.own 0)), (1, .fv (.el (.sc (.int .i64 n)))), (5, .fv (.el (.sc (.int .i64 i))))], [some ⟨e0, ⟨.i64, ys⟩⟩]⟩ => (match (decide (i = 0) && (decide (0 ≤ n ∧ n ≤ 1099511627776) && Nat.ble (ys : List Int).length big) : Bool) with
    | true => k (.exit 0) ⟨[(0, .fv (.own 0)), (1, .fv (.el (.sc (.int .i64 (n + ((ys : List Int).length : Int))))))], [some ⟨e0, ⟨.i64, marksI n (ys : List Int).length⟩⟩]⟩
    | false => none)
  | _ => none
def l38 : Loops := fun key s k => bif Nat.beq key 2 then lp38 s k else none
theorem st38 (n : Int) (i : Int) (ys : List Int) (e0 : Nat) (m : Nat) (k : Ex → St → R) : iterK a38 [0, 1, 5] [0, 1] (codeK T0 a38 l38 Try.f38.ntmps (loopAt Try.f38 0)) (m + 1) ⟨[(0, .fv (.own 0)), (1, .fv (.el (.sc (.int .i64 n)))), (5, .fv (.el (.sc (.int .i64 i))))], [some ⟨e0, ⟨.i64, ys⟩⟩]⟩ k = (match (decide ((i : Int) < (ys.length : Int)) : Bool) with
  | true => (match (decide (0 ≤ (i : Int) ∧ (i : Int) < (ys.length : Int)) && true : Bool) with
    | true => (match (ys : List Int)[Int.toNat i]? with
      | some x1 => iterK a38 [0, 1, 5] [0, 1] (codeK T0 a38 l38 Try.f38.ntmps (loopAt Try.f38 0)) m ⟨[(0, .fv (.own 0)), (1, .fv (.el (.sc (.int .i64 (IntKind.i64.wrap (n + 1)))))), (5, .fv (.el (.sc (.int .i64 (IntKind.i64.wrap (i + 1))))))], [some ⟨e0, ⟨.i64, (ys : List Int).set (Int.toNat i) n⟩⟩]⟩ k
      | none => none)
    | false => none)
  | false => k (.exit 0) ⟨[(0, .fv (.own 0)), (1, .fv (.el (.sc (.int .i64 n))))], [some ⟨e0, ⟨.i64, ys⟩⟩]⟩) := by kernel_rfl
theorem ind38 (e0 : Nat) (k : Ex → St → R) : ∀ (m j : Nat) (ys : List Int) (n : Int), Nat.ble ys.length big = true → 0 ≤ n → n + m ≤ 2199023255552 → j + m = ys.length → iterK a38 [0, 1, 5] [0, 1] (codeK T0 a38 l38 Try.f38.ntmps (loopAt Try.f38 0)) (m + 1) ⟨[(0, .fv (.own 0)), (1, .fv (.el (.sc (.int .i64 n)))), (5, .fv (.el (.sc (.int .i64 (j : Int)))))], [some ⟨e0, ⟨.i64, ys⟩⟩]⟩ k =
    k (.exit 0) ⟨[(0, .fv (.own 0)), (1, .fv (.el (.sc (.int .i64 (n + (m : Int))))))], [some ⟨e0, ⟨.i64, ys.take j ++ marksI n m⟩⟩]⟩ := by
  intro m
  induction m with
  | zero =>
    intro j ys n hb h0 hn hj
    have h1 : ¬ ((j : Int) < (ys.length : Int)) := by omega
    rw [st38, List.take_of_length_le (show ys.length ≤ j by omega)]
    simp [h1, marksI]
  | succ m ih =>
    intro j ys n hb h0 hn hj
    have hlt : j < ys.length := by omega
    have h1 : ((j : Int) < (ys.length : Int)) := by omega
    have h2 : (0 : Int) ≤ (j : Int) := by omega
    have hw : IntKind.i64.wrap (n + 1) = n + 1 := wrap64 (by omega) (by omega)
    have hw2 : IntKind.i64.wrap n = n := wrap64 (by omega) (by omega)
    rw [st38, wrap_succ hlt hb, hw]
    have h4 : ys[Int.toNat (j : Int)]? = some ys[j] := by simp [hlt]
    try rw [hw2]
    simp only [h1, h2, h4, and_self, decide_true, Bool.and_true]
    refine (ih (j + 1) (ys.set (Int.toNat (j : Int)) n) (n + 1) (by simpa using hb) (by omega) (by omega) (by simp; omega)).trans ?_
    have h5 : (ys.set (Int.toNat (j : Int)) n).take (j + 1) ++ marksI (n + 1) m = ys.take j ++ marksI n (m + 1) := set_take hlt _ _
    have h6 : n + 1 + (m : Int) = n + ((m + 1 : Nat) : Int) := by omega
    rw [h5, h6]

theorem lk38 : LOK T0 a38 l38 Try.f38.ntmps (loopAt Try.f38 0) := by
  intro ins outs hA s k out h
  have hA' : ([0, 1, 5], [0, 1]) = (ins, outs) := Option.some.inj ((show a38.lp (firstRegion (loopAt Try.f38 0)) = some ([0, 1, 5], [0, 1]) by kernel_rfl).symm.trans hA)
  cases hA'
  have hk : firstRegion (loopAt Try.f38 0) = 2 := by kernel_rfl
  rw [hk] at h
  change lp38 s k = some out at h
  unfold lp38 at h
  split at h
  · rename_i n i e0 ys
    cases hg : (decide (i = 0) && (decide (0 ≤ n ∧ n ≤ 1099511627776) && Nat.ble ys.length big)) with
    | false => rw [hg] at h; cases h
    | true =>
      rw [hg] at h
      simp only [Bool.and_eq_true, decide_eq_true_eq] at hg
      obtain ⟨rfl, ⟨hn0, hn1⟩, hx⟩ := hg
      refine ⟨ys.length + 1, ?_⟩
      have hxl := Nat.le_of_ble_eq_true hx
      unfold big at hxl
      have hh := ind38 e0 k ys.length 0 ys n hx hn0 (by omega) (by omega)
      simp only [List.take_zero, List.nil_append] at hh
      exact hh.trans h
  · cases h
theorem e38 (e : Nat) (xs : List Int) (n : Int) : runMn T0 a38 l38 Try.f38 e ⟨.i64, xs⟩ [.el (.sc (.int .i64 n))] = (match (decide (0 = 0) && (decide (0 ≤ n ∧ n ≤ 1099511627776) && Nat.ble (xs : List Int).length big) : Bool) with
  | true => some ⟨[.el (.sc (.int .i64 (n + ((xs : List Int).length : Int))))], some ⟨e, ⟨.i64, marksI n (xs : List Int).length⟩⟩⟩
  | false => none) := by kernel_rfl
theorem s38 (e : Nat) (xs : List Int) (n : Int) : runMn T0 a38 l38 Try.f38 e ⟨.i64, xs⟩ [.el (.sc (.int .i64 n))] = (match (decide (0 ≤ n ∧ n ≤ 1099511627776) && Nat.ble xs.length big : Bool) with
  | true => some ⟨[.el (.sc (.int .i64 (n + (xs.length : Int))))], some ⟨e, ⟨.i64, marksI n xs.length⟩⟩⟩
  | false => none) := by
  rw [e38]
  cases h : (decide (0 ≤ n ∧ n ≤ 1099511627776) && Nat.ble xs.length big) <;> simp [h]
theorem c38 (xs : List Int) (n : Int) (k : List RV → Vec → R) (out : Out) (h : (match (decide (0 ≤ n ∧ n ≤ 1099511627776) && Nat.ble xs.length big : Bool) with
  | true => k [.el (.sc (.int .i64 (n + (xs.length : Int))))] ⟨.i64, marksI n xs.length⟩
  | false => none) = some out) : ∃ rs vec, Real Try.prog 38 ∧ CMOK Try.prog 38 ⟨.i64, xs⟩ [.el (.sc (.int .i64 n))] rs vec ∧ k rs vec = some out := by
  cases g0 : (decide (0 ≤ n ∧ n ≤ 1099511627776) && Nat.ble xs.length big : Bool) with
  | true =>
    rw [g0] at h
    exact ⟨_, _, real Try.func38 (by kernel_rfl), mfn_ok tok0 (A := a38) (L := l38) Try.func38 (by kernel_rfl) (by kernel_rfl) (loops1 (by kernel_rfl) lk38) (by decide) rfl (fun e => by rw [s38, g0]), h⟩
  | false =>
    rw [g0] at h
    cases h

/-! laws.heldInt64S -/
def a39 : Ann := ann [(2, [0, 1, 5], [1])] [4] 0
def lp39 : St → (Ex → St → R) → R := fun s k => match s with
  | ⟨[(0, .fv (.vw (some 0) ⟨.i64, xs⟩)), (1, .fv (.el (.sc (.int .i64 n)))), (5, .fv (.el (.sc (.int .i64 i))))], []⟩ => (match (decide (i = 0) && (decide (0 ≤ n ∧ n ≤ 1099511627776) && Nat.ble xs.length big) : Bool) with
    | true => (match (heldI n xs : Bool) with
      | true => k (.exit 0) ⟨[(1, .fv (.el (.sc (.int .i64 (n + (xs.length : Int))))))], []⟩
      | false => k .ret ⟨[(4, .fv (.el (.sc (.int .i64 ((-1))))))], []⟩)
    | false => none)
  | _ => none
def l39 : Loops := fun key s k => bif Nat.beq key 2 then lp39 s k else none
theorem st39 (xs : List Int) (n : Int) (i : Int) (m : Nat) (k : Ex → St → R) : iterK a39 [0, 1, 5] [1] (codeK T0 a39 l39 Try.f39.ntmps (loopAt Try.f39 0)) (m + 1) ⟨[(0, .fv (.vw (some 0) ⟨.i64, xs⟩)), (1, .fv (.el (.sc (.int .i64 n)))), (5, .fv (.el (.sc (.int .i64 i))))], []⟩ k = (match (decide ((i : Int) < (xs.length : Int)) : Bool) with
  | true => (match (decide (0 ≤ (i : Int) ∧ (i : Int) < (xs.length : Int)) && true : Bool) with
    | true => (match (xs : List Int)[Int.toNat i]? with
      | some x1 => (match (!((x1 : Int) == n) : Bool) with
        | true => k .ret ⟨[(4, .fv (.el (.sc (.int .i64 ((-1))))))], []⟩
        | false => iterK a39 [0, 1, 5] [1] (codeK T0 a39 l39 Try.f39.ntmps (loopAt Try.f39 0)) m ⟨[(0, .fv (.vw (some 0) ⟨.i64, xs⟩)), (1, .fv (.el (.sc (.int .i64 (IntKind.i64.wrap (n + 1)))))), (5, .fv (.el (.sc (.int .i64 (IntKind.i64.wrap (i + 1))))))], []⟩ k)
      | none => none)
    | false => none)
  | false => k (.exit 0) ⟨[(1, .fv (.el (.sc (.int .i64 n))))], []⟩) := by kernel_rfl
theorem ind39 (xs : List Int) (hb : Nat.ble xs.length big = true) (k : Ex → St → R) : ∀ (m j : Nat) (n : Int), 0 ≤ n → n + m ≤ 2199023255552 → j + m = xs.length → iterK a39 [0, 1, 5] [1] (codeK T0 a39 l39 Try.f39.ntmps (loopAt Try.f39 0)) (m + 1) ⟨[(0, .fv (.vw (some 0) ⟨.i64, xs⟩)), (1, .fv (.el (.sc (.int .i64 n)))), (5, .fv (.el (.sc (.int .i64 (j : Int)))))], []⟩ k =
    (match heldI n (xs.drop j) with
    | true => k (.exit 0) ⟨[(1, .fv (.el (.sc (.int .i64 (n + (m : Int))))))], []⟩
    | false => k .ret ⟨[(4, .fv (.el (.sc (.int .i64 (-1)))))], []⟩) := by
  intro m
  induction m with
  | zero =>
    intro j n h0 hn hj
    have h1 : ¬ ((j : Int) < (xs.length : Int)) := by omega
    rw [st39, List.drop_of_length_le (by omega)]
    simp [h1, heldI]
  | succ m ih =>
    intro j n h0 hn hj
    have hlt : j < xs.length := by omega
    have h1 : ((j : Int) < (xs.length : Int)) := by omega
    have h2 : (0 : Int) ≤ (j : Int) := by omega
    have hw : IntKind.i64.wrap (n + 1) = n + 1 := wrap64 (by omega) (by omega)
    have hw2 : IntKind.i64.wrap n = n := wrap64 (by omega) (by omega)
    rw [st39, wrap_succ hlt hb, hw]
    try rw [hw2]
    have h4 : xs[Int.toNat (j : Int)]? = some xs[j] := by simp [hlt]
    have h6 : n + 1 + (m : Int) = n + ((m + 1 : Nat) : Int) := by omega
    rw [List.drop_eq_getElem_cons hlt, ih (j + 1) (n + 1) (by omega) (by omega) (by omega), h6]
    simp only [h1, h2, h4, and_self, decide_true, Bool.and_true, heldI]
    cases (xs[j] == n) <;> simp

theorem lk39 : LOK T0 a39 l39 Try.f39.ntmps (loopAt Try.f39 0) := by
  intro ins outs hA s k out h
  have hA' : ([0, 1, 5], [1]) = (ins, outs) := Option.some.inj ((show a39.lp (firstRegion (loopAt Try.f39 0)) = some ([0, 1, 5], [1]) by kernel_rfl).symm.trans hA)
  cases hA'
  have hk : firstRegion (loopAt Try.f39 0) = 2 := by kernel_rfl
  rw [hk] at h
  change lp39 s k = some out at h
  unfold lp39 at h
  split at h
  · rename_i xs n i
    cases hg : (decide (i = 0) && (decide (0 ≤ n ∧ n ≤ 1099511627776) && Nat.ble xs.length big)) with
    | false => rw [hg] at h; cases h
    | true =>
      rw [hg] at h
      simp only [Bool.and_eq_true, decide_eq_true_eq] at hg
      obtain ⟨rfl, ⟨hn0, hn1⟩, hx⟩ := hg
      refine ⟨xs.length + 1, ?_⟩
      have hxl := Nat.le_of_ble_eq_true hx
      unfold big at hxl
      exact (ind39 xs hx k xs.length 0 n hn0 (by omega) (by omega)).trans h
  · cases h
theorem e39 (xs : List Int) (n : Int) : runFn T0 a39 l39 Try.f39 [.vw none ⟨.i64, xs⟩, .el (.sc (.int .i64 n))] = (match (decide (0 = 0) && (decide (0 ≤ n ∧ n ≤ 1099511627776) && Nat.ble xs.length big) : Bool) with
  | true => (match (heldI n xs : Bool) with
    | true => some ⟨[.el (.sc (.int .i64 (n + (xs.length : Int))))], none⟩
    | false => some ⟨[.el (.sc (.int .i64 ((-1))))], none⟩)
  | false => none) := by kernel_rfl
theorem s39 (xs : List Int) (n : Int) : runFn T0 a39 l39 Try.f39 [.vw none ⟨.i64, xs⟩, .el (.sc (.int .i64 n))] = (match (decide (0 ≤ n ∧ n ≤ 1099511627776) && Nat.ble xs.length big : Bool) with
  | true => some ⟨[.el (.sc (.int .i64 (heldN (heldI n xs) (n + (xs.length : Int)))))], none⟩
  | false => none) := by
  rw [e39]
  unfold heldN
  cases h : (decide (0 ≤ n ∧ n ≤ 1099511627776) && Nat.ble xs.length big) <;> cases h2 : heldI n xs <;> simp [h]
theorem c39 (xs : List Int) (n : Int) (k : List RV → R) (out : Out) (h : (match (decide (0 ≤ n ∧ n ≤ 1099511627776) && Nat.ble xs.length big : Bool) with
  | true => k [.el (.sc (.int .i64 (heldN (heldI n xs) (n + (xs.length : Int)))))]
  | false => none) = some out) : ∃ rs, Real Try.prog 39 ∧ COK Try.prog 39 [.vw none ⟨.i64, xs⟩, .el (.sc (.int .i64 n))] rs ∧ k rs = some out := by
  cases g0 : (decide (0 ≤ n ∧ n ≤ 1099511627776) && Nat.ble xs.length big : Bool) with
  | true =>
    rw [g0] at h
    exact ⟨_, real Try.func39 (by kernel_rfl), fn_ok tok0 (A := a39) (L := l39) (r := none) Try.func39 (by kernel_rfl) (by kernel_rfl) (loops1 (by kernel_rfl) lk39) (by rw [s39, g0]), h⟩
  | false =>
    rw [g0] at h
    cases h

/-! spec.l00In -/
theorem e51 (n : Int) (a : Int) (b : Int) : runFn T0 none0 noL Try.f51 [.el (.sc (.int .i64 n)), .el (.sc (.int .i64 a)), .el (.sc (.int .i64 b))] = (match (decide ((n : Int) ≥ a) : Bool) with
  | true => some ⟨[.el (.sc (.bo (decide ((n : Int) ≤ b))))], none⟩
  | false => some ⟨[.el (.sc (.bo false))], none⟩) := by kernel_rfl
theorem s51 (n : Int) (a : Int) (b : Int) : runFn T0 none0 noL Try.f51 [.el (.sc (.int .i64 n)), .el (.sc (.int .i64 a)), .el (.sc (.int .i64 b))] = some ⟨[.el (.sc (.bo (within n a b)))], none⟩ := by
  rw [e51]
  unfold within
  cases decide (n ≥ a) <;> rfl
theorem c51 (n : Int) (a : Int) (b : Int) (k : List RV → R) (out : Out) (h : k [.el (.sc (.bo (within n a b)))] = some out) : ∃ rs, Real Try.prog 51 ∧ COK Try.prog 51 [.el (.sc (.int .i64 n)), .el (.sc (.int .i64 a)), .el (.sc (.int .i64 b))] rs ∧ k rs = some out := by
  exact ⟨_, real Try.func51 (by kernel_rfl), fn_ok tok0 (A := none0) (L := noL) (r := none) Try.func51 (by kernel_rfl) (by kernel_rfl) (loops0 (by kernel_rfl)) (by rw [s51]), h⟩

/-! impl.within -/
theorem e53 (n : Int) (a : Int) (b : Int) : runFn T0 none0 noL Try.f53 [.el (.sc (.int .i64 n)), .el (.sc (.int .i64 a)), .el (.sc (.int .i64 b))] = (match (decide ((n : Int) ≥ a) : Bool) with
  | true => some ⟨[.el (.sc (.bo (decide ((n : Int) ≤ b))))], none⟩
  | false => some ⟨[.el (.sc (.bo false))], none⟩) := by kernel_rfl
theorem s53 (n : Int) (a : Int) (b : Int) : runFn T0 none0 noL Try.f53 [.el (.sc (.int .i64 n)), .el (.sc (.int .i64 a)), .el (.sc (.int .i64 b))] = some ⟨[.el (.sc (.bo (within n a b)))], none⟩ := by
  rw [e53]
  unfold within
  cases decide (n ≥ a) <;> rfl
theorem c53 (n : Int) (a : Int) (b : Int) (k : List RV → R) (out : Out) (h : k [.el (.sc (.bo (within n a b)))] = some out) : ∃ rs, Real Try.prog 53 ∧ COK Try.prog 53 [.el (.sc (.int .i64 n)), .el (.sc (.int .i64 a)), .el (.sc (.int .i64 b))] rs ∧ k rs = some out := by
  exact ⟨_, real Try.func53 (by kernel_rfl), fn_ok tok0 (A := none0) (L := noL) (r := none) Try.func53 (by kernel_rfl) (by kernel_rfl) (loops0 (by kernel_rfl)) (by rw [s53]), h⟩

/-! spec.l05Bend -/
theorem e55 (xs : List Nat) (i : Int) : runFn T0 none0 noL Try.f55 [.vw none ⟨.f32, xs⟩, .el (.sc (.int .i64 i))] = (match (decide (0 ≤ (i : Int) ∧ (i : Int) < (xs.length : Int)) && true : Bool) with
  | true => (match (xs : List Nat)[Int.toNat i]? with
    | some x1 => (match (decide (0 ≤ (IntKind.i64.wrap (i - 1) : Int) ∧ (IntKind.i64.wrap (i - 1) : Int) < (xs.length : Int)) && true : Bool) with
      | true => (match (xs : List Nat)[Int.toNat (IntKind.i64.wrap (i - 1))]? with
        | some x2 => (match (decide (0 ≤ (IntKind.i64.wrap (i + 1) : Int) ∧ (IntKind.i64.wrap (i + 1) : Int) < (xs.length : Int)) && true : Bool) with
          | true => (match (xs : List Nat)[Int.toNat (IntKind.i64.wrap (i + 1))]? with
            | some x3 => some ⟨[.el (.sc (.fl .f32 (fop .sub .f32 (fop .sub .f32 (fop .mul .f32 1073741824 x1) x2) x3)))], none⟩
            | none => none)
          | false => none)
        | none => none)
      | false => none)
    | none => none)
  | false => none) := by kernel_rfl
theorem s55 (xs : List Nat) (i : Int) (hg : (decide (1 ≤ i ∧ i + 1 < (xs.length : Int)) && Nat.ble xs.length big) = true) : runFn T0 none0 noL Try.f55 [.vw none ⟨.f32, xs⟩, .el (.sc (.int .i64 i))] = some ⟨[.el (.sc (.fl .f32 (bendAt xs (Int.toNat i))))], none⟩ := by
  rw [e55]
  rw [Bool.and_eq_true, decide_eq_true_eq] at hg
  have hb := big_le hg.2
  obtain ⟨j, rfl⟩ : ∃ j : Nat, i = (j : Int) := ⟨i.toNat, by omega⟩
  have ab : (0 : Int) ≤ ((j : Nat) : Int) ∧ ((j : Nat) : Int) < (xs.length : Int) := by omega
  have aq : xs[Int.toNat ((j : Nat) : Int)]? = some (xs.getD (j) 0) := getI (by omega)
  have ap : xs[j]? = some (xs.getD (j) 0) := getI2 (by omega)
  have w1 : IntKind.i64.wrap ((j : Int) - 1) = ((j - 1 : Nat) : Int) := wrapN (by omega) (by omega)
  have bb : (0 : Int) ≤ ((j - 1 : Nat) : Int) ∧ ((j - 1 : Nat) : Int) < (xs.length : Int) := by omega
  have bq : xs[Int.toNat ((j - 1 : Nat) : Int)]? = some (xs.getD (j - 1) 0) := getI (by omega)
  have bp : xs[j - 1]? = some (xs.getD (j - 1) 0) := getI2 (by omega)
  have w2 : IntKind.i64.wrap ((j : Int) + 1) = ((j + 1 : Nat) : Int) := wrapN (by omega) (by omega)
  have cb : (0 : Int) ≤ ((j + 1 : Nat) : Int) ∧ ((j + 1 : Nat) : Int) < (xs.length : Int) := by omega
  have cq : xs[Int.toNat ((j + 1 : Nat) : Int)]? = some (xs.getD (j + 1) 0) := getI (by omega)
  have cp : xs[j + 1]? = some (xs.getD (j + 1) 0) := getI2 (by omega)
  simp only [ab, aq, w1, bb, bq, w2, cb, cq, and_self, decide_true, Bool.and_true]
  rfl
theorem c55 (xs : List Nat) (i : Int) (k : List RV → R) (out : Out) (h : (match (decide (1 ≤ i ∧ i + 1 < (xs.length : Int)) && Nat.ble xs.length big : Bool) with
  | true => k [.el (.sc (.fl .f32 (bendAt xs (Int.toNat i))))]
  | false => none) = some out) : ∃ rs, Real Try.prog 55 ∧ COK Try.prog 55 [.vw none ⟨.f32, xs⟩, .el (.sc (.int .i64 i))] rs ∧ k rs = some out := by
  cases g0 : (decide (1 ≤ i ∧ i + 1 < (xs.length : Int)) && Nat.ble xs.length big : Bool) with
  | true =>
    rw [g0] at h
    exact ⟨_, real Try.func55 (by kernel_rfl), fn_ok tok0 (A := none0) (L := noL) (r := none) Try.func55 (by kernel_rfl) (by kernel_rfl) (loops0 (by kernel_rfl)) (by rw [s55 _ _ g0]), h⟩
  | false =>
    rw [g0] at h
    cases h

/-! spec.l01Finite -/
theorem s56 (c : Nat) : runFn T0 none0 noL Try.f56 [.el (.sc (.fl .f32 c))] = some ⟨[.el (.sc (.bo (fin c)))], none⟩ := by kernel_rfl
theorem c56 (c : Nat) (k : List RV → R) (out : Out) (h : k [.el (.sc (.bo (fin c)))] = some out) : ∃ rs, Real Try.prog 56 ∧ COK Try.prog 56 [.el (.sc (.fl .f32 c))] rs ∧ k rs = some out := by
  exact ⟨_, real Try.func56 (by kernel_rfl), fn_ok tok0 (A := none0) (L := noL) (r := none) Try.func56 (by kernel_rfl) (by kernel_rfl) (loops0 (by kernel_rfl)) (by rw [s56]), h⟩

/-! spec.l06Sum -/
def a68 : Ann := ann [(3, [0, 3, 4], [3])] [2] 0
def lp68 : St → (Ex → St → R) → R := fun s k => match s with
  | ⟨[(0, .fv (.vw (some 0) ⟨.f32, xs⟩)), (3, .fv (.el (.sc (.fl .f32 a)))), (4, .fv (.el (.sc (.int .i64 i))))], []⟩ => (match ((decide (i = 0) && Nat.ble xs.length big) : Bool) with
    | true => k (.exit 0) ⟨[(3, .fv (.el (.sc (.fl .f32 (rep (fun j a => fop .add .f32 a (xs.getD j 0)) (xs.length) 0 (a : Nat))))))], []⟩
    | false => none)
  | _ => none
def l68 : Loops := fun key s k => bif Nat.beq key 3 then lp68 s k else none
theorem st68 (xs : List Nat) (a : Nat) (i : Int) (m : Nat) (k : Ex → St → R) : iterK a68 [0, 3, 4] [3] (codeK T0 a68 l68 Try.f68.ntmps (loopAt Try.f68 0)) (m + 1) ⟨[(0, .fv (.vw (some 0) ⟨.f32, xs⟩)), (3, .fv (.el (.sc (.fl .f32 a)))), (4, .fv (.el (.sc (.int .i64 i))))], []⟩ k = (match (decide ((i : Int) < (xs.length : Int)) : Bool) with
  | true => (match (decide (0 ≤ (i : Int) ∧ (i : Int) < (xs.length : Int)) && true : Bool) with
    | true => (match (xs : List Nat)[Int.toNat i]? with
      | some x1 => iterK a68 [0, 3, 4] [3] (codeK T0 a68 l68 Try.f68.ntmps (loopAt Try.f68 0)) m ⟨[(0, .fv (.vw (some 0) ⟨.f32, xs⟩)), (3, .fv (.el (.sc (.fl .f32 (fop .add .f32 a x1))))), (4, .fv (.el (.sc (.int .i64 (IntKind.i64.wrap (i + 1))))))], []⟩ k
      | none => none)
    | false => none)
  | false => k (.exit 0) ⟨[(3, .fv (.el (.sc (.fl .f32 a))))], []⟩) := by kernel_rfl
theorem ind68 (xs : List Nat) (hx : (Nat.ble xs.length big) = true) (k : Ex → St → R) : ∀ (m j : Nat) (a : Nat), 0 ≤ j → j + m = xs.length → iterK a68 [0, 3, 4] [3] (codeK T0 a68 l68 Try.f68.ntmps (loopAt Try.f68 0)) (m + 1) ⟨[(0, .fv (.vw (some 0) ⟨.f32, xs⟩)), (3, .fv (.el (.sc (.fl .f32 a)))), (4, .fv (.el (.sc (.int .i64 (j : Int)))))], []⟩ k =
    k (.exit 0) ⟨[(3, .fv (.el (.sc (.fl .f32 (rep (fun j a => fop .add .f32 a (xs.getD j 0)) m j (a : Nat))))))], []⟩ := by
  intro m
  induction m with
  | zero =>
    intro j a hlo hj
    have hx_ := big_le hx
    have h1 : ¬ (((j : Int) < (xs.length : Int))) := by omega
    rw [st68]
    simp only [h1, rep, decide_false] <;> rfl
  | succ m ih =>
    intro j a hlo hj
    have hx_ := big_le hx
    have h1 : ((j : Int) < (xs.length : Int)) := by omega
    have xb : (0 : Int) ≤ ((j : Nat) : Int) ∧ ((j : Nat) : Int) < (xs.length : Int) := by omega
    have xq : xs[Int.toNat ((j : Nat) : Int)]? = some (xs.getD (j) 0) := getI (by omega)
    have xp : xs[j]? = some (xs.getD (j) 0) := getI2 (by omega)
    have wn : IntKind.i64.wrap ((j : Int) + 1) = ((j + 1 : Nat) : Int) := wrapN (by omega) (by omega)
    rw [st68]
    simp only [h1, wn, xb, xq, xp, and_self, decide_true, Bool.and_true, Int.le_refl]
    exact ih (j + 1) _ (by omega) (by omega)

theorem lk68 : LOK T0 a68 l68 Try.f68.ntmps (loopAt Try.f68 0) := by
  intro ins outs hA s k out h
  have hA' : ([0, 3, 4], [3]) = (ins, outs) := Option.some.inj ((show a68.lp (firstRegion (loopAt Try.f68 0)) = some ([0, 3, 4], [3]) by kernel_rfl).symm.trans hA)
  cases hA'
  have hk : firstRegion (loopAt Try.f68 0) = 3 := by kernel_rfl
  rw [hk] at h
  change lp68 s k = some out at h
  unfold lp68 at h
  split at h
  · rename_i xs a i
    cases hg : (decide (i = 0) && Nat.ble xs.length big) with
    | false => rw [hg] at h; cases h
    | true =>
      rw [hg] at h
      simp only [Bool.and_eq_true, decide_eq_true_eq] at hg
      obtain ⟨rfl, hx⟩ := hg
      refine ⟨(xs.length) + 1, ?_⟩
      have hx_ := big_le hx
      exact (ind68 xs hx k (xs.length) 0 a (by omega) (by omega)).trans h
  · cases h
theorem e68 (xs : List Nat) : runFn T0 a68 l68 Try.f68 [.vw none ⟨.f32, xs⟩] = (match ((decide (0 = 0) && Nat.ble xs.length big) : Bool) with
  | true => some ⟨[.el (.sc (.fl .f32 (rep (fun j a => fop .add .f32 a (xs.getD j 0)) (xs.length) 0 (0 : Nat))))], none⟩
  | false => none) := by kernel_rfl
theorem s68 (xs : List Nat) : runFn T0 a68 l68 Try.f68 [.vw none ⟨.f32, xs⟩] = (match (Nat.ble xs.length big : Bool) with
  | true => some ⟨[.el (.sc (.fl .f32 (sumF xs)))], none⟩
  | false => none) := by
  rw [e68]
  cases h : Nat.ble xs.length big with
  | false => simp
  | true =>
    have e := rep_list 0 (fop .add .f32) xs xs.length 0 0 (by omega)
    rw [List.drop_zero] at e
    simp [-List.getD_eq_getElem?_getD, e, sumF]
theorem c68 (xs : List Nat) (k : List RV → R) (out : Out) (h : (match (Nat.ble xs.length big : Bool) with
  | true => k [.el (.sc (.fl .f32 (sumF xs)))]
  | false => none) = some out) : ∃ rs, Real Try.prog 68 ∧ COK Try.prog 68 [.vw none ⟨.f32, xs⟩] rs ∧ k rs = some out := by
  cases g0 : (Nat.ble xs.length big : Bool) with
  | true =>
    rw [g0] at h
    exact ⟨_, real Try.func68 (by kernel_rfl), fn_ok tok0 (A := a68) (L := l68) (r := none) Try.func68 (by kernel_rfl) (by kernel_rfl) (loops1 (by kernel_rfl) lk68) (by rw [s68, g0]), h⟩
  | false =>
    rw [g0] at h
    cases h

/-! spec.l06Marked -/
theorem e78 (xs : List Nat) (i : Int) (b : Nat) : runFn T0 none0 noL Try.f78 [.vw none ⟨.f32, xs⟩, .el (.sc (.int .i64 i)), .el (.sc (.fl .f32 b))] = (match (decide ((i : Int) < 1) : Bool) with
  | true => some ⟨[.el (.sc (.bo false))], none⟩
  | false => (match (decide ((IntKind.i64.wrap (i + 1) : Int) ≥ (xs.length : Int)) : Bool) with
    | true => some ⟨[.el (.sc (.bo false))], none⟩
    | false => (match (decide (0 ≤ (IntKind.i64.wrap (i - 1) : Int) ∧ (IntKind.i64.wrap (i - 1) : Int) < (xs.length : Int)) && true : Bool) with
      | true => (match (xs : List Nat)[Int.toNat (IntKind.i64.wrap (i - 1))]? with
        | some x1 => (match (decide (0 ≤ (IntKind.i64.wrap (i + 1) : Int) ∧ (IntKind.i64.wrap (i + 1) : Int) < (xs.length : Int)) && true : Bool) with
          | true => (match (xs : List Nat)[Int.toNat (IntKind.i64.wrap (i + 1))]? with
            | some x2 => (match (fcmp .gtr .f32 x2 x1 : Bool) with
              | true => (match (decide (0 ≤ (IntKind.i64.wrap (i + 1) : Int) ∧ (IntKind.i64.wrap (i + 1) : Int) < (xs.length : Int)) && true : Bool) with
                | true => (match (xs : List Nat)[Int.toNat (IntKind.i64.wrap (i + 1))]? with
                  | some x3 => (match (decide (0 ≤ (i : Int) ∧ (i : Int) < (xs.length : Int)) && true : Bool) with
                    | true => (match (xs : List Nat)[Int.toNat i]? with
                      | some x4 => some ⟨[.el (.sc (.bo (fcmp .gtr .f32 (fop .sub .f32 x4 x3) b)))], none⟩
                      | none => none)
                    | false => none)
                  | none => none)
                | false => none)
              | false => (match (decide (0 ≤ (i : Int) ∧ (i : Int) < (xs.length : Int)) && true : Bool) with
                | true => (match (xs : List Nat)[Int.toNat i]? with
                  | some x5 => some ⟨[.el (.sc (.bo (fcmp .gtr .f32 (fop .sub .f32 x5 x1) b)))], none⟩
                  | none => none)
                | false => none))
            | none => none)
          | false => none)
        | none => none)
      | false => none))) := by kernel_rfl
theorem s78 (xs : List Nat) (i : Int) (b : Nat) (hg : (decide (0 ≤ i ∧ i ≤ (xs.length : Int)) && Nat.ble xs.length big) = true) : runFn T0 none0 noL Try.f78 [.vw none ⟨.f32, xs⟩, .el (.sc (.int .i64 i)), .el (.sc (.fl .f32 b))] = some ⟨[.el (.sc (.bo (markedS xs b (Int.toNat i))))], none⟩ := by
  rw [e78]
  rw [Bool.and_eq_true, decide_eq_true_eq] at hg
  have hb := big_le hg.2
  obtain ⟨j, rfl⟩ : ∃ j : Nat, i = (j : Int) := ⟨i.toNat, by omega⟩
  have e4 : Int.toNat (j : Int) = j := by omega
  have w2 : IntKind.i64.wrap ((j : Int) + 1) = ((j + 1 : Nat) : Int) := wrapN (by omega) (by omega)
  rw [e4, w2]
  unfold markedS inner
  by_cases h1 : 1 ≤ j
  · by_cases h2 : j + 1 < xs.length
    · have w1 : IntKind.i64.wrap ((j : Int) - 1) = ((j - 1 : Nat) : Int) := wrapN (by omega) (by omega)
      have i1 : ¬ ((j : Int) < 1) := by omega
      have i2 : ¬ (((j + 1 : Nat) : Int) ≥ (xs.length : Int)) := by omega
      have ab : (0 : Int) ≤ ((j : Nat) : Int) ∧ ((j : Nat) : Int) < (xs.length : Int) := by omega
      have aq : xs[Int.toNat ((j : Nat) : Int)]? = some (xs.getD (j) 0) := getI (by omega)
      have ap : xs[j]? = some (xs.getD (j) 0) := getI2 (by omega)
      have bb : (0 : Int) ≤ ((j - 1 : Nat) : Int) ∧ ((j - 1 : Nat) : Int) < (xs.length : Int) := by omega
      have bq : xs[Int.toNat ((j - 1 : Nat) : Int)]? = some (xs.getD (j - 1) 0) := getI (by omega)
      have bp : xs[j - 1]? = some (xs.getD (j - 1) 0) := getI2 (by omega)
      have cb : (0 : Int) ≤ ((j + 1 : Nat) : Int) ∧ ((j + 1 : Nat) : Int) < (xs.length : Int) := by omega
      have cq : xs[Int.toNat ((j + 1 : Nat) : Int)]? = some (xs.getD (j + 1) 0) := getI (by omega)
      have cp : xs[j + 1]? = some (xs.getD (j + 1) 0) := getI2 (by omega)
      simp only [w1, i1, i2, h1, h2, ab, ap, bb, bq, cb, cq, and_self, decide_true, decide_false, Bool.and_true, Bool.true_and]
      cases fcmp .gtr .f32 (xs.getD (j + 1) 0) (xs.getD (j - 1) 0) <;> rfl
    · have i2 : (((j + 1 : Nat) : Int) ≥ (xs.length : Int)) := by omega
      have i1 : ¬ ((j : Int) < 1) := by omega
      simp only [i1, i2, h2, decide_true, decide_false, Bool.and_false, Bool.false_and]
  · have i1 : ((j : Int) < 1) := by omega
    simp only [i1, h1, decide_true, decide_false, Bool.false_and]
theorem c78 (xs : List Nat) (i : Int) (b : Nat) (k : List RV → R) (out : Out) (h : (match (decide (0 ≤ i ∧ i ≤ (xs.length : Int)) && Nat.ble xs.length big : Bool) with
  | true => k [.el (.sc (.bo (markedS xs b (Int.toNat i))))]
  | false => none) = some out) : ∃ rs, Real Try.prog 78 ∧ COK Try.prog 78 [.vw none ⟨.f32, xs⟩, .el (.sc (.int .i64 i)), .el (.sc (.fl .f32 b))] rs ∧ k rs = some out := by
  cases g0 : (decide (0 ≤ i ∧ i ≤ (xs.length : Int)) && Nat.ble xs.length big : Bool) with
  | true =>
    rw [g0] at h
    exact ⟨_, real Try.func78 (by kernel_rfl), fn_ok tok0 (A := none0) (L := noL) (r := none) Try.func78 (by kernel_rfl) (by kernel_rfl) (loops0 (by kernel_rfl)) (by rw [s78 _ _ _ g0]), h⟩
  | false =>
    rw [g0] at h
    cases h

/-! impl.IsFinite -/
theorem s80 (c : Nat) : runFn T0 none0 noL Try.f80 [.el (.sc (.fl .f32 c))] = some ⟨[.el (.sc (.bo (fin c)))], none⟩ := by kernel_rfl
theorem c80 (c : Nat) (k : List RV → R) (out : Out) (h : k [.el (.sc (.bo (fin c)))] = some out) : ∃ rs, Real Try.prog 80 ∧ COK Try.prog 80 [.el (.sc (.fl .f32 c))] rs ∧ k rs = some out := by
  exact ⟨_, real Try.func80 (by kernel_rfl), fn_ok tok0 (A := none0) (L := noL) (r := none) Try.func80 (by kernel_rfl) (by kernel_rfl) (loops0 (by kernel_rfl)) (by rw [s80]), h⟩

/-! spec.l06At -/
def a84 : Ann := ann [(3, [0, 1, 5, 6], [5])] [4] 0
def lp84 : St → (Ex → St → R) → R := fun s k => match s with
  | ⟨[(0, .fv (.vw (some 0) ⟨.f32, xs⟩)), (1, .fv (.el (.sc (.fl .f32 p)))), (5, .fv (.el (.sc (.fl .f32 x)))), (6, .fv (.el (.sc (.int .i64 i))))], []⟩ => (match (decide (i = (xs.length : Int) - 1) && Nat.ble xs.length big : Bool) with
    | true => k (.exit 0) ⟨[(5, .fv (.el (.sc (.fl .f32 (horner p x xs)))))], []⟩
    | false => none)
  | _ => none
def l84 : Loops := fun key s k => bif Nat.beq key 3 then lp84 s k else none
theorem st84 (xs : List Nat) (p : Nat) (x : Nat) (i : Int) (m : Nat) (k : Ex → St → R) : iterK a84 [0, 1, 5, 6] [5] (codeK T0 a84 l84 Try.f84.ntmps (loopAt Try.f84 0)) (m + 1) ⟨[(0, .fv (.vw (some 0) ⟨.f32, xs⟩)), (1, .fv (.el (.sc (.fl .f32 p)))), (5, .fv (.el (.sc (.fl .f32 x)))), (6, .fv (.el (.sc (.int .i64 i))))], []⟩ k = (match (decide ((i : Int) ≥ 0) : Bool) with
  | true => (match (decide (0 ≤ (i : Int) ∧ (i : Int) < (xs.length : Int)) && true : Bool) with
    | true => (match (xs : List Nat)[Int.toNat i]? with
      | some x1 => iterK a84 [0, 1, 5, 6] [5] (codeK T0 a84 l84 Try.f84.ntmps (loopAt Try.f84 0)) m ⟨[(0, .fv (.vw (some 0) ⟨.f32, xs⟩)), (1, .fv (.el (.sc (.fl .f32 p)))), (5, .fv (.el (.sc (.fl .f32 (fop .add .f32 (fop .mul .f32 x p) x1))))), (6, .fv (.el (.sc (.int .i64 (IntKind.i64.wrap (i - 1))))))], []⟩ k
      | none => none)
    | false => none)
  | false => k (.exit 0) ⟨[(5, .fv (.el (.sc (.fl .f32 x))))], []⟩) := by kernel_rfl
theorem ind84 (xs : List Nat) (p : Nat) (hx : Nat.ble xs.length big = true) (k : Ex → St → R) : ∀ (j : Nat) (x : Nat), j ≤ xs.length → iterK a84 [0, 1, 5, 6] [5] (codeK T0 a84 l84 Try.f84.ntmps (loopAt Try.f84 0)) (j + 1) ⟨[(0, .fv (.vw (some 0) ⟨.f32, xs⟩)), (1, .fv (.el (.sc (.fl .f32 p)))), (5, .fv (.el (.sc (.fl .f32 x)))), (6, .fv (.el (.sc (.int .i64 ((j : Int) - 1)))))], []⟩ k =
    k (.exit 0) ⟨[(5, .fv (.el (.sc (.fl .f32 (horner p x (xs.take j))))))], []⟩ := by
  intro j
  induction j with
  | zero =>
    intro x hj
    have h1 : ¬ (((0 : Nat) : Int) - 1 ≥ 0) := by omega
    rw [st84]
    simp [horner]
  | succ j ih =>
    intro x hj
    have hlt : j < xs.length := by omega
    have hxl := Nat.le_of_ble_eq_true hx
    unfold big at hxl
    have e1 : ((j + 1 : Nat) : Int) - 1 = (j : Int) := by omega
    rw [e1, st84]
    have h1 : ((j : Int) ≥ 0) := by omega
    have h2 : (0 : Int) ≤ (j : Int) ∧ (j : Int) < (xs.length : Int) := by omega
    have hw : IntKind.i64.wrap ((j : Int) - 1) = (j : Int) - 1 := wrap64 (by omega) (by omega)
    have h3 : xs[Int.toNat (j : Int)]? = some xs[j] := by simp [hlt]
    rw [hw]
    simp only [h1, h2, h3, and_self, decide_true, Bool.and_true]
    refine (ih _ (by omega)).trans ?_
    have h5 : horner p x (xs.take (j + 1)) = horner p (fop .add .f32 (fop .mul .f32 x p) xs[j]) (xs.take j) := by
      unfold horner
      rw [List.take_succ_eq_append_getElem hlt, List.foldr_append]
      rfl
    rw [h5]

theorem lk84 : LOK T0 a84 l84 Try.f84.ntmps (loopAt Try.f84 0) := by
  intro ins outs hA s k out h
  have hA' : ([0, 1, 5, 6], [5]) = (ins, outs) := Option.some.inj ((show a84.lp (firstRegion (loopAt Try.f84 0)) = some ([0, 1, 5, 6], [5]) by kernel_rfl).symm.trans hA)
  cases hA'
  have hk : firstRegion (loopAt Try.f84 0) = 3 := by kernel_rfl
  rw [hk] at h
  change lp84 s k = some out at h
  unfold lp84 at h
  split at h
  · rename_i xs p x i
    cases hg : (decide (i = (xs.length : Int) - 1) && Nat.ble xs.length big) with
    | false => rw [hg] at h; cases h
    | true =>
      rw [hg] at h
      simp only [Bool.and_eq_true, decide_eq_true_eq] at hg
      obtain ⟨rfl, hx⟩ := hg
      refine ⟨xs.length + 1, ?_⟩
      have hh := ind84 xs p hx k xs.length x (Nat.le_refl _)
      rw [List.take_length] at hh
      exact hh.trans h
  · cases h
theorem e84 (xs : List Nat) (p : Nat) : runFn T0 a84 l84 Try.f84 [.vw none ⟨.f32, xs⟩, .el (.sc (.fl .f32 p))] = (match (decide (IntKind.i64.wrap (((xs.length : Int)) - 1) = (xs.length : Int) - 1) && Nat.ble xs.length big : Bool) with
  | true => some ⟨[.el (.sc (.fl .f32 (horner p 0 xs)))], none⟩
  | false => none) := by kernel_rfl
theorem s84 (xs : List Nat) (p : Nat) : runFn T0 a84 l84 Try.f84 [.vw none ⟨.f32, xs⟩, .el (.sc (.fl .f32 p))] = (match (Nat.ble xs.length big : Bool) with
  | true => some ⟨[.el (.sc (.fl .f32 (horner p 0 xs)))], none⟩
  | false => none) := by
  rw [e84]
  cases h : Nat.ble xs.length big with
  | false => simp
  | true =>
    have hx := Nat.le_of_ble_eq_true h
    unfold big at hx
    have hw : IntKind.i64.wrap ((xs.length : Int) - 1) = (xs.length : Int) - 1 := wrap64 (by omega) (by omega)
    simp [hw]
theorem c84 (xs : List Nat) (p : Nat) (k : List RV → R) (out : Out) (h : (match (Nat.ble xs.length big : Bool) with
  | true => k [.el (.sc (.fl .f32 (horner p 0 xs)))]
  | false => none) = some out) : ∃ rs, Real Try.prog 84 ∧ COK Try.prog 84 [.vw none ⟨.f32, xs⟩, .el (.sc (.fl .f32 p))] rs ∧ k rs = some out := by
  cases g0 : (Nat.ble xs.length big : Bool) with
  | true =>
    rw [g0] at h
    exact ⟨_, real Try.func84 (by kernel_rfl), fn_ok tok0 (A := a84) (L := l84) (r := none) Try.func84 (by kernel_rfl) (by kernel_rfl) (loops1 (by kernel_rfl) lk84) (by rw [s84, g0]), h⟩
  | false =>
    rw [g0] at h
    cases h

/-! slices.Clone[[]float32,float32] -/
theorem e87 (xs : List Nat) : runFn T0 none0 noL Try.f87 [.vw none ⟨.f32, xs⟩] = (match (Nat.ble 1 (xs : List Nat).length : Bool) with
  | true => (match (Nat.beq 37 37 && decide (([] : List Nat).length + (xs : List Nat).length ≤ 1099511627776) : Bool) with
    | true => some ⟨[.fresh 37 ⟨.f32, ([] : List Nat) ++ xs⟩], none⟩
    | false => none)
  | false => none) := by kernel_rfl
theorem s87 (xs : List Nat) (hg : (Nat.ble 1 xs.length && Nat.ble xs.length big) = true) : runFn T0 none0 noL Try.f87 [.vw none ⟨.f32, xs⟩] = some ⟨[.fresh 37 ⟨.f32, xs⟩], none⟩ := by
  rw [e87]
  rw [Bool.and_eq_true] at hg
  have hx := big_le hg.2
  simp [hg.1, hx]
theorem c87 (xs : List Nat) (k : List RV → R) (out : Out) (h : (match (Nat.ble 1 xs.length && Nat.ble xs.length big : Bool) with
  | true => k [.fresh 37 ⟨.f32, xs⟩]
  | false => none) = some out) : ∃ rs, Real Try.prog 87 ∧ COK Try.prog 87 [.vw none ⟨.f32, xs⟩] rs ∧ k rs = some out := by
  cases g0 : (Nat.ble 1 xs.length && Nat.ble xs.length big : Bool) with
  | true =>
    rw [g0] at h
    exact ⟨_, real Try.func87 (by kernel_rfl), fn_ok tok0 (A := none0) (L := noL) (r := none) Try.func87 (by kernel_rfl) (by kernel_rfl) (loops0 (by kernel_rfl)) (by rw [s87 _ g0]), h⟩
  | false =>
    rw [g0] at h
    cases h

/-! impl.sum -/
def a93 : Ann := ann [(3, [3, 6, 7, 8], [3])] [2] 0
def lp93 : St → (Ex → St → R) → R := fun s k => match s with
  | ⟨[(3, .fv (.el (.sc (.fl .f32 a)))), (6, .fv (.vw (some 0) ⟨.f32, xs⟩)), (7, .fv (.el (.sc (.int .i64 n)))), (8, .fv (.el (.sc (.int .i64 i))))], []⟩ => (match ((decide (n = (xs.length : Int)) && (decide (i = 0) && Nat.ble xs.length big)) : Bool) with
    | true => k (.exit 0) ⟨[(3, .fv (.el (.sc (.fl .f32 (rep (fun j a => fop .add .f32 a (xs.getD j 0)) (xs.length) 0 (a : Nat))))))], []⟩
    | false => none)
  | _ => none
def l93 : Loops := fun key s k => bif Nat.beq key 3 then lp93 s k else none
theorem st93 (a : Nat) (xs : List Nat) (n : Int) (i : Int) (m : Nat) (k : Ex → St → R) : iterK a93 [3, 6, 7, 8] [3] (codeK T0 a93 l93 Try.f93.ntmps (loopAt Try.f93 0)) (m + 1) ⟨[(3, .fv (.el (.sc (.fl .f32 a)))), (6, .fv (.vw (some 0) ⟨.f32, xs⟩)), (7, .fv (.el (.sc (.int .i64 n)))), (8, .fv (.el (.sc (.int .i64 i))))], []⟩ k = (match (decide ((i : Int) < n) : Bool) with
  | true => (match (decide (0 ≤ (i : Int) ∧ (i : Int) < (xs.length : Int)) && true : Bool) with
    | true => (match (xs : List Nat)[Int.toNat i]? with
      | some x1 => iterK a93 [3, 6, 7, 8] [3] (codeK T0 a93 l93 Try.f93.ntmps (loopAt Try.f93 0)) m ⟨[(3, .fv (.el (.sc (.fl .f32 (fop .add .f32 a x1))))), (6, .fv (.vw (some 0) ⟨.f32, xs⟩)), (7, .fv (.el (.sc (.int .i64 n)))), (8, .fv (.el (.sc (.int .i64 (IntKind.i64.wrap (i + 1))))))], []⟩ k
      | none => none)
    | false => none)
  | false => k (.exit 0) ⟨[(3, .fv (.el (.sc (.fl .f32 a))))], []⟩) := by kernel_rfl
theorem ind93 (xs : List Nat) (hx : (Nat.ble xs.length big) = true) (k : Ex → St → R) : ∀ (m j : Nat) (a : Nat), 0 ≤ j → j + m = xs.length → iterK a93 [3, 6, 7, 8] [3] (codeK T0 a93 l93 Try.f93.ntmps (loopAt Try.f93 0)) (m + 1) ⟨[(3, .fv (.el (.sc (.fl .f32 a)))), (6, .fv (.vw (some 0) ⟨.f32, xs⟩)), (7, .fv (.el (.sc (.int .i64 (xs.length : Int))))), (8, .fv (.el (.sc (.int .i64 (j : Int)))))], []⟩ k =
    k (.exit 0) ⟨[(3, .fv (.el (.sc (.fl .f32 (rep (fun j a => fop .add .f32 a (xs.getD j 0)) m j (a : Nat))))))], []⟩ := by
  intro m
  induction m with
  | zero =>
    intro j a hlo hj
    have hx_ := big_le hx
    have h1 : ¬ (((j : Int) < (xs.length : Int))) := by omega
    rw [st93]
    simp only [h1, rep, decide_false] <;> rfl
  | succ m ih =>
    intro j a hlo hj
    have hx_ := big_le hx
    have h1 : ((j : Int) < (xs.length : Int)) := by omega
    have xb : (0 : Int) ≤ ((j : Nat) : Int) ∧ ((j : Nat) : Int) < (xs.length : Int) := by omega
    have xq : xs[Int.toNat ((j : Nat) : Int)]? = some (xs.getD (j) 0) := getI (by omega)
    have xp : xs[j]? = some (xs.getD (j) 0) := getI2 (by omega)
    have wn : IntKind.i64.wrap ((j : Int) + 1) = ((j + 1 : Nat) : Int) := wrapN (by omega) (by omega)
    rw [st93]
    simp only [h1, wn, xb, xq, xp, and_self, decide_true, Bool.and_true, Int.le_refl]
    exact ih (j + 1) _ (by omega) (by omega)

theorem lk93 : LOK T0 a93 l93 Try.f93.ntmps (loopAt Try.f93 0) := by
  intro ins outs hA s k out h
  have hA' : ([3, 6, 7, 8], [3]) = (ins, outs) := Option.some.inj ((show a93.lp (firstRegion (loopAt Try.f93 0)) = some ([3, 6, 7, 8], [3]) by kernel_rfl).symm.trans hA)
  cases hA'
  have hk : firstRegion (loopAt Try.f93 0) = 3 := by kernel_rfl
  rw [hk] at h
  change lp93 s k = some out at h
  unfold lp93 at h
  split at h
  · rename_i a xs n i
    cases hg : (decide (n = (xs.length : Int)) && (decide (i = 0) && Nat.ble xs.length big)) with
    | false => rw [hg] at h; cases h
    | true =>
      rw [hg] at h
      simp only [Bool.and_eq_true, decide_eq_true_eq] at hg
      obtain ⟨rfl, rfl, hx⟩ := hg
      refine ⟨(xs.length) + 1, ?_⟩
      have hx_ := big_le hx
      exact (ind93 xs hx k (xs.length) 0 a (by omega) (by omega)).trans h
  · cases h
theorem e93 (xs : List Nat) : runFn T0 a93 l93 Try.f93 [.vw none ⟨.f32, xs⟩] = (match ((decide (((xs.length : Int)) = (xs.length : Int)) && (decide (0 = 0) && Nat.ble xs.length big)) : Bool) with
  | true => some ⟨[.el (.sc (.fl .f32 (rep (fun j a => fop .add .f32 a (xs.getD j 0)) (xs.length) 0 (0 : Nat))))], none⟩
  | false => none) := by kernel_rfl
theorem s93 (xs : List Nat) : runFn T0 a93 l93 Try.f93 [.vw none ⟨.f32, xs⟩] = (match (Nat.ble xs.length big : Bool) with
  | true => some ⟨[.el (.sc (.fl .f32 (sumF xs)))], none⟩
  | false => none) := by
  rw [e93]
  cases h : Nat.ble xs.length big with
  | false => simp
  | true =>
    have e := rep_list 0 (fop .add .f32) xs xs.length 0 0 (by omega)
    rw [List.drop_zero] at e
    simp [-List.getD_eq_getElem?_getD, e, sumF]
theorem c93 (xs : List Nat) (k : List RV → R) (out : Out) (h : (match (Nat.ble xs.length big : Bool) with
  | true => k [.el (.sc (.fl .f32 (sumF xs)))]
  | false => none) = some out) : ∃ rs, Real Try.prog 93 ∧ COK Try.prog 93 [.vw none ⟨.f32, xs⟩] rs ∧ k rs = some out := by
  cases g0 : (Nat.ble xs.length big : Bool) with
  | true =>
    rw [g0] at h
    exact ⟨_, real Try.func93 (by kernel_rfl), fn_ok tok0 (A := a93) (L := l93) (r := none) Try.func93 (by kernel_rfl) (by kernel_rfl) (loops1 (by kernel_rfl) lk93) (by rw [s93, g0]), h⟩
  | false =>
    rw [g0] at h
    cases h

def S1 : SFn := fun f args k => match f, args with
  | 16, [.vw none ⟨.f32, xs⟩] => (match (Nat.ble xs.length big : Bool) with
    | true => k [.fresh 37 ⟨.f32, xs⟩]
    | false => none)
  | 20, [.vw none ⟨.f32, xs⟩, .el (.sc (.int .i64 n))] => (match (decide (0 ≤ n ∧ n ≤ 1099511627776) && Nat.ble xs.length big : Bool) with
    | true => k [.el (.sc (.int .i64 (heldN (heldF n xs) (n + (xs.length : Int)))))]
    | false => none)
  | 30, [.el (.sc (.fl .f64 a)), .el (.sc (.fl .f64 b))] => k [.el (.sc (.bo (sameF a b)))]
  | 37, [.vw none ⟨.i64, xs⟩, .vw none ⟨.i64, ys⟩] => (match (Nat.beq xs.length ys.length : Bool) with
    | true => (match (Nat.ble xs.length big : Bool) with
      | true => k [.el (.sc (.bo (all2 sameI xs ys)))]
      | false => none)
    | false => k [.el (.sc (.bo false))])
  | 39, [.vw none ⟨.i64, xs⟩, .el (.sc (.int .i64 n))] => (match (decide (0 ≤ n ∧ n ≤ 1099511627776) && Nat.ble xs.length big : Bool) with
    | true => k [.el (.sc (.int .i64 (heldN (heldI n xs) (n + (xs.length : Int)))))]
    | false => none)
  | 51, [.el (.sc (.int .i64 n)), .el (.sc (.int .i64 a)), .el (.sc (.int .i64 b))] => k [.el (.sc (.bo (within n a b)))]
  | 53, [.el (.sc (.int .i64 n)), .el (.sc (.int .i64 a)), .el (.sc (.int .i64 b))] => k [.el (.sc (.bo (within n a b)))]
  | 55, [.vw none ⟨.f32, xs⟩, .el (.sc (.int .i64 i))] => (match (decide (1 ≤ i ∧ i + 1 < (xs.length : Int)) && Nat.ble xs.length big : Bool) with
    | true => k [.el (.sc (.fl .f32 (bendAt xs (Int.toNat i))))]
    | false => none)
  | 56, [.el (.sc (.fl .f32 c))] => k [.el (.sc (.bo (fin c)))]
  | 68, [.vw none ⟨.f32, xs⟩] => (match (Nat.ble xs.length big : Bool) with
    | true => k [.el (.sc (.fl .f32 (sumF xs)))]
    | false => none)
  | 78, [.vw none ⟨.f32, xs⟩, .el (.sc (.int .i64 i)), .el (.sc (.fl .f32 b))] => (match (decide (0 ≤ i ∧ i ≤ (xs.length : Int)) && Nat.ble xs.length big : Bool) with
    | true => k [.el (.sc (.bo (markedS xs b (Int.toNat i))))]
    | false => none)
  | 80, [.el (.sc (.fl .f32 c))] => k [.el (.sc (.bo (fin c)))]
  | 84, [.vw none ⟨.f32, xs⟩, .el (.sc (.fl .f32 p))] => (match (Nat.ble xs.length big : Bool) with
    | true => k [.el (.sc (.fl .f32 (horner p 0 xs)))]
    | false => none)
  | 87, [.vw none ⟨.f32, xs⟩] => (match (Nat.ble 1 xs.length && Nat.ble xs.length big : Bool) with
    | true => k [.fresh 37 ⟨.f32, xs⟩]
    | false => none)
  | 93, [.vw none ⟨.f32, xs⟩] => (match (Nat.ble xs.length big : Bool) with
    | true => k [.el (.sc (.fl .f32 (sumF xs)))]
    | false => none)
  | _, _ => S0 f args k
def M1 : MFn := fun f vec args k => match f, vec, args with
  | 19, ⟨.f32, xs⟩, [.el (.sc (.int .i64 n))] => (match (decide (0 ≤ n ∧ n ≤ 1099511627776) && Nat.ble xs.length big : Bool) with
    | true => k [.el (.sc (.int .i64 (n + (xs.length : Int))))] ⟨.f32, marks n xs.length⟩
    | false => none)
  | 38, ⟨.i64, xs⟩, [.el (.sc (.int .i64 n))] => (match (decide (0 ≤ n ∧ n ≤ 1099511627776) && Nat.ble xs.length big : Bool) with
    | true => k [.el (.sc (.int .i64 (n + (xs.length : Int))))] ⟨.i64, marksI n xs.length⟩
    | false => none)
  | _, _, _ => M0 f vec args k
def T1 : TT := tab.T S1 muts M1
theorem tok1 : TOK Try.prog T1 := by
  refine (tab_ok tabok).tok (fun f args k out h => ?_) (fun f vec args k out h => ?_)
  · change S1 f args k = some out at h
    unfold S1 at h
    split at h
    · exact c16 _ k out h
    · exact c20 _ _ k out h
    · exact c30 _ _ k out h
    · exact c37 _ _ k out h
    · exact c39 _ _ k out h
    · exact c51 _ _ _ k out h
    · exact c53 _ _ _ k out h
    · exact c55 _ _ k out h
    · exact c56 _ k out h
    · exact c68 _ k out h
    · exact c78 _ _ _ k out h
    · exact c80 _ k out h
    · exact c84 _ _ k out h
    · exact c87 _ k out h
    · exact c93 _ k out h
    · exact tok0.S f args k out h
  · change M1 f vec args k = some out at h
    unfold M1 at h
    split at h
    · exact c19 _ _ k out h
    · exact c38 _ _ k out h
    · exact tok0.M f vec args k out h

end Go.Sm.Ytdnfgoolapikmaa
