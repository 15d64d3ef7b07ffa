/- What the functions hand back: level 0. -/
import Derived.Test.YticbjjedljddgaaD0
namespace Go.Sm.Yticbjjedljddgaa
open Go Go.Sm Go.RowKit Go.Proofs

/-! laws.toFloat32S -/
def a5 : Ann := ann [(3, [0, 3, 4], [3])] [2] 0
def lp5 : St → (Ex → St → R) → R := fun s k => match s with
  | ⟨[(0, .fv (.vw (some 0) ⟨.f32, xs⟩)), (3, .fv (.own 0)), (4, .fv (.el (.sc (.int .i64 i))))], [some ⟨e0, ⟨.f32, ys⟩⟩]⟩ => (match (decide (i = 0) && (Nat.beq (ys : List Nat).length xs.length && Nat.ble xs.length big) : Bool) with | true => k (.exit 0) ⟨[(3, .fv (.own 0))], [some ⟨e0, ⟨.f32, xs⟩⟩]⟩ | false => none)
  | _ => none
def l5 : Loops := fun key s k => bif Nat.beq key 3 then lp5 s k else none
theorem st5 (xs : List Nat) (i : Int) (ys : List Nat) (e0 : Nat) (m : Nat) (k : Ex → St → R) : iterK a5 [0, 3, 4] [3] (codeK T0 a5 l5 Try.f5.ntmps (loopAt Try.f5 0)) (m + 1) ⟨[(0, .fv (.vw (some 0) ⟨.f32, xs⟩)), (3, .fv (.own 0)), (4, .fv (.el (.sc (.int .i64 i))))], [some ⟨e0, ⟨.f32, ys⟩⟩]⟩ k = (match (decide ((i : Int) < (xs.length : Int)) : Bool) with | true => (match (decide (0 ≤ (i : Int) ∧ (i : Int) < (xs.length : Int)) && true : Bool) with | true => (match (xs : List Nat)[Int.toNat i]? with | some x1 => (match (decide (0 ≤ (i : Int) ∧ (i : Int) < (ys.length : Int)) && true : Bool) with | true => (match (ys : List Nat)[Int.toNat i]? with | some x2 => iterK a5 [0, 3, 4] [3] (codeK T0 a5 l5 Try.f5.ntmps (loopAt Try.f5 0)) m ⟨[(0, .fv (.vw (some 0) ⟨.f32, xs⟩)), (3, .fv (.own 0)), (4, .fv (.el (.sc (.int .i64 (IntKind.i64.wrap (i + 1))))))], [some ⟨e0, ⟨.f32, (ys : List Nat).set (Int.toNat i) x1⟩⟩]⟩ k | none => none) | false => none) | none => none) | false => none) | false => k (.exit 0) ⟨[(3, .fv (.own 0))], [some ⟨e0, ⟨.f32, ys⟩⟩]⟩) := by kernel_rfl
theorem ind5 (xs : List Nat) (hx : Nat.ble xs.length big = true) (e0 : Nat) (k : Ex → St → R) : ∀ (m j : Nat) (ys : List Nat), ys.length = xs.length → j + m = xs.length → iterK a5 [0, 3, 4] [3] (codeK T0 a5 l5 Try.f5.ntmps (loopAt Try.f5 0)) (m + 1) ⟨[(0, .fv (.vw (some 0) ⟨.f32, xs⟩)), (3, .fv (.own 0)), (4, .fv (.el (.sc (.int .i64 (j : Int)))))], [some ⟨e0, ⟨.f32, ys⟩⟩]⟩ k =
    k (.exit 0) ⟨[(3, .fv (.own 0))], [some ⟨e0, ⟨.f32, ys.take j ++ xs.drop j⟩⟩]⟩ := by
  intro m
  induction m with
  | zero =>
    intro j ys hl hj
    have h1 : ¬ ((j : Int) < (xs.length : Int)) := by omega
    rw [st5, List.drop_of_length_le (show xs.length ≤ j by omega), List.take_of_length_le (show ys.length ≤ j by omega)]
    simp [h1]
  | succ m ih =>
    intro j ys hl hj
    have hlt : j < xs.length := by omega
    have hlt2 : j < ys.length := by omega
    have h1 : ((j : Int) < (xs.length : Int)) := by omega
    have h12 : ((j : Int) < (ys.length : Int)) := by omega
    have h2 : (0 : Int) ≤ (j : Int) := by omega
    rw [st5, wrap_succ hlt hx]
    have h3 : xs[Int.toNat (j : Int)]? = some xs[j] := by simp [hlt]
    have h4 : ys[Int.toNat (j : Int)]? = some ys[j] := by simp [hlt2]
    simp only [h1, h12, h2, h3, h4, and_self, decide_true, Bool.and_true]
    refine (ih (j + 1) (ys.set (Int.toNat (j : Int)) xs[j]) (by simpa using hl) (by omega)).trans ?_
    have h5 : (ys.set (Int.toNat (j : Int)) xs[j]).take (j + 1) ++ xs.drop (j + 1) = ys.take j ++ xs.drop j := by
      rw [List.drop_eq_getElem_cons hlt]
      exact set_take hlt2 _ _
    rw [h5]

theorem lk5 : LOK T0 a5 l5 Try.f5.ntmps (loopAt Try.f5 0) := by
  intro ins outs hA s k out h
  have hA' : ([0, 3, 4], [3]) = (ins, outs) := Option.some.inj ((show a5.lp (firstRegion (loopAt Try.f5 0)) = some ([0, 3, 4], [3]) by kernel_rfl).symm.trans hA)
  cases hA'
  have hk : firstRegion (loopAt Try.f5 0) = 3 := by kernel_rfl
  rw [hk] at h
  change lp5 s k = some out at h
  unfold lp5 at h
  split at h
  · rename_i xs i e0 ys
    cases hg : (decide (i = 0) && (Nat.beq ys.length xs.length && Nat.ble xs.length big)) with
    | false => rw [hg] at h; cases h
    | true =>
      rw [hg] at h
      simp only [Bool.and_eq_true, decide_eq_true_eq] at hg
      obtain ⟨rfl, hl, hx⟩ := hg
      refine ⟨xs.length + 1, ?_⟩
      have hh := ind5 xs hx e0 k xs.length 0 ys (Nat.eq_of_beq_eq_true hl) (by omega)
      simp only [List.take_zero, List.nil_append, List.drop_zero] at hh
      exact hh.trans h
  · cases h
theorem e5 (xs : List Nat) : runFn T0 a5 l5 Try.f5 [.vw none ⟨.f32, xs⟩] = (match (decide (0 ≤ ((xs.length : Int) : Int) ∧ ((xs.length : Int) : Int) = (xs.length : Int) ∧ ((xs.length : Int) : Int) ≤ 1099511627776) : Bool) with | true => (match (decide (0 = 0) && (Nat.beq (List.replicate (Int.toNat ((xs.length : Int))) ((0 : Nat)) : List Nat).length xs.length && Nat.ble xs.length big) : Bool) with | true => some ⟨[.fresh 23 ⟨.f32, xs⟩], none⟩ | false => none) | false => none) := by kernel_rfl
theorem s5 (xs : List Nat) : runFn T0 a5 l5 Try.f5 [.vw none ⟨.f32, xs⟩] = (match (Nat.ble xs.length big : Bool) with | true => some ⟨[.fresh 23 ⟨.f32, xs⟩], none⟩ | false => none) := by
  rw [e5]
  cases h : Nat.ble xs.length big with
  | false => cases hd : decide ((xs.length : Int) ≤ 1099511627776) <;> simp [hd]
  | true =>
    have hx := Nat.le_of_ble_eq_true h
    unfold big at hx
    have h2 : ((xs.length : Int) ≤ 1099511627776) := by omega
    simp [h2]
theorem c5 (xs : List Nat) (k : List RV → R) (out : Out) (h : (match (Nat.ble xs.length big : Bool) with | true => k [.fresh 23 ⟨.f32, xs⟩] | false => none) = some out) : ∃ rs, Real Try.prog 5 ∧ COK Try.prog 5 [.vw none ⟨.f32, xs⟩] rs ∧ k rs = some out := by
  cases g0 : (Nat.ble xs.length big : Bool) with
  | true =>
    rw [g0] at h
    exact ⟨_, real Try.func5 (by kernel_rfl), fn_ok tok0 (A := a5) (L := l5) (r := none) Try.func5 (by kernel_rfl) (by kernel_rfl) (loops1 (by kernel_rfl) lk5) (by rw [s5, g0]), h⟩
  | false =>
    rw [g0] at h
    cases h

/-! laws.eqInt64S -/
def a7 : Ann := ann [(4, [0, 1, 5], [])] [4] 0
def lp7 : St → (Ex → St → R) → R := fun s k => match s with
  | ⟨[(0, .fv (.vw (some 0) ⟨.i64, xs⟩)), (1, .fv (.vw (some 1) ⟨.i64, ys⟩)), (5, .fv (.el (.sc (.int .i64 i))))], []⟩ => (match (decide (i = 0) && (Nat.beq xs.length ys.length && Nat.ble xs.length big) : Bool) with | true => (match (all2 sameI xs ys : Bool) with | true => k (.exit 0) ⟨[], []⟩ | false => k .ret ⟨[(4, .fv (.el (.sc (.bo false))))], []⟩) | false => none)
  | _ => none
def l7 : Loops := fun key s k => bif Nat.beq key 4 then lp7 s k else none
theorem st7 (xs : List Int) (ys : List Int) (i : Int) (m : Nat) (k : Ex → St → R) : iterK a7 [0, 1, 5] [] (codeK T0 a7 l7 Try.f7.ntmps (loopAt Try.f7 0)) (m + 1) ⟨[(0, .fv (.vw (some 0) ⟨.i64, xs⟩)), (1, .fv (.vw (some 1) ⟨.i64, ys⟩)), (5, .fv (.el (.sc (.int .i64 i))))], []⟩ k = (match (decide ((i : Int) < (xs.length : Int)) : Bool) with | true => (match (decide (0 ≤ (i : Int) ∧ (i : Int) < (xs.length : Int)) && true : Bool) with | true => (match (xs : List Int)[Int.toNat i]? with | some x1 => (match (decide (0 ≤ (i : Int) ∧ (i : Int) < (ys.length : Int)) && true : Bool) with | true => (match (ys : List Int)[Int.toNat i]? with | some x2 => (match (!((x1 : Int) == x2) : Bool) with | true => k .ret ⟨[(4, .fv (.el (.sc (.bo false))))], []⟩ | false => iterK a7 [0, 1, 5] [] (codeK T0 a7 l7 Try.f7.ntmps (loopAt Try.f7 0)) m ⟨[(0, .fv (.vw (some 0) ⟨.i64, xs⟩)), (1, .fv (.vw (some 1) ⟨.i64, ys⟩)), (5, .fv (.el (.sc (.int .i64 (IntKind.i64.wrap (i + 1))))))], []⟩ k) | none => none) | false => none) | none => none) | false => none) | false => k (.exit 0) ⟨[], []⟩) := by kernel_rfl
theorem ind7 (xs ys : List Int) (hl : xs.length = ys.length) (hx : Nat.ble xs.length big = true) (k : Ex → St → R) : ∀ (m j : Nat), j + m = xs.length → iterK a7 [0, 1, 5] [] (codeK T0 a7 l7 Try.f7.ntmps (loopAt Try.f7 0)) (m + 1) ⟨[(0, .fv (.vw (some 0) ⟨.i64, xs⟩)), (1, .fv (.vw (some 1) ⟨.i64, ys⟩)), (5, .fv (.el (.sc (.int .i64 (j : Int)))))], []⟩ k =
    (match all2 sameI (xs.drop j) (ys.drop j) with
    | true => k (.exit 0) ⟨[], []⟩
    | false => k .ret ⟨[(4, .fv (.el (.sc (.bo false))))], []⟩) := by
  intro m
  induction m with
  | zero =>
    intro j hj
    have h1 : ¬ ((j : Int) < (xs.length : Int)) := by omega
    rw [st7, List.drop_of_length_le (by omega)]
    simp [h1, all2]
  | succ m ih =>
    intro j hj
    have hlt : j < xs.length := by omega
    have hlt2 : j < ys.length := by omega
    have h1 : ((j : Int) < (xs.length : Int)) := by omega
    have h12 : ((j : Int) < (ys.length : Int)) := by omega
    have h2 : (0 : Int) ≤ (j : Int) := by omega
    rw [st7, wrap_succ hlt hx]
    have h3 : xs[Int.toNat (j : Int)]? = some xs[j] := by simp [hlt]
    have h4 : ys[Int.toNat (j : Int)]? = some ys[j] := by simp [hlt2]
    rw [List.drop_eq_getElem_cons hlt, List.drop_eq_getElem_cons hlt2, ih (j + 1) (by omega)]
    simp only [h1, h12, h2, h3, h4, and_self, decide_true, Bool.and_true, all2]
    unfold sameI
    cases hp : (xs[j] == ys[j]) <;> simp_all

theorem lk7 : LOK T0 a7 l7 Try.f7.ntmps (loopAt Try.f7 0) := by
  intro ins outs hA s k out h
  have hA' : ([0, 1, 5], []) = (ins, outs) := Option.some.inj ((show a7.lp (firstRegion (loopAt Try.f7 0)) = some ([0, 1, 5], []) by kernel_rfl).symm.trans hA)
  cases hA'
  have hk : firstRegion (loopAt Try.f7 0) = 4 := by kernel_rfl
  rw [hk] at h
  change lp7 s k = some out at h
  unfold lp7 at h
  split at h
  · rename_i xs ys i
    cases hg : (decide (i = 0) && (Nat.beq xs.length ys.length && Nat.ble xs.length big)) with
    | false => rw [hg] at h; cases h
    | true =>
      rw [hg] at h
      simp only [Bool.and_eq_true, decide_eq_true_eq] at hg
      obtain ⟨rfl, hl, hx⟩ := hg
      refine ⟨xs.length + 1, ?_⟩
      exact (ind7 xs ys (Nat.eq_of_beq_eq_true hl) hx k xs.length 0 (by omega)).trans h
  · cases h
theorem e7 (xs : List Int) (ys : List Int) : runFn T0 a7 l7 Try.f7 [.vw none ⟨.i64, xs⟩, .vw none ⟨.i64, ys⟩] = (match (!(((xs.length : Int) : Int) == (ys.length : Int)) : Bool) with | true => some ⟨[.el (.sc (.bo false))], none⟩ | false => (match (decide (0 = 0) && (Nat.beq xs.length ys.length && Nat.ble xs.length big) : Bool) with | true => (match (all2 sameI xs ys : Bool) with | true => some ⟨[.el (.sc (.bo true))], none⟩ | false => some ⟨[.el (.sc (.bo false))], none⟩) | false => none)) := by kernel_rfl
theorem s7 (xs : List Int) (ys : List Int) : runFn T0 a7 l7 Try.f7 [.vw none ⟨.i64, xs⟩, .vw none ⟨.i64, ys⟩] = (match (Nat.beq xs.length ys.length : Bool) with | true => (match (Nat.ble xs.length big : Bool) with | true => some ⟨[.el (.sc (.bo (all2 sameI xs ys)))], none⟩ | false => none) | false => some ⟨[.el (.sc (.bo false))], none⟩) := by
  rw [e7]
  cases hl : Nat.beq xs.length ys.length with
  | false =>
    have h1 : xs.length ≠ ys.length := fun e => by rw [e, Nat.beq_refl] at hl; cases hl
    have h2 : ((xs.length : Int) == (ys.length : Int)) = false := beq_false_of_ne (by omega)
    simp only [h2, Bool.not_false]
  | true =>
    have h1 := Nat.eq_of_beq_eq_true hl
    have h2 : ((xs.length : Int) == (ys.length : Int)) = true := beq_iff_eq.2 (by omega)
    simp only [h2, Bool.not_true]
    cases h : Nat.ble xs.length big with
    | false => simp
    | true => cases h3 : all2 sameI xs ys <;> simp
theorem c7 (xs : List Int) (ys : List Int) (k : List RV → R) (out : Out) (h : (match (Nat.beq xs.length ys.length : Bool) with | true => (match (Nat.ble xs.length big : Bool) with | true => k [.el (.sc (.bo (all2 sameI xs ys)))] | false => none) | false => k [.el (.sc (.bo false))]) = some out) : ∃ rs, Real Try.prog 7 ∧ COK Try.prog 7 [.vw none ⟨.i64, xs⟩, .vw none ⟨.i64, ys⟩] rs ∧ k rs = some out := by
  cases g0 : (Nat.beq xs.length ys.length : Bool) with
  | true =>
    rw [g0] at h
    cases g1 : (Nat.ble xs.length big : Bool) with
    | true =>
      rw [g1] at h
      exact ⟨_, real Try.func7 (by kernel_rfl), fn_ok tok0 (A := a7) (L := l7) (r := none) Try.func7 (by kernel_rfl) (by kernel_rfl) (loops1 (by kernel_rfl) lk7) (by rw [s7, g0, g1]), h⟩
    | false =>
      rw [g1] at h
      cases h
  | false =>
    rw [g0] at h
    exact ⟨_, real Try.func7 (by kernel_rfl), fn_ok tok0 (A := a7) (L := l7) (r := none) Try.func7 (by kernel_rfl) (by kernel_rfl) (loops1 (by kernel_rfl) lk7) (by rw [s7, g0]), h⟩

/-! laws.markFloat32S -/
def a9 : Ann := ann [(2, [0, 1, 5], [0, 1])] [0, 4] 1
def lp9 : St → (Ex → St → R) → R := fun s k => match s with
  | ⟨[(0, .fv (.own 0)), (1, .fv (.el (.sc (.int .i64 n)))), (5, .fv (.el (.sc (.int .i64 i))))], [some ⟨e0, ⟨.f32, ys⟩⟩]⟩ => (match (decide (i = 0) && (decide (0 ≤ n ∧ n ≤ 1099511627776) && Nat.ble (ys : List Nat).length big) : Bool) with | true => k (.exit 0) ⟨[(0, .fv (.own 0)), (1, .fv (.el (.sc (.int .i64 (n + ((ys : List Nat).length : Int))))))], [some ⟨e0, ⟨.f32, marks n (ys : List Nat).length⟩⟩]⟩ | false => none)
  | _ => none
def l9 : Loops := fun key s k => bif Nat.beq key 2 then lp9 s k else none
theorem st9 (n : Int) (i : Int) (ys : List Nat) (e0 : Nat) (m : Nat) (k : Ex → St → R) : iterK a9 [0, 1, 5] [0, 1] (codeK T0 a9 l9 Try.f9.ntmps (loopAt Try.f9 0)) (m + 1) ⟨[(0, .fv (.own 0)), (1, .fv (.el (.sc (.int .i64 n)))), (5, .fv (.el (.sc (.int .i64 i))))], [some ⟨e0, ⟨.f32, ys⟩⟩]⟩ k = (match (decide ((i : Int) < (ys.length : Int)) : Bool) with | true => (match (decide (0 ≤ (i : Int) ∧ (i : Int) < (ys.length : Int)) && true : Bool) with | true => (match (ys : List Nat)[Int.toNat i]? with | some x1 => iterK a9 [0, 1, 5] [0, 1] (codeK T0 a9 l9 Try.f9.ntmps (loopAt Try.f9 0)) m ⟨[(0, .fv (.own 0)), (1, .fv (.el (.sc (.int .i64 (IntKind.i64.wrap (n + 1)))))), (5, .fv (.el (.sc (.int .i64 (IntKind.i64.wrap (i + 1))))))], [some ⟨e0, ⟨.f32, (ys : List Nat).set (Int.toNat i) (fint .f32 n)⟩⟩]⟩ k | none => none) | false => none) | false => k (.exit 0) ⟨[(0, .fv (.own 0)), (1, .fv (.el (.sc (.int .i64 n))))], [some ⟨e0, ⟨.f32, ys⟩⟩]⟩) := by kernel_rfl
theorem ind9 (e0 : Nat) (k : Ex → St → R) : ∀ (m j : Nat) (ys : List Nat) (n : Int), Nat.ble ys.length big = true → 0 ≤ n → n + m ≤ 2199023255552 → j + m = ys.length → iterK a9 [0, 1, 5] [0, 1] (codeK T0 a9 l9 Try.f9.ntmps (loopAt Try.f9 0)) (m + 1) ⟨[(0, .fv (.own 0)), (1, .fv (.el (.sc (.int .i64 n)))), (5, .fv (.el (.sc (.int .i64 (j : Int)))))], [some ⟨e0, ⟨.f32, ys⟩⟩]⟩ k =
    k (.exit 0) ⟨[(0, .fv (.own 0)), (1, .fv (.el (.sc (.int .i64 (n + (m : Int))))))], [some ⟨e0, ⟨.f32, ys.take j ++ marks n m⟩⟩]⟩ := by
  intro m
  induction m with
  | zero =>
    intro j ys n hb h0 hn hj
    have h1 : ¬ ((j : Int) < (ys.length : Int)) := by omega
    rw [st9, List.take_of_length_le (show ys.length ≤ j by omega)]
    simp [h1, marks]
  | succ m ih =>
    intro j ys n hb h0 hn hj
    have hlt : j < ys.length := by omega
    have h1 : ((j : Int) < (ys.length : Int)) := by omega
    have h2 : (0 : Int) ≤ (j : Int) := by omega
    have hw : IntKind.i64.wrap (n + 1) = n + 1 := wrap64 (by omega) (by omega)
    have hw2 : IntKind.i64.wrap n = n := wrap64 (by omega) (by omega)
    rw [st9, wrap_succ hlt hb, hw]
    have h4 : ys[Int.toNat (j : Int)]? = some ys[j] := by simp [hlt]
    try rw [hw2]
    simp only [h1, h2, h4, and_self, decide_true, Bool.and_true]
    refine (ih (j + 1) (ys.set (Int.toNat (j : Int)) (fint .f32 n)) (n + 1) (by simpa using hb) (by omega) (by omega) (by simp; omega)).trans ?_
    have h5 : (ys.set (Int.toNat (j : Int)) (fint .f32 n)).take (j + 1) ++ marks (n + 1) m = ys.take j ++ marks n (m + 1) := set_take hlt _ _
    have h6 : n + 1 + (m : Int) = n + ((m + 1 : Nat) : Int) := by omega
    rw [h5, h6]

theorem lk9 : LOK T0 a9 l9 Try.f9.ntmps (loopAt Try.f9 0) := by
  intro ins outs hA s k out h
  have hA' : ([0, 1, 5], [0, 1]) = (ins, outs) := Option.some.inj ((show a9.lp (firstRegion (loopAt Try.f9 0)) = some ([0, 1, 5], [0, 1]) by kernel_rfl).symm.trans hA)
  cases hA'
  have hk : firstRegion (loopAt Try.f9 0) = 2 := by kernel_rfl
  rw [hk] at h
  change lp9 s k = some out at h
  unfold lp9 at h
  split at h
  · rename_i n i e0 ys
    cases hg : (decide (i = 0) && (decide (0 ≤ n ∧ n ≤ 1099511627776) && Nat.ble ys.length big)) with
    | false => rw [hg] at h; cases h
    | true =>
      rw [hg] at h
      simp only [Bool.and_eq_true, decide_eq_true_eq] at hg
      obtain ⟨rfl, ⟨hn0, hn1⟩, hx⟩ := hg
      refine ⟨ys.length + 1, ?_⟩
      have hxl := Nat.le_of_ble_eq_true hx
      unfold big at hxl
      have hh := ind9 e0 k ys.length 0 ys n hx hn0 (by omega) (by omega)
      simp only [List.take_zero, List.nil_append] at hh
      exact hh.trans h
  · cases h
theorem e9 (e : Nat) (xs : List Nat) (n : Int) : runMn T0 a9 l9 Try.f9 e ⟨.f32, xs⟩ [.el (.sc (.int .i64 n))] = (match (decide (0 = 0) && (decide (0 ≤ n ∧ n ≤ 1099511627776) && Nat.ble (xs : List Nat).length big) : Bool) with | true => some ⟨[.el (.sc (.int .i64 (n + ((xs : List Nat).length : Int))))], some ⟨e, ⟨.f32, marks n (xs : List Nat).length⟩⟩⟩ | false => none) := by kernel_rfl
theorem s9 (e : Nat) (xs : List Nat) (n : Int) : runMn T0 a9 l9 Try.f9 e ⟨.f32, xs⟩ [.el (.sc (.int .i64 n))] = (match (decide (0 ≤ n ∧ n ≤ 1099511627776) && Nat.ble xs.length big : Bool) with | true => some ⟨[.el (.sc (.int .i64 (n + (xs.length : Int))))], some ⟨e, ⟨.f32, marks n xs.length⟩⟩⟩ | false => none) := by
  rw [e9]
  cases h : (decide (0 ≤ n ∧ n ≤ 1099511627776) && Nat.ble xs.length big) <;> simp [h]
theorem c9 (xs : List Nat) (n : Int) (k : List RV → Vec → R) (out : Out) (h : (match (decide (0 ≤ n ∧ n ≤ 1099511627776) && Nat.ble xs.length big : Bool) with | true => k [.el (.sc (.int .i64 (n + (xs.length : Int))))] ⟨.f32, marks n xs.length⟩ | false => none) = some out) : ∃ rs vec, Real Try.prog 9 ∧ CMOK Try.prog 9 ⟨.f32, xs⟩ [.el (.sc (.int .i64 n))] rs vec ∧ k rs vec = some out := by
  cases g0 : (decide (0 ≤ n ∧ n ≤ 1099511627776) && Nat.ble xs.length big : Bool) with
  | true =>
    rw [g0] at h
    exact ⟨_, _, real Try.func9 (by kernel_rfl), mfn_ok tok0 (A := a9) (L := l9) Try.func9 (by kernel_rfl) (by kernel_rfl) (loops1 (by kernel_rfl) lk9) (by decide) rfl rfl (fun e => by rw [s9, g0]), h⟩
  | false =>
    rw [g0] at h
    cases h

/-! laws.markInt64S -/
def a10 : Ann := ann [(2, [0, 1, 5], [0, 1])] [0, 4] 1
def lp10 : St → (Ex → St → R) → R := fun s k => match s with
  | ⟨[(0, .fv (.own 0)), (1, .fv (.el (.sc (.int .i64 n)))), (5, .fv (.el (.sc (.int .i64 i))))], [some ⟨e0, ⟨.i64, ys⟩⟩]⟩ => (match (decide (i = 0) && (decide (0 ≤ n ∧ n ≤ 1099511627776) && Nat.ble (ys : List Int).length big) : Bool) with | true => k (.exit 0) ⟨[(0, .fv (.own 0)), (1, .fv (.el (.sc (.int .i64 (n + ((ys : List Int).length : Int))))))], [some ⟨e0, ⟨.i64, marksI n (ys : List Int).length⟩⟩]⟩ | false => none)
  | _ => none
def l10 : Loops := fun key s k => bif Nat.beq key 2 then lp10 s k else none
theorem st10 (n : Int) (i : Int) (ys : List Int) (e0 : Nat) (m : Nat) (k : Ex → St → R) : iterK a10 [0, 1, 5] [0, 1] (codeK T0 a10 l10 Try.f10.ntmps (loopAt Try.f10 0)) (m + 1) ⟨[(0, .fv (.own 0)), (1, .fv (.el (.sc (.int .i64 n)))), (5, .fv (.el (.sc (.int .i64 i))))], [some ⟨e0, ⟨.i64, ys⟩⟩]⟩ k = (match (decide ((i : Int) < (ys.length : Int)) : Bool) with | true => (match (decide (0 ≤ (i : Int) ∧ (i : Int) < (ys.length : Int)) && true : Bool) with | true => (match (ys : List Int)[Int.toNat i]? with | some x1 => iterK a10 [0, 1, 5] [0, 1] (codeK T0 a10 l10 Try.f10.ntmps (loopAt Try.f10 0)) m ⟨[(0, .fv (.own 0)), (1, .fv (.el (.sc (.int .i64 (IntKind.i64.wrap (n + 1)))))), (5, .fv (.el (.sc (.int .i64 (IntKind.i64.wrap (i + 1))))))], [some ⟨e0, ⟨.i64, (ys : List Int).set (Int.toNat i) n⟩⟩]⟩ k | none => none) | false => none) | false => k (.exit 0) ⟨[(0, .fv (.own 0)), (1, .fv (.el (.sc (.int .i64 n))))], [some ⟨e0, ⟨.i64, ys⟩⟩]⟩) := by kernel_rfl
theorem ind10 (e0 : Nat) (k : Ex → St → R) : ∀ (m j : Nat) (ys : List Int) (n : Int), Nat.ble ys.length big = true → 0 ≤ n → n + m ≤ 2199023255552 → j + m = ys.length → iterK a10 [0, 1, 5] [0, 1] (codeK T0 a10 l10 Try.f10.ntmps (loopAt Try.f10 0)) (m + 1) ⟨[(0, .fv (.own 0)), (1, .fv (.el (.sc (.int .i64 n)))), (5, .fv (.el (.sc (.int .i64 (j : Int)))))], [some ⟨e0, ⟨.i64, ys⟩⟩]⟩ k =
    k (.exit 0) ⟨[(0, .fv (.own 0)), (1, .fv (.el (.sc (.int .i64 (n + (m : Int))))))], [some ⟨e0, ⟨.i64, ys.take j ++ marksI n m⟩⟩]⟩ := by
  intro m
  induction m with
  | zero =>
    intro j ys n hb h0 hn hj
    have h1 : ¬ ((j : Int) < (ys.length : Int)) := by omega
    rw [st10, List.take_of_length_le (show ys.length ≤ j by omega)]
    simp [h1, marksI]
  | succ m ih =>
    intro j ys n hb h0 hn hj
    have hlt : j < ys.length := by omega
    have h1 : ((j : Int) < (ys.length : Int)) := by omega
    have h2 : (0 : Int) ≤ (j : Int) := by omega
    have hw : IntKind.i64.wrap (n + 1) = n + 1 := wrap64 (by omega) (by omega)
    have hw2 : IntKind.i64.wrap n = n := wrap64 (by omega) (by omega)
    rw [st10, wrap_succ hlt hb, hw]
    have h4 : ys[Int.toNat (j : Int)]? = some ys[j] := by simp [hlt]
    try rw [hw2]
    simp only [h1, h2, h4, and_self, decide_true, Bool.and_true]
    refine (ih (j + 1) (ys.set (Int.toNat (j : Int)) n) (n + 1) (by simpa using hb) (by omega) (by omega) (by simp; omega)).trans ?_
    have h5 : (ys.set (Int.toNat (j : Int)) n).take (j + 1) ++ marksI (n + 1) m = ys.take j ++ marksI n (m + 1) := set_take hlt _ _
    have h6 : n + 1 + (m : Int) = n + ((m + 1 : Nat) : Int) := by omega
    rw [h5, h6]

theorem lk10 : LOK T0 a10 l10 Try.f10.ntmps (loopAt Try.f10 0) := by
  intro ins outs hA s k out h
  have hA' : ([0, 1, 5], [0, 1]) = (ins, outs) := Option.some.inj ((show a10.lp (firstRegion (loopAt Try.f10 0)) = some ([0, 1, 5], [0, 1]) by kernel_rfl).symm.trans hA)
  cases hA'
  have hk : firstRegion (loopAt Try.f10 0) = 2 := by kernel_rfl
  rw [hk] at h
  change lp10 s k = some out at h
  unfold lp10 at h
  split at h
  · rename_i n i e0 ys
    cases hg : (decide (i = 0) && (decide (0 ≤ n ∧ n ≤ 1099511627776) && Nat.ble ys.length big)) with
    | false => rw [hg] at h; cases h
    | true =>
      rw [hg] at h
      simp only [Bool.and_eq_true, decide_eq_true_eq] at hg
      obtain ⟨rfl, ⟨hn0, hn1⟩, hx⟩ := hg
      refine ⟨ys.length + 1, ?_⟩
      have hxl := Nat.le_of_ble_eq_true hx
      unfold big at hxl
      have hh := ind10 e0 k ys.length 0 ys n hx hn0 (by omega) (by omega)
      simp only [List.take_zero, List.nil_append] at hh
      exact hh.trans h
  · cases h
theorem e10 (e : Nat) (xs : List Int) (n : Int) : runMn T0 a10 l10 Try.f10 e ⟨.i64, xs⟩ [.el (.sc (.int .i64 n))] = (match (decide (0 = 0) && (decide (0 ≤ n ∧ n ≤ 1099511627776) && Nat.ble (xs : List Int).length big) : Bool) with | true => some ⟨[.el (.sc (.int .i64 (n + ((xs : List Int).length : Int))))], some ⟨e, ⟨.i64, marksI n (xs : List Int).length⟩⟩⟩ | false => none) := by kernel_rfl
theorem s10 (e : Nat) (xs : List Int) (n : Int) : runMn T0 a10 l10 Try.f10 e ⟨.i64, xs⟩ [.el (.sc (.int .i64 n))] = (match (decide (0 ≤ n ∧ n ≤ 1099511627776) && Nat.ble xs.length big : Bool) with | true => some ⟨[.el (.sc (.int .i64 (n + (xs.length : Int))))], some ⟨e, ⟨.i64, marksI n xs.length⟩⟩⟩ | false => none) := by
  rw [e10]
  cases h : (decide (0 ≤ n ∧ n ≤ 1099511627776) && Nat.ble xs.length big) <;> simp [h]
theorem c10 (xs : List Int) (n : Int) (k : List RV → Vec → R) (out : Out) (h : (match (decide (0 ≤ n ∧ n ≤ 1099511627776) && Nat.ble xs.length big : Bool) with | true => k [.el (.sc (.int .i64 (n + (xs.length : Int))))] ⟨.i64, marksI n xs.length⟩ | false => none) = some out) : ∃ rs vec, Real Try.prog 10 ∧ CMOK Try.prog 10 ⟨.i64, xs⟩ [.el (.sc (.int .i64 n))] rs vec ∧ k rs vec = some out := by
  cases g0 : (decide (0 ≤ n ∧ n ≤ 1099511627776) && Nat.ble xs.length big : Bool) with
  | true =>
    rw [g0] at h
    exact ⟨_, _, real Try.func10 (by kernel_rfl), mfn_ok tok0 (A := a10) (L := l10) Try.func10 (by kernel_rfl) (by kernel_rfl) (loops1 (by kernel_rfl) lk10) (by decide) rfl rfl (fun e => by rw [s10, g0]), h⟩
  | false =>
    rw [g0] at h
    cases h

/-! laws.heldInt64S -/
def a11 : Ann := ann [(2, [0, 1, 5], [1])] [4] 0
def lp11 : St → (Ex → St → R) → R := fun s k => match s with
  | ⟨[(0, .fv (.vw (some 0) ⟨.i64, xs⟩)), (1, .fv (.el (.sc (.int .i64 n)))), (5, .fv (.el (.sc (.int .i64 i))))], []⟩ => (match (decide (i = 0) && (decide (0 ≤ n ∧ n ≤ 1099511627776) && Nat.ble xs.length big) : Bool) with | true => (match (heldI n xs : Bool) with | true => k (.exit 0) ⟨[(1, .fv (.el (.sc (.int .i64 (n + (xs.length : Int))))))], []⟩ | false => k .ret ⟨[(4, .fv (.el (.sc (.int .i64 ((-1))))))], []⟩) | false => none)
  | _ => none
def l11 : Loops := fun key s k => bif Nat.beq key 2 then lp11 s k else none
theorem st11 (xs : List Int) (n : Int) (i : Int) (m : Nat) (k : Ex → St → R) : iterK a11 [0, 1, 5] [1] (codeK T0 a11 l11 Try.f11.ntmps (loopAt Try.f11 0)) (m + 1) ⟨[(0, .fv (.vw (some 0) ⟨.i64, xs⟩)), (1, .fv (.el (.sc (.int .i64 n)))), (5, .fv (.el (.sc (.int .i64 i))))], []⟩ k = (match (decide ((i : Int) < (xs.length : Int)) : Bool) with | true => (match (decide (0 ≤ (i : Int) ∧ (i : Int) < (xs.length : Int)) && true : Bool) with | true => (match (xs : List Int)[Int.toNat i]? with | some x1 => (match (!((x1 : Int) == n) : Bool) with | true => k .ret ⟨[(4, .fv (.el (.sc (.int .i64 ((-1))))))], []⟩ | false => iterK a11 [0, 1, 5] [1] (codeK T0 a11 l11 Try.f11.ntmps (loopAt Try.f11 0)) m ⟨[(0, .fv (.vw (some 0) ⟨.i64, xs⟩)), (1, .fv (.el (.sc (.int .i64 (IntKind.i64.wrap (n + 1)))))), (5, .fv (.el (.sc (.int .i64 (IntKind.i64.wrap (i + 1))))))], []⟩ k) | none => none) | false => none) | false => k (.exit 0) ⟨[(1, .fv (.el (.sc (.int .i64 n))))], []⟩) := by kernel_rfl
theorem ind11 (xs : List Int) (hb : Nat.ble xs.length big = true) (k : Ex → St → R) : ∀ (m j : Nat) (n : Int), 0 ≤ n → n + m ≤ 2199023255552 → j + m = xs.length → iterK a11 [0, 1, 5] [1] (codeK T0 a11 l11 Try.f11.ntmps (loopAt Try.f11 0)) (m + 1) ⟨[(0, .fv (.vw (some 0) ⟨.i64, xs⟩)), (1, .fv (.el (.sc (.int .i64 n)))), (5, .fv (.el (.sc (.int .i64 (j : Int)))))], []⟩ k =
    (match heldI n (xs.drop j) with
    | true => k (.exit 0) ⟨[(1, .fv (.el (.sc (.int .i64 (n + (m : Int))))))], []⟩
    | false => k .ret ⟨[(4, .fv (.el (.sc (.int .i64 (-1)))))], []⟩) := by
  intro m
  induction m with
  | zero =>
    intro j n h0 hn hj
    have h1 : ¬ ((j : Int) < (xs.length : Int)) := by omega
    rw [st11, List.drop_of_length_le (by omega)]
    simp [h1, heldI]
  | succ m ih =>
    intro j n h0 hn hj
    have hlt : j < xs.length := by omega
    have h1 : ((j : Int) < (xs.length : Int)) := by omega
    have h2 : (0 : Int) ≤ (j : Int) := by omega
    have hw : IntKind.i64.wrap (n + 1) = n + 1 := wrap64 (by omega) (by omega)
    have hw2 : IntKind.i64.wrap n = n := wrap64 (by omega) (by omega)
    rw [st11, wrap_succ hlt hb, hw]
    try rw [hw2]
    have h4 : xs[Int.toNat (j : Int)]? = some xs[j] := by simp [hlt]
    have h6 : n + 1 + (m : Int) = n + ((m + 1 : Nat) : Int) := by omega
    rw [List.drop_eq_getElem_cons hlt, ih (j + 1) (n + 1) (by omega) (by omega) (by omega), h6]
    simp only [h1, h2, h4, and_self, decide_true, Bool.and_true, heldI]
    cases (xs[j] == n) <;> simp

theorem lk11 : LOK T0 a11 l11 Try.f11.ntmps (loopAt Try.f11 0) := by
  intro ins outs hA s k out h
  have hA' : ([0, 1, 5], [1]) = (ins, outs) := Option.some.inj ((show a11.lp (firstRegion (loopAt Try.f11 0)) = some ([0, 1, 5], [1]) by kernel_rfl).symm.trans hA)
  cases hA'
  have hk : firstRegion (loopAt Try.f11 0) = 2 := by kernel_rfl
  rw [hk] at h
  change lp11 s k = some out at h
  unfold lp11 at h
  split at h
  · rename_i xs n i
    cases hg : (decide (i = 0) && (decide (0 ≤ n ∧ n ≤ 1099511627776) && Nat.ble xs.length big)) with
    | false => rw [hg] at h; cases h
    | true =>
      rw [hg] at h
      simp only [Bool.and_eq_true, decide_eq_true_eq] at hg
      obtain ⟨rfl, ⟨hn0, hn1⟩, hx⟩ := hg
      refine ⟨xs.length + 1, ?_⟩
      have hxl := Nat.le_of_ble_eq_true hx
      unfold big at hxl
      exact (ind11 xs hx k xs.length 0 n hn0 (by omega) (by omega)).trans h
  · cases h
theorem e11 (xs : List Int) (n : Int) : runFn T0 a11 l11 Try.f11 [.vw none ⟨.i64, xs⟩, .el (.sc (.int .i64 n))] = (match (decide (0 = 0) && (decide (0 ≤ n ∧ n ≤ 1099511627776) && Nat.ble xs.length big) : Bool) with | true => (match (heldI n xs : Bool) with | true => some ⟨[.el (.sc (.int .i64 (n + (xs.length : Int))))], none⟩ | false => some ⟨[.el (.sc (.int .i64 ((-1))))], none⟩) | false => none) := by kernel_rfl
theorem s11 (xs : List Int) (n : Int) : runFn T0 a11 l11 Try.f11 [.vw none ⟨.i64, xs⟩, .el (.sc (.int .i64 n))] = (match (decide (0 ≤ n ∧ n ≤ 1099511627776) && Nat.ble xs.length big : Bool) with | true => some ⟨[.el (.sc (.int .i64 (heldN (heldI n xs) (n + (xs.length : Int)))))], none⟩ | false => none) := by
  rw [e11]
  unfold heldN
  cases h : (decide (0 ≤ n ∧ n ≤ 1099511627776) && Nat.ble xs.length big) <;> cases h2 : heldI n xs <;> simp [h]
theorem c11 (xs : List Int) (n : Int) (k : List RV → R) (out : Out) (h : (match (decide (0 ≤ n ∧ n ≤ 1099511627776) && Nat.ble xs.length big : Bool) with | true => k [.el (.sc (.int .i64 (heldN (heldI n xs) (n + (xs.length : Int)))))] | false => none) = some out) : ∃ rs, Real Try.prog 11 ∧ COK Try.prog 11 [.vw none ⟨.i64, xs⟩, .el (.sc (.int .i64 n))] rs ∧ k rs = some out := by
  cases g0 : (decide (0 ≤ n ∧ n ≤ 1099511627776) && Nat.ble xs.length big : Bool) with
  | true =>
    rw [g0] at h
    exact ⟨_, real Try.func11 (by kernel_rfl), fn_ok tok0 (A := a11) (L := l11) (r := none) Try.func11 (by kernel_rfl) (by kernel_rfl) (loops1 (by kernel_rfl) lk11) (by rw [s11, g0]), h⟩
  | false =>
    rw [g0] at h
    cases h

/-! spec.l01Finite -/
theorem s13 (c : Nat) : runFn T0 none0 noL Try.f13 [.el (.sc (.fl .f32 c))] = some ⟨[.el (.sc (.bo (fin c)))], none⟩ := by kernel_rfl
theorem c13 (c : Nat) (k : List RV → R) (out : Out) (h : k [.el (.sc (.bo (fin c)))] = some out) : ∃ rs, Real Try.prog 13 ∧ COK Try.prog 13 [.el (.sc (.fl .f32 c))] rs ∧ k rs = some out := by
  exact ⟨_, real Try.func13 (by kernel_rfl), fn_ok tok0 (A := none0) (L := noL) (r := none) Try.func13 (by kernel_rfl) (by kernel_rfl) (loops0 (by kernel_rfl)) (by rw [s13]), h⟩

/-! spec.l00In -/
theorem e14 (n : Int) (a : Int) (b : Int) : runFn T0 none0 noL Try.f14 [.el (.sc (.int .i64 n)), .el (.sc (.int .i64 a)), .el (.sc (.int .i64 b))] = (match (decide ((n : Int) ≥ a) : Bool) with | true => some ⟨[.el (.sc (.bo (decide ((n : Int) ≤ b))))], none⟩ | false => some ⟨[.el (.sc (.bo false))], none⟩) := by kernel_rfl
theorem s14 (n : Int) (a : Int) (b : Int) : runFn T0 none0 noL Try.f14 [.el (.sc (.int .i64 n)), .el (.sc (.int .i64 a)), .el (.sc (.int .i64 b))] = some ⟨[.el (.sc (.bo (within n a b)))], none⟩ := by
  rw [e14]
  unfold within
  cases decide (n ≥ a) <;> rfl
theorem c14 (n : Int) (a : Int) (b : Int) (k : List RV → R) (out : Out) (h : k [.el (.sc (.bo (within n a b)))] = some out) : ∃ rs, Real Try.prog 14 ∧ COK Try.prog 14 [.el (.sc (.int .i64 n)), .el (.sc (.int .i64 a)), .el (.sc (.int .i64 b))] rs ∧ k rs = some out := by
  exact ⟨_, real Try.func14 (by kernel_rfl), fn_ok tok0 (A := none0) (L := noL) (r := none) Try.func14 (by kernel_rfl) (by kernel_rfl) (loops0 (by kernel_rfl)) (by rw [s14]), h⟩

/-! impl.IsFinite -/
theorem s16 (c : Nat) : runFn T0 none0 noL Try.f16 [.el (.sc (.fl .f32 c))] = some ⟨[.el (.sc (.bo (fin c)))], none⟩ := by kernel_rfl
theorem c16 (c : Nat) (k : List RV → R) (out : Out) (h : k [.el (.sc (.bo (fin c)))] = some out) : ∃ rs, Real Try.prog 16 ∧ COK Try.prog 16 [.el (.sc (.fl .f32 c))] rs ∧ k rs = some out := by
  exact ⟨_, real Try.func16 (by kernel_rfl), fn_ok tok0 (A := none0) (L := noL) (r := none) Try.func16 (by kernel_rfl) (by kernel_rfl) (loops0 (by kernel_rfl)) (by rw [s16]), h⟩

/-! impl.within -/
theorem e17 (n : Int) (a : Int) (b : Int) : runFn T0 none0 noL Try.f17 [.el (.sc (.int .i64 n)), .el (.sc (.int .i64 a)), .el (.sc (.int .i64 b))] = (match (decide ((n : Int) ≥ a) : Bool) with | true => some ⟨[.el (.sc (.bo (decide ((n : Int) ≤ b))))], none⟩ | false => some ⟨[.el (.sc (.bo false))], none⟩) := by kernel_rfl
theorem s17 (n : Int) (a : Int) (b : Int) : runFn T0 none0 noL Try.f17 [.el (.sc (.int .i64 n)), .el (.sc (.int .i64 a)), .el (.sc (.int .i64 b))] = some ⟨[.el (.sc (.bo (within n a b)))], none⟩ := by
  rw [e17]
  unfold within
  cases decide (n ≥ a) <;> rfl
theorem c17 (n : Int) (a : Int) (b : Int) (k : List RV → R) (out : Out) (h : k [.el (.sc (.bo (within n a b)))] = some out) : ∃ rs, Real Try.prog 17 ∧ COK Try.prog 17 [.el (.sc (.int .i64 n)), .el (.sc (.int .i64 a)), .el (.sc (.int .i64 b))] rs ∧ k rs = some out := by
  exact ⟨_, real Try.func17 (by kernel_rfl), fn_ok tok0 (A := none0) (L := noL) (r := none) Try.func17 (by kernel_rfl) (by kernel_rfl) (loops0 (by kernel_rfl)) (by rw [s17]), h⟩

/-! impl.PeaksOf$1 -/
theorem e19 (x : Int) (b : Int) (a : Int) : runFn T0 none0 noL Try.f19 [.el (.sc (.int .i64 x)), .pt ⟨.v ⟨.i64, [b]⟩, 1, 0, 0⟩, .pt ⟨.v ⟨.i64, [a]⟩, 1, 0, 0⟩] = (match ((x : Int) == b : Bool) with | true => some ⟨[.el (.sc (.bo true))], none⟩ | false => some ⟨[.el (.sc (.bo (decide ((if IntKind.i64.wrap (b - x) > IntKind.i64.wrap (x - b) then IntKind.i64.wrap (b - x) else IntKind.i64.wrap (x - b) : Int) < a))))], none⟩) := by kernel_rfl
theorem s19 (x : Int) (b : Int) (a : Int) : runFn T0 none0 noL Try.f19 [.el (.sc (.int .i64 x)), .pt ⟨.v ⟨.i64, [b]⟩, 1, 0, 0⟩, .pt ⟨.v ⟨.i64, [a]⟩, 1, 0, 0⟩] = some ⟨[.el (.sc (.bo (struck b a x)))], none⟩ := by
  rw [e19]
  unfold struck
  cases (x == b) <;> rfl
theorem c19 (x : Int) (b : Int) (a : Int) (k : List RV → R) (out : Out) (h : k [.el (.sc (.bo (struck b a x)))] = some out) : ∃ rs, Real Try.prog 19 ∧ COK Try.prog 19 [.el (.sc (.int .i64 x)), .pt ⟨.v ⟨.i64, [b]⟩, 1, 0, 0⟩, .pt ⟨.v ⟨.i64, [a]⟩, 1, 0, 0⟩] rs ∧ k rs = some out := by
  exact ⟨_, real Try.func19 (by kernel_rfl), fn_ok tok0 (A := none0) (L := noL) (r := none) Try.func19 (by kernel_rfl) (by kernel_rfl) (loops0 (by kernel_rfl)) (by rw [s19]), h⟩

/-! slices.Sort[[]int64,int64] -/
theorem c20 (xs : List Int) (k : List RV → Vec → R) (out : Out) (h : (match (decide (xs.length < 4611686018427387904) : Bool) with | true => k [] ⟨.i64, xs.mergeSort fun x y => decide (x ≤ y)⟩ | false => none) = some out) : ∃ rs vec, Real Try.prog 20 ∧ CMOK Try.prog 20 ⟨.i64, xs⟩ [] rs vec ∧ k rs vec = some out := by
  cases g0 : (decide (xs.length < 4611686018427387904) : Bool) with
  | true =>
    rw [g0] at h
    exact ⟨_, _, real Try.func20 (by kernel_rfl), sort_cm sortI rfl (of_decide_eq_true g0), h⟩
  | false => rw [g0] at h; cases h

/-! laws.sameFloat -/
theorem e21 (a : Nat) (b : Nat) : runFn T0 none0 noL Try.f21 [.el (.sc (.fl .f64 a)), .el (.sc (.fl .f64 b))] = (match (fcmp .neq .f64 a a : Bool) with | true => (match (fcmp .neq .f64 a a : Bool) with | true => some ⟨[.el (.sc (.bo (fcmp .neq .f64 b b)))], none⟩ | false => some ⟨[.el (.sc (.bo false))], none⟩) | false => (match (fcmp .neq .f64 b b : Bool) with | true => (match (fcmp .neq .f64 a a : Bool) with | true => some ⟨[.el (.sc (.bo (fcmp .neq .f64 b b)))], none⟩ | false => some ⟨[.el (.sc (.bo false))], none⟩) | false => (match (fcmp .eql .f64 a 0 : Bool) with | true => (match (fcmp .eql .f64 b 0 : Bool) with | true => some ⟨[.el (.sc (.bo ((fcmp .gtr .f64 (fop .quo .f64 4607182418800017408 a) 0) == (fcmp .gtr .f64 (fop .quo .f64 4607182418800017408 b) 0))))], none⟩ | false => some ⟨[.el (.sc (.bo (fcmp .eql .f64 a b)))], none⟩) | false => some ⟨[.el (.sc (.bo (fcmp .eql .f64 a b)))], none⟩))) := by kernel_rfl
theorem s21 (a : Nat) (b : Nat) : runFn T0 none0 noL Try.f21 [.el (.sc (.fl .f64 a)), .el (.sc (.fl .f64 b))] = some ⟨[.el (.sc (.bo (sameF a b)))], none⟩ := by
  rw [e21]
  unfold sameF
  cases fcmp .neq .f64 a a <;> cases fcmp .neq .f64 b b <;> cases fcmp .eql .f64 a 0 <;> cases fcmp .eql .f64 b 0 <;> rfl
theorem c21 (a : Nat) (b : Nat) (k : List RV → R) (out : Out) (h : k [.el (.sc (.bo (sameF a b)))] = some out) : ∃ rs, Real Try.prog 21 ∧ COK Try.prog 21 [.el (.sc (.fl .f64 a)), .el (.sc (.fl .f64 b))] rs ∧ k rs = some out := by
  exact ⟨_, real Try.func21 (by kernel_rfl), fn_ok tok0 (A := none0) (L := noL) (r := none) Try.func21 (by kernel_rfl) (by kernel_rfl) (loops0 (by kernel_rfl)) (by rw [s21]), h⟩

def S1 : SFn := fun f args k => match f, args with
  | 5, [.vw none ⟨.f32, xs⟩] => (match (Nat.ble xs.length big : Bool) with | true => k [.fresh 23 ⟨.f32, xs⟩] | false => none)
  | 7, [.vw none ⟨.i64, xs⟩, .vw none ⟨.i64, ys⟩] => (match (Nat.beq xs.length ys.length : Bool) with | true => (match (Nat.ble xs.length big : Bool) with | true => k [.el (.sc (.bo (all2 sameI xs ys)))] | false => none) | false => k [.el (.sc (.bo false))])
  | 11, [.vw none ⟨.i64, xs⟩, .el (.sc (.int .i64 n))] => (match (decide (0 ≤ n ∧ n ≤ 1099511627776) && Nat.ble xs.length big : Bool) with | true => k [.el (.sc (.int .i64 (heldN (heldI n xs) (n + (xs.length : Int)))))] | false => none)
  | 13, [.el (.sc (.fl .f32 c))] => k [.el (.sc (.bo (fin c)))]
  | 14, [.el (.sc (.int .i64 n)), .el (.sc (.int .i64 a)), .el (.sc (.int .i64 b))] => k [.el (.sc (.bo (within n a b)))]
  | 16, [.el (.sc (.fl .f32 c))] => k [.el (.sc (.bo (fin c)))]
  | 17, [.el (.sc (.int .i64 n)), .el (.sc (.int .i64 a)), .el (.sc (.int .i64 b))] => k [.el (.sc (.bo (within n a b)))]
  | 19, [.el (.sc (.int .i64 x)), .pt ⟨.v ⟨.i64, [b]⟩, 1, 0, 0⟩, .pt ⟨.v ⟨.i64, [a]⟩, 1, 0, 0⟩] => k [.el (.sc (.bo (struck b a x)))]
  | 21, [.el (.sc (.fl .f64 a)), .el (.sc (.fl .f64 b))] => k [.el (.sc (.bo (sameF a b)))]
  | _, _ => S0 f args k
def M1 : MFn := fun f vec args k => match f, vec, args with
  | 9, ⟨.f32, xs⟩, [.el (.sc (.int .i64 n))] => (match (decide (0 ≤ n ∧ n ≤ 1099511627776) && Nat.ble xs.length big : Bool) with | true => k [.el (.sc (.int .i64 (n + (xs.length : Int))))] ⟨.f32, marks n xs.length⟩ | false => none)
  | 10, ⟨.i64, xs⟩, [.el (.sc (.int .i64 n))] => (match (decide (0 ≤ n ∧ n ≤ 1099511627776) && Nat.ble xs.length big : Bool) with | true => k [.el (.sc (.int .i64 (n + (xs.length : Int))))] ⟨.i64, marksI n xs.length⟩ | false => none)
  | 20, ⟨.i64, xs⟩, [] => (match (decide (xs.length < 4611686018427387904) : Bool) with | true => k [] ⟨.i64, xs.mergeSort fun x y => decide (x ≤ y)⟩ | false => none)
  | _, _, _ => M0 f vec args k
def T1 : TT := tab.T S1 muts M1 
theorem tok1 : TOK Try.prog T1 := by
  refine (tab_ok tabok).tok (fun f args k out h => ?_) (fun f vec args k out h => ?_)
  · change S1 f args k = some out at h
    unfold S1 at h
    split at h
    · exact (fun k out h => cok_call (c5 _ k out h)) k out h
    · exact (fun k out h => cok_call (c7 _ _ k out h)) k out h
    · exact (fun k out h => cok_call (c11 _ _ k out h)) k out h
    · exact (fun k out h => cok_call (c13 _ k out h)) k out h
    · exact (fun k out h => cok_call (c14 _ _ _ k out h)) k out h
    · exact (fun k out h => cok_call (c16 _ k out h)) k out h
    · exact (fun k out h => cok_call (c17 _ _ _ k out h)) k out h
    · exact (fun k out h => cok_call (c19 _ _ _ k out h)) k out h
    · exact (fun k out h => cok_call (c21 _ _ k out h)) k out h
    · exact tok0.S f args k out h
  · change M1 f vec args k = some out at h
    unfold M1 at h
    split at h
    · exact c9 _ _ k out h
    · exact c10 _ _ k out h
    · exact c20 _ k out h
    · exact tok0.M f vec args k out h

end Go.Sm.Yticbjjedljddgaa
