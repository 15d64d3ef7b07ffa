/- What the functions hand back: level 0. -/
import Derived.Test.YtngcejakoaoojaaD0
namespace Go.Sm.Ytngcejakoaoojaa
open Go Go.Sm Go.RowKit Go.Proofs

/-! laws.markFloat32S -/
def a18 : Ann := ann [(2, [0, 1, 5], [0, 1])] [0, 4] 1
def lp18 : St → (Ex → St → R) → R := fun s k => match s with
  | ⟨[(0, .fv (.own 0)), (1, .fv (.el (.sc (.int .i64 n)))), (5, .fv (.el (.sc (.int .i64 i))))], [some ⟨e0, ⟨.f32, ys⟩⟩]⟩ => (match (decide (i = 0) && (decide (0 ≤ n ∧ n ≤ 1099511627776) && Nat.ble (ys : List Nat).length big) : Bool) with
    | true => k (.exit 0) ⟨[(0, .fv (.own 0)), (1, .fv (.el (.sc (.int .i64 (n + ((ys : List Nat).length : Int))))))], [some ⟨e0, ⟨.f32, marks n (ys : List Nat).length⟩⟩]⟩
    | false => none)
  | _ => none
def l18 : Loops := fun key s k => bif Nat.beq key 2 then lp18 s k else none
theorem st18 (n : Int) (i : Int) (ys : List Nat) (e0 : Nat) (m : Nat) (k : Ex → St → R) : iterK a18 [0, 1, 5] [0, 1] (codeK T0 a18 l18 Try.f18.ntmps (loopAt Try.f18 0)) (m + 1) ⟨[(0, .fv (.own 0)), (1, .fv (.el (.sc (.int .i64 n)))), (5, .fv (.el (.sc (.int .i64 i))))], [some ⟨e0, ⟨.f32, ys⟩⟩]⟩ k = (match (decide ((i : Int) < (ys.length : Int)) : Bool) with
  | true => (match (decide (0 ≤ (i : Int) ∧ (i : Int) < (ys.length : Int)) && true : Bool) with
    | true => (match (ys : List Nat)[Int.toNat i]? with
      | some x1 => iterK a18 [0, 1, 5] [0, 1] (codeK T0 a18 l18 Try.f18.ntmps (loopAt Try.f18 0)) m ⟨[(0, .fv (.own 0)), (1, .fv (.el (.sc (.int .i64 (IntKind.i64.wrap (n + 1)))))), (5, .fv (.el (.sc (.int .i64 (IntKind.i64.wrap (i + 1))))))], [some ⟨e0, ⟨.f32, (ys : List Nat).set (Int.toNat i) (fint .f32 n)⟩⟩]⟩ k
      | none => none)
    | false => none)
  | false => k (.exit 0) ⟨[(0, .fv (.own 0)), (1, .fv (.el (.sc (.int .i64 n))))], [some ⟨e0, ⟨.f32, ys⟩⟩]⟩) := by kernel_rfl
theorem ind18 (e0 : Nat) (k : Ex → St → R) : ∀ (m j : Nat) (ys : List Nat) (n : Int), Nat.ble ys.length big = true → 0 ≤ n → n + m ≤ 2199023255552 → j + m = ys.length → iterK a18 [0, 1, 5] [0, 1] (codeK T0 a18 l18 Try.f18.ntmps (loopAt Try.f18 0)) (m + 1) ⟨[(0, .fv (.own 0)), (1, .fv (.el (.sc (.int .i64 n)))), (5, .fv (.el (.sc (.int .i64 (j : Int)))))], [some ⟨e0, ⟨.f32, ys⟩⟩]⟩ k =
    k (.exit 0) ⟨[(0, .fv (.own 0)), (1, .fv (.el (.sc (.int .i64 (n + (m : Int))))))], [some ⟨e0, ⟨.f32, ys.take j ++ marks n m⟩⟩]⟩ := by
  intro m
  induction m with
  | zero =>
    intro j ys n hb h0 hn hj
    have h1 : ¬ ((j : Int) < (ys.length : Int)) := by omega
    rw [st18, List.take_of_length_le (show ys.length ≤ j by omega)]
    simp [h1, marks]
  | succ m ih =>
    intro j ys n hb h0 hn hj
    have hlt : j < ys.length := by omega
    have h1 : ((j : Int) < (ys.length : Int)) := by omega
    have h2 : (0 : Int) ≤ (j : Int) := by omega
    have hw : IntKind.i64.wrap (n + 1) = n + 1 := wrap64 (by omega) (by omega)
    have hw2 : IntKind.i64.wrap n = n := wrap64 (by omega) (by omega)
    rw [st18, wrap_succ hlt hb, hw]
    have h4 : ys[Int.toNat (j : Int)]? = some ys[j] := by simp [hlt]
    try rw [hw2]
    simp only [h1, h2, h4, and_self, decide_true, Bool.and_true]
    refine (ih (j + 1) (ys.set (Int.toNat (j : Int)) (fint .f32 n)) (n + 1) (by simpa using hb) (by omega) (by omega) (by simp; omega)).trans ?_
    have h5 : (ys.set (Int.toNat (j : Int)) (fint .f32 n)).take (j + 1) ++ marks (n + 1) m = ys.take j ++ marks n (m + 1) := set_take hlt _ _
    have h6 : n + 1 + (m : Int) = n + ((m + 1 : Nat) : Int) := by omega
    rw [h5, h6]

theorem lk18 : LOK T0 a18 l18 Try.f18.ntmps (loopAt Try.f18 0) := by
  intro ins outs hA s k out h
  have hA' : ([0, 1, 5], [0, 1]) = (ins, outs) := Option.some.inj ((show a18.lp (firstRegion (loopAt Try.f18 0)) = some ([0, 1, 5], [0, 1]) by kernel_rfl).symm.trans hA)
  cases hA'
  have hk : firstRegion (loopAt Try.f18 0) = 2 := by kernel_rfl
  rw [hk] at h
  change lp18 s k = some out at h
  unfold lp18 at h
  split at h
  · rename_i n i e0 ys
    cases hg : (decide (i = 0) && (decide (0 ≤ n ∧ n ≤ 1099511627776) && Nat.ble ys.length big)) with
    | false => rw [hg] at h; cases h
    | true =>
      rw [hg] at h
      simp only [Bool.and_eq_true, decide_eq_true_eq] at hg
      obtain ⟨rfl, ⟨hn0, hn1⟩, hx⟩ := hg
      refine ⟨ys.length + 1, ?_⟩
      have hxl := Nat.le_of_ble_eq_true hx
      unfold big at hxl
      have hh := ind18 e0 k ys.length 0 ys n hx hn0 (by omega) (by omega)
      simp only [List.take_zero, List.nil_append] at hh
      exact hh.trans h
  · cases h
theorem e18 (e : Nat) (xs : List Nat) (n : Int) : runMn T0 a18 l18 Try.f18 e ⟨.f32, xs⟩ [.el (.sc (.int .i64 n))] = (match (decide (0 = 0) && (decide (0 ≤ n ∧ n ≤ 1099511627776) && Nat.ble (xs : List Nat).length big) : Bool) with
  | true => some ⟨[.el (.sc (.int .i64 (n + ((xs : List Nat).length : Int))))], some ⟨e, ⟨.f32, marks n (xs : List Nat).length⟩⟩⟩
  | false => none) := by kernel_rfl
theorem s18 (e : Nat) (xs : List Nat) (n : Int) : runMn T0 a18 l18 Try.f18 e ⟨.f32, xs⟩ [.el (.sc (.int .i64 n))] = (match (decide (0 ≤ n ∧ n ≤ 1099511627776) && Nat.ble xs.length big : Bool) with
  | true => some ⟨[.el (.sc (.int .i64 (n + (xs.length : Int))))], some ⟨e, ⟨.f32, marks n xs.length⟩⟩⟩
  | false => none) := by
  rw [e18]
  cases h : (decide (0 ≤ n ∧ n ≤ 1099511627776) && Nat.ble xs.length big) <;> simp [h]
theorem c18 (xs : List Nat) (n : Int) (k : List RV → Vec → R) (out : Out) (h : (match (decide (0 ≤ n ∧ n ≤ 1099511627776) && Nat.ble xs.length big : Bool) with
  | true => k [.el (.sc (.int .i64 (n + (xs.length : Int))))] ⟨.f32, marks n xs.length⟩
  | false => none) = some out) : ∃ rs vec, Real Try.prog 18 ∧ CMOK Try.prog 18 ⟨.f32, xs⟩ [.el (.sc (.int .i64 n))] rs vec ∧ k rs vec = some out := by
  cases g0 : (decide (0 ≤ n ∧ n ≤ 1099511627776) && Nat.ble xs.length big : Bool) with
  | true =>
    rw [g0] at h
    exact ⟨_, _, real Try.func18 (by kernel_rfl), mfn_ok tok0 (A := a18) (L := l18) Try.func18 (by kernel_rfl) (by kernel_rfl) (loops1 (by kernel_rfl) lk18) (by decide) rfl rfl (fun e => by rw [s18, g0]), h⟩
  | false =>
    rw [g0] at h
    cases h

/-! laws.szEdgeS -/
theorem e21 (xs : List EdgeV) (n : Int) : runFn T0 none0 noL Try.f21 [.vw none ⟨.edge, xs⟩, .el (.sc (.int .i64 n))] = (match (decide ((IntKind.i64.wrap (n - ((xs.length : Int))) : Int) < 0) : Bool) with
  | true => some ⟨[.el (.sc (.int .i64 ((-1))))], none⟩
  | false => some ⟨[.el (.sc (.int .i64 (IntKind.i64.wrap (n - ((xs.length : Int))))))], none⟩) := by kernel_rfl
theorem s21 (xs : List EdgeV) (n : Int) : runFn T0 none0 noL Try.f21 [.vw none ⟨.edge, xs⟩, .el (.sc (.int .i64 n))] = some ⟨[.el (.sc (.int .i64 (szLeft xs.length n)))], none⟩ := by
  rw [e21]
  unfold szLeft
  cases decide ((IntKind.i64.wrap (n - (xs.length : Int)) : Int) < 0) <;> simp
theorem c21 (xs : List EdgeV) (n : Int) (k : List RV → R) (out : Out) (h : k [.el (.sc (.int .i64 (szLeft xs.length n)))] = some out) : ∃ rs, Real Try.prog 21 ∧ COK Try.prog 21 [.vw none ⟨.edge, xs⟩, .el (.sc (.int .i64 n))] rs ∧ k rs = some out := by
  exact ⟨_, real Try.func21 (by kernel_rfl), fn_ok tok0 (A := none0) (L := noL) (r := none) Try.func21 (by kernel_rfl) (by kernel_rfl) (loops0 (by kernel_rfl)) (by rw [s21]), h⟩

/-! laws.markEdgeS -/
def a26 : Ann := ann [(2, [0, 1, 5], [0, 1])] [0, 4] 1
def lp26 : St → (Ex → St → R) → R := fun s k => match s with
  | ⟨[(0, .fv (.own 0)), (1, .fv (.el (.sc (.int .i64 n)))), (5, .fv (.el (.sc (.int .i64 i))))], [some ⟨e0, ⟨.edge, ys⟩⟩]⟩ => (match (decide (i = 0) && (decide (0 ≤ n ∧ n ≤ 1099511627776) && Nat.ble (ys : List EdgeV).length big) : Bool) with
    | true => k (.exit 0) ⟨[(0, .fv (.own 0)), (1, .fv (.el (.sc (.int .i64 (n + 3 * ((ys : List EdgeV).length : Int))))))], [some ⟨e0, ⟨.edge, marksE n (ys : List EdgeV).length⟩⟩]⟩
    | false => none)
  | _ => none
def l26 : Loops := fun key s k => bif Nat.beq key 2 then lp26 s k else none
theorem st26 (n : Int) (i : Int) (ys : List EdgeV) (e0 : Nat) (m : Nat) (k : Ex → St → R) : iterK a26 [0, 1, 5] [0, 1] (codeK T0 a26 l26 Try.f26.ntmps (loopAt Try.f26 0)) (m + 1) ⟨[(0, .fv (.own 0)), (1, .fv (.el (.sc (.int .i64 n)))), (5, .fv (.el (.sc (.int .i64 i))))], [some ⟨e0, ⟨.edge, ys⟩⟩]⟩ k = (match (decide ((i : Int) < (ys.length : Int)) : Bool) with
  | true => (match (decide (0 ≤ (i : Int) ∧ (i : Int) < (ys.length : Int)) && true : Bool) with
    | true => (match (ys : List EdgeV)[Int.toNat i]? with
      | some x1 => (match (decide (0 ≤ (i : Int) ∧ (i : Int) < (((ys : List EdgeV).set (Int.toNat i) ((⟨n, x1.t, x1.p⟩ : EdgeV))).length : Int)) && true : Bool) with
        | true => (match ((ys : List EdgeV).set (Int.toNat i) ((⟨n, x1.t, x1.p⟩ : EdgeV)) : List EdgeV)[Int.toNat i]? with
          | some x2 => (match (decide (0 ≤ (i : Int) ∧ (i : Int) < ((((ys : List EdgeV).set (Int.toNat i) ((⟨n, x1.t, x1.p⟩ : EdgeV)) : List EdgeV).set (Int.toNat i) ((⟨x2.f, IntKind.i64.wrap (n + 1), x2.p⟩ : EdgeV))).length : Int)) && true : Bool) with
            | true => (match (((ys : List EdgeV).set (Int.toNat i) ((⟨n, x1.t, x1.p⟩ : EdgeV)) : List EdgeV).set (Int.toNat i) ((⟨x2.f, IntKind.i64.wrap (n + 1), x2.p⟩ : EdgeV)) : List EdgeV)[Int.toNat i]? with
              | some x3 => iterK a26 [0, 1, 5] [0, 1] (codeK T0 a26 l26 Try.f26.ntmps (loopAt Try.f26 0)) m ⟨[(0, .fv (.own 0)), (1, .fv (.el (.sc (.int .i64 (IntKind.i64.wrap ((IntKind.i64.wrap ((IntKind.i64.wrap (n + 1)) + 1)) + 1)))))), (5, .fv (.el (.sc (.int .i64 (IntKind.i64.wrap (i + 1))))))], [some ⟨e0, ⟨.edge, (((ys : List EdgeV).set (Int.toNat i) ((⟨n, x1.t, x1.p⟩ : EdgeV)) : List EdgeV).set (Int.toNat i) ((⟨x2.f, IntKind.i64.wrap (n + 1), x2.p⟩ : EdgeV)) : List EdgeV).set (Int.toNat i) ((⟨x3.f, x3.t, fint .f32 (IntKind.i64.wrap ((IntKind.i64.wrap (n + 1)) + 1))⟩ : EdgeV))⟩⟩]⟩ k
              | none => none)
            | false => none)
          | none => none)
        | false => none)
      | none => none)
    | false => none)
  | false => k (.exit 0) ⟨[(0, .fv (.own 0)), (1, .fv (.el (.sc (.int .i64 n))))], [some ⟨e0, ⟨.edge, ys⟩⟩]⟩) := by kernel_rfl
theorem ind26 (e0 : Nat) (k : Ex → St → R) : ∀ (m j : Nat) (ys : List EdgeV) (n : Int), Nat.ble ys.length big = true → 0 ≤ n → n + 3 * m ≤ 8796093022208 → j + m = ys.length → iterK a26 [0, 1, 5] [0, 1] (codeK T0 a26 l26 Try.f26.ntmps (loopAt Try.f26 0)) (m + 1) ⟨[(0, .fv (.own 0)), (1, .fv (.el (.sc (.int .i64 n)))), (5, .fv (.el (.sc (.int .i64 (j : Int)))))], [some ⟨e0, ⟨.edge, ys⟩⟩]⟩ k =
    k (.exit 0) ⟨[(0, .fv (.own 0)), (1, .fv (.el (.sc (.int .i64 (n + 3 * (m : Int))))))], [some ⟨e0, ⟨.edge, ys.take j ++ marksE n m⟩⟩]⟩ := by
  intro m
  induction m with
  | zero =>
    intro j ys n hb h0 hn hj
    have h1 : ¬ ((j : Int) < (ys.length : Int)) := by omega
    rw [st26, List.take_of_length_le (show ys.length ≤ j by omega)]
    simp [h1, marksE]
  | succ m ih =>
    intro j ys n hb h0 hn hj
    have hlt : j < ys.length := by omega
    have h1 : ((j : Int) < (ys.length : Int)) := by omega
    have h2 : (0 : Int) ≤ (j : Int) := by omega
    have hw0 : IntKind.i64.wrap n = n := wrap64 (by omega) (by omega)
    have hw1 : IntKind.i64.wrap (n + 1) = n + 1 := wrap64 (by omega) (by omega)
    have hw2 : IntKind.i64.wrap (n + 1 + 1) = n + 1 + 1 := wrap64 (by omega) (by omega)
    have hw3 : IntKind.i64.wrap (n + 1 + 1 + 1) = n + 1 + 1 + 1 := wrap64 (by omega) (by omega)
    rw [st26, wrap_succ hlt hb]
    have h4 : ys[Int.toNat (j : Int)]? = some ys[j] := by simp [hlt]
    have h5 : ∀ b : EdgeV, (ys.set (Int.toNat (j : Int)) b)[Int.toNat (j : Int)]? = some b := by
      intro b
      simp [hlt]
    simp only [hw0, hw1, hw2, hw3, h1, h2, h4, h5, List.length_set, List.set_set, and_self, decide_true, Bool.and_true]
    refine (ih (j + 1) (ys.set (Int.toNat (j : Int)) (eOf n)) (n + 1 + 1 + 1) (by simpa using hb) (by omega) (by omega) (by simp; omega)).trans ?_
    have h5 : (ys.set (Int.toNat (j : Int)) (eOf n)).take (j + 1) ++ marksE (n + 1 + 1 + 1) m = ys.take j ++ marksE n (m + 1) := set_take hlt _ _
    have h6 : n + 1 + 1 + 1 + 3 * (m : Int) = n + 3 * ((m + 1 : Nat) : Int) := by omega
    rw [h5, h6]

theorem lk26 : LOK T0 a26 l26 Try.f26.ntmps (loopAt Try.f26 0) := by
  intro ins outs hA s k out h
  have hA' : ([0, 1, 5], [0, 1]) = (ins, outs) := Option.some.inj ((show a26.lp (firstRegion (loopAt Try.f26 0)) = some ([0, 1, 5], [0, 1]) by kernel_rfl).symm.trans hA)
  cases hA'
  have hk : firstRegion (loopAt Try.f26 0) = 2 := by kernel_rfl
  rw [hk] at h
  change lp26 s k = some out at h
  unfold lp26 at h
  split at h
  · rename_i n i e0 ys
    cases hg : (decide (i = 0) && (decide (0 ≤ n ∧ n ≤ 1099511627776) && Nat.ble ys.length big)) with
    | false => rw [hg] at h; cases h
    | true =>
      rw [hg] at h
      simp only [Bool.and_eq_true, decide_eq_true_eq] at hg
      obtain ⟨rfl, ⟨hn0, hn1⟩, hx⟩ := hg
      refine ⟨ys.length + 1, ?_⟩
      have hxl := Nat.le_of_ble_eq_true hx
      unfold big at hxl
      have hh := ind26 e0 k ys.length 0 ys n hx hn0 (by omega) (by omega)
      simp only [List.take_zero, List.nil_append] at hh
      exact hh.trans h
  · cases h
theorem e26 (e : Nat) (xs : List EdgeV) (n : Int) : runMn T0 a26 l26 Try.f26 e ⟨.edge, xs⟩ [.el (.sc (.int .i64 n))] = (match (decide (0 = 0) && (decide (0 ≤ n ∧ n ≤ 1099511627776) && Nat.ble (xs : List EdgeV).length big) : Bool) with
  | true => some ⟨[.el (.sc (.int .i64 (n + 3 * ((xs : List EdgeV).length : Int))))], some ⟨e, ⟨.edge, marksE n (xs : List EdgeV).length⟩⟩⟩
  | false => none) := by kernel_rfl
theorem s26 (e : Nat) (xs : List EdgeV) (n : Int) : runMn T0 a26 l26 Try.f26 e ⟨.edge, xs⟩ [.el (.sc (.int .i64 n))] = (match (decide (0 ≤ n ∧ n ≤ 1099511627776) && Nat.ble xs.length big : Bool) with
  | true => some ⟨[.el (.sc (.int .i64 (n + 3 * (xs.length : Int))))], some ⟨e, ⟨.edge, marksE n xs.length⟩⟩⟩
  | false => none) := by
  rw [e26]
  cases h : (decide (0 ≤ n ∧ n ≤ 1099511627776) && Nat.ble xs.length big) <;> simp [h]
theorem c26 (xs : List EdgeV) (n : Int) (k : List RV → Vec → R) (out : Out) (h : (match (decide (0 ≤ n ∧ n ≤ 1099511627776) && Nat.ble xs.length big : Bool) with
  | true => k [.el (.sc (.int .i64 (n + 3 * (xs.length : Int))))] ⟨.edge, marksE n xs.length⟩
  | false => none) = some out) : ∃ rs vec, Real Try.prog 26 ∧ CMOK Try.prog 26 ⟨.edge, xs⟩ [.el (.sc (.int .i64 n))] rs vec ∧ k rs vec = some out := by
  cases g0 : (decide (0 ≤ n ∧ n ≤ 1099511627776) && Nat.ble xs.length big : Bool) with
  | true =>
    rw [g0] at h
    exact ⟨_, _, real Try.func26 (by kernel_rfl), mfn_ok tok0 (A := a26) (L := l26) Try.func26 (by kernel_rfl) (by kernel_rfl) (loops1 (by kernel_rfl) lk26) (by decide) rfl rfl (fun e => by rw [s26, g0]), h⟩
  | false =>
    rw [g0] at h
    cases h

/-! laws.heldFloat32S -/
def a27 : Ann := ann [(2, [0, 1, 5], [1])] [4] 0
def lp27 : St → (Ex → St → R) → R := fun s k => match s with
  | ⟨[(0, .fv (.vw (some 0) ⟨.f32, xs⟩)), (1, .fv (.el (.sc (.int .i64 n)))), (5, .fv (.el (.sc (.int .i64 i))))], []⟩ => (match (decide (i = 0) && (decide (0 ≤ n ∧ n ≤ 1099511627776) && Nat.ble xs.length big) : Bool) with
    | true => (match (heldF n xs : Bool) with
      | true => k (.exit 0) ⟨[(1, .fv (.el (.sc (.int .i64 (n + (xs.length : Int))))))], []⟩
      | false => k .ret ⟨[(4, .fv (.el (.sc (.int .i64 ((-1))))))], []⟩)
    | false => none)
  | _ => none
def l27 : Loops := fun key s k => bif Nat.beq key 2 then lp27 s k else none
theorem st27 (xs : List Nat) (n : Int) (i : Int) (m : Nat) (k : Ex → St → R) : iterK a27 [0, 1, 5] [1] (codeK T0 a27 l27 Try.f27.ntmps (loopAt Try.f27 0)) (m + 1) ⟨[(0, .fv (.vw (some 0) ⟨.f32, xs⟩)), (1, .fv (.el (.sc (.int .i64 n)))), (5, .fv (.el (.sc (.int .i64 i))))], []⟩ k = (match (decide ((i : Int) < (xs.length : Int)) : Bool) with
  | true => (match (decide (0 ≤ (i : Int) ∧ (i : Int) < (xs.length : Int)) && true : Bool) with
    | true => (match (xs : List Nat)[Int.toNat i]? with
      | some x1 => (match (fcmp .neq .f32 x1 (fint .f32 n) : Bool) with
        | true => k .ret ⟨[(4, .fv (.el (.sc (.int .i64 ((-1))))))], []⟩
        | false => iterK a27 [0, 1, 5] [1] (codeK T0 a27 l27 Try.f27.ntmps (loopAt Try.f27 0)) m ⟨[(0, .fv (.vw (some 0) ⟨.f32, xs⟩)), (1, .fv (.el (.sc (.int .i64 (IntKind.i64.wrap (n + 1)))))), (5, .fv (.el (.sc (.int .i64 (IntKind.i64.wrap (i + 1))))))], []⟩ k)
      | none => none)
    | false => none)
  | false => k (.exit 0) ⟨[(1, .fv (.el (.sc (.int .i64 n))))], []⟩) := by kernel_rfl
theorem ind27 (xs : List Nat) (hb : Nat.ble xs.length big = true) (k : Ex → St → R) : ∀ (m j : Nat) (n : Int), 0 ≤ n → n + m ≤ 2199023255552 → j + m = xs.length → iterK a27 [0, 1, 5] [1] (codeK T0 a27 l27 Try.f27.ntmps (loopAt Try.f27 0)) (m + 1) ⟨[(0, .fv (.vw (some 0) ⟨.f32, xs⟩)), (1, .fv (.el (.sc (.int .i64 n)))), (5, .fv (.el (.sc (.int .i64 (j : Int)))))], []⟩ k =
    (match heldF n (xs.drop j) with
    | true => k (.exit 0) ⟨[(1, .fv (.el (.sc (.int .i64 (n + (m : Int))))))], []⟩
    | false => k .ret ⟨[(4, .fv (.el (.sc (.int .i64 (-1)))))], []⟩) := by
  intro m
  induction m with
  | zero =>
    intro j n h0 hn hj
    have h1 : ¬ ((j : Int) < (xs.length : Int)) := by omega
    rw [st27, List.drop_of_length_le (by omega)]
    simp [h1, heldF]
  | succ m ih =>
    intro j n h0 hn hj
    have hlt : j < xs.length := by omega
    have h1 : ((j : Int) < (xs.length : Int)) := by omega
    have h2 : (0 : Int) ≤ (j : Int) := by omega
    have hw : IntKind.i64.wrap (n + 1) = n + 1 := wrap64 (by omega) (by omega)
    have hw2 : IntKind.i64.wrap n = n := wrap64 (by omega) (by omega)
    rw [st27, wrap_succ hlt hb, hw]
    try rw [hw2]
    have h4 : xs[Int.toNat (j : Int)]? = some xs[j] := by simp [hlt]
    have h6 : n + 1 + (m : Int) = n + ((m + 1 : Nat) : Int) := by omega
    rw [List.drop_eq_getElem_cons hlt, ih (j + 1) (n + 1) (by omega) (by omega) (by omega), h6]
    simp only [h1, h2, h4, and_self, decide_true, Bool.and_true, heldF]
    cases fcmp .neq .f32 xs[j] (fint .f32 n) <;> simp

theorem lk27 : LOK T0 a27 l27 Try.f27.ntmps (loopAt Try.f27 0) := by
  intro ins outs hA s k out h
  have hA' : ([0, 1, 5], [1]) = (ins, outs) := Option.some.inj ((show a27.lp (firstRegion (loopAt Try.f27 0)) = some ([0, 1, 5], [1]) by kernel_rfl).symm.trans hA)
  cases hA'
  have hk : firstRegion (loopAt Try.f27 0) = 2 := by kernel_rfl
  rw [hk] at h
  change lp27 s k = some out at h
  unfold lp27 at h
  split at h
  · rename_i xs n i
    cases hg : (decide (i = 0) && (decide (0 ≤ n ∧ n ≤ 1099511627776) && Nat.ble xs.length big)) with
    | false => rw [hg] at h; cases h
    | true =>
      rw [hg] at h
      simp only [Bool.and_eq_true, decide_eq_true_eq] at hg
      obtain ⟨rfl, ⟨hn0, hn1⟩, hx⟩ := hg
      refine ⟨xs.length + 1, ?_⟩
      have hxl := Nat.le_of_ble_eq_true hx
      unfold big at hxl
      exact (ind27 xs hx k xs.length 0 n hn0 (by omega) (by omega)).trans h
  · cases h
theorem e27 (xs : List Nat) (n : Int) : runFn T0 a27 l27 Try.f27 [.vw none ⟨.f32, xs⟩, .el (.sc (.int .i64 n))] = (match (decide (0 = 0) && (decide (0 ≤ n ∧ n ≤ 1099511627776) && Nat.ble xs.length big) : Bool) with
  | true => (match (heldF n xs : Bool) with
    | true => some ⟨[.el (.sc (.int .i64 (n + (xs.length : Int))))], none⟩
    | false => some ⟨[.el (.sc (.int .i64 ((-1))))], none⟩)
  | false => none) := by kernel_rfl
theorem s27 (xs : List Nat) (n : Int) : runFn T0 a27 l27 Try.f27 [.vw none ⟨.f32, xs⟩, .el (.sc (.int .i64 n))] = (match (decide (0 ≤ n ∧ n ≤ 1099511627776) && Nat.ble xs.length big : Bool) with
  | true => some ⟨[.el (.sc (.int .i64 (heldN (heldF n xs) (n + (xs.length : Int)))))], none⟩
  | false => none) := by
  rw [e27]
  unfold heldN
  cases h : (decide (0 ≤ n ∧ n ≤ 1099511627776) && Nat.ble xs.length big) <;> cases h2 : heldF n xs <;> simp [h]
theorem c27 (xs : List Nat) (n : Int) (k : List RV → R) (out : Out) (h : (match (decide (0 ≤ n ∧ n ≤ 1099511627776) && Nat.ble xs.length big : Bool) with
  | true => k [.el (.sc (.int .i64 (heldN (heldF n xs) (n + (xs.length : Int)))))]
  | false => none) = some out) : ∃ rs, Real Try.prog 27 ∧ COK Try.prog 27 [.vw none ⟨.f32, xs⟩, .el (.sc (.int .i64 n))] rs ∧ k rs = some out := by
  cases g0 : (decide (0 ≤ n ∧ n ≤ 1099511627776) && Nat.ble xs.length big : Bool) with
  | true =>
    rw [g0] at h
    exact ⟨_, real Try.func27 (by kernel_rfl), fn_ok tok0 (A := a27) (L := l27) (r := none) Try.func27 (by kernel_rfl) (by kernel_rfl) (loops1 (by kernel_rfl) lk27) (by rw [s27, g0]), h⟩
  | false =>
    rw [g0] at h
    cases h

/-! laws.sameFloat -/
theorem e30 (a : Nat) (b : Nat) : runFn T0 none0 noL Try.f30 [.el (.sc (.fl .f64 a)), .el (.sc (.fl .f64 b))] = (match (fcmp .neq .f64 a a : Bool) with
  | true => (match (fcmp .neq .f64 a a : Bool) with
    | true => some ⟨[.el (.sc (.bo (fcmp .neq .f64 b b)))], none⟩
    | false => some ⟨[.el (.sc (.bo false))], none⟩)
  | false => (match (fcmp .neq .f64 b b : Bool) with
    | true => (match (fcmp .neq .f64 a a : Bool) with
      | true => some ⟨[.el (.sc (.bo (fcmp .neq .f64 b b)))], none⟩
      | false => some ⟨[.el (.sc (.bo false))], none⟩)
    | false => (match (fcmp .eql .f64 a 0 : Bool) with
      | true => (match (fcmp .eql .f64 b 0 : Bool) with
        | true => some ⟨[.el (.sc (.bo ((fcmp .gtr .f64 (fop .quo .f64 4607182418800017408 a) 0) == (fcmp .gtr .f64 (fop .quo .f64 4607182418800017408 b) 0))))], none⟩
        | false => some ⟨[.el (.sc (.bo (fcmp .eql .f64 a b)))], none⟩)
      | false => some ⟨[.el (.sc (.bo (fcmp .eql .f64 a b)))], none⟩))) := by kernel_rfl
theorem s30 (a : Nat) (b : Nat) : runFn T0 none0 noL Try.f30 [.el (.sc (.fl .f64 a)), .el (.sc (.fl .f64 b))] = some ⟨[.el (.sc (.bo (sameF a b)))], none⟩ := by
  rw [e30]
  unfold sameF
  cases fcmp .neq .f64 a a <;> cases fcmp .neq .f64 b b <;> cases fcmp .eql .f64 a 0 <;> cases fcmp .eql .f64 b 0 <;> rfl
theorem c30 (a : Nat) (b : Nat) (k : List RV → R) (out : Out) (h : k [.el (.sc (.bo (sameF a b)))] = some out) : ∃ rs, Real Try.prog 30 ∧ COK Try.prog 30 [.el (.sc (.fl .f64 a)), .el (.sc (.fl .f64 b))] rs ∧ k rs = some out := by
  exact ⟨_, real Try.func30 (by kernel_rfl), fn_ok tok0 (A := none0) (L := noL) (r := none) Try.func30 (by kernel_rfl) (by kernel_rfl) (loops0 (by kernel_rfl)) (by rw [s30]), h⟩

/-! spec.l01Finite -/
theorem s39 (c : Nat) : runFn T0 none0 noL Try.f39 [.el (.sc (.fl .f32 c))] = some ⟨[.el (.sc (.bo (fin c)))], none⟩ := by kernel_rfl
theorem c39 (c : Nat) (k : List RV → R) (out : Out) (h : k [.el (.sc (.bo (fin c)))] = some out) : ∃ rs, Real Try.prog 39 ∧ COK Try.prog 39 [.el (.sc (.fl .f32 c))] rs ∧ k rs = some out := by
  exact ⟨_, real Try.func39 (by kernel_rfl), fn_ok tok0 (A := none0) (L := noL) (r := none) Try.func39 (by kernel_rfl) (by kernel_rfl) (loops0 (by kernel_rfl)) (by rw [s39]), h⟩

/-! impl.IsFinite -/
theorem s42 (c : Nat) : runFn T0 none0 noL Try.f42 [.el (.sc (.fl .f32 c))] = some ⟨[.el (.sc (.bo (fin c)))], none⟩ := by kernel_rfl
theorem c42 (c : Nat) (k : List RV → R) (out : Out) (h : k [.el (.sc (.bo (fin c)))] = some out) : ∃ rs, Real Try.prog 42 ∧ COK Try.prog 42 [.el (.sc (.fl .f32 c))] rs ∧ k rs = some out := by
  exact ⟨_, real Try.func42 (by kernel_rfl), fn_ok tok0 (A := none0) (L := noL) (r := none) Try.func42 (by kernel_rfl) (by kernel_rfl) (loops0 (by kernel_rfl)) (by rw [s42]), h⟩

/-! impl.magnitude -/
theorem e43 (c : Nat) : runFn T0 none0 noL Try.f43 [.el (.sc (.fl .f32 c))] = (match (fcmp .lss .f32 c 0 : Bool) with
  | true => some ⟨[.el (.sc (.fl .f32 (fneg .f32 c)))], none⟩
  | false => some ⟨[.el (.sc (.fl .f32 c))], none⟩) := by kernel_rfl
theorem s43 (c : Nat) : runFn T0 none0 noL Try.f43 [.el (.sc (.fl .f32 c))] = some ⟨[.el (.sc (.fl .f32 (mag c)))], none⟩ := by
  rw [e43]
  unfold mag
  cases fcmp .lss .f32 c 0 <;> rfl
theorem c43 (c : Nat) (k : List RV → R) (out : Out) (h : k [.el (.sc (.fl .f32 (mag c)))] = some out) : ∃ rs, Real Try.prog 43 ∧ COK Try.prog 43 [.el (.sc (.fl .f32 c))] rs ∧ k rs = some out := by
  exact ⟨_, real Try.func43 (by kernel_rfl), fn_ok tok0 (A := none0) (L := noL) (r := none) Try.func43 (by kernel_rfl) (by kernel_rfl) (loops0 (by kernel_rfl)) (by rw [s43]), h⟩

/-! laws.toEdge -/
theorem s46 (lf : Int) (lt : Int) (lp : Nat) : runFn T0 none0 noL Try.f46 [.el (.ag [(.int .i64 lf), (.int .i64 lt), (.fl .f32 lp)])] = some ⟨[.el (.ag [(.int .i64 (((⟨lf, lt, lp⟩ : EdgeV)).f)), (.int .i64 (((⟨lf, lt, lp⟩ : EdgeV)).t)), (.fl .f32 (((⟨lf, lt, lp⟩ : EdgeV)).p))])], none⟩ := by kernel_rfl
theorem c46 (lf : Int) (lt : Int) (lp : Nat) (k : List RV → R) (out : Out) (h : k [.el (.ag [(.int .i64 (((⟨lf, lt, lp⟩ : EdgeV)).f)), (.int .i64 (((⟨lf, lt, lp⟩ : EdgeV)).t)), (.fl .f32 (((⟨lf, lt, lp⟩ : EdgeV)).p))])] = some out) : ∃ rs, Real Try.prog 46 ∧ COK Try.prog 46 [.el (.ag [(.int .i64 lf), (.int .i64 lt), (.fl .f32 lp)])] rs ∧ k rs = some out := by
  exact ⟨_, real Try.func46 (by kernel_rfl), fn_ok tok0 (A := none0) (L := noL) (r := none) Try.func46 (by kernel_rfl) (by kernel_rfl) (loops0 (by kernel_rfl)) (by rw [s46]), h⟩

/-! impl.EdgeLevels$1 -/
theorem e49 (ef : Int) (et : Int) (ep : Nat) (td : List Bool) : runFn T0 none0 noL Try.f49 [.el (.ag [(.int .i64 ef), (.int .i64 et), (.fl .f32 ep)]), .pt ⟨.s .bo [td], 1, 0, 0⟩] = (match (decide (0 ≤ (ef : Int) ∧ (ef : Int) < (td.length : Int)) && true : Bool) with
  | true => (match (td : List Bool)[Int.toNat ef]? with
    | some x1 => (match (decide (0 ≤ (et : Int) ∧ (et : Int) < (td.length : Int)) && true : Bool) with
      | true => (match (td : List Bool)[Int.toNat et]? with
        | some x2 => some ⟨[.el (.sc (.bo (!(x1 == x2))))], none⟩
        | none => none)
      | false => none)
    | none => none)
  | false => none) := by kernel_rfl
theorem s49 (ef : Int) (et : Int) (ep : Nat) (td : List Bool) (hg : (edgeIn td.length ((⟨ef, et, ep⟩ : EdgeV))) = true) : runFn T0 none0 noL Try.f49 [.el (.ag [(.int .i64 ef), (.int .i64 et), (.fl .f32 ep)]), .pt ⟨.s .bo [td], 1, 0, 0⟩] = some ⟨[.el (.sc (.bo (half td ((⟨ef, et, ep⟩ : EdgeV)))))], none⟩ := by
  rw [e49]
  obtain ⟨f0, f1⟩ := edgeIn_f hg
  obtain ⟨t0, t1⟩ := edgeIn_t hg
  dsimp only at f0 f1 t0 t1
  have e1 : td[Int.toNat ef]? = some (td.getD ef.toNat false) := getB (by omega)
  have e2 : td[Int.toNat et]? = some (td.getD et.toNat false) := getB (by omega)
  simp only [f0, f1, t0, t1, e1, e2, and_self, decide_true, Bool.and_true, half]
theorem c49 (ef : Int) (et : Int) (ep : Nat) (td : List Bool) (k : List RV → R) (out : Out) (h : (match (edgeIn td.length ((⟨ef, et, ep⟩ : EdgeV)) : Bool) with
  | true => k [.el (.sc (.bo (half td ((⟨ef, et, ep⟩ : EdgeV)))))]
  | false => none) = some out) : ∃ rs, Real Try.prog 49 ∧ COK Try.prog 49 [.el (.ag [(.int .i64 ef), (.int .i64 et), (.fl .f32 ep)]), .pt ⟨.s .bo [td], 1, 0, 0⟩] rs ∧ k rs = some out := by
  cases g0 : (edgeIn td.length ((⟨ef, et, ep⟩ : EdgeV)) : Bool) with
  | true =>
    rw [g0] at h
    exact ⟨_, real Try.func49 (by kernel_rfl), fn_ok tok0 (A := none0) (L := noL) (r := none) Try.func49 (by kernel_rfl) (by kernel_rfl) (loops0 (by kernel_rfl)) (by rw [s49 _ _ _ _ g0]), h⟩
  | false =>
    rw [g0] at h
    cases h

/-! spec.l05Wide -/
theorem e53 (c : Nat) : runFn T0 none0 noL Try.f53 [.el (.sc (.fl .f32 c))] = (match (fcmp .lss .f32 c 0 : Bool) with
  | true => some ⟨[.el (.sc (.fl .f32 (fneg .f32 c)))], none⟩
  | false => some ⟨[.el (.sc (.fl .f32 c))], none⟩) := by kernel_rfl
theorem s53 (c : Nat) : runFn T0 none0 noL Try.f53 [.el (.sc (.fl .f32 c))] = some ⟨[.el (.sc (.fl .f32 (mag c)))], none⟩ := by
  rw [e53]
  unfold mag
  cases fcmp .lss .f32 c 0 <;> rfl
theorem c53 (c : Nat) (k : List RV → R) (out : Out) (h : k [.el (.sc (.fl .f32 (mag c)))] = some out) : ∃ rs, Real Try.prog 53 ∧ COK Try.prog 53 [.el (.sc (.fl .f32 c))] rs ∧ k rs = some out := by
  exact ⟨_, real Try.func53 (by kernel_rfl), fn_ok tok0 (A := none0) (L := noL) (r := none) Try.func53 (by kernel_rfl) (by kernel_rfl) (loops0 (by kernel_rfl)) (by rw [s53]), h⟩

/-! spec.l00In -/
theorem e63 (n : Int) (a : Int) (b : Int) : runFn T0 none0 noL Try.f63 [.el (.sc (.int .i64 n)), .el (.sc (.int .i64 a)), .el (.sc (.int .i64 b))] = (match (decide ((n : Int) ≥ a) : Bool) with
  | true => some ⟨[.el (.sc (.bo (decide ((n : Int) ≤ b))))], none⟩
  | false => some ⟨[.el (.sc (.bo false))], none⟩) := by kernel_rfl
theorem s63 (n : Int) (a : Int) (b : Int) : runFn T0 none0 noL Try.f63 [.el (.sc (.int .i64 n)), .el (.sc (.int .i64 a)), .el (.sc (.int .i64 b))] = some ⟨[.el (.sc (.bo (within n a b)))], none⟩ := by
  rw [e63]
  unfold within
  cases decide (n ≥ a) <;> rfl
theorem c63 (n : Int) (a : Int) (b : Int) (k : List RV → R) (out : Out) (h : k [.el (.sc (.bo (within n a b)))] = some out) : ∃ rs, Real Try.prog 63 ∧ COK Try.prog 63 [.el (.sc (.int .i64 n)), .el (.sc (.int .i64 a)), .el (.sc (.int .i64 b))] rs ∧ k rs = some out := by
  exact ⟨_, real Try.func63 (by kernel_rfl), fn_ok tok0 (A := none0) (L := noL) (r := none) Try.func63 (by kernel_rfl) (by kernel_rfl) (loops0 (by kernel_rfl)) (by rw [s63]), h⟩

/-! impl.within -/
theorem e64 (n : Int) (a : Int) (b : Int) : runFn T0 none0 noL Try.f64 [.el (.sc (.int .i64 n)), .el (.sc (.int .i64 a)), .el (.sc (.int .i64 b))] = (match (decide ((n : Int) ≥ a) : Bool) with
  | true => some ⟨[.el (.sc (.bo (decide ((n : Int) ≤ b))))], none⟩
  | false => some ⟨[.el (.sc (.bo false))], none⟩) := by kernel_rfl
theorem s64 (n : Int) (a : Int) (b : Int) : runFn T0 none0 noL Try.f64 [.el (.sc (.int .i64 n)), .el (.sc (.int .i64 a)), .el (.sc (.int .i64 b))] = some ⟨[.el (.sc (.bo (within n a b)))], none⟩ := by
  rw [e64]
  unfold within
  cases decide (n ≥ a) <;> rfl
theorem c64 (n : Int) (a : Int) (b : Int) (k : List RV → R) (out : Out) (h : k [.el (.sc (.bo (within n a b)))] = some out) : ∃ rs, Real Try.prog 64 ∧ COK Try.prog 64 [.el (.sc (.int .i64 n)), .el (.sc (.int .i64 a)), .el (.sc (.int .i64 b))] rs ∧ k rs = some out := by
  exact ⟨_, real Try.func64 (by kernel_rfl), fn_ok tok0 (A := none0) (L := noL) (r := none) Try.func64 (by kernel_rfl) (by kernel_rfl) (loops0 (by kernel_rfl)) (by rw [s64]), h⟩

/-! slices.Index[[]bool,bool] -/
def a67 : Ann := ann [(2, [0, 1, 7, 8], [])] [4] 0
def lp67 : St → (Ex → St → R) → R := fun s k => match s with
  | ⟨[(0, .fv (.vw (some 0) ⟨.bo, xs⟩)), (1, .fv (.el (.sc (.bo v)))), (7, .fv (.el (.sc (.int .i64 n)))), (8, .fv (.el (.sc (.int .i64 i))))], []⟩ => (match ((decide (n = (xs.length : Int)) && (decide (i = 0) && Nat.ble xs.length big)) : Bool) with
    | true => (match xs.findIdx? (isB v) with
      | some q => k .ret ⟨[(4, .fv (.el (.sc (.int .i64 ((q : Int))))))], []⟩
      | none => k (.exit 0) ⟨[], []⟩)
    | false => none)
  | _ => none
def l67 : Loops := fun key s k => bif Nat.beq key 2 then lp67 s k else none
theorem st67 (xs : List Bool) (v : Bool) (n : Int) (i : Int) (m : Nat) (k : Ex → St → R) : iterK a67 [0, 1, 7, 8] [] (codeK T0 a67 l67 Try.f67.ntmps (loopAt Try.f67 0)) (m + 1) ⟨[(0, .fv (.vw (some 0) ⟨.bo, xs⟩)), (1, .fv (.el (.sc (.bo v)))), (7, .fv (.el (.sc (.int .i64 n)))), (8, .fv (.el (.sc (.int .i64 i))))], []⟩ k = (match (decide ((i : Int) < n) : Bool) with
  | true => (match (decide (0 ≤ (i : Int) ∧ (i : Int) < (xs.length : Int)) && true : Bool) with
    | true => (match (xs : List Bool)[Int.toNat i]? with
      | some x1 => (match (v == x1 : Bool) with
        | true => k .ret ⟨[(4, .fv (.el (.sc (.int .i64 i))))], []⟩
        | false => iterK a67 [0, 1, 7, 8] [] (codeK T0 a67 l67 Try.f67.ntmps (loopAt Try.f67 0)) m ⟨[(0, .fv (.vw (some 0) ⟨.bo, xs⟩)), (1, .fv (.el (.sc (.bo v)))), (7, .fv (.el (.sc (.int .i64 n)))), (8, .fv (.el (.sc (.int .i64 (IntKind.i64.wrap (i + 1))))))], []⟩ k)
      | none => none)
    | false => none)
  | false => k (.exit 0) ⟨[], []⟩) := by kernel_rfl
theorem ind67 (xs : List Bool) (v : Bool) (hx : Nat.ble xs.length big = true) (k : Ex → St → R) : ∀ (m j : Nat), j + m = xs.length → iterK a67 [0, 1, 7, 8] [] (codeK T0 a67 l67 Try.f67.ntmps (loopAt Try.f67 0)) (m + 1) ⟨[(0, .fv (.vw (some 0) ⟨.bo, xs⟩)), (1, .fv (.el (.sc (.bo v)))), (7, .fv (.el (.sc (.int .i64 (xs.length : Int))))), (8, .fv (.el (.sc (.int .i64 (j : Int)))))], []⟩ k =
    (match (xs.drop j).findIdx? (isB v) with
    | some q => k .ret ⟨[(4, .fv (.el (.sc (.int .i64 ((j + q : Nat) : Int)))))], []⟩
    | none => k (.exit 0) ⟨[], []⟩) := by
  intro m
  induction m with
  | zero =>
    intro j hj
    have h1 : ¬ ((j : Int) < (xs.length : Int)) := by omega
    rw [st67]
    have h2 : xs.drop j = [] := List.drop_of_length_le (by omega)
    simp [h1, h2]
  | succ m ih =>
    intro j hj
    have hlt : j < xs.length := by omega
    have h1 : ((j : Int) < (xs.length : Int)) := by omega
    have h2 : (0 : Int) ≤ (j : Int) := by omega
    rw [st67, wrap_succ hlt hx]
    have h3 : xs[Int.toNat (j : Int)]? = some xs[j] := by simp [hlt]
    have hB : ∀ x : Bool, (v == x) = isB v x := fun _ => rfl
    rw [List.drop_eq_getElem_cons hlt, List.findIdx?_cons]
    simp only [h1, h2, h3, hB, and_self, decide_true, Bool.and_true]
    cases hp : (isB v) xs[j] with
    | true => simp
    | false =>
      rw [ih (j + 1) (by omega)]
      cases (xs.drop (j + 1)).findIdx? (isB v) with
      | none => rfl
      | some q => simp only [Bool.false_eq_true, if_false, Option.map_some]; rw [show j + 1 + q = j + (q + 1) by omega]

theorem lk67 : LOK T0 a67 l67 Try.f67.ntmps (loopAt Try.f67 0) := by
  intro ins outs hA s k out h
  have hA' : ([0, 1, 7, 8], []) = (ins, outs) := Option.some.inj ((show a67.lp (firstRegion (loopAt Try.f67 0)) = some ([0, 1, 7, 8], []) by kernel_rfl).symm.trans hA)
  cases hA'
  have hk : firstRegion (loopAt Try.f67 0) = 2 := by kernel_rfl
  rw [hk] at h
  change lp67 s k = some out at h
  unfold lp67 at h
  split at h
  · rename_i xs v n i
    cases hg : (decide (n = (xs.length : Int)) && (decide (i = 0) && Nat.ble xs.length big)) with
    | false => rw [hg] at h; cases h
    | true =>
      rw [hg] at h
      simp only [Bool.and_eq_true, decide_eq_true_eq] at hg
      obtain ⟨rfl, rfl, hx⟩ := hg
      refine ⟨xs.length + 1, ?_⟩
      have := ind67 xs v hx k xs.length 0 (by omega)
      simp only [List.drop_zero, Nat.zero_add] at this
      exact this.trans h
  · cases h
theorem e67 (xs : List Bool) (v : Bool) : runFn T0 a67 l67 Try.f67 [.vw none ⟨.bo, xs⟩, .el (.sc (.bo v))] = (match ((decide ((xs.length : Int) = (xs.length : Int)) && (decide (0 = 0) && Nat.ble xs.length big)) : Bool) with
  | true => (match xs.findIdx? (isB v) with
    | some q => some ⟨[.el (.sc (.int .i64 ((q : Int))))], none⟩
    | none => some ⟨[.el (.sc (.int .i64 ((-1))))], none⟩)
  | false => none) := by kernel_rfl
theorem s67 (xs : List Bool) (v : Bool) (hg : (Nat.ble xs.length big) = true) : runFn T0 a67 l67 Try.f67 [.vw none ⟨.bo, xs⟩, .el (.sc (.bo v))] = some ⟨[.el (.sc (.int .i64 (firstAt (isB v) xs)))], none⟩ := by
  rw [e67]
  unfold firstAt
  cases h2 : xs.findIdx? (isB v) with
    | some q => simp [hg, h2]
    | none => simp [hg, h2]
theorem c67 (xs : List Bool) (v : Bool) (k : List RV → R) (out : Out) (h : (match (Nat.ble xs.length big : Bool) with
  | true => k [.el (.sc (.int .i64 (firstAt (isB v) xs)))]
  | false => none) = some out) : ∃ rs, Real Try.prog 67 ∧ COK Try.prog 67 [.vw none ⟨.bo, xs⟩, .el (.sc (.bo v))] rs ∧ k rs = some out := by
  cases g0 : (Nat.ble xs.length big : Bool) with
  | true =>
    rw [g0] at h
    exact ⟨_, real Try.func67 (by kernel_rfl), fn_ok tok0 (A := a67) (L := l67) (r := none) Try.func67 (by kernel_rfl) (by kernel_rfl) (loops1 (by kernel_rfl) lk67) (by rw [s67 _ _ g0]), h⟩
  | false =>
    rw [g0] at h
    cases h

def S1 : SFn := fun f args k => match f, args with
  | 21, [.vw none ⟨.edge, xs⟩, .el (.sc (.int .i64 n))] => k [.el (.sc (.int .i64 (szLeft xs.length n)))]
  | 27, [.vw none ⟨.f32, xs⟩, .el (.sc (.int .i64 n))] => (match (decide (0 ≤ n ∧ n ≤ 1099511627776) && Nat.ble xs.length big : Bool) with
    | true => k [.el (.sc (.int .i64 (heldN (heldF n xs) (n + (xs.length : Int)))))]
    | false => none)
  | 30, [.el (.sc (.fl .f64 a)), .el (.sc (.fl .f64 b))] => k [.el (.sc (.bo (sameF a b)))]
  | 39, [.el (.sc (.fl .f32 c))] => k [.el (.sc (.bo (fin c)))]
  | 42, [.el (.sc (.fl .f32 c))] => k [.el (.sc (.bo (fin c)))]
  | 43, [.el (.sc (.fl .f32 c))] => k [.el (.sc (.fl .f32 (mag c)))]
  | 46, [.el (.ag [(.int .i64 lf), (.int .i64 lt), (.fl .f32 lp)])] => k [.el (.ag [(.int .i64 (((⟨lf, lt, lp⟩ : EdgeV)).f)), (.int .i64 (((⟨lf, lt, lp⟩ : EdgeV)).t)), (.fl .f32 (((⟨lf, lt, lp⟩ : EdgeV)).p))])]
  | 49, [.el (.ag [(.int .i64 ef), (.int .i64 et), (.fl .f32 ep)]), .pt ⟨.s .bo [td], 1, 0, 0⟩] => (match (edgeIn td.length ((⟨ef, et, ep⟩ : EdgeV)) : Bool) with
    | true => k [.el (.sc (.bo (half td ((⟨ef, et, ep⟩ : EdgeV)))))]
    | false => none)
  | 53, [.el (.sc (.fl .f32 c))] => k [.el (.sc (.fl .f32 (mag c)))]
  | 63, [.el (.sc (.int .i64 n)), .el (.sc (.int .i64 a)), .el (.sc (.int .i64 b))] => k [.el (.sc (.bo (within n a b)))]
  | 64, [.el (.sc (.int .i64 n)), .el (.sc (.int .i64 a)), .el (.sc (.int .i64 b))] => k [.el (.sc (.bo (within n a b)))]
  | 67, [.vw none ⟨.bo, xs⟩, .el (.sc (.bo v))] => (match (Nat.ble xs.length big : Bool) with
    | true => k [.el (.sc (.int .i64 (firstAt (isB v) xs)))]
    | false => none)
  | _, _ => S0 f args k
def M1 : MFn := fun f vec args k => match f, vec, args with
  | 18, ⟨.f32, xs⟩, [.el (.sc (.int .i64 n))] => (match (decide (0 ≤ n ∧ n ≤ 1099511627776) && Nat.ble xs.length big : Bool) with
    | true => k [.el (.sc (.int .i64 (n + (xs.length : Int))))] ⟨.f32, marks n xs.length⟩
    | false => none)
  | 26, ⟨.edge, xs⟩, [.el (.sc (.int .i64 n))] => (match (decide (0 ≤ n ∧ n ≤ 1099511627776) && Nat.ble xs.length big : Bool) with
    | true => k [.el (.sc (.int .i64 (n + 3 * (xs.length : Int))))] ⟨.edge, marksE n xs.length⟩
    | false => none)
  | _, _, _ => M0 f vec args k
def T1 : TT := tab.T S1 muts M1
theorem tok1 : TOK Try.prog T1 := by
  refine (tab_ok tabok).tok (fun f args k out h => ?_) (fun f vec args k out h => ?_)
  · change S1 f args k = some out at h
    unfold S1 at h
    split at h
    · exact (fun k out h => cok_call (c21 _ _ k out h)) k out h
    · exact (fun k out h => cok_call (c27 _ _ k out h)) k out h
    · exact (fun k out h => cok_call (c30 _ _ k out h)) k out h
    · exact (fun k out h => cok_call (c39 _ k out h)) k out h
    · exact (fun k out h => cok_call (c42 _ k out h)) k out h
    · exact (fun k out h => cok_call (c43 _ k out h)) k out h
    · exact (fun k out h => cok_call (c46 _ _ _ k out h)) k out h
    · exact (fun k out h => cok_call (c49 _ _ _ _ k out h)) k out h
    · exact (fun k out h => cok_call (c53 _ k out h)) k out h
    · exact (fun k out h => cok_call (c63 _ _ _ k out h)) k out h
    · exact (fun k out h => cok_call (c64 _ _ _ k out h)) k out h
    · exact (fun k out h => cok_call (c67 _ _ k out h)) k out h
    · exact tok0.S f args k out h
  · change M1 f vec args k = some out at h
    unfold M1 at h
    split at h
    · exact c18 _ _ k out h
    · exact c26 _ _ k out h
    · exact tok0.M f vec args k out h

end Go.Sm.Ytngcejakoaoojaa
