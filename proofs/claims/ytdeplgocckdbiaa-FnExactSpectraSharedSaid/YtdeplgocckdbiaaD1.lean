/- What the functions hand back: level 0. -/
import Derived.Test.YtdeplgocckdbiaaD0
namespace Go.Sm.Ytdeplgocckdbiaa
open Go Go.Sm Go.RowKit Go.Proofs

/-! laws.markFloat32S -/
def a19 : Ann := ann [(2, [0, 1, 5], [0, 1])] [0, 4] 1
def lp19 : St → (Ex → St → R) → R := fun s k => match s with
  | ⟨[(0, .fv (.own 0)), (1, .fv (.el (.sc (.int .i64 n)))), (5, .fv (.el (.sc (.int .i64 i))))], [some ⟨e0, ⟨.f32, ys⟩⟩]⟩ => (match (decide (i = 0) && (decide (0 ≤ n ∧ n ≤ 1099511627776) && Nat.ble (ys : List Nat).length big) : Bool) with
    | true => k (.exit 0) ⟨[(0, .fv (.own 0)), (1, .fv (.el (.sc (.int .i64 (n + ((ys : List Nat).length : Int))))))], [some ⟨e0, ⟨.f32, marks n (ys : List Nat).length⟩⟩]⟩
    | false => none)
  | _ => none
def l19 : Loops := fun key s k => bif Nat.beq key 2 then lp19 s k else none
theorem st19 (n : Int) (i : Int) (ys : List Nat) (e0 : Nat) (m : Nat) (k : Ex → St → R) : iterK a19 [0, 1, 5] [0, 1] (codeK T0 a19 l19 Try.f19.ntmps (loopAt Try.f19 0)) (m + 1) ⟨[(0, .fv (.own 0)), (1, .fv (.el (.sc (.int .i64 n)))), (5, .fv (.el (.sc (.int .i64 i))))], [some ⟨e0, ⟨.f32, ys⟩⟩]⟩ k = (match (decide ((i : Int) < (ys.length : Int)) : Bool) with
  | true => (match (decide (0 ≤ (i : Int) ∧ (i : Int) < (ys.length : Int)) && true : Bool) with
    | true => (match (ys : List Nat)[Int.toNat i]? with
      | some x1 => iterK a19 [0, 1, 5] [0, 1] (codeK T0 a19 l19 Try.f19.ntmps (loopAt Try.f19 0)) m ⟨[(0, .fv (.own 0)), (1, .fv (.el (.sc (.int .i64 (IntKind.i64.wrap (n + 1)))))), (5, .fv (.el (.sc (.int .i64 (IntKind.i64.wrap (i + 1))))))], [some ⟨e0, ⟨.f32, (ys : List Nat).set (Int.toNat i) (fint .f32 n)⟩⟩]⟩ k
      | none => none)
    | false => none)
  | false => k (.exit 0) ⟨[(0, .fv (.own 0)), (1, .fv (.el (.sc (.int .i64 n))))], [some ⟨e0, ⟨.f32, ys⟩⟩]⟩) := by kernel_rfl
theorem ind19 (e0 : Nat) (k : Ex → St → R) : ∀ (m j : Nat) (ys : List Nat) (n : Int), Nat.ble ys.length big = true → 0 ≤ n → n + m ≤ 2199023255552 → j + m = ys.length → iterK a19 [0, 1, 5] [0, 1] (codeK T0 a19 l19 Try.f19.ntmps (loopAt Try.f19 0)) (m + 1) ⟨[(0, .fv (.own 0)), (1, .fv (.el (.sc (.int .i64 n)))), (5, .fv (.el (.sc (.int .i64 (j : Int)))))], [some ⟨e0, ⟨.f32, ys⟩⟩]⟩ k =
    k (.exit 0) ⟨[(0, .fv (.own 0)), (1, .fv (.el (.sc (.int .i64 (n + (m : Int))))))], [some ⟨e0, ⟨.f32, ys.take j ++ marks n m⟩⟩]⟩ := by
  intro m
  induction m with
  | zero =>
    intro j ys n hb h0 hn hj
    have h1 : ¬ ((j : Int) < (ys.length : Int)) := by omega
    rw [st19, List.take_of_length_le (show ys.length ≤ j by omega)]
    simp [h1, marks]
  | succ m ih =>
    intro j ys n hb h0 hn hj
    have hlt : j < ys.length := by omega
    have h1 : ((j : Int) < (ys.length : Int)) := by omega
    have h2 : (0 : Int) ≤ (j : Int) := by omega
    have hw : IntKind.i64.wrap (n + 1) = n + 1 := wrap64 (by omega) (by omega)
    have hw2 : IntKind.i64.wrap n = n := wrap64 (by omega) (by omega)
    rw [st19, wrap_succ hlt hb, hw]
    have h4 : ys[Int.toNat (j : Int)]? = some ys[j] := by simp [hlt]
    try rw [hw2]
    simp only [h1, h2, h4, and_self, decide_true, Bool.and_true]
    refine (ih (j + 1) (ys.set (Int.toNat (j : Int)) (fint .f32 n)) (n + 1) (by simpa using hb) (by omega) (by omega) (by simp; omega)).trans ?_
    have h5 : (ys.set (Int.toNat (j : Int)) (fint .f32 n)).take (j + 1) ++ marks (n + 1) m = ys.take j ++ marks n (m + 1) := set_take hlt _ _
    have h6 : n + 1 + (m : Int) = n + ((m + 1 : Nat) : Int) := by omega
    rw [h5, h6]

theorem lk19 : LOK T0 a19 l19 Try.f19.ntmps (loopAt Try.f19 0) := by
  intro ins outs hA s k out h
  have hA' : ([0, 1, 5], [0, 1]) = (ins, outs) := Option.some.inj ((show a19.lp (firstRegion (loopAt Try.f19 0)) = some ([0, 1, 5], [0, 1]) by kernel_rfl).symm.trans hA)
  cases hA'
  have hk : firstRegion (loopAt Try.f19 0) = 2 := by kernel_rfl
  rw [hk] at h
  change lp19 s k = some out at h
  unfold lp19 at h
  split at h
  · rename_i n i e0 ys
    cases hg : (decide (i = 0) && (decide (0 ≤ n ∧ n ≤ 1099511627776) && Nat.ble ys.length big)) with
    | false => rw [hg] at h; cases h
    | true =>
      rw [hg] at h
      simp only [Bool.and_eq_true, decide_eq_true_eq] at hg
      obtain ⟨rfl, ⟨hn0, hn1⟩, hx⟩ := hg
      refine ⟨ys.length + 1, ?_⟩
      have hxl := Nat.le_of_ble_eq_true hx
      unfold big at hxl
      have hh := ind19 e0 k ys.length 0 ys n hx hn0 (by omega) (by omega)
      simp only [List.take_zero, List.nil_append] at hh
      exact hh.trans h
  · cases h
theorem e19 (e : Nat) (xs : List Nat) (n : Int) : runMn T0 a19 l19 Try.f19 e ⟨.f32, xs⟩ [.el (.sc (.int .i64 n))] = (match (decide (0 = 0) && (decide (0 ≤ n ∧ n ≤ 1099511627776) && Nat.ble (xs : List Nat).length big) : Bool) with
  | true => some ⟨[.el (.sc (.int .i64 (n + ((xs : List Nat).length : Int))))], some ⟨e, ⟨.f32, marks n (xs : List Nat).length⟩⟩⟩
  | false => none) := by kernel_rfl
theorem s19 (e : Nat) (xs : List Nat) (n : Int) : runMn T0 a19 l19 Try.f19 e ⟨.f32, xs⟩ [.el (.sc (.int .i64 n))] = (match (decide (0 ≤ n ∧ n ≤ 1099511627776) && Nat.ble xs.length big : Bool) with
  | true => some ⟨[.el (.sc (.int .i64 (n + (xs.length : Int))))], some ⟨e, ⟨.f32, marks n xs.length⟩⟩⟩
  | false => none) := by
  rw [e19]
  cases h : (decide (0 ≤ n ∧ n ≤ 1099511627776) && Nat.ble xs.length big) <;> simp [h]
theorem c19 (xs : List Nat) (n : Int) (k : List RV → Vec → R) (out : Out) (h : (match (decide (0 ≤ n ∧ n ≤ 1099511627776) && Nat.ble xs.length big : Bool) with
  | true => k [.el (.sc (.int .i64 (n + (xs.length : Int))))] ⟨.f32, marks n xs.length⟩
  | false => none) = some out) : ∃ rs vec, Real Try.prog 19 ∧ CMOK Try.prog 19 ⟨.f32, xs⟩ [.el (.sc (.int .i64 n))] rs vec ∧ k rs vec = some out := by
  cases g0 : (decide (0 ≤ n ∧ n ≤ 1099511627776) && Nat.ble xs.length big : Bool) with
  | true =>
    rw [g0] at h
    exact ⟨_, _, real Try.func19 (by kernel_rfl), mfn_ok tok0 (A := a19) (L := l19) Try.func19 (by kernel_rfl) (by kernel_rfl) (loops1 (by kernel_rfl) lk19) (by decide) rfl rfl (fun e => by rw [s19, g0]), h⟩
  | false =>
    rw [g0] at h
    cases h

/-! laws.heldFloat32S -/
def a20 : Ann := ann [(2, [0, 1, 5], [1])] [4] 0
def lp20 : St → (Ex → St → R) → R := fun s k => match s with
  | ⟨[(0, .fv (.vw (some 0) ⟨.f32, xs⟩)), (1, .fv (.el (.sc (.int .i64 n)))), (5, .fv (.el (.sc (.int .i64 i))))], []⟩ => (match (decide (i = 0) && (decide (0 ≤ n ∧ n ≤ 1099511627776) && Nat.ble xs.length big) : Bool) with
    | true => (match (heldF n xs : Bool) with
      | true => k (.exit 0) ⟨[(1, .fv (.el (.sc (.int .i64 (n + (xs.length : Int))))))], []⟩
      | false => k .ret ⟨[(4, .fv (.el (.sc (.int .i64 ((-1))))))], []⟩)
    | false => none)
  | _ => none
def l20 : Loops := fun key s k => bif Nat.beq key 2 then lp20 s k else none
theorem st20 (xs : List Nat) (n : Int) (i : Int) (m : Nat) (k : Ex → St → R) : iterK a20 [0, 1, 5] [1] (codeK T0 a20 l20 Try.f20.ntmps (loopAt Try.f20 0)) (m + 1) ⟨[(0, .fv (.vw (some 0) ⟨.f32, xs⟩)), (1, .fv (.el (.sc (.int .i64 n)))), (5, .fv (.el (.sc (.int .i64 i))))], []⟩ k = (match (decide ((i : Int) < (xs.length : Int)) : Bool) with
  | true => (match (decide (0 ≤ (i : Int) ∧ (i : Int) < (xs.length : Int)) && true : Bool) with
    | true => (match (xs : List Nat)[Int.toNat i]? with
      | some x1 => (match (fcmp .neq .f32 x1 (fint .f32 n) : Bool) with
        | true => k .ret ⟨[(4, .fv (.el (.sc (.int .i64 ((-1))))))], []⟩
        | false => iterK a20 [0, 1, 5] [1] (codeK T0 a20 l20 Try.f20.ntmps (loopAt Try.f20 0)) m ⟨[(0, .fv (.vw (some 0) ⟨.f32, xs⟩)), (1, .fv (.el (.sc (.int .i64 (IntKind.i64.wrap (n + 1)))))), (5, .fv (.el (.sc (.int .i64 (IntKind.i64.wrap (i + 1))))))], []⟩ k)
      | none => none)
    | false => none)
  | false => k (.exit 0) ⟨[(1, .fv (.el (.sc (.int .i64 n))))], []⟩) := by kernel_rfl
theorem ind20 (xs : List Nat) (hb : Nat.ble xs.length big = true) (k : Ex → St → R) : ∀ (m j : Nat) (n : Int), 0 ≤ n → n + m ≤ 2199023255552 → j + m = xs.length → iterK a20 [0, 1, 5] [1] (codeK T0 a20 l20 Try.f20.ntmps (loopAt Try.f20 0)) (m + 1) ⟨[(0, .fv (.vw (some 0) ⟨.f32, xs⟩)), (1, .fv (.el (.sc (.int .i64 n)))), (5, .fv (.el (.sc (.int .i64 (j : Int)))))], []⟩ k =
    (match heldF n (xs.drop j) with
    | true => k (.exit 0) ⟨[(1, .fv (.el (.sc (.int .i64 (n + (m : Int))))))], []⟩
    | false => k .ret ⟨[(4, .fv (.el (.sc (.int .i64 (-1)))))], []⟩) := by
  intro m
  induction m with
  | zero =>
    intro j n h0 hn hj
    have h1 : ¬ ((j : Int) < (xs.length : Int)) := by omega
    rw [st20, List.drop_of_length_le (by omega)]
    simp [h1, heldF]
  | succ m ih =>
    intro j n h0 hn hj
    have hlt : j < xs.length := by omega
    have h1 : ((j : Int) < (xs.length : Int)) := by omega
    have h2 : (0 : Int) ≤ (j : Int) := by omega
    have hw : IntKind.i64.wrap (n + 1) = n + 1 := wrap64 (by omega) (by omega)
    have hw2 : IntKind.i64.wrap n = n := wrap64 (by omega) (by omega)
    rw [st20, wrap_succ hlt hb, hw]
    try rw [hw2]
    have h4 : xs[Int.toNat (j : Int)]? = some xs[j] := by simp [hlt]
    have h6 : n + 1 + (m : Int) = n + ((m + 1 : Nat) : Int) := by omega
    rw [List.drop_eq_getElem_cons hlt, ih (j + 1) (n + 1) (by omega) (by omega) (by omega), h6]
    simp only [h1, h2, h4, and_self, decide_true, Bool.and_true, heldF]
    cases fcmp .neq .f32 xs[j] (fint .f32 n) <;> simp

theorem lk20 : LOK T0 a20 l20 Try.f20.ntmps (loopAt Try.f20 0) := by
  intro ins outs hA s k out h
  have hA' : ([0, 1, 5], [1]) = (ins, outs) := Option.some.inj ((show a20.lp (firstRegion (loopAt Try.f20 0)) = some ([0, 1, 5], [1]) by kernel_rfl).symm.trans hA)
  cases hA'
  have hk : firstRegion (loopAt Try.f20 0) = 2 := by kernel_rfl
  rw [hk] at h
  change lp20 s k = some out at h
  unfold lp20 at h
  split at h
  · rename_i xs n i
    cases hg : (decide (i = 0) && (decide (0 ≤ n ∧ n ≤ 1099511627776) && Nat.ble xs.length big)) with
    | false => rw [hg] at h; cases h
    | true =>
      rw [hg] at h
      simp only [Bool.and_eq_true, decide_eq_true_eq] at hg
      obtain ⟨rfl, ⟨hn0, hn1⟩, hx⟩ := hg
      refine ⟨xs.length + 1, ?_⟩
      have hxl := Nat.le_of_ble_eq_true hx
      unfold big at hxl
      exact (ind20 xs hx k xs.length 0 n hn0 (by omega) (by omega)).trans h
  · cases h
theorem e20 (xs : List Nat) (n : Int) : runFn T0 a20 l20 Try.f20 [.vw none ⟨.f32, xs⟩, .el (.sc (.int .i64 n))] = (match (decide (0 = 0) && (decide (0 ≤ n ∧ n ≤ 1099511627776) && Nat.ble xs.length big) : Bool) with
  | true => (match (heldF n xs : Bool) with
    | true => some ⟨[.el (.sc (.int .i64 (n + (xs.length : Int))))], none⟩
    | false => some ⟨[.el (.sc (.int .i64 ((-1))))], none⟩)
  | false => none) := by kernel_rfl
theorem s20 (xs : List Nat) (n : Int) : runFn T0 a20 l20 Try.f20 [.vw none ⟨.f32, xs⟩, .el (.sc (.int .i64 n))] = (match (decide (0 ≤ n ∧ n ≤ 1099511627776) && Nat.ble xs.length big : Bool) with
  | true => some ⟨[.el (.sc (.int .i64 (heldN (heldF n xs) (n + (xs.length : Int)))))], none⟩
  | false => none) := by
  rw [e20]
  unfold heldN
  cases h : (decide (0 ≤ n ∧ n ≤ 1099511627776) && Nat.ble xs.length big) <;> cases h2 : heldF n xs <;> simp [h]
theorem c20 (xs : List Nat) (n : Int) (k : List RV → R) (out : Out) (h : (match (decide (0 ≤ n ∧ n ≤ 1099511627776) && Nat.ble xs.length big : Bool) with
  | true => k [.el (.sc (.int .i64 (heldN (heldF n xs) (n + (xs.length : Int)))))]
  | false => none) = some out) : ∃ rs, Real Try.prog 20 ∧ COK Try.prog 20 [.vw none ⟨.f32, xs⟩, .el (.sc (.int .i64 n))] rs ∧ k rs = some out := by
  cases g0 : (decide (0 ≤ n ∧ n ≤ 1099511627776) && Nat.ble xs.length big : Bool) with
  | true =>
    rw [g0] at h
    exact ⟨_, real Try.func20 (by kernel_rfl), fn_ok tok0 (A := a20) (L := l20) (r := none) Try.func20 (by kernel_rfl) (by kernel_rfl) (loops1 (by kernel_rfl) lk20) (by rw [s20, g0]), h⟩
  | false =>
    rw [g0] at h
    cases h

/-! laws.szLineS -/
theorem e21 (xs : List LineV) (n : Int) : runFn T0 none0 noL Try.f21 [.vw none ⟨.line, xs⟩, .el (.sc (.int .i64 n))] = (match (decide ((IntKind.i64.wrap (n - ((xs.length : Int))) : Int) < 0) : Bool) with
  | true => some ⟨[.el (.sc (.int .i64 ((-1))))], none⟩
  | false => some ⟨[.el (.sc (.int .i64 (IntKind.i64.wrap (n - ((xs.length : Int))))))], none⟩) := by kernel_rfl
theorem s21 (xs : List LineV) (n : Int) : runFn T0 none0 noL Try.f21 [.vw none ⟨.line, xs⟩, .el (.sc (.int .i64 n))] = some ⟨[.el (.sc (.int .i64 (szLeft xs.length n)))], none⟩ := by
  rw [e21]
  unfold szLeft
  cases decide ((IntKind.i64.wrap (n - (xs.length : Int)) : Int) < 0) <;> simp
theorem c21 (xs : List LineV) (n : Int) (k : List RV → R) (out : Out) (h : k [.el (.sc (.int .i64 (szLeft xs.length n)))] = some out) : ∃ rs, Real Try.prog 21 ∧ COK Try.prog 21 [.vw none ⟨.line, xs⟩, .el (.sc (.int .i64 n))] rs ∧ k rs = some out := by
  exact ⟨_, real Try.func21 (by kernel_rfl), fn_ok tok0 (A := none0) (L := noL) (r := none) Try.func21 (by kernel_rfl) (by kernel_rfl) (loops0 (by kernel_rfl)) (by rw [s21]), h⟩

/-! laws.markLineS -/
def a26 : Ann := ann [(2, [0, 1, 5], [0, 1])] [0, 4] 1
def lp26 : St → (Ex → St → R) → R := fun s k => match s with
  | ⟨[(0, .fv (.own 0)), (1, .fv (.el (.sc (.int .i64 n)))), (5, .fv (.el (.sc (.int .i64 i))))], [some ⟨e0, ⟨.line, ys⟩⟩]⟩ => (match (decide (i = 0) && (decide (0 ≤ n ∧ n ≤ 1099511627776) && Nat.ble (ys : List LineV).length big) : Bool) with
    | true => k (.exit 0) ⟨[(0, .fv (.own 0)), (1, .fv (.el (.sc (.int .i64 (n + 4 * ((ys : List LineV).length : Int))))))], [some ⟨e0, ⟨.line, marksL n (ys : List LineV).length⟩⟩]⟩
    | false => none)
  | _ => none
def l26 : Loops := fun key s k => bif Nat.beq key 2 then lp26 s k else none
theorem st26 (n : Int) (i : Int) (ys : List LineV) (e0 : Nat) (m : Nat) (k : Ex → St → R) : iterK a26 [0, 1, 5] [0, 1] (codeK T0 a26 l26 Try.f26.ntmps (loopAt Try.f26 0)) (m + 1) ⟨[(0, .fv (.own 0)), (1, .fv (.el (.sc (.int .i64 n)))), (5, .fv (.el (.sc (.int .i64 i))))], [some ⟨e0, ⟨.line, ys⟩⟩]⟩ k = (match (decide ((i : Int) < (ys.length : Int)) : Bool) with
  | true => (match (decide (0 ≤ (i : Int) ∧ (i : Int) < (ys.length : Int)) && true : Bool) with
    | true => (match (ys : List LineV)[Int.toNat i]? with
      | some x1 => (match (decide (0 ≤ (i : Int) ∧ (i : Int) < (((ys : List LineV).set (Int.toNat i) ((⟨fint .f32 n, x1.h, x1.w, x1.k⟩ : LineV))).length : Int)) && true : Bool) with
        | true => (match ((ys : List LineV).set (Int.toNat i) ((⟨fint .f32 n, x1.h, x1.w, x1.k⟩ : LineV)) : List LineV)[Int.toNat i]? with
          | some x2 => (match (decide (0 ≤ (i : Int) ∧ (i : Int) < ((((ys : List LineV).set (Int.toNat i) ((⟨fint .f32 n, x1.h, x1.w, x1.k⟩ : LineV)) : List LineV).set (Int.toNat i) ((⟨x2.p, fint .f32 (IntKind.i64.wrap (n + 1)), x2.w, x2.k⟩ : LineV))).length : Int)) && true : Bool) with
            | true => (match (((ys : List LineV).set (Int.toNat i) ((⟨fint .f32 n, x1.h, x1.w, x1.k⟩ : LineV)) : List LineV).set (Int.toNat i) ((⟨x2.p, fint .f32 (IntKind.i64.wrap (n + 1)), x2.w, x2.k⟩ : LineV)) : List LineV)[Int.toNat i]? with
              | some x3 => (match (decide (0 ≤ (i : Int) ∧ (i : Int) < (((((ys : List LineV).set (Int.toNat i) ((⟨fint .f32 n, x1.h, x1.w, x1.k⟩ : LineV)) : List LineV).set (Int.toNat i) ((⟨x2.p, fint .f32 (IntKind.i64.wrap (n + 1)), x2.w, x2.k⟩ : LineV)) : List LineV).set (Int.toNat i) ((⟨x3.p, x3.h, fint .f32 (IntKind.i64.wrap ((IntKind.i64.wrap (n + 1)) + 1)), x3.k⟩ : LineV))).length : Int)) && true : Bool) with
                | true => (match ((((ys : List LineV).set (Int.toNat i) ((⟨fint .f32 n, x1.h, x1.w, x1.k⟩ : LineV)) : List LineV).set (Int.toNat i) ((⟨x2.p, fint .f32 (IntKind.i64.wrap (n + 1)), x2.w, x2.k⟩ : LineV)) : List LineV).set (Int.toNat i) ((⟨x3.p, x3.h, fint .f32 (IntKind.i64.wrap ((IntKind.i64.wrap (n + 1)) + 1)), x3.k⟩ : LineV)) : List LineV)[Int.toNat i]? with
                  | some x4 => iterK a26 [0, 1, 5] [0, 1] (codeK T0 a26 l26 Try.f26.ntmps (loopAt Try.f26 0)) m ⟨[(0, .fv (.own 0)), (1, .fv (.el (.sc (.int .i64 (IntKind.i64.wrap ((IntKind.i64.wrap ((IntKind.i64.wrap ((IntKind.i64.wrap (n + 1)) + 1)) + 1)) + 1)))))), (5, .fv (.el (.sc (.int .i64 (IntKind.i64.wrap (i + 1))))))], [some ⟨e0, ⟨.line, ((((ys : List LineV).set (Int.toNat i) ((⟨fint .f32 n, x1.h, x1.w, x1.k⟩ : LineV)) : List LineV).set (Int.toNat i) ((⟨x2.p, fint .f32 (IntKind.i64.wrap (n + 1)), x2.w, x2.k⟩ : LineV)) : List LineV).set (Int.toNat i) ((⟨x3.p, x3.h, fint .f32 (IntKind.i64.wrap ((IntKind.i64.wrap (n + 1)) + 1)), x3.k⟩ : LineV)) : List LineV).set (Int.toNat i) ((⟨x4.p, x4.h, x4.w, IntKind.i64.wrap ((IntKind.i64.wrap ((IntKind.i64.wrap (n + 1)) + 1)) + 1)⟩ : LineV))⟩⟩]⟩ k
                  | none => none)
                | false => none)
              | none => none)
            | false => none)
          | none => none)
        | false => none)
      | none => none)
    | false => none)
  | false => k (.exit 0) ⟨[(0, .fv (.own 0)), (1, .fv (.el (.sc (.int .i64 n))))], [some ⟨e0, ⟨.line, ys⟩⟩]⟩) := by kernel_rfl
theorem ind26 (e0 : Nat) (k : Ex → St → R) : ∀ (m j : Nat) (ys : List LineV) (n : Int), Nat.ble ys.length big = true → 0 ≤ n → n + 4 * m ≤ 8796093022208 → j + m = ys.length → iterK a26 [0, 1, 5] [0, 1] (codeK T0 a26 l26 Try.f26.ntmps (loopAt Try.f26 0)) (m + 1) ⟨[(0, .fv (.own 0)), (1, .fv (.el (.sc (.int .i64 n)))), (5, .fv (.el (.sc (.int .i64 (j : Int)))))], [some ⟨e0, ⟨.line, ys⟩⟩]⟩ k =
    k (.exit 0) ⟨[(0, .fv (.own 0)), (1, .fv (.el (.sc (.int .i64 (n + 4 * (m : Int))))))], [some ⟨e0, ⟨.line, ys.take j ++ marksL n m⟩⟩]⟩ := by
  intro m
  induction m with
  | zero =>
    intro j ys n hb h0 hn hj
    have h1 : ¬ ((j : Int) < (ys.length : Int)) := by omega
    rw [st26, List.take_of_length_le (show ys.length ≤ j by omega)]
    simp [h1, marksL]
  | succ m ih =>
    intro j ys n hb h0 hn hj
    have hlt : j < ys.length := by omega
    have h1 : ((j : Int) < (ys.length : Int)) := by omega
    have h2 : (0 : Int) ≤ (j : Int) := by omega
    have hw1 : IntKind.i64.wrap (n + 1) = n + 1 := wrap64 (by omega) (by omega)
    have hw2 : IntKind.i64.wrap (n + 1 + 1) = n + 1 + 1 := wrap64 (by omega) (by omega)
    have hw3 : IntKind.i64.wrap (n + 1 + 1 + 1) = n + 1 + 1 + 1 := wrap64 (by omega) (by omega)
    have hw4 : IntKind.i64.wrap (n + 1 + 1 + 1 + 1) = n + 1 + 1 + 1 + 1 := wrap64 (by omega) (by omega)
    rw [st26, wrap_succ hlt hb]
    have h4 : ys[Int.toNat (j : Int)]? = some ys[j] := by simp [hlt]
    have h5 : ∀ b : LineV, (ys.set (Int.toNat (j : Int)) b)[Int.toNat (j : Int)]? = some b := by
      intro b
      simp [hlt]
    simp only [hw1, hw2, hw3, hw4, h1, h2, h4, h5, List.length_set, List.set_set, and_self, decide_true, Bool.and_true]
    refine (ih (j + 1) (ys.set (Int.toNat (j : Int)) (lineOf n)) (n + 1 + 1 + 1 + 1) (by simpa using hb) (by omega) (by omega) (by simp; omega)).trans ?_
    have h5 : (ys.set (Int.toNat (j : Int)) (lineOf n)).take (j + 1) ++ marksL (n + 1 + 1 + 1 + 1) m = ys.take j ++ marksL n (m + 1) := set_take hlt _ _
    have h6 : n + 1 + 1 + 1 + 1 + 4 * (m : Int) = n + 4 * ((m + 1 : Nat) : Int) := by omega
    rw [h5, h6]

theorem lk26 : LOK T0 a26 l26 Try.f26.ntmps (loopAt Try.f26 0) := by
  intro ins outs hA s k out h
  have hA' : ([0, 1, 5], [0, 1]) = (ins, outs) := Option.some.inj ((show a26.lp (firstRegion (loopAt Try.f26 0)) = some ([0, 1, 5], [0, 1]) by kernel_rfl).symm.trans hA)
  cases hA'
  have hk : firstRegion (loopAt Try.f26 0) = 2 := by kernel_rfl
  rw [hk] at h
  change lp26 s k = some out at h
  unfold lp26 at h
  split at h
  · rename_i n i e0 ys
    cases hg : (decide (i = 0) && (decide (0 ≤ n ∧ n ≤ 1099511627776) && Nat.ble ys.length big)) with
    | false => rw [hg] at h; cases h
    | true =>
      rw [hg] at h
      simp only [Bool.and_eq_true, decide_eq_true_eq] at hg
      obtain ⟨rfl, ⟨hn0, hn1⟩, hx⟩ := hg
      refine ⟨ys.length + 1, ?_⟩
      have hxl := Nat.le_of_ble_eq_true hx
      unfold big at hxl
      have hh := ind26 e0 k ys.length 0 ys n hx hn0 (by omega) (by omega)
      simp only [List.take_zero, List.nil_append] at hh
      exact hh.trans h
  · cases h
theorem e26 (e : Nat) (xs : List LineV) (n : Int) : runMn T0 a26 l26 Try.f26 e ⟨.line, xs⟩ [.el (.sc (.int .i64 n))] = (match (decide (0 = 0) && (decide (0 ≤ n ∧ n ≤ 1099511627776) && Nat.ble (xs : List LineV).length big) : Bool) with
  | true => some ⟨[.el (.sc (.int .i64 (n + 4 * ((xs : List LineV).length : Int))))], some ⟨e, ⟨.line, marksL n (xs : List LineV).length⟩⟩⟩
  | false => none) := by kernel_rfl
theorem s26 (e : Nat) (xs : List LineV) (n : Int) : runMn T0 a26 l26 Try.f26 e ⟨.line, xs⟩ [.el (.sc (.int .i64 n))] = (match (decide (0 ≤ n ∧ n ≤ 1099511627776) && Nat.ble xs.length big : Bool) with
  | true => some ⟨[.el (.sc (.int .i64 (n + 4 * (xs.length : Int))))], some ⟨e, ⟨.line, marksL n xs.length⟩⟩⟩
  | false => none) := by
  rw [e26]
  cases h : (decide (0 ≤ n ∧ n ≤ 1099511627776) && Nat.ble xs.length big) <;> simp [h]
theorem c26 (xs : List LineV) (n : Int) (k : List RV → Vec → R) (out : Out) (h : (match (decide (0 ≤ n ∧ n ≤ 1099511627776) && Nat.ble xs.length big : Bool) with
  | true => k [.el (.sc (.int .i64 (n + 4 * (xs.length : Int))))] ⟨.line, marksL n xs.length⟩
  | false => none) = some out) : ∃ rs vec, Real Try.prog 26 ∧ CMOK Try.prog 26 ⟨.line, xs⟩ [.el (.sc (.int .i64 n))] rs vec ∧ k rs vec = some out := by
  cases g0 : (decide (0 ≤ n ∧ n ≤ 1099511627776) && Nat.ble xs.length big : Bool) with
  | true =>
    rw [g0] at h
    exact ⟨_, _, real Try.func26 (by kernel_rfl), mfn_ok tok0 (A := a26) (L := l26) Try.func26 (by kernel_rfl) (by kernel_rfl) (loops1 (by kernel_rfl) lk26) (by decide) rfl rfl (fun e => by rw [s26, g0]), h⟩
  | false =>
    rw [g0] at h
    cases h

/-! laws.sameFloat -/
theorem e29 (a : Nat) (b : Nat) : runFn T0 none0 noL Try.f29 [.el (.sc (.fl .f64 a)), .el (.sc (.fl .f64 b))] = (match (fcmp .neq .f64 a a : Bool) with
  | true => (match (fcmp .neq .f64 a a : Bool) with
    | true => some ⟨[.el (.sc (.bo (fcmp .neq .f64 b b)))], none⟩
    | false => some ⟨[.el (.sc (.bo false))], none⟩)
  | false => (match (fcmp .neq .f64 b b : Bool) with
    | true => (match (fcmp .neq .f64 a a : Bool) with
      | true => some ⟨[.el (.sc (.bo (fcmp .neq .f64 b b)))], none⟩
      | false => some ⟨[.el (.sc (.bo false))], none⟩)
    | false => (match (fcmp .eql .f64 a 0 : Bool) with
      | true => (match (fcmp .eql .f64 b 0 : Bool) with
        | true => some ⟨[.el (.sc (.bo ((fcmp .gtr .f64 (fop .quo .f64 4607182418800017408 a) 0) == (fcmp .gtr .f64 (fop .quo .f64 4607182418800017408 b) 0))))], none⟩
        | false => some ⟨[.el (.sc (.bo (fcmp .eql .f64 a b)))], none⟩)
      | false => some ⟨[.el (.sc (.bo (fcmp .eql .f64 a b)))], none⟩))) := by kernel_rfl
theorem s29 (a : Nat) (b : Nat) : runFn T0 none0 noL Try.f29 [.el (.sc (.fl .f64 a)), .el (.sc (.fl .f64 b))] = some ⟨[.el (.sc (.bo (sameF a b)))], none⟩ := by
  rw [e29]
  unfold sameF
  cases fcmp .neq .f64 a a <;> cases fcmp .neq .f64 b b <;> cases fcmp .eql .f64 a 0 <;> cases fcmp .eql .f64 b 0 <;> rfl
theorem c29 (a : Nat) (b : Nat) (k : List RV → R) (out : Out) (h : k [.el (.sc (.bo (sameF a b)))] = some out) : ∃ rs, Real Try.prog 29 ∧ COK Try.prog 29 [.el (.sc (.fl .f64 a)), .el (.sc (.fl .f64 b))] rs ∧ k rs = some out := by
  exact ⟨_, real Try.func29 (by kernel_rfl), fn_ok tok0 (A := none0) (L := noL) (r := none) Try.func29 (by kernel_rfl) (by kernel_rfl) (loops0 (by kernel_rfl)) (by rw [s29]), h⟩

/-! laws.toLine -/
theorem s47 (lp : Nat) (lh : Nat) (lw : Nat) (lk : Int) : runFn T0 none0 noL Try.f47 [.el (.ag [(.fl .f32 lp), (.fl .f32 lh), (.fl .f32 lw), (.int .i64 lk)])] = some ⟨[.el (.ag [(.fl .f32 (((⟨lp, lh, lw, lk⟩ : LineV)).p)), (.fl .f32 (((⟨lp, lh, lw, lk⟩ : LineV)).h)), (.fl .f32 (((⟨lp, lh, lw, lk⟩ : LineV)).w)), (.int .i64 (((⟨lp, lh, lw, lk⟩ : LineV)).k))])], none⟩ := by kernel_rfl
theorem c47 (lp : Nat) (lh : Nat) (lw : Nat) (lk : Int) (k : List RV → R) (out : Out) (h : k [.el (.ag [(.fl .f32 (((⟨lp, lh, lw, lk⟩ : LineV)).p)), (.fl .f32 (((⟨lp, lh, lw, lk⟩ : LineV)).h)), (.fl .f32 (((⟨lp, lh, lw, lk⟩ : LineV)).w)), (.int .i64 (((⟨lp, lh, lw, lk⟩ : LineV)).k))])] = some out) : ∃ rs, Real Try.prog 47 ∧ COK Try.prog 47 [.el (.ag [(.fl .f32 lp), (.fl .f32 lh), (.fl .f32 lw), (.int .i64 lk)])] rs ∧ k rs = some out := by
  exact ⟨_, real Try.func47 (by kernel_rfl), fn_ok tok0 (A := none0) (L := noL) (r := none) Try.func47 (by kernel_rfl) (by kernel_rfl) (loops0 (by kernel_rfl)) (by rw [s47]), h⟩

/-! spec.l00In -/
theorem e76 (n : Int) (a : Int) (b : Int) : runFn T0 none0 noL Try.f76 [.el (.sc (.int .i64 n)), .el (.sc (.int .i64 a)), .el (.sc (.int .i64 b))] = (match (decide ((n : Int) ≥ a) : Bool) with
  | true => some ⟨[.el (.sc (.bo (decide ((n : Int) ≤ b))))], none⟩
  | false => some ⟨[.el (.sc (.bo false))], none⟩) := by kernel_rfl
theorem s76 (n : Int) (a : Int) (b : Int) : runFn T0 none0 noL Try.f76 [.el (.sc (.int .i64 n)), .el (.sc (.int .i64 a)), .el (.sc (.int .i64 b))] = some ⟨[.el (.sc (.bo (within n a b)))], none⟩ := by
  rw [e76]
  unfold within
  cases decide (n ≥ a) <;> rfl
theorem c76 (n : Int) (a : Int) (b : Int) (k : List RV → R) (out : Out) (h : k [.el (.sc (.bo (within n a b)))] = some out) : ∃ rs, Real Try.prog 76 ∧ COK Try.prog 76 [.el (.sc (.int .i64 n)), .el (.sc (.int .i64 a)), .el (.sc (.int .i64 b))] rs ∧ k rs = some out := by
  exact ⟨_, real Try.func76 (by kernel_rfl), fn_ok tok0 (A := none0) (L := noL) (r := none) Try.func76 (by kernel_rfl) (by kernel_rfl) (loops0 (by kernel_rfl)) (by rw [s76]), h⟩

/-! impl.within -/
theorem e80 (n : Int) (a : Int) (b : Int) : runFn T0 none0 noL Try.f80 [.el (.sc (.int .i64 n)), .el (.sc (.int .i64 a)), .el (.sc (.int .i64 b))] = (match (decide ((n : Int) ≥ a) : Bool) with
  | true => some ⟨[.el (.sc (.bo (decide ((n : Int) ≤ b))))], none⟩
  | false => some ⟨[.el (.sc (.bo false))], none⟩) := by kernel_rfl
theorem s80 (n : Int) (a : Int) (b : Int) : runFn T0 none0 noL Try.f80 [.el (.sc (.int .i64 n)), .el (.sc (.int .i64 a)), .el (.sc (.int .i64 b))] = some ⟨[.el (.sc (.bo (within n a b)))], none⟩ := by
  rw [e80]
  unfold within
  cases decide (n ≥ a) <;> rfl
theorem c80 (n : Int) (a : Int) (b : Int) (k : List RV → R) (out : Out) (h : k [.el (.sc (.bo (within n a b)))] = some out) : ∃ rs, Real Try.prog 80 ∧ COK Try.prog 80 [.el (.sc (.int .i64 n)), .el (.sc (.int .i64 a)), .el (.sc (.int .i64 b))] rs ∧ k rs = some out := by
  exact ⟨_, real Try.func80 (by kernel_rfl), fn_ok tok0 (A := none0) (L := noL) (r := none) Try.func80 (by kernel_rfl) (by kernel_rfl) (loops0 (by kernel_rfl)) (by rw [s80]), h⟩

/-! spec.l01Finite -/
theorem s92 (c : Nat) : runFn T0 none0 noL Try.f92 [.el (.sc (.fl .f32 c))] = some ⟨[.el (.sc (.bo (fin c)))], none⟩ := by kernel_rfl
theorem c92 (c : Nat) (k : List RV → R) (out : Out) (h : k [.el (.sc (.bo (fin c)))] = some out) : ∃ rs, Real Try.prog 92 ∧ COK Try.prog 92 [.el (.sc (.fl .f32 c))] rs ∧ k rs = some out := by
  exact ⟨_, real Try.func92 (by kernel_rfl), fn_ok tok0 (A := none0) (L := noL) (r := none) Try.func92 (by kernel_rfl) (by kernel_rfl) (loops0 (by kernel_rfl)) (by rw [s92]), h⟩

/-! impl.IsFinite -/
theorem s97 (c : Nat) : runFn T0 none0 noL Try.f97 [.el (.sc (.fl .f32 c))] = some ⟨[.el (.sc (.bo (fin c)))], none⟩ := by kernel_rfl
theorem c97 (c : Nat) (k : List RV → R) (out : Out) (h : k [.el (.sc (.bo (fin c)))] = some out) : ∃ rs, Real Try.prog 97 ∧ COK Try.prog 97 [.el (.sc (.fl .f32 c))] rs ∧ k rs = some out := by
  exact ⟨_, real Try.func97 (by kernel_rfl), fn_ok tok0 (A := none0) (L := noL) (r := none) Try.func97 (by kernel_rfl) (by kernel_rfl) (loops0 (by kernel_rfl)) (by rw [s97]), h⟩

/-! spec.l05Place -/
theorem s114 (b : Nat) (d : Nat) (i : Int) : runFn T0 none0 noL Try.f114 [.el (.sc (.fl .f32 b)), .el (.sc (.fl .f32 d)), .el (.sc (.int .i64 i))] = some ⟨[.el (.sc (.fl .f32 (placeAt b d i)))], none⟩ := by kernel_rfl
theorem c114 (b : Nat) (d : Nat) (i : Int) (k : List RV → R) (out : Out) (h : k [.el (.sc (.fl .f32 (placeAt b d i)))] = some out) : ∃ rs, Real Try.prog 114 ∧ COK Try.prog 114 [.el (.sc (.fl .f32 b)), .el (.sc (.fl .f32 d)), .el (.sc (.int .i64 i))] rs ∧ k rs = some out := by
  exact ⟨_, real Try.func114 (by kernel_rfl), fn_ok tok0 (A := none0) (L := noL) (r := none) Try.func114 (by kernel_rfl) (by kernel_rfl) (loops0 (by kernel_rfl)) (by rw [s114]), h⟩

/-! impl.sum -/
def a129 : Ann := ann [(3, [3, 6, 7, 8], [3])] [2] 0
def lp129 : St → (Ex → St → R) → R := fun s k => match s with
  | ⟨[(3, .fv (.el (.sc (.fl .f32 a)))), (6, .fv (.vw (some 0) ⟨.f32, xs⟩)), (7, .fv (.el (.sc (.int .i64 n)))), (8, .fv (.el (.sc (.int .i64 i))))], []⟩ => (match ((decide (n = (xs.length : Int)) && (decide (i = 0) && Nat.ble xs.length big)) : Bool) with
    | true => k (.exit 0) ⟨[(3, .fv (.el (.sc (.fl .f32 (rep (fun j a => fop .add .f32 a (xs.getD j 0)) (xs.length) 0 (a : Nat))))))], []⟩
    | false => none)
  | _ => none
def l129 : Loops := fun key s k => bif Nat.beq key 3 then lp129 s k else none
theorem st129 (a : Nat) (xs : List Nat) (n : Int) (i : Int) (m : Nat) (k : Ex → St → R) : iterK a129 [3, 6, 7, 8] [3] (codeK T0 a129 l129 Try.f129.ntmps (loopAt Try.f129 0)) (m + 1) ⟨[(3, .fv (.el (.sc (.fl .f32 a)))), (6, .fv (.vw (some 0) ⟨.f32, xs⟩)), (7, .fv (.el (.sc (.int .i64 n)))), (8, .fv (.el (.sc (.int .i64 i))))], []⟩ k = (match (decide ((i : Int) < n) : Bool) with
  | true => (match (decide (0 ≤ (i : Int) ∧ (i : Int) < (xs.length : Int)) && true : Bool) with
    | true => (match (xs : List Nat)[Int.toNat i]? with
      | some x1 => iterK a129 [3, 6, 7, 8] [3] (codeK T0 a129 l129 Try.f129.ntmps (loopAt Try.f129 0)) m ⟨[(3, .fv (.el (.sc (.fl .f32 (fop .add .f32 a x1))))), (6, .fv (.vw (some 0) ⟨.f32, xs⟩)), (7, .fv (.el (.sc (.int .i64 n)))), (8, .fv (.el (.sc (.int .i64 (IntKind.i64.wrap (i + 1))))))], []⟩ k
      | none => none)
    | false => none)
  | false => k (.exit 0) ⟨[(3, .fv (.el (.sc (.fl .f32 a))))], []⟩) := by kernel_rfl
theorem ind129 (xs : List Nat) (hx : (Nat.ble xs.length big) = true) (k : Ex → St → R) : ∀ (m j : Nat) (a : Nat), 0 ≤ j → j + m = xs.length → iterK a129 [3, 6, 7, 8] [3] (codeK T0 a129 l129 Try.f129.ntmps (loopAt Try.f129 0)) (m + 1) ⟨[(3, .fv (.el (.sc (.fl .f32 a)))), (6, .fv (.vw (some 0) ⟨.f32, xs⟩)), (7, .fv (.el (.sc (.int .i64 (xs.length : Int))))), (8, .fv (.el (.sc (.int .i64 (j : Int)))))], []⟩ k =
    k (.exit 0) ⟨[(3, .fv (.el (.sc (.fl .f32 (rep (fun j a => fop .add .f32 a (xs.getD j 0)) m j (a : Nat))))))], []⟩ := by
  intro m
  induction m with
  | zero =>
    intro j a hlo hj
    have hx_ := big_le hx
    have h1 : ¬ (((j : Int) < (xs.length : Int))) := by omega
    rw [st129]
    simp only [h1, rep, decide_false] <;> rfl
  | succ m ih =>
    intro j a hlo hj
    have hx_ := big_le hx
    have h1 : ((j : Int) < (xs.length : Int)) := by omega
    have xb : (0 : Int) ≤ ((j : Nat) : Int) ∧ ((j : Nat) : Int) < (xs.length : Int) := by omega
    have xq : xs[Int.toNat ((j : Nat) : Int)]? = some (xs.getD (j) 0) := getI (by omega)
    have xp : xs[j]? = some (xs.getD (j) 0) := getI2 (by omega)
    have wn : IntKind.i64.wrap ((j : Int) + 1) = ((j + 1 : Nat) : Int) := wrapN (by omega) (by omega)
    rw [st129]
    simp only [h1, wn, xb, xq, xp, and_self, decide_true, Bool.and_true, Int.le_refl]
    exact ih (j + 1) _ (by omega) (by omega)

theorem lk129 : LOK T0 a129 l129 Try.f129.ntmps (loopAt Try.f129 0) := by
  intro ins outs hA s k out h
  have hA' : ([3, 6, 7, 8], [3]) = (ins, outs) := Option.some.inj ((show a129.lp (firstRegion (loopAt Try.f129 0)) = some ([3, 6, 7, 8], [3]) by kernel_rfl).symm.trans hA)
  cases hA'
  have hk : firstRegion (loopAt Try.f129 0) = 3 := by kernel_rfl
  rw [hk] at h
  change lp129 s k = some out at h
  unfold lp129 at h
  split at h
  · rename_i a xs n i
    cases hg : (decide (n = (xs.length : Int)) && (decide (i = 0) && Nat.ble xs.length big)) with
    | false => rw [hg] at h; cases h
    | true =>
      rw [hg] at h
      simp only [Bool.and_eq_true, decide_eq_true_eq] at hg
      obtain ⟨rfl, rfl, hx⟩ := hg
      refine ⟨(xs.length) + 1, ?_⟩
      have hx_ := big_le hx
      exact (ind129 xs hx k (xs.length) 0 a (by omega) (by omega)).trans h
  · cases h
theorem e129 (xs : List Nat) : runFn T0 a129 l129 Try.f129 [.vw none ⟨.f32, xs⟩] = (match ((decide (((xs.length : Int)) = (xs.length : Int)) && (decide (0 = 0) && Nat.ble xs.length big)) : Bool) with
  | true => some ⟨[.el (.sc (.fl .f32 (rep (fun j a => fop .add .f32 a (xs.getD j 0)) (xs.length) 0 (0 : Nat))))], none⟩
  | false => none) := by kernel_rfl
theorem s129 (xs : List Nat) : runFn T0 a129 l129 Try.f129 [.vw none ⟨.f32, xs⟩] = (match (Nat.ble xs.length big : Bool) with
  | true => some ⟨[.el (.sc (.fl .f32 (sumF xs)))], none⟩
  | false => none) := by
  rw [e129]
  cases h : Nat.ble xs.length big with
  | false => simp
  | true =>
    have e := rep_list 0 (fop .add .f32) xs xs.length 0 0 (by omega)
    rw [List.drop_zero] at e
    simp [-List.getD_eq_getElem?_getD, e, sumF]
theorem c129 (xs : List Nat) (k : List RV → R) (out : Out) (h : (match (Nat.ble xs.length big : Bool) with
  | true => k [.el (.sc (.fl .f32 (sumF xs)))]
  | false => none) = some out) : ∃ rs, Real Try.prog 129 ∧ COK Try.prog 129 [.vw none ⟨.f32, xs⟩] rs ∧ k rs = some out := by
  cases g0 : (Nat.ble xs.length big : Bool) with
  | true =>
    rw [g0] at h
    exact ⟨_, real Try.func129 (by kernel_rfl), fn_ok tok0 (A := a129) (L := l129) (r := none) Try.func129 (by kernel_rfl) (by kernel_rfl) (loops1 (by kernel_rfl) lk129) (by rw [s129, g0]), h⟩
  | false =>
    rw [g0] at h
    cases h

/-! impl.magnitude -/
theorem e137 (c : Nat) : runFn T0 none0 noL Try.f137 [.el (.sc (.fl .f32 c))] = (match (fcmp .lss .f32 c 0 : Bool) with
  | true => some ⟨[.el (.sc (.fl .f32 (fneg .f32 c)))], none⟩
  | false => some ⟨[.el (.sc (.fl .f32 c))], none⟩) := by kernel_rfl
theorem s137 (c : Nat) : runFn T0 none0 noL Try.f137 [.el (.sc (.fl .f32 c))] = some ⟨[.el (.sc (.fl .f32 (mag c)))], none⟩ := by
  rw [e137]
  unfold mag
  cases fcmp .lss .f32 c 0 <;> rfl
theorem c137 (c : Nat) (k : List RV → R) (out : Out) (h : k [.el (.sc (.fl .f32 (mag c)))] = some out) : ∃ rs, Real Try.prog 137 ∧ COK Try.prog 137 [.el (.sc (.fl .f32 c))] rs ∧ k rs = some out := by
  exact ⟨_, real Try.func137 (by kernel_rfl), fn_ok tok0 (A := none0) (L := noL) (r := none) Try.func137 (by kernel_rfl) (by kernel_rfl) (loops0 (by kernel_rfl)) (by rw [s137]), h⟩

/-! spec.l01Narrow -/
theorem s148 (c : Nat) : runFn T0 none0 noL Try.f148 [.el (.sc (.fl .f64 c))] = (match fconv .f64 .f32 c with
  | some rn1 => some ⟨[.el (.sc (.fl .f32 rn1))], none⟩
  | none => none) := by kernel_rfl
theorem c148 (c : Nat) (k : List RV → R) (out : Out) (h : (match fconv .f64 .f32 c with
  | some rn0 => k [.el (.sc (.fl .f32 rn0))]
  | none => none) = some out) : ∃ rs, Real Try.prog 148 ∧ COK Try.prog 148 [.el (.sc (.fl .f64 c))] rs ∧ k rs = some out := by
  cases g0 : (fconv .f64 .f32 c) with
  | some rn0 =>
    rw [g0] at h
    exact ⟨_, real Try.func148 (by kernel_rfl), fn_ok tok0 (A := none0) (L := noL) (r := none) Try.func148 (by kernel_rfl) (by kernel_rfl) (loops0 (by kernel_rfl)) (by rw [s148, g0]), h⟩
  | none =>
    rw [g0] at h
    cases h

/-! math.Float64frombits -/
theorem c185 (n : Int) (k : List RV → R) (out : Out) (h : k [.el (.sc (.fl .f64 (cn .f64 (Int.toNat n))))] = some out) : ∃ rs, CallOK Try.prog 185 [.el (.sc (.int .u64 n))] rs ∧ k rs = some out := by
  exact ⟨_, x_f64from Try.func185 (by kernel_rfl) (by kernel_rfl) (by kernel_rfl) (by kernel_rfl), h⟩

def S1 : SFn := fun f args k => match f, args with
  | 20, [.vw none ⟨.f32, xs⟩, .el (.sc (.int .i64 n))] => (match (decide (0 ≤ n ∧ n ≤ 1099511627776) && Nat.ble xs.length big : Bool) with
    | true => k [.el (.sc (.int .i64 (heldN (heldF n xs) (n + (xs.length : Int)))))]
    | false => none)
  | 21, [.vw none ⟨.line, xs⟩, .el (.sc (.int .i64 n))] => k [.el (.sc (.int .i64 (szLeft xs.length n)))]
  | 29, [.el (.sc (.fl .f64 a)), .el (.sc (.fl .f64 b))] => k [.el (.sc (.bo (sameF a b)))]
  | 47, [.el (.ag [(.fl .f32 lp), (.fl .f32 lh), (.fl .f32 lw), (.int .i64 lk)])] => k [.el (.ag [(.fl .f32 (((⟨lp, lh, lw, lk⟩ : LineV)).p)), (.fl .f32 (((⟨lp, lh, lw, lk⟩ : LineV)).h)), (.fl .f32 (((⟨lp, lh, lw, lk⟩ : LineV)).w)), (.int .i64 (((⟨lp, lh, lw, lk⟩ : LineV)).k))])]
  | 76, [.el (.sc (.int .i64 n)), .el (.sc (.int .i64 a)), .el (.sc (.int .i64 b))] => k [.el (.sc (.bo (within n a b)))]
  | 80, [.el (.sc (.int .i64 n)), .el (.sc (.int .i64 a)), .el (.sc (.int .i64 b))] => k [.el (.sc (.bo (within n a b)))]
  | 92, [.el (.sc (.fl .f32 c))] => k [.el (.sc (.bo (fin c)))]
  | 97, [.el (.sc (.fl .f32 c))] => k [.el (.sc (.bo (fin c)))]
  | 114, [.el (.sc (.fl .f32 b)), .el (.sc (.fl .f32 d)), .el (.sc (.int .i64 i))] => k [.el (.sc (.fl .f32 (placeAt b d i)))]
  | 129, [.vw none ⟨.f32, xs⟩] => (match (Nat.ble xs.length big : Bool) with
    | true => k [.el (.sc (.fl .f32 (sumF xs)))]
    | false => none)
  | 137, [.el (.sc (.fl .f32 c))] => k [.el (.sc (.fl .f32 (mag c)))]
  | 148, [.el (.sc (.fl .f64 c))] => (match fconv .f64 .f32 c with
    | some rn2 => k [.el (.sc (.fl .f32 rn2))]
    | none => none)
  | 185, [.el (.sc (.int .u64 n))] => k [.el (.sc (.fl .f64 (cn .f64 (Int.toNat n))))]
  | _, _ => S0 f args k
def M1 : MFn := fun f vec args k => match f, vec, args with
  | 19, ⟨.f32, xs⟩, [.el (.sc (.int .i64 n))] => (match (decide (0 ≤ n ∧ n ≤ 1099511627776) && Nat.ble xs.length big : Bool) with
    | true => k [.el (.sc (.int .i64 (n + (xs.length : Int))))] ⟨.f32, marks n xs.length⟩
    | false => none)
  | 26, ⟨.line, xs⟩, [.el (.sc (.int .i64 n))] => (match (decide (0 ≤ n ∧ n ≤ 1099511627776) && Nat.ble xs.length big : Bool) with
    | true => k [.el (.sc (.int .i64 (n + 4 * (xs.length : Int))))] ⟨.line, marksL n xs.length⟩
    | false => none)
  | _, _, _ => M0 f vec args k
def T1 : TT := tab.T S1 muts M1
theorem tok1 : TOK Try.prog T1 := by
  refine (tab_ok tabok).tok (fun f args k out h => ?_) (fun f vec args k out h => ?_)
  · change S1 f args k = some out at h
    unfold S1 at h
    split at h
    · exact (fun k out h => cok_call (c20 _ _ k out h)) k out h
    · exact (fun k out h => cok_call (c21 _ _ k out h)) k out h
    · exact (fun k out h => cok_call (c29 _ _ k out h)) k out h
    · exact (fun k out h => cok_call (c47 _ _ _ _ k out h)) k out h
    · exact (fun k out h => cok_call (c76 _ _ _ k out h)) k out h
    · exact (fun k out h => cok_call (c80 _ _ _ k out h)) k out h
    · exact (fun k out h => cok_call (c92 _ k out h)) k out h
    · exact (fun k out h => cok_call (c97 _ k out h)) k out h
    · exact (fun k out h => cok_call (c114 _ _ _ k out h)) k out h
    · exact (fun k out h => cok_call (c129 _ k out h)) k out h
    · exact (fun k out h => cok_call (c137 _ k out h)) k out h
    · exact (fun k out h => cok_call (c148 _ k out h)) k out h
    · exact c185 _ k out h
    · exact tok0.S f args k out h
  · change M1 f vec args k = some out at h
    unfold M1 at h
    split at h
    · exact c19 _ _ k out h
    · exact c26 _ _ k out h
    · exact tok0.M f vec args k out h

end Go.Sm.Ytdeplgocckdbiaa
