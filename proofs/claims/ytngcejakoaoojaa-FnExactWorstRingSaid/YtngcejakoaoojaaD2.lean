/- What the functions hand back: level 1. -/
import Derived.Test.YtngcejakoaoojaaD1
namespace Go.Sm.Ytngcejakoaoojaa
open Go Go.Sm Go.RowKit Go.Proofs

/-! laws.eqFloat32S -/
def a17 : Ann := ann [(4, [0, 1, 5], [])] [4] 0
def lp17 : St → (Ex → St → R) → R := fun s k => match s with
  | ⟨[(0, .fv (.vw (some 0) ⟨.f32, xs⟩)), (1, .fv (.vw (some 1) ⟨.f32, ys⟩)), (5, .fv (.el (.sc (.int .i64 i))))], []⟩ => (match (decide (i = 0) && (Nat.beq xs.length ys.length && Nat.ble xs.length big) : Bool) with
    | true => (match (all2 sameW xs ys : Bool) with
      | true => k (.exit 0) ⟨[], []⟩
      | false => k .ret ⟨[(4, .fv (.el (.sc (.bo false))))], []⟩)
    | false => none)
  | _ => none
def l17 : Loops := fun key s k => bif Nat.beq key 4 then lp17 s k else none
theorem st17 (xs : List Nat) (ys : List Nat) (i : Int) (m : Nat) (k : Ex → St → R) : iterK a17 [0, 1, 5] [] (codeK T1 a17 l17 Try.f17.ntmps (loopAt Try.f17 0)) (m + 1) ⟨[(0, .fv (.vw (some 0) ⟨.f32, xs⟩)), (1, .fv (.vw (some 1) ⟨.f32, ys⟩)), (5, .fv (.el (.sc (.int .i64 i))))], []⟩ k = (match (decide ((i : Int) < (xs.length : Int)) : Bool) with
  | true => (match (decide (0 ≤ (i : Int) ∧ (i : Int) < (xs.length : Int)) && true : Bool) with
    | true => (match (xs : List Nat)[Int.toNat i]? with
      | some x1 => (match (decide (0 ≤ (i : Int) ∧ (i : Int) < (ys.length : Int)) && true : Bool) with
        | true => (match (ys : List Nat)[Int.toNat i]? with
          | some x2 => (match (!(sameF (wid x1) (wid x2)) : Bool) with
            | true => k .ret ⟨[(4, .fv (.el (.sc (.bo false))))], []⟩
            | false => iterK a17 [0, 1, 5] [] (codeK T1 a17 l17 Try.f17.ntmps (loopAt Try.f17 0)) m ⟨[(0, .fv (.vw (some 0) ⟨.f32, xs⟩)), (1, .fv (.vw (some 1) ⟨.f32, ys⟩)), (5, .fv (.el (.sc (.int .i64 (IntKind.i64.wrap (i + 1))))))], []⟩ k)
          | none => none)
        | false => none)
      | none => none)
    | false => none)
  | false => k (.exit 0) ⟨[], []⟩) := by kernel_rfl
theorem ind17 (xs ys : List Nat) (hl : xs.length = ys.length) (hx : Nat.ble xs.length big = true) (k : Ex → St → R) : ∀ (m j : Nat), j + m = xs.length → iterK a17 [0, 1, 5] [] (codeK T1 a17 l17 Try.f17.ntmps (loopAt Try.f17 0)) (m + 1) ⟨[(0, .fv (.vw (some 0) ⟨.f32, xs⟩)), (1, .fv (.vw (some 1) ⟨.f32, ys⟩)), (5, .fv (.el (.sc (.int .i64 (j : Int)))))], []⟩ k =
    (match all2 sameW (xs.drop j) (ys.drop j) with
    | true => k (.exit 0) ⟨[], []⟩
    | false => k .ret ⟨[(4, .fv (.el (.sc (.bo false))))], []⟩) := by
  intro m
  induction m with
  | zero =>
    intro j hj
    have h1 : ¬ ((j : Int) < (xs.length : Int)) := by omega
    rw [st17, List.drop_of_length_le (by omega)]
    simp [h1, all2]
  | succ m ih =>
    intro j hj
    have hlt : j < xs.length := by omega
    have hlt2 : j < ys.length := by omega
    have h1 : ((j : Int) < (xs.length : Int)) := by omega
    have h12 : ((j : Int) < (ys.length : Int)) := by omega
    have h2 : (0 : Int) ≤ (j : Int) := by omega
    rw [st17, wrap_succ hlt hx]
    have h3 : xs[Int.toNat (j : Int)]? = some xs[j] := by simp [hlt]
    have h4 : ys[Int.toNat (j : Int)]? = some ys[j] := by simp [hlt2]
    rw [List.drop_eq_getElem_cons hlt, List.drop_eq_getElem_cons hlt2, ih (j + 1) (by omega)]
    simp only [h1, h12, h2, h3, h4, and_self, decide_true, Bool.and_true, all2]
    unfold sameW
    cases hp : sameF (wid xs[j]) (wid ys[j]) <;> simp

theorem lk17 : LOK T1 a17 l17 Try.f17.ntmps (loopAt Try.f17 0) := by
  intro ins outs hA s k out h
  have hA' : ([0, 1, 5], []) = (ins, outs) := Option.some.inj ((show a17.lp (firstRegion (loopAt Try.f17 0)) = some ([0, 1, 5], []) by kernel_rfl).symm.trans hA)
  cases hA'
  have hk : firstRegion (loopAt Try.f17 0) = 4 := by kernel_rfl
  rw [hk] at h
  change lp17 s k = some out at h
  unfold lp17 at h
  split at h
  · rename_i xs ys i
    cases hg : (decide (i = 0) && (Nat.beq xs.length ys.length && Nat.ble xs.length big)) with
    | false => rw [hg] at h; cases h
    | true =>
      rw [hg] at h
      simp only [Bool.and_eq_true, decide_eq_true_eq] at hg
      obtain ⟨rfl, hl, hx⟩ := hg
      refine ⟨xs.length + 1, ?_⟩
      exact (ind17 xs ys (Nat.eq_of_beq_eq_true hl) hx k xs.length 0 (by omega)).trans h
  · cases h
theorem e17 (xs : List Nat) (ys : List Nat) : runFn T1 a17 l17 Try.f17 [.vw none ⟨.f32, xs⟩, .vw none ⟨.f32, ys⟩] = (match (!(((xs.length : Int) : Int) == (ys.length : Int)) : Bool) with
  | true => some ⟨[.el (.sc (.bo false))], none⟩
  | false => (match (decide (0 = 0) && (Nat.beq xs.length ys.length && Nat.ble xs.length big) : Bool) with
    | true => (match (all2 sameW xs ys : Bool) with
      | true => some ⟨[.el (.sc (.bo true))], none⟩
      | false => some ⟨[.el (.sc (.bo false))], none⟩)
    | false => none)) := by kernel_rfl
theorem s17 (xs : List Nat) (ys : List Nat) : runFn T1 a17 l17 Try.f17 [.vw none ⟨.f32, xs⟩, .vw none ⟨.f32, ys⟩] = (match (Nat.beq xs.length ys.length : Bool) with
  | true => (match (Nat.ble xs.length big : Bool) with
    | true => some ⟨[.el (.sc (.bo (all2 sameW xs ys)))], none⟩
    | false => none)
  | false => some ⟨[.el (.sc (.bo false))], none⟩) := by
  rw [e17]
  cases hl : Nat.beq xs.length ys.length with
  | false =>
    have h1 : xs.length ≠ ys.length := fun e => by rw [e, Nat.beq_refl] at hl; cases hl
    have h2 : ((xs.length : Int) == (ys.length : Int)) = false := beq_false_of_ne (by omega)
    simp only [h2, Bool.not_false]
  | true =>
    have h1 := Nat.eq_of_beq_eq_true hl
    have h2 : ((xs.length : Int) == (ys.length : Int)) = true := beq_iff_eq.2 (by omega)
    simp only [h2, Bool.not_true]
    cases h : Nat.ble xs.length big with
    | false => simp
    | true => cases h3 : all2 sameW xs ys <;> simp
theorem c17 (xs : List Nat) (ys : List Nat) (k : List RV → R) (out : Out) (h : (match (Nat.beq xs.length ys.length : Bool) with
  | true => (match (Nat.ble xs.length big : Bool) with
    | true => k [.el (.sc (.bo (all2 sameW xs ys)))]
    | false => none)
  | false => k [.el (.sc (.bo false))]) = some out) : ∃ rs, Real Try.prog 17 ∧ COK Try.prog 17 [.vw none ⟨.f32, xs⟩, .vw none ⟨.f32, ys⟩] rs ∧ k rs = some out := by
  cases g0 : (Nat.beq xs.length ys.length : Bool) with
  | true =>
    rw [g0] at h
    cases g1 : (Nat.ble xs.length big : Bool) with
    | true =>
      rw [g1] at h
      exact ⟨_, real Try.func17 (by kernel_rfl), fn_ok tok1 (A := a17) (L := l17) (r := none) Try.func17 (by kernel_rfl) (by kernel_rfl) (loops1 (by kernel_rfl) lk17) (by rw [s17, g0, g1]), h⟩
    | false =>
      rw [g1] at h
      cases h
  | false =>
    rw [g0] at h
    exact ⟨_, real Try.func17 (by kernel_rfl), fn_ok tok1 (A := a17) (L := l17) (r := none) Try.func17 (by kernel_rfl) (by kernel_rfl) (loops1 (by kernel_rfl) lk17) (by rw [s17, g0]), h⟩

/-! laws.toEdgeS -/
def a23 : Ann := ann [(3, [0, 3, 4], [3])] [2] 0
def lp23 : St → (Ex → St → R) → R := fun s k => match s with
  | ⟨[(0, .fv (.vw (some 0) ⟨.edge, xs⟩)), (3, .fv (.own 0)), (4, .fv (.el (.sc (.int .i64 i))))], [some ⟨e0, ⟨.edge, ys⟩⟩]⟩ => (match (decide (i = 0) && (Nat.beq (ys : List EdgeV).length xs.length && Nat.ble xs.length big) : Bool) with
    | true => k (.exit 0) ⟨[(3, .fv (.own 0))], [some ⟨e0, ⟨.edge, xs⟩⟩]⟩
    | false => none)
  | _ => none
def l23 : Loops := fun key s k => bif Nat.beq key 3 then lp23 s k else none
theorem st23 (xs : List EdgeV) (i : Int) (ys : List EdgeV) (e0 : Nat) (m : Nat) (k : Ex → St → R) : iterK a23 [0, 3, 4] [3] (codeK T1 a23 l23 Try.f23.ntmps (loopAt Try.f23 0)) (m + 1) ⟨[(0, .fv (.vw (some 0) ⟨.edge, xs⟩)), (3, .fv (.own 0)), (4, .fv (.el (.sc (.int .i64 i))))], [some ⟨e0, ⟨.edge, ys⟩⟩]⟩ k = (match (decide ((i : Int) < (xs.length : Int)) : Bool) with
  | true => (match (decide (0 ≤ (i : Int) ∧ (i : Int) < (xs.length : Int)) && true : Bool) with
    | true => (match (xs : List EdgeV)[Int.toNat i]? with
      | some x1 => (match (decide (0 ≤ (i : Int) ∧ (i : Int) < (ys.length : Int)) && true : Bool) with
        | true => (match (ys : List EdgeV)[Int.toNat i]? with
          | some x2 => iterK a23 [0, 3, 4] [3] (codeK T1 a23 l23 Try.f23.ntmps (loopAt Try.f23 0)) m ⟨[(0, .fv (.vw (some 0) ⟨.edge, xs⟩)), (3, .fv (.own 0)), (4, .fv (.el (.sc (.int .i64 (IntKind.i64.wrap (i + 1))))))], [some ⟨e0, ⟨.edge, (ys : List EdgeV).set (Int.toNat i) x1⟩⟩]⟩ k
          | none => none)
        | false => none)
      | none => none)
    | false => none)
  | false => k (.exit 0) ⟨[(3, .fv (.own 0))], [some ⟨e0, ⟨.edge, ys⟩⟩]⟩) := by kernel_rfl
theorem ind23 (xs : List EdgeV) (hx : Nat.ble xs.length big = true) (e0 : Nat) (k : Ex → St → R) : ∀ (m j : Nat) (ys : List EdgeV), ys.length = xs.length → j + m = xs.length → iterK a23 [0, 3, 4] [3] (codeK T1 a23 l23 Try.f23.ntmps (loopAt Try.f23 0)) (m + 1) ⟨[(0, .fv (.vw (some 0) ⟨.edge, xs⟩)), (3, .fv (.own 0)), (4, .fv (.el (.sc (.int .i64 (j : Int)))))], [some ⟨e0, ⟨.edge, ys⟩⟩]⟩ k =
    k (.exit 0) ⟨[(3, .fv (.own 0))], [some ⟨e0, ⟨.edge, ys.take j ++ xs.drop j⟩⟩]⟩ := by
  intro m
  induction m with
  | zero =>
    intro j ys hl hj
    have h1 : ¬ ((j : Int) < (xs.length : Int)) := by omega
    rw [st23, List.drop_of_length_le (show xs.length ≤ j by omega), List.take_of_length_le (show ys.length ≤ j by omega)]
    simp [h1]
  | succ m ih =>
    intro j ys hl hj
    have hlt : j < xs.length := by omega
    have hlt2 : j < ys.length := by omega
    have h1 : ((j : Int) < (xs.length : Int)) := by omega
    have h12 : ((j : Int) < (ys.length : Int)) := by omega
    have h2 : (0 : Int) ≤ (j : Int) := by omega
    rw [st23, wrap_succ hlt hx]
    have h3 : xs[Int.toNat (j : Int)]? = some xs[j] := by simp [hlt]
    have h4 : ys[Int.toNat (j : Int)]? = some ys[j] := by simp [hlt2]
    simp only [h1, h12, h2, h3, h4, and_self, decide_true, Bool.and_true]
    refine (ih (j + 1) (ys.set (Int.toNat (j : Int)) xs[j]) (by simpa using hl) (by omega)).trans ?_
    have h5 : (ys.set (Int.toNat (j : Int)) xs[j]).take (j + 1) ++ xs.drop (j + 1) = ys.take j ++ xs.drop j := by
      rw [List.drop_eq_getElem_cons hlt]
      exact set_take hlt2 _ _
    rw [h5]

theorem lk23 : LOK T1 a23 l23 Try.f23.ntmps (loopAt Try.f23 0) := by
  intro ins outs hA s k out h
  have hA' : ([0, 3, 4], [3]) = (ins, outs) := Option.some.inj ((show a23.lp (firstRegion (loopAt Try.f23 0)) = some ([0, 3, 4], [3]) by kernel_rfl).symm.trans hA)
  cases hA'
  have hk : firstRegion (loopAt Try.f23 0) = 3 := by kernel_rfl
  rw [hk] at h
  change lp23 s k = some out at h
  unfold lp23 at h
  split at h
  · rename_i xs i e0 ys
    cases hg : (decide (i = 0) && (Nat.beq ys.length xs.length && Nat.ble xs.length big)) with
    | false => rw [hg] at h; cases h
    | true =>
      rw [hg] at h
      simp only [Bool.and_eq_true, decide_eq_true_eq] at hg
      obtain ⟨rfl, hl, hx⟩ := hg
      refine ⟨xs.length + 1, ?_⟩
      have hh := ind23 xs hx e0 k xs.length 0 ys (Nat.eq_of_beq_eq_true hl) (by omega)
      simp only [List.take_zero, List.nil_append, List.drop_zero] at hh
      exact hh.trans h
  · cases h
theorem e23 (xs : List EdgeV) : runFn T1 a23 l23 Try.f23 [.vw none ⟨.edge, xs⟩] = (match (decide (0 ≤ ((xs.length : Int) : Int) ∧ ((xs.length : Int) : Int) = (xs.length : Int) ∧ ((xs.length : Int) : Int) ≤ 1099511627776) : Bool) with
  | true => (match (decide (0 = 0) && (Nat.beq (List.replicate (Int.toNat ((xs.length : Int))) (((⟨0, 0, 0⟩ : EdgeV) : EdgeV)) : List EdgeV).length xs.length && Nat.ble xs.length big) : Bool) with
    | true => some ⟨[.fresh 70 ⟨.edge, xs⟩], none⟩
    | false => none)
  | false => none) := by kernel_rfl
theorem s23 (xs : List EdgeV) : runFn T1 a23 l23 Try.f23 [.vw none ⟨.edge, xs⟩] = (match (Nat.ble xs.length big : Bool) with
  | true => some ⟨[.fresh 70 ⟨.edge, xs⟩], none⟩
  | false => none) := by
  rw [e23]
  cases h : Nat.ble xs.length big with
  | false => cases hd : decide ((xs.length : Int) ≤ 1099511627776) <;> simp [hd]
  | true =>
    have hx := Nat.le_of_ble_eq_true h
    unfold big at hx
    have h2 : ((xs.length : Int) ≤ 1099511627776) := by omega
    simp [h2]
theorem c23 (xs : List EdgeV) (k : List RV → R) (out : Out) (h : (match (Nat.ble xs.length big : Bool) with
  | true => k [.fresh 70 ⟨.edge, xs⟩]
  | false => none) = some out) : ∃ rs, Real Try.prog 23 ∧ COK Try.prog 23 [.vw none ⟨.edge, xs⟩] rs ∧ k rs = some out := by
  cases g0 : (Nat.ble xs.length big : Bool) with
  | true =>
    rw [g0] at h
    exact ⟨_, real Try.func23 (by kernel_rfl), fn_ok tok1 (A := a23) (L := l23) (r := none) Try.func23 (by kernel_rfl) (by kernel_rfl) (loops1 (by kernel_rfl) lk23) (by rw [s23, g0]), h⟩
  | false =>
    rw [g0] at h
    cases h

/-! spec.l05Edges -/
def a45 : Ann := ann [(4, [0, 1, 16, 17], [])] [4] 0
def lp45 : St → (Ex → St → R) → R := fun s k => match s with
  | ⟨[(0, .fv (.el (.sc (.int .i64 v)))), (1, .fv (.vw (some 1) ⟨.edge, xs⟩)), (16, .fv (.el (.sc (.int .i64 n)))), (17, .fv (.el (.sc (.int .i64 i))))], []⟩ => (match ((decide (n = (xs.length : Int)) && (decide (i = 0) && Nat.ble xs.length big)) : Bool) with
    | true => (match (xs.all (edgeOk v) : Bool) with
      | true => k (.exit 0) ⟨[], []⟩
      | false => k .ret ⟨[(4, .fv (.el (.sc (.bo false))))], []⟩)
    | false => none)
  | _ => none
def l45 : Loops := fun key s k => bif Nat.beq key 4 then lp45 s k else none
theorem st45 (v : Int) (xs : List EdgeV) (n : Int) (i : Int) (m : Nat) (k : Ex → St → R) : iterK a45 [0, 1, 16, 17] [] (codeK T1 a45 l45 Try.f45.ntmps (loopAt Try.f45 0)) (m + 1) ⟨[(0, .fv (.el (.sc (.int .i64 v)))), (1, .fv (.vw (some 1) ⟨.edge, xs⟩)), (16, .fv (.el (.sc (.int .i64 n)))), (17, .fv (.el (.sc (.int .i64 i))))], []⟩ k = (match (decide ((i : Int) < n) : Bool) with
  | true => (match (decide (0 ≤ (i : Int) ∧ (i : Int) < (xs.length : Int)) && true : Bool) with
    | true => (match (xs : List EdgeV)[Int.toNat i]? with
      | some x1 => (match (!(within x1.f 0 (IntKind.i64.wrap (v - 1))) : Bool) with
        | true => k .ret ⟨[(4, .fv (.el (.sc (.bo false))))], []⟩
        | false => (match (xs : List EdgeV)[Int.toNat i]? with
          | some x2 => (match (!(within x2.t 0 (IntKind.i64.wrap (v - 1))) : Bool) with
            | true => k .ret ⟨[(4, .fv (.el (.sc (.bo false))))], []⟩
            | false => (match (xs : List EdgeV)[Int.toNat i]? with
              | some x3 => (match (xs : List EdgeV)[Int.toNat i]? with
                | some x4 => (match ((x3.f : Int) == x4.t : Bool) with
                  | true => k .ret ⟨[(4, .fv (.el (.sc (.bo false))))], []⟩
                  | false => (match (xs : List EdgeV)[Int.toNat i]? with
                    | some x5 => (match (!(fin x5.p) : Bool) with
                      | true => k .ret ⟨[(4, .fv (.el (.sc (.bo false))))], []⟩
                      | false => iterK a45 [0, 1, 16, 17] [] (codeK T1 a45 l45 Try.f45.ntmps (loopAt Try.f45 0)) m ⟨[(0, .fv (.el (.sc (.int .i64 v)))), (1, .fv (.vw (some 1) ⟨.edge, xs⟩)), (16, .fv (.el (.sc (.int .i64 n)))), (17, .fv (.el (.sc (.int .i64 (IntKind.i64.wrap (i + 1))))))], []⟩ k)
                    | none => none))
                | none => none)
              | none => none))
          | none => none))
      | none => none)
    | false => none)
  | false => k (.exit 0) ⟨[], []⟩) := by kernel_rfl
theorem ind45 (xs : List EdgeV) (v : Int) (hx : Nat.ble xs.length big = true) (k : Ex → St → R) : ∀ (m j : Nat), j + m = xs.length → iterK a45 [0, 1, 16, 17] [] (codeK T1 a45 l45 Try.f45.ntmps (loopAt Try.f45 0)) (m + 1) ⟨[(0, .fv (.el (.sc (.int .i64 v)))), (1, .fv (.vw (some 1) ⟨.edge, xs⟩)), (16, .fv (.el (.sc (.int .i64 (xs.length : Int))))), (17, .fv (.el (.sc (.int .i64 (j : Int)))))], []⟩ k =
    (match (xs.drop j).all (edgeOk v) with
    | true => k (.exit 0) ⟨[], []⟩
    | false => k .ret ⟨[(4, .fv (.el (.sc (.bo false))))], []⟩) := by
  intro m
  induction m with
  | zero =>
    intro j hj
    have h1 : ¬ ((j : Int) < (xs.length : Int)) := by omega
    rw [st45, List.drop_of_length_le (by omega)]
    simp [h1]
  | succ m ih =>
    intro j hj
    have hlt : j < xs.length := by omega
    have h1 : ((j : Int) < (xs.length : Int)) := by omega
    have h2 : (0 : Int) ≤ (j : Int) := by omega
    rw [st45, wrap_succ hlt hx]
    have h3 : xs[Int.toNat (j : Int)]? = some xs[j] := by simp [hlt]
    rw [List.drop_eq_getElem_cons hlt, List.all_cons, ih (j + 1) (by omega)]
    simp only [h1, h2, h3, and_self, decide_true, Bool.and_true]
    unfold edgeOk
    cases within xs[j].f 0 (IntKind.i64.wrap (v - 1)) <;> cases within xs[j].t 0 (IntKind.i64.wrap (v - 1)) <;> cases (xs[j].f == xs[j].t) <;> cases fin xs[j].p <;> simp

theorem lk45 : LOK T1 a45 l45 Try.f45.ntmps (loopAt Try.f45 0) := by
  intro ins outs hA s k out h
  have hA' : ([0, 1, 16, 17], []) = (ins, outs) := Option.some.inj ((show a45.lp (firstRegion (loopAt Try.f45 0)) = some ([0, 1, 16, 17], []) by kernel_rfl).symm.trans hA)
  cases hA'
  have hk : firstRegion (loopAt Try.f45 0) = 4 := by kernel_rfl
  rw [hk] at h
  change lp45 s k = some out at h
  unfold lp45 at h
  split at h
  · rename_i v xs n i
    cases hg : (decide (n = (xs.length : Int)) && (decide (i = 0) && Nat.ble xs.length big)) with
    | false => rw [hg] at h; cases h
    | true =>
      rw [hg] at h
      simp only [Bool.and_eq_true, decide_eq_true_eq] at hg
      obtain ⟨rfl, rfl, hx⟩ := hg
      refine ⟨xs.length + 1, ?_⟩
      exact (ind45 xs v hx k xs.length 0 (by omega)).trans h
  · cases h
theorem e45 (v : Int) (es : List EdgeV) : runFn T1 a45 l45 Try.f45 [.el (.sc (.int .i64 v)), .vw none ⟨.edge, es⟩] = (match (!(within v 1 12) : Bool) with
  | true => some ⟨[.el (.sc (.bo false))], none⟩
  | false => (match (decide (((es.length : Int) : Int) > 32) : Bool) with
    | true => some ⟨[.el (.sc (.bo false))], none⟩
    | false => (match ((decide ((es.length : Int) = (es.length : Int)) && (decide (0 = 0) && Nat.ble es.length big)) : Bool) with
      | true => (match (es.all (edgeOk v) : Bool) with
        | true => some ⟨[.el (.sc (.bo true))], none⟩
        | false => some ⟨[.el (.sc (.bo false))], none⟩)
      | false => none))) := by kernel_rfl
theorem s45 (v : Int) (es : List EdgeV) : runFn T1 a45 l45 Try.f45 [.el (.sc (.int .i64 v)), .vw none ⟨.edge, es⟩] = some ⟨[.el (.sc (.bo ((within v 1 12 && decide (es.length ≤ 32)) && es.all (edgeOk v))))], none⟩ := by
  rw [e45]
  have e4 : ((es.length : Int) ≤ 32) ↔ es.length ≤ 32 := by omega
  have e5 : ((es.length : Int) > 32) ↔ ¬ es.length ≤ 32 := by omega
  by_cases h4 : es.length ≤ 32
  · have h : Nat.ble es.length big = true := Nat.ble_eq_true_of_le (by unfold big; omega)
    cases within v 1 12 <;> cases ha : es.all (edgeOk v) <;> simp [e5, h4, h, ha]
  · cases within v 1 12 <;> simp [e4, e5, h4]
theorem c45 (v : Int) (es : List EdgeV) (k : List RV → R) (out : Out) (h : k [.el (.sc (.bo ((within v 1 12 && decide (es.length ≤ 32)) && es.all (edgeOk v))))] = some out) : ∃ rs, Real Try.prog 45 ∧ COK Try.prog 45 [.el (.sc (.int .i64 v)), .vw none ⟨.edge, es⟩] rs ∧ k rs = some out := by
  exact ⟨_, real Try.func45 (by kernel_rfl), fn_ok tok1 (A := a45) (L := l45) (r := none) Try.func45 (by kernel_rfl) (by kernel_rfl) (loops1 (by kernel_rfl) lk45) (by rw [s45]), h⟩

/-! slices.Contains[[]bool,bool] -/
theorem e50 (xs : List Bool) (v : Bool) : runFn T1 none0 noL Try.f50 [.vw none ⟨.bo, xs⟩, .el (.sc (.bo v))] = (match (Nat.ble xs.length big : Bool) with
  | true => some ⟨[.el (.sc (.bo (decide ((firstAt (isB v) xs : Int) ≥ 0))))], none⟩
  | false => none) := by kernel_rfl
theorem s50 (xs : List Bool) (v : Bool) : runFn T1 none0 noL Try.f50 [.vw none ⟨.bo, xs⟩, .el (.sc (.bo v))] = (match (Nat.ble xs.length big : Bool) with
  | true => some ⟨[.el (.sc (.bo (xs.any (isB v))))], none⟩
  | false => none) := by
  rw [e50]
  rw [any_firstAt]
theorem c50 (xs : List Bool) (v : Bool) (k : List RV → R) (out : Out) (h : (match (Nat.ble xs.length big : Bool) with
  | true => k [.el (.sc (.bo (xs.any (isB v))))]
  | false => none) = some out) : ∃ rs, Real Try.prog 50 ∧ COK Try.prog 50 [.vw none ⟨.bo, xs⟩, .el (.sc (.bo v))] rs ∧ k rs = some out := by
  cases g0 : (Nat.ble xs.length big : Bool) with
  | true =>
    rw [g0] at h
    exact ⟨_, real Try.func50 (by kernel_rfl), fn_ok tok1 (A := none0) (L := noL) (r := none) Try.func50 (by kernel_rfl) (by kernel_rfl) (loops0 (by kernel_rfl)) (by rw [s50, g0]), h⟩
  | false =>
    rw [g0] at h
    cases h

/-! laws.eqEdge -/
theorem e52 (af : Int) (at_ : Int) (ap : Nat) (bf : Int) (bt : Int) (bp : Nat) : runFn T1 none0 noL Try.f52 [.el (.ag [(.int .i64 af), (.int .i64 at_), (.fl .f32 ap)]), .el (.ag [(.int .i64 bf), (.int .i64 bt), (.fl .f32 bp)])] = (match (!((af : Int) == bf) : Bool) with
  | true => some ⟨[.el (.sc (.bo false))], none⟩
  | false => (match (!((at_ : Int) == bt) : Bool) with
    | true => some ⟨[.el (.sc (.bo false))], none⟩
    | false => (match (!(sameF (wid ap) (wid bp)) : Bool) with
      | true => some ⟨[.el (.sc (.bo false))], none⟩
      | false => some ⟨[.el (.sc (.bo true))], none⟩))) := by kernel_rfl
theorem s52 (af : Int) (at_ : Int) (ap : Nat) (bf : Int) (bt : Int) (bp : Nat) : runFn T1 none0 noL Try.f52 [.el (.ag [(.int .i64 af), (.int .i64 at_), (.fl .f32 ap)]), .el (.ag [(.int .i64 bf), (.int .i64 bt), (.fl .f32 bp)])] = some ⟨[.el (.sc (.bo (eqEdgeF ((⟨af, at_, ap⟩ : EdgeV)) ((⟨bf, bt, bp⟩ : EdgeV)))))], none⟩ := by
  rw [e52]
  unfold eqEdgeF
  cases af == bf <;> cases at_ == bt <;> cases sameF (wid ap) (wid bp) <;> simp
theorem c52 (af : Int) (at_ : Int) (ap : Nat) (bf : Int) (bt : Int) (bp : Nat) (k : List RV → R) (out : Out) (h : k [.el (.sc (.bo (eqEdgeF ((⟨af, at_, ap⟩ : EdgeV)) ((⟨bf, bt, bp⟩ : EdgeV)))))] = some out) : ∃ rs, Real Try.prog 52 ∧ COK Try.prog 52 [.el (.ag [(.int .i64 af), (.int .i64 at_), (.fl .f32 ap)]), .el (.ag [(.int .i64 bf), (.int .i64 bt), (.fl .f32 bp)])] rs ∧ k rs = some out := by
  exact ⟨_, real Try.func52 (by kernel_rfl), fn_ok tok1 (A := none0) (L := noL) (r := none) Try.func52 (by kernel_rfl) (by kernel_rfl) (loops0 (by kernel_rfl)) (by rw [s52]), h⟩

/-! impl.checked -/
theorem e54 (c : Nat) : runFn T1 none0 noL Try.f54 [.el (.sc (.fl .f32 c))] = (match (!(fin c) : Bool) with
  | true => some ⟨[.el (.sc (.fl .f32 0)), .el (.sc (.bo false))], none⟩
  | false => some ⟨[.el (.sc (.fl .f32 c)), .el (.sc (.bo true))], none⟩) := by kernel_rfl
theorem s54 (c : Nat) : runFn T1 none0 noL Try.f54 [.el (.sc (.fl .f32 c))] = some ⟨[.el (.sc (.fl .f32 (numOf c))), .el (.sc (.bo (fin c)))], none⟩ := by
  rw [e54]
  unfold numOf
  cases fin c <;> rfl
theorem c54 (c : Nat) (k : List RV → R) (out : Out) (h : k [.el (.sc (.fl .f32 (numOf c))), .el (.sc (.bo (fin c)))] = some out) : ∃ rs, Real Try.prog 54 ∧ COK Try.prog 54 [.el (.sc (.fl .f32 c))] rs ∧ k rs = some out := by
  exact ⟨_, real Try.func54 (by kernel_rfl), fn_ok tok1 (A := none0) (L := noL) (r := none) Try.func54 (by kernel_rfl) (by kernel_rfl) (loops0 (by kernel_rfl)) (by rw [s54]), h⟩

/-! impl.AreEdges$1 -/
theorem e66 (ef : Int) (et : Int) (ep : Nat) (v : Int) : runFn T1 none0 noL Try.f66 [.el (.ag [(.int .i64 ef), (.int .i64 et), (.fl .f32 ep)]), .pt ⟨.v ⟨.i64, [v]⟩, 1, 0, 0⟩] = (match (!(within ef 0 (IntKind.i64.wrap (v - 1))) : Bool) with
  | true => some ⟨[.el (.sc (.bo true))], none⟩
  | false => (match (!(within et 0 (IntKind.i64.wrap (v - 1))) : Bool) with
    | true => some ⟨[.el (.sc (.bo true))], none⟩
    | false => (match ((ef : Int) == et : Bool) with
      | true => some ⟨[.el (.sc (.bo true))], none⟩
      | false => some ⟨[.el (.sc (.bo (!(fin ep))))], none⟩))) := by kernel_rfl
theorem s66 (ef : Int) (et : Int) (ep : Nat) (v : Int) : runFn T1 none0 noL Try.f66 [.el (.ag [(.int .i64 ef), (.int .i64 et), (.fl .f32 ep)]), .pt ⟨.v ⟨.i64, [v]⟩, 1, 0, 0⟩] = some ⟨[.el (.sc (.bo (notEdge v ((⟨ef, et, ep⟩ : EdgeV)))))], none⟩ := by
  rw [e66]
  unfold notEdge edgeOk
  cases within ef 0 (IntKind.i64.wrap (v - 1)) <;> cases within et 0 (IntKind.i64.wrap (v - 1)) <;> cases (ef == et) <;> cases fin ep <;> simp
theorem c66 (ef : Int) (et : Int) (ep : Nat) (v : Int) (k : List RV → R) (out : Out) (h : k [.el (.sc (.bo (notEdge v ((⟨ef, et, ep⟩ : EdgeV)))))] = some out) : ∃ rs, Real Try.prog 66 ∧ COK Try.prog 66 [.el (.ag [(.int .i64 ef), (.int .i64 et), (.fl .f32 ep)]), .pt ⟨.v ⟨.i64, [v]⟩, 1, 0, 0⟩] rs ∧ k rs = some out := by
  exact ⟨_, real Try.func66 (by kernel_rfl), fn_ok tok1 (A := none0) (L := noL) (r := none) Try.func66 (by kernel_rfl) (by kernel_rfl) (loops0 (by kernel_rfl)) (by rw [s66]), h⟩

/-! impl.areFinite$1 -/
theorem s73 (c : Nat) : runFn T1 none0 noL Try.f73 [.el (.sc (.fl .f32 c))] = some ⟨[.el (.sc (.bo (notFin c)))], none⟩ := by kernel_rfl
theorem c73 (c : Nat) (k : List RV → R) (out : Out) (h : k [.el (.sc (.bo (notFin c)))] = some out) : ∃ rs, Real Try.prog 73 ∧ COK Try.prog 73 [.el (.sc (.fl .f32 c))] rs ∧ k rs = some out := by
  exact ⟨_, real Try.func73 (by kernel_rfl), fn_ok tok1 (A := none0) (L := noL) (r := none) Try.func73 (by kernel_rfl) (by kernel_rfl) (loops0 (by kernel_rfl)) (by rw [s73]), h⟩

def S2 : SFn := fun f args k => match f, args with
  | 17, [.vw none ⟨.f32, xs⟩, .vw none ⟨.f32, ys⟩] => (match (Nat.beq xs.length ys.length : Bool) with
    | true => (match (Nat.ble xs.length big : Bool) with
      | true => k [.el (.sc (.bo (all2 sameW xs ys)))]
      | false => none)
    | false => k [.el (.sc (.bo false))])
  | 23, [.vw none ⟨.edge, xs⟩] => (match (Nat.ble xs.length big : Bool) with
    | true => k [.fresh 70 ⟨.edge, xs⟩]
    | false => none)
  | 45, [.el (.sc (.int .i64 v)), .vw none ⟨.edge, es⟩] => k [.el (.sc (.bo ((within v 1 12 && decide (es.length ≤ 32)) && es.all (edgeOk v))))]
  | 50, [.vw none ⟨.bo, xs⟩, .el (.sc (.bo v))] => (match (Nat.ble xs.length big : Bool) with
    | true => k [.el (.sc (.bo (xs.any (isB v))))]
    | false => none)
  | 52, [.el (.ag [(.int .i64 af), (.int .i64 at_), (.fl .f32 ap)]), .el (.ag [(.int .i64 bf), (.int .i64 bt), (.fl .f32 bp)])] => k [.el (.sc (.bo (eqEdgeF ((⟨af, at_, ap⟩ : EdgeV)) ((⟨bf, bt, bp⟩ : EdgeV)))))]
  | 54, [.el (.sc (.fl .f32 c))] => k [.el (.sc (.fl .f32 (numOf c))), .el (.sc (.bo (fin c)))]
  | 66, [.el (.ag [(.int .i64 ef), (.int .i64 et), (.fl .f32 ep)]), .pt ⟨.v ⟨.i64, [v]⟩, 1, 0, 0⟩] => k [.el (.sc (.bo (notEdge v ((⟨ef, et, ep⟩ : EdgeV)))))]
  | 73, [.el (.sc (.fl .f32 c))] => k [.el (.sc (.bo (notFin c)))]
  | _, _ => S1 f args k
abbrev M2 : MFn := M1
def T2 : TT := tab.T S2 muts M2
theorem tok2 : TOK Try.prog T2 := by
  refine (tab_ok tabok).tok (fun f args k out h => ?_) (fun f vec args k out h => ?_)
  · change S2 f args k = some out at h
    unfold S2 at h
    split at h
    · exact (fun k out h => cok_call (c17 _ _ k out h)) k out h
    · exact (fun k out h => cok_call (c23 _ k out h)) k out h
    · exact (fun k out h => cok_call (c45 _ _ k out h)) k out h
    · exact (fun k out h => cok_call (c50 _ _ k out h)) k out h
    · exact (fun k out h => cok_call (c52 _ _ _ _ _ _ k out h)) k out h
    · exact (fun k out h => cok_call (c54 _ k out h)) k out h
    · exact (fun k out h => cok_call (c66 _ _ _ _ k out h)) k out h
    · exact (fun k out h => cok_call (c73 _ k out h)) k out h
    · exact tok1.S f args k out h
  · exact tok1.M f vec args k out h

end Go.Sm.Ytngcejakoaoojaa
