/- What the functions hand back: level 1. -/
import Derived.Test.YtdeplgocckdbiaaD1
namespace Go.Sm.Ytdeplgocckdbiaa
open Go Go.Sm Go.RowKit Go.Proofs

/-! laws.eqFloat32S -/
def a18 : Ann := ann [(4, [0, 1, 5], [])] [4] 0
def lp18 : St → (Ex → St → R) → R := fun s k => match s with
  | ⟨[(0, .fv (.vw (some 0) ⟨.f32, xs⟩)), (1, .fv (.vw (some 1) ⟨.f32, ys⟩)), (5, .fv (.el (.sc (.int .i64 i))))], []⟩ => (match (decide (i = 0) && (Nat.beq xs.length ys.length && Nat.ble xs.length big) : Bool) with
    | true => (match (all2 sameW xs ys : Bool) with
      | true => k (.exit 0) ⟨[], []⟩
      | false => k .ret ⟨[(4, .fv (.el (.sc (.bo false))))], []⟩)
    | false => none)
  | _ => none
def l18 : Loops := fun key s k => bif Nat.beq key 4 then lp18 s k else none
theorem st18 (xs : List Nat) (ys : List Nat) (i : Int) (m : Nat) (k : Ex → St → R) : iterK a18 [0, 1, 5] [] (codeK T1 a18 l18 Try.f18.ntmps (loopAt Try.f18 0)) (m + 1) ⟨[(0, .fv (.vw (some 0) ⟨.f32, xs⟩)), (1, .fv (.vw (some 1) ⟨.f32, ys⟩)), (5, .fv (.el (.sc (.int .i64 i))))], []⟩ k = (match (decide ((i : Int) < (xs.length : Int)) : Bool) with
  | true => (match (decide (0 ≤ (i : Int) ∧ (i : Int) < (xs.length : Int)) && true : Bool) with
    | true => (match (xs : List Nat)[Int.toNat i]? with
      | some x1 => (match (decide (0 ≤ (i : Int) ∧ (i : Int) < (ys.length : Int)) && true : Bool) with
        | true => (match (ys : List Nat)[Int.toNat i]? with
          | some x2 => (match (!(sameF (wid x1) (wid x2)) : Bool) with
            | true => k .ret ⟨[(4, .fv (.el (.sc (.bo false))))], []⟩
            | false => iterK a18 [0, 1, 5] [] (codeK T1 a18 l18 Try.f18.ntmps (loopAt Try.f18 0)) m ⟨[(0, .fv (.vw (some 0) ⟨.f32, xs⟩)), (1, .fv (.vw (some 1) ⟨.f32, ys⟩)), (5, .fv (.el (.sc (.int .i64 (IntKind.i64.wrap (i + 1))))))], []⟩ k)
          | none => none)
        | false => none)
      | none => none)
    | false => none)
  | false => k (.exit 0) ⟨[], []⟩) := by kernel_rfl
theorem ind18 (xs ys : List Nat) (hl : xs.length = ys.length) (hx : Nat.ble xs.length big = true) (k : Ex → St → R) : ∀ (m j : Nat), j + m = xs.length → iterK a18 [0, 1, 5] [] (codeK T1 a18 l18 Try.f18.ntmps (loopAt Try.f18 0)) (m + 1) ⟨[(0, .fv (.vw (some 0) ⟨.f32, xs⟩)), (1, .fv (.vw (some 1) ⟨.f32, ys⟩)), (5, .fv (.el (.sc (.int .i64 (j : Int)))))], []⟩ k =
    (match all2 sameW (xs.drop j) (ys.drop j) with
    | true => k (.exit 0) ⟨[], []⟩
    | false => k .ret ⟨[(4, .fv (.el (.sc (.bo false))))], []⟩) := by
  intro m
  induction m with
  | zero =>
    intro j hj
    have h1 : ¬ ((j : Int) < (xs.length : Int)) := by omega
    rw [st18, List.drop_of_length_le (by omega)]
    simp [h1, all2]
  | succ m ih =>
    intro j hj
    have hlt : j < xs.length := by omega
    have hlt2 : j < ys.length := by omega
    have h1 : ((j : Int) < (xs.length : Int)) := by omega
    have h12 : ((j : Int) < (ys.length : Int)) := by omega
    have h2 : (0 : Int) ≤ (j : Int) := by omega
    rw [st18, wrap_succ hlt hx]
    have h3 : xs[Int.toNat (j : Int)]? = some xs[j] := by simp [hlt]
    have h4 : ys[Int.toNat (j : Int)]? = some ys[j] := by simp [hlt2]
    rw [List.drop_eq_getElem_cons hlt, List.drop_eq_getElem_cons hlt2, ih (j + 1) (by omega)]
    simp only [h1, h12, h2, h3, h4, and_self, decide_true, Bool.and_true, all2]
    unfold sameW
    cases hp : sameF (wid xs[j]) (wid ys[j]) <;> simp

theorem lk18 : LOK T1 a18 l18 Try.f18.ntmps (loopAt Try.f18 0) := by
  intro ins outs hA s k out h
  have hA' : ([0, 1, 5], []) = (ins, outs) := Option.some.inj ((show a18.lp (firstRegion (loopAt Try.f18 0)) = some ([0, 1, 5], []) by kernel_rfl).symm.trans hA)
  cases hA'
  have hk : firstRegion (loopAt Try.f18 0) = 4 := by kernel_rfl
  rw [hk] at h
  change lp18 s k = some out at h
  unfold lp18 at h
  split at h
  · rename_i xs ys i
    cases hg : (decide (i = 0) && (Nat.beq xs.length ys.length && Nat.ble xs.length big)) with
    | false => rw [hg] at h; cases h
    | true =>
      rw [hg] at h
      simp only [Bool.and_eq_true, decide_eq_true_eq] at hg
      obtain ⟨rfl, hl, hx⟩ := hg
      refine ⟨xs.length + 1, ?_⟩
      exact (ind18 xs ys (Nat.eq_of_beq_eq_true hl) hx k xs.length 0 (by omega)).trans h
  · cases h
theorem e18 (xs : List Nat) (ys : List Nat) : runFn T1 a18 l18 Try.f18 [.vw none ⟨.f32, xs⟩, .vw none ⟨.f32, ys⟩] = (match (!(((xs.length : Int) : Int) == (ys.length : Int)) : Bool) with
  | true => some ⟨[.el (.sc (.bo false))], none⟩
  | false => (match (decide (0 = 0) && (Nat.beq xs.length ys.length && Nat.ble xs.length big) : Bool) with
    | true => (match (all2 sameW xs ys : Bool) with
      | true => some ⟨[.el (.sc (.bo true))], none⟩
      | false => some ⟨[.el (.sc (.bo false))], none⟩)
    | false => none)) := by kernel_rfl
theorem s18 (xs : List Nat) (ys : List Nat) : runFn T1 a18 l18 Try.f18 [.vw none ⟨.f32, xs⟩, .vw none ⟨.f32, ys⟩] = (match (Nat.beq xs.length ys.length : Bool) with
  | true => (match (Nat.ble xs.length big : Bool) with
    | true => some ⟨[.el (.sc (.bo (all2 sameW xs ys)))], none⟩
    | false => none)
  | false => some ⟨[.el (.sc (.bo false))], none⟩) := by
  rw [e18]
  cases hl : Nat.beq xs.length ys.length with
  | false =>
    have h1 : xs.length ≠ ys.length := fun e => by rw [e, Nat.beq_refl] at hl; cases hl
    have h2 : ((xs.length : Int) == (ys.length : Int)) = false := beq_false_of_ne (by omega)
    simp only [h2, Bool.not_false]
  | true =>
    have h1 := Nat.eq_of_beq_eq_true hl
    have h2 : ((xs.length : Int) == (ys.length : Int)) = true := beq_iff_eq.2 (by omega)
    simp only [h2, Bool.not_true]
    cases h : Nat.ble xs.length big with
    | false => simp
    | true => cases h3 : all2 sameW xs ys <;> simp
theorem c18 (xs : List Nat) (ys : List Nat) (k : List RV → R) (out : Out) (h : (match (Nat.beq xs.length ys.length : Bool) with
  | true => (match (Nat.ble xs.length big : Bool) with
    | true => k [.el (.sc (.bo (all2 sameW xs ys)))]
    | false => none)
  | false => k [.el (.sc (.bo false))]) = some out) : ∃ rs, Real Try.prog 18 ∧ COK Try.prog 18 [.vw none ⟨.f32, xs⟩, .vw none ⟨.f32, ys⟩] rs ∧ k rs = some out := by
  cases g0 : (Nat.beq xs.length ys.length : Bool) with
  | true =>
    rw [g0] at h
    cases g1 : (Nat.ble xs.length big : Bool) with
    | true =>
      rw [g1] at h
      exact ⟨_, real Try.func18 (by kernel_rfl), fn_ok tok1 (A := a18) (L := l18) (r := none) Try.func18 (by kernel_rfl) (by kernel_rfl) (loops1 (by kernel_rfl) lk18) (by rw [s18, g0, g1]), h⟩
    | false =>
      rw [g1] at h
      cases h
  | false =>
    rw [g0] at h
    exact ⟨_, real Try.func18 (by kernel_rfl), fn_ok tok1 (A := a18) (L := l18) (r := none) Try.func18 (by kernel_rfl) (by kernel_rfl) (loops1 (by kernel_rfl) lk18) (by rw [s18, g0]), h⟩

/-! laws.toLineS -/
def a23 : Ann := ann [(3, [0, 3, 4], [3])] [2] 0
def lp23 : St → (Ex → St → R) → R := fun s k => match s with
  | ⟨[(0, .fv (.vw (some 0) ⟨.line, xs⟩)), (3, .fv (.own 0)), (4, .fv (.el (.sc (.int .i64 i))))], [some ⟨e0, ⟨.line, ys⟩⟩]⟩ => (match (decide (i = 0) && (Nat.beq (ys : List LineV).length xs.length && Nat.ble xs.length big) : Bool) with
    | true => k (.exit 0) ⟨[(3, .fv (.own 0))], [some ⟨e0, ⟨.line, xs⟩⟩]⟩
    | false => none)
  | _ => none
def l23 : Loops := fun key s k => bif Nat.beq key 3 then lp23 s k else none
theorem st23 (xs : List LineV) (i : Int) (ys : List LineV) (e0 : Nat) (m : Nat) (k : Ex → St → R) : iterK a23 [0, 3, 4] [3] (codeK T1 a23 l23 Try.f23.ntmps (loopAt Try.f23 0)) (m + 1) ⟨[(0, .fv (.vw (some 0) ⟨.line, xs⟩)), (3, .fv (.own 0)), (4, .fv (.el (.sc (.int .i64 i))))], [some ⟨e0, ⟨.line, ys⟩⟩]⟩ k = (match (decide ((i : Int) < (xs.length : Int)) : Bool) with
  | true => (match (decide (0 ≤ (i : Int) ∧ (i : Int) < (xs.length : Int)) && true : Bool) with
    | true => (match (xs : List LineV)[Int.toNat i]? with
      | some x1 => (match (decide (0 ≤ (i : Int) ∧ (i : Int) < (ys.length : Int)) && true : Bool) with
        | true => (match (ys : List LineV)[Int.toNat i]? with
          | some x2 => iterK a23 [0, 3, 4] [3] (codeK T1 a23 l23 Try.f23.ntmps (loopAt Try.f23 0)) m ⟨[(0, .fv (.vw (some 0) ⟨.line, xs⟩)), (3, .fv (.own 0)), (4, .fv (.el (.sc (.int .i64 (IntKind.i64.wrap (i + 1))))))], [some ⟨e0, ⟨.line, (ys : List LineV).set (Int.toNat i) x1⟩⟩]⟩ k
          | none => none)
        | false => none)
      | none => none)
    | false => none)
  | false => k (.exit 0) ⟨[(3, .fv (.own 0))], [some ⟨e0, ⟨.line, ys⟩⟩]⟩) := by kernel_rfl
theorem ind23 (xs : List LineV) (hx : Nat.ble xs.length big = true) (e0 : Nat) (k : Ex → St → R) : ∀ (m j : Nat) (ys : List LineV), ys.length = xs.length → j + m = xs.length → iterK a23 [0, 3, 4] [3] (codeK T1 a23 l23 Try.f23.ntmps (loopAt Try.f23 0)) (m + 1) ⟨[(0, .fv (.vw (some 0) ⟨.line, xs⟩)), (3, .fv (.own 0)), (4, .fv (.el (.sc (.int .i64 (j : Int)))))], [some ⟨e0, ⟨.line, ys⟩⟩]⟩ k =
    k (.exit 0) ⟨[(3, .fv (.own 0))], [some ⟨e0, ⟨.line, ys.take j ++ xs.drop j⟩⟩]⟩ := by
  intro m
  induction m with
  | zero =>
    intro j ys hl hj
    have h1 : ¬ ((j : Int) < (xs.length : Int)) := by omega
    rw [st23, List.drop_of_length_le (show xs.length ≤ j by omega), List.take_of_length_le (show ys.length ≤ j by omega)]
    simp [h1]
  | succ m ih =>
    intro j ys hl hj
    have hlt : j < xs.length := by omega
    have hlt2 : j < ys.length := by omega
    have h1 : ((j : Int) < (xs.length : Int)) := by omega
    have h12 : ((j : Int) < (ys.length : Int)) := by omega
    have h2 : (0 : Int) ≤ (j : Int) := by omega
    rw [st23, wrap_succ hlt hx]
    have h3 : xs[Int.toNat (j : Int)]? = some xs[j] := by simp [hlt]
    have h4 : ys[Int.toNat (j : Int)]? = some ys[j] := by simp [hlt2]
    simp only [h1, h12, h2, h3, h4, and_self, decide_true, Bool.and_true]
    refine (ih (j + 1) (ys.set (Int.toNat (j : Int)) xs[j]) (by simpa using hl) (by omega)).trans ?_
    have h5 : (ys.set (Int.toNat (j : Int)) xs[j]).take (j + 1) ++ xs.drop (j + 1) = ys.take j ++ xs.drop j := by
      rw [List.drop_eq_getElem_cons hlt]
      exact set_take hlt2 _ _
    rw [h5]

theorem lk23 : LOK T1 a23 l23 Try.f23.ntmps (loopAt Try.f23 0) := by
  intro ins outs hA s k out h
  have hA' : ([0, 3, 4], [3]) = (ins, outs) := Option.some.inj ((show a23.lp (firstRegion (loopAt Try.f23 0)) = some ([0, 3, 4], [3]) by kernel_rfl).symm.trans hA)
  cases hA'
  have hk : firstRegion (loopAt Try.f23 0) = 3 := by kernel_rfl
  rw [hk] at h
  change lp23 s k = some out at h
  unfold lp23 at h
  split at h
  · rename_i xs i e0 ys
    cases hg : (decide (i = 0) && (Nat.beq ys.length xs.length && Nat.ble xs.length big)) with
    | false => rw [hg] at h; cases h
    | true =>
      rw [hg] at h
      simp only [Bool.and_eq_true, decide_eq_true_eq] at hg
      obtain ⟨rfl, hl, hx⟩ := hg
      refine ⟨xs.length + 1, ?_⟩
      have hh := ind23 xs hx e0 k xs.length 0 ys (Nat.eq_of_beq_eq_true hl) (by omega)
      simp only [List.take_zero, List.nil_append, List.drop_zero] at hh
      exact hh.trans h
  · cases h
theorem e23 (xs : List LineV) : runFn T1 a23 l23 Try.f23 [.vw none ⟨.line, xs⟩] = (match (decide (0 ≤ ((xs.length : Int) : Int) ∧ ((xs.length : Int) : Int) = (xs.length : Int) ∧ ((xs.length : Int) : Int) ≤ 1099511627776) : Bool) with
  | true => (match (decide (0 = 0) && (Nat.beq (List.replicate (Int.toNat ((xs.length : Int))) (((⟨0, 0, 0, 0⟩ : LineV) : LineV)) : List LineV).length xs.length && Nat.ble xs.length big) : Bool) with
    | true => some ⟨[.fresh 67 ⟨.line, xs⟩], none⟩
    | false => none)
  | false => none) := by kernel_rfl
theorem s23 (xs : List LineV) : runFn T1 a23 l23 Try.f23 [.vw none ⟨.line, xs⟩] = (match (Nat.ble xs.length big : Bool) with
  | true => some ⟨[.fresh 67 ⟨.line, xs⟩], none⟩
  | false => none) := by
  rw [e23]
  cases h : Nat.ble xs.length big with
  | false => cases hd : decide ((xs.length : Int) ≤ 1099511627776) <;> simp [hd]
  | true =>
    have hx := Nat.le_of_ble_eq_true h
    unfold big at hx
    have h2 : ((xs.length : Int) ≤ 1099511627776) := by omega
    simp [h2]
theorem c23 (xs : List LineV) (k : List RV → R) (out : Out) (h : (match (Nat.ble xs.length big : Bool) with
  | true => k [.fresh 67 ⟨.line, xs⟩]
  | false => none) = some out) : ∃ rs, Real Try.prog 23 ∧ COK Try.prog 23 [.vw none ⟨.line, xs⟩] rs ∧ k rs = some out := by
  cases g0 : (Nat.ble xs.length big : Bool) with
  | true =>
    rw [g0] at h
    exact ⟨_, real Try.func23 (by kernel_rfl), fn_ok tok1 (A := a23) (L := l23) (r := none) Try.func23 (by kernel_rfl) (by kernel_rfl) (loops1 (by kernel_rfl) lk23) (by rw [s23, g0]), h⟩
  | false =>
    rw [g0] at h
    cases h

/-! laws.szLineSS -/
def a38 : Ann := ann [(5, [0, 1, 5], [1])] [4] 0
def lp38 : St → (Ex → St → R) → R := fun s k => match s with
  | ⟨[(0, .fv (.vv none .line xss)), (1, .fv (.el (.sc (.int .i64 l)))), (5, .fv (.el (.sc (.int .i64 i))))], []⟩ => (match ((decide (i = 0) && Nat.ble xss.length big) : Bool) with
    | true => (match repE (szStep xss) (xss.length) 0 (l : Int) with
      | some s => k (.exit 0) ⟨[(1, .fv (.el (.sc (.int .i64 s))))], []⟩
      | none => k .ret ⟨[(4, .fv (.el (.sc (.int .i64 ((-1))))))], []⟩)
    | false => none)
  | _ => none
def l38 : Loops := fun key s k => bif Nat.beq key 5 then lp38 s k else none
theorem st38 (xss : List (List LineV)) (l : Int) (i : Int) (m : Nat) (k : Ex → St → R) : iterK a38 [0, 1, 5] [1] (codeK T1 a38 l38 Try.f38.ntmps (loopAt Try.f38 0)) (m + 1) ⟨[(0, .fv (.vv none .line xss)), (1, .fv (.el (.sc (.int .i64 l)))), (5, .fv (.el (.sc (.int .i64 i))))], []⟩ k = (match (decide ((i : Int) < (xss.length : Int)) : Bool) with
  | true => (match (decide (0 ≤ (i : Int) ∧ (i : Int) < (xss.length : Int)) : Bool) with
    | true => (match (xss : List (List LineV))[Int.toNat i]? with
      | some x1 => (match (decide ((szLeft x1.length l : Int) < 0) : Bool) with
        | true => k .ret ⟨[(4, .fv (.el (.sc (.int .i64 ((-1))))))], []⟩
        | false => iterK a38 [0, 1, 5] [1] (codeK T1 a38 l38 Try.f38.ntmps (loopAt Try.f38 0)) m ⟨[(0, .fv (.vv none .line xss)), (1, .fv (.el (.sc (.int .i64 (szLeft x1.length l))))), (5, .fv (.el (.sc (.int .i64 (IntKind.i64.wrap (i + 1))))))], []⟩ k)
      | none => none)
    | false => none)
  | false => k (.exit 0) ⟨[(1, .fv (.el (.sc (.int .i64 l))))], []⟩) := by kernel_rfl
theorem ind38 (xss : List (List LineV)) (hxx : (Nat.ble xss.length big) = true) (k : Ex → St → R) : ∀ (m j : Nat) (l : Int), 0 ≤ j → j + m = xss.length → iterK a38 [0, 1, 5] [1] (codeK T1 a38 l38 Try.f38.ntmps (loopAt Try.f38 0)) (m + 1) ⟨[(0, .fv (.vv none .line xss)), (1, .fv (.el (.sc (.int .i64 l)))), (5, .fv (.el (.sc (.int .i64 (j : Int)))))], []⟩ k =
    (match repE (szStep xss) m j (l : Int) with
    | some s => k (.exit 0) ⟨[(1, .fv (.el (.sc (.int .i64 s))))], []⟩
    | none => k .ret ⟨[(4, .fv (.el (.sc (.int .i64 ((-1))))))], []⟩) := by
  intro m
  induction m with
  | zero =>
    intro j l hlo hj
    have hxx_ := big_le hxx
    have h1 : ¬ (((j : Int) < (xss.length : Int))) := by omega
    rw [st38]
    simp only [h1, repE, decide_false] <;> rfl
  | succ m ih =>
    intro j l hlo hj
    have hxx_ := big_le hxx
    have h1 : ((j : Int) < (xss.length : Int)) := by omega
    have lb : (0 : Int) ≤ ((j : Nat) : Int) ∧ ((j : Nat) : Int) < (xss.length : Int) := by omega
    have lq : xss[Int.toNat ((j : Nat) : Int)]? = some (xss.getD j []) := getI3 (by omega)
    have wn : IntKind.i64.wrap ((j : Int) + 1) = ((j + 1 : Nat) : Int) := wrapN (by omega) (by omega)
    rw [st38]
    simp only [h1, wn, lb, lq, and_self, decide_true, Bool.and_true, Int.le_refl]
    rw [repE_succ]
    have hs : szStep xss j l = bif decide (szLeft (xss.getD j []).length l < 0) then none else some (szLeft (xss.getD j []).length l) := rfl
    rw [hs]
    cases decide (szLeft (xss.getD j []).length l < 0) with
    | true => rfl
    | false => exact ih (j + 1) _ (by omega) (by omega)

theorem lk38 : LOK T1 a38 l38 Try.f38.ntmps (loopAt Try.f38 0) := by
  intro ins outs hA s k out h
  have hA' : ([0, 1, 5], [1]) = (ins, outs) := Option.some.inj ((show a38.lp (firstRegion (loopAt Try.f38 0)) = some ([0, 1, 5], [1]) by kernel_rfl).symm.trans hA)
  cases hA'
  have hk : firstRegion (loopAt Try.f38 0) = 5 := by kernel_rfl
  rw [hk] at h
  change lp38 s k = some out at h
  unfold lp38 at h
  split at h
  · rename_i xss l i
    cases hg : (decide (i = 0) && Nat.ble xss.length big) with
    | false => rw [hg] at h; cases h
    | true =>
      rw [hg] at h
      simp only [Bool.and_eq_true, decide_eq_true_eq] at hg
      obtain ⟨rfl, hxx⟩ := hg
      refine ⟨(xss.length) + 1, ?_⟩
      have hxx_ := big_le hxx
      exact (ind38 xss hxx k (xss.length) 0 l (by omega) (by omega)).trans h
  · cases h
theorem e38 (xss : List (List LineV)) (l : Int) : runFn T1 a38 l38 Try.f38 [.vv none .line xss, .el (.sc (.int .i64 l))] = (match (decide ((IntKind.i64.wrap (l - ((xss.length : Int))) : Int) < 0) : Bool) with
  | true => some ⟨[.el (.sc (.int .i64 ((-1))))], none⟩
  | false => (match ((decide (0 = 0) && Nat.ble xss.length big) : Bool) with
    | true => (match repE (szStep xss) (xss.length) 0 ((IntKind.i64.wrap (l - ((xss.length : Int)))) : Int) with
      | some s => some ⟨[.el (.sc (.int .i64 s))], none⟩
      | none => some ⟨[.el (.sc (.int .i64 ((-1))))], none⟩)
    | false => none)) := by kernel_rfl
theorem s38 (xss : List (List LineV)) (l : Int) (hg : (decide ((0 : Int) ≤ l ∧ (l : Int) ≤ 1048576) && Nat.ble xss.length 9223372036854775807) = true) : runFn T1 a38 l38 Try.f38 [.vv none .line xss, .el (.sc (.int .i64 l))] = some ⟨[.el (.sc (.int .i64 (szLL xss l)))], none⟩ := by
  rw [e38]
  rw [Bool.and_eq_true, decide_eq_true_eq] at hg
  have hle := Nat.le_of_ble_eq_true hg.2
  unfold szLL
  cases h1 : decide ((IntKind.i64.wrap (l - (xss.length : Int)) : Int) < 0) with
  | true => rfl
  | false =>
    have h2 := of_decide_eq_false h1
    have e : IntKind.i64.wrap (l - (xss.length : Int)) = l - (xss.length : Int) := wrap64 (by omega) (by omega)
    rw [e] at h2
    have hx : Nat.ble xss.length big = true := big_of (by omega)
    simp only [hx, decide_true, Bool.and_self, cond_false]
    cases repE (szStep xss) xss.length 0 (IntKind.i64.wrap (l - (xss.length : Int))) <;> rfl
theorem c38 (xss : List (List LineV)) (l : Int) (k : List RV → R) (out : Out) (h : (match (decide ((0 : Int) ≤ l ∧ (l : Int) ≤ 1048576) && Nat.ble xss.length 9223372036854775807 : Bool) with
  | true => k [.el (.sc (.int .i64 (szLL xss l)))]
  | false => none) = some out) : ∃ rs, Real Try.prog 38 ∧ COK Try.prog 38 [.vv none .line xss, .el (.sc (.int .i64 l))] rs ∧ k rs = some out := by
  cases g0 : (decide ((0 : Int) ≤ l ∧ (l : Int) ≤ 1048576) && Nat.ble xss.length 9223372036854775807 : Bool) with
  | true =>
    rw [g0] at h
    exact ⟨_, real Try.func38 (by kernel_rfl), fn_ok tok1 (A := a38) (L := l38) (r := none) Try.func38 (by kernel_rfl) (by kernel_rfl) (loops1 (by kernel_rfl) lk38) (by rw [s38 _ _ g0]), h⟩
  | false =>
    rw [g0] at h
    cases h

/-! laws.eqLine -/
theorem e49 (ap : Nat) (ah : Nat) (aw : Nat) (ak : Int) (bp : Nat) (bh : Nat) (bw : Nat) (bk : Int) : runFn T1 none0 noL Try.f49 [.el (.ag [(.fl .f32 ap), (.fl .f32 ah), (.fl .f32 aw), (.int .i64 ak)]), .el (.ag [(.fl .f32 bp), (.fl .f32 bh), (.fl .f32 bw), (.int .i64 bk)])] = (match (!(sameF (wid ap) (wid bp)) : Bool) with
  | true => some ⟨[.el (.sc (.bo false))], none⟩
  | false => (match (!(sameF (wid ah) (wid bh)) : Bool) with
    | true => some ⟨[.el (.sc (.bo false))], none⟩
    | false => (match (!(sameF (wid aw) (wid bw)) : Bool) with
      | true => some ⟨[.el (.sc (.bo false))], none⟩
      | false => (match (!((ak : Int) == bk) : Bool) with
        | true => some ⟨[.el (.sc (.bo false))], none⟩
        | false => some ⟨[.el (.sc (.bo true))], none⟩)))) := by kernel_rfl
theorem s49 (ap : Nat) (ah : Nat) (aw : Nat) (ak : Int) (bp : Nat) (bh : Nat) (bw : Nat) (bk : Int) : runFn T1 none0 noL Try.f49 [.el (.ag [(.fl .f32 ap), (.fl .f32 ah), (.fl .f32 aw), (.int .i64 ak)]), .el (.ag [(.fl .f32 bp), (.fl .f32 bh), (.fl .f32 bw), (.int .i64 bk)])] = some ⟨[.el (.sc (.bo (eqLineF ((⟨ap, ah, aw, ak⟩ : LineV)) ((⟨bp, bh, bw, bk⟩ : LineV)))))], none⟩ := by
  rw [e49]
  unfold eqLineF
  cases sameF (wid ap) (wid bp) <;> cases sameF (wid ah) (wid bh) <;> cases sameF (wid aw) (wid bw) <;> simp <;> (try split) <;> simp_all
theorem c49 (ap : Nat) (ah : Nat) (aw : Nat) (ak : Int) (bp : Nat) (bh : Nat) (bw : Nat) (bk : Int) (k : List RV → R) (out : Out) (h : k [.el (.sc (.bo (eqLineF ((⟨ap, ah, aw, ak⟩ : LineV)) ((⟨bp, bh, bw, bk⟩ : LineV)))))] = some out) : ∃ rs, Real Try.prog 49 ∧ COK Try.prog 49 [.el (.ag [(.fl .f32 ap), (.fl .f32 ah), (.fl .f32 aw), (.int .i64 ak)]), .el (.ag [(.fl .f32 bp), (.fl .f32 bh), (.fl .f32 bw), (.int .i64 bk)])] rs ∧ k rs = some out := by
  exact ⟨_, real Try.func49 (by kernel_rfl), fn_ok tok1 (A := none0) (L := noL) (r := none) Try.func49 (by kernel_rfl) (by kernel_rfl) (loops0 (by kernel_rfl)) (by rw [s49]), h⟩

/-! laws.markLineSS -/
def a57 : Ann := ann [(2, [0, 1, 5], [0, 1])] [0, 4] 1
def lp57 : St → (Ex → St → R) → R := fun s k => match s with
  | ⟨[(0, .fv (.own 0)), (1, .fv (.el (.sc (.int .i64 n)))), (5, .fv (.el (.sc (.int .i64 i))))], [some ⟨e0, ⟨.ll, ys⟩⟩]⟩ => (match (decide (i = 0) && (mkOk n (ys : List (List LineV)) && Nat.ble (ys : List (List LineV)).length big) : Bool) with
    | true => k (.exit 0) ⟨[(0, .fv (.own 0)), (1, .fv (.el (.sc (.int .i64 (mkN n (ys : List (List LineV)))))))], [some ⟨e0, ⟨.ll, mkC n (ys : List (List LineV))⟩⟩]⟩
    | false => none)
  | _ => none
def l57 : Loops := fun key s k => bif Nat.beq key 2 then lp57 s k else none
theorem st57 (n : Int) (i : Int) (ys : List ((List LineV))) (e0 : Nat) (m : Nat) (k : Ex → St → R) : iterK a57 [0, 1, 5] [0, 1] (codeK T1 a57 l57 Try.f57.ntmps (loopAt Try.f57 0)) (m + 1) ⟨[(0, .fv (.own 0)), (1, .fv (.el (.sc (.int .i64 n)))), (5, .fv (.el (.sc (.int .i64 i))))], [some ⟨e0, ⟨.ll, ys⟩⟩]⟩ k = (match (decide ((i : Int) < (ys.length : Int)) : Bool) with
  | true => (match (decide (0 ≤ (i : Int) ∧ (i : Int) < (ys.length : Int)) : Bool) with
    | true => (match (ys : List (List LineV))[Int.toNat i]? with
      | some x1 => (match (ys : List (List LineV))[Int.toNat i]? with
        | some x2 => (match (decide (0 ≤ n ∧ n ≤ 1099511627776) && Nat.ble x2.length big : Bool) with
          | true => iterK a57 [0, 1, 5] [0, 1] (codeK T1 a57 l57 Try.f57.ntmps (loopAt Try.f57 0)) m ⟨[(0, .fv (.own 0)), (1, .fv (.el (.sc (.int .i64 (n + 4 * (x2.length : Int)))))), (5, .fv (.el (.sc (.int .i64 (IntKind.i64.wrap (i + 1))))))], [some ⟨e0, ⟨.ll, (ys : List (List LineV)).set (Int.toNat i) (marksL n x2.length)⟩⟩]⟩ k
          | false => none)
        | none => none)
      | none => none)
    | false => none)
  | false => k (.exit 0) ⟨[(0, .fv (.own 0)), (1, .fv (.el (.sc (.int .i64 n))))], [some ⟨e0, ⟨.ll, ys⟩⟩]⟩) := by kernel_rfl
theorem ind57 (e0 : Nat) (k : Ex → St → R) : ∀ (m j : Nat) (ys : List (List LineV)) (n : Int), Nat.ble ys.length big = true → mkOk n (ys.drop j) = true → j + m = ys.length → iterK a57 [0, 1, 5] [0, 1] (codeK T1 a57 l57 Try.f57.ntmps (loopAt Try.f57 0)) (m + 1) ⟨[(0, .fv (.own 0)), (1, .fv (.el (.sc (.int .i64 n)))), (5, .fv (.el (.sc (.int .i64 (j : Int)))))], [some ⟨e0, ⟨.ll, ys⟩⟩]⟩ k =
    k (.exit 0) ⟨[(0, .fv (.own 0)), (1, .fv (.el (.sc (.int .i64 (mkN n (ys.drop j))))))], [some ⟨e0, ⟨.ll, ys.take j ++ mkC n (ys.drop j)⟩⟩]⟩ := by
  intro m
  induction m with
  | zero =>
    intro j ys n hb h0 hj
    have h1 : ¬ ((j : Int) < (ys.length : Int)) := by omega
    rw [st57, List.take_of_length_le (show ys.length ≤ j by omega), List.drop_of_length_le (show ys.length ≤ j by omega)]
    simp [h1, mkC, mkN]
  | succ m ih =>
    intro j ys n hb h0 hj
    have hlt : j < ys.length := by omega
    have h1 : ((j : Int) < (ys.length : Int)) := by omega
    have h2 : (0 : Int) ≤ (j : Int) := by omega
    have h4 : ys[Int.toNat (j : Int)]? = some ys[j] := by simp [hlt]
    rw [List.drop_eq_getElem_cons hlt] at h0 ⊢
    unfold mkOk at h0
    rw [Bool.and_eq_true] at h0
    rw [st57, wrap_succ hlt hb]
    simp only [h1, h2, h4, h0.1, and_self, decide_true, Bool.and_true]
    refine (ih (j + 1) (ys.set (Int.toNat (j : Int)) (marksL n ys[j].length)) (n + 4 * (ys[j].length : Int)) (by simpa using hb) (by rw [Int.toNat_natCast, List.drop_set_of_lt (by omega)]; exact h0.2) (by simp; omega)).trans ?_
    have h5 : (ys.set (Int.toNat (j : Int)) (marksL n ys[j].length)).take (j + 1) ++ mkC (n + 4 * (ys[j].length : Int)) (ys.drop (j + 1)) = ys.take j ++ marksL n ys[j].length :: mkC (n + 4 * (ys[j].length : Int)) (ys.drop (j + 1)) := set_take hlt _ _
    have h6 : (ys.set (Int.toNat (j : Int)) (marksL n ys[j].length)).drop (j + 1) = ys.drop (j + 1) := by rw [Int.toNat_natCast, List.drop_set_of_lt (by omega)]
    rw [h6, h5]
    rfl

theorem lk57 : LOK T1 a57 l57 Try.f57.ntmps (loopAt Try.f57 0) := by
  intro ins outs hA s k out h
  have hA' : ([0, 1, 5], [0, 1]) = (ins, outs) := Option.some.inj ((show a57.lp (firstRegion (loopAt Try.f57 0)) = some ([0, 1, 5], [0, 1]) by kernel_rfl).symm.trans hA)
  cases hA'
  have hk : firstRegion (loopAt Try.f57 0) = 2 := by kernel_rfl
  rw [hk] at h
  change lp57 s k = some out at h
  unfold lp57 at h
  split at h
  · rename_i n i e0 ys
    cases hg : (decide (i = 0) && (mkOk n ys && Nat.ble ys.length big)) with
    | false => rw [hg] at h; cases h
    | true =>
      rw [hg] at h
      simp only [Bool.and_eq_true, decide_eq_true_eq] at hg
      obtain ⟨rfl, hn0, hx⟩ := hg
      refine ⟨ys.length + 1, ?_⟩
      have hh := ind57 e0 k ys.length 0 ys n hx hn0 (by omega)
      simp only [List.take_zero, List.nil_append, List.drop_zero] at hh
      exact hh.trans h
  · cases h
theorem e57 (e : Nat) (xss : List ((List LineV))) (n : Int) : runMn T1 a57 l57 Try.f57 e ⟨.ll, xss⟩ [.el (.sc (.int .i64 n))] = (match (decide (0 = 0) && (mkOk n (xss : List (List LineV)) && Nat.ble (xss : List (List LineV)).length big) : Bool) with
  | true => some ⟨[.el (.sc (.int .i64 (mkN n (xss : List (List LineV)))))], some ⟨e, ⟨.ll, mkC n (xss : List (List LineV))⟩⟩⟩
  | false => none) := by kernel_rfl
theorem s57 (e : Nat) (xss : List ((List LineV))) (n : Int) : runMn T1 a57 l57 Try.f57 e ⟨.ll, xss⟩ [.el (.sc (.int .i64 n))] = (match (mkOk n xss && Nat.ble xss.length big : Bool) with
  | true => some ⟨[.el (.sc (.int .i64 (mkN n xss)))], some ⟨e, ⟨.ll, mkC n xss⟩⟩⟩
  | false => none) := by
  rw [e57]
  cases h : (mkOk n xss && Nat.ble xss.length big) <;> simp [h]
theorem c57 (xss : List ((List LineV))) (n : Int) (k : List RV → Vec → R) (out : Out) (h : (match (mkOk n xss && Nat.ble xss.length big : Bool) with
  | true => k [.el (.sc (.int .i64 (mkN n xss)))] ⟨.ll, mkC n xss⟩
  | false => none) = some out) : ∃ rs vec, Real Try.prog 57 ∧ CMOK Try.prog 57 ⟨.ll, xss⟩ [.el (.sc (.int .i64 n))] rs vec ∧ k rs vec = some out := by
  cases g0 : (mkOk n xss && Nat.ble xss.length big : Bool) with
  | true =>
    rw [g0] at h
    exact ⟨_, _, real Try.func57 (by kernel_rfl), mfn2_ok tok1 (A := a57) (L := l57) Try.func57 (by kernel_rfl) (by kernel_rfl) (loops1 (by kernel_rfl) lk57) (by decide) rfl rfl (fun e => by rw [s57, g0]), h⟩
  | false =>
    rw [g0] at h
    cases h

/-! impl.checked -/
theorem e90 (c : Nat) : runFn T1 none0 noL Try.f90 [.el (.sc (.fl .f32 c))] = (match (!(fin c) : Bool) with
  | true => some ⟨[.el (.sc (.fl .f32 0)), .el (.sc (.bo false))], none⟩
  | false => some ⟨[.el (.sc (.fl .f32 c)), .el (.sc (.bo true))], none⟩) := by kernel_rfl
theorem s90 (c : Nat) : runFn T1 none0 noL Try.f90 [.el (.sc (.fl .f32 c))] = some ⟨[.el (.sc (.fl .f32 (numOf c))), .el (.sc (.bo (fin c)))], none⟩ := by
  rw [e90]
  unfold numOf
  cases fin c <;> rfl
theorem c90 (c : Nat) (k : List RV → R) (out : Out) (h : k [.el (.sc (.fl .f32 (numOf c))), .el (.sc (.bo (fin c)))] = some out) : ∃ rs, Real Try.prog 90 ∧ COK Try.prog 90 [.el (.sc (.fl .f32 c))] rs ∧ k rs = some out := by
  exact ⟨_, real Try.func90 (by kernel_rfl), fn_ok tok1 (A := none0) (L := noL) (r := none) Try.func90 (by kernel_rfl) (by kernel_rfl) (loops0 (by kernel_rfl)) (by rw [s90]), h⟩

/-! spec.l05Line -/
theorem e121 (xs : List LineV) (j : Nat) : runFn T1 none0 noL Try.f121 [.pt ⟨.v ⟨.line, xs⟩, 4, j, 0⟩] = (match (xs : List LineV)[j]? with
  | some x1 => (match (fin x1.p : Bool) with
    | true => (match (xs : List LineV)[j]? with
      | some x2 => (match (fin x2.h : Bool) with
        | true => (match (xs : List LineV)[j]? with
          | some x3 => (match (fin x3.w : Bool) with
            | true => (match (xs : List LineV)[j]? with
              | some x4 => (match (fcmp .gtr .f32 x4.w 0 : Bool) with
                | true => (match (xs : List LineV)[j]? with
                  | some x5 => some ⟨[.el (.sc (.bo (within x5.k 0 3)))], none⟩
                  | none => none)
                | false => some ⟨[.el (.sc (.bo false))], none⟩)
              | none => none)
            | false => some ⟨[.el (.sc (.bo false))], none⟩)
          | none => none)
        | false => some ⟨[.el (.sc (.bo false))], none⟩)
      | none => none)
    | false => some ⟨[.el (.sc (.bo false))], none⟩)
  | none => none) := by kernel_rfl
theorem s121 (xs : List LineV) (j : Nat) : runFn T1 none0 noL Try.f121 [.pt ⟨.v ⟨.line, xs⟩, 4, j, 0⟩] = (match xs[j]? with
  | some l => some ⟨[.el (.sc (.bo (okLine l)))], none⟩
  | none => none) := by
  rw [e121]
  cases h : xs[j]? with
  | none => simp [h]
  | some l =>
    obtain ⟨lp, lh, lw, lk⟩ := l
    simp only [h]
    unfold okLine above
    cases fin lp <;> cases fin lh <;> cases fin lw <;> cases fcmp .gtr .f32 lw 0 <;> simp
theorem c121 (xs : List LineV) (j : Nat) (k : List RV → R) (out : Out) (h : (match xs[j]? with
  | some l => k [.el (.sc (.bo (okLine l)))]
  | none => none) = some out) : ∃ rs, Real Try.prog 121 ∧ COK Try.prog 121 [.pt ⟨.v ⟨.line, xs⟩, 4, j, 0⟩] rs ∧ k rs = some out := by
  cases g0 : (xs[j]?) with
  | some l =>
    rw [g0] at h
    exact ⟨_, real Try.func121 (by kernel_rfl), fn_ok tok1 (A := none0) (L := noL) (r := none) Try.func121 (by kernel_rfl) (by kernel_rfl) (loops0 (by kernel_rfl)) (by rw [s121, g0]), h⟩
  | none =>
    rw [g0] at h
    cases h

/-! impl.areWorkers -/
theorem s128 (n : Int) : runFn T1 none0 noL Try.f128 [.el (.sc (.int .i64 n))] = some ⟨[.el (.sc (.bo (within n 1 8)))], none⟩ := by kernel_rfl
theorem c128 (n : Int) (k : List RV → R) (out : Out) (h : k [.el (.sc (.bo (within n 1 8)))] = some out) : ∃ rs, Real Try.prog 128 ∧ COK Try.prog 128 [.el (.sc (.int .i64 n))] rs ∧ k rs = some out := by
  exact ⟨_, real Try.func128 (by kernel_rfl), fn_ok tok1 (A := none0) (L := noL) (r := none) Try.func128 (by kernel_rfl) (by kernel_rfl) (loops0 (by kernel_rfl)) (by rw [s128]), h⟩

/-! impl.areFinite$1 -/
theorem s157 (c : Nat) : runFn T1 none0 noL Try.f157 [.el (.sc (.fl .f32 c))] = some ⟨[.el (.sc (.bo (notFin c)))], none⟩ := by kernel_rfl
theorem c157 (c : Nat) (k : List RV → R) (out : Out) (h : k [.el (.sc (.bo (notFin c)))] = some out) : ∃ rs, Real Try.prog 157 ∧ COK Try.prog 157 [.el (.sc (.fl .f32 c))] rs ∧ k rs = some out := by
  exact ⟨_, real Try.func157 (by kernel_rfl), fn_ok tok1 (A := none0) (L := noL) (r := none) Try.func157 (by kernel_rfl) (by kernel_rfl) (loops0 (by kernel_rfl)) (by rw [s157]), h⟩

/-! spec.l02Number -/
theorem e169 (c : Nat) : runFn T1 none0 noL Try.f169 [.el (.sc (.fl .f32 c))] = (match (!(fin c) : Bool) with
  | true => some ⟨[.el (.sc (.fl .f32 0)), .el (.sc (.bo false))], none⟩
  | false => some ⟨[.el (.sc (.fl .f32 c)), .el (.sc (.bo true))], none⟩) := by kernel_rfl
theorem s169 (c : Nat) : runFn T1 none0 noL Try.f169 [.el (.sc (.fl .f32 c))] = some ⟨[.el (.sc (.fl .f32 (numOf c))), .el (.sc (.bo (fin c)))], none⟩ := by
  rw [e169]
  unfold numOf
  cases fin c <;> rfl
theorem c169 (c : Nat) (k : List RV → R) (out : Out) (h : k [.el (.sc (.fl .f32 (numOf c))), .el (.sc (.bo (fin c)))] = some out) : ∃ rs, Real Try.prog 169 ∧ COK Try.prog 169 [.el (.sc (.fl .f32 c))] rs ∧ k rs = some out := by
  exact ⟨_, real Try.func169 (by kernel_rfl), fn_ok tok1 (A := none0) (L := noL) (r := none) Try.func169 (by kernel_rfl) (by kernel_rfl) (loops0 (by kernel_rfl)) (by rw [s169]), h⟩

/-! impl.arePositive$1 -/
theorem e201 (c : Nat) : runFn T1 none0 noL Try.f201 [.el (.sc (.fl .f32 c))] = (match (!(fin c) : Bool) with
  | true => some ⟨[.el (.sc (.bo true))], none⟩
  | false => some ⟨[.el (.sc (.bo (fcmp .leq .f32 c 0)))], none⟩) := by kernel_rfl
theorem s201 (c : Nat) : runFn T1 none0 noL Try.f201 [.el (.sc (.fl .f32 c))] = some ⟨[.el (.sc (.bo (notPos c)))], none⟩ := by
  rw [e201]
  unfold notPos
  cases fin c <;> rfl
theorem c201 (c : Nat) (k : List RV → R) (out : Out) (h : k [.el (.sc (.bo (notPos c)))] = some out) : ∃ rs, Real Try.prog 201 ∧ COK Try.prog 201 [.el (.sc (.fl .f32 c))] rs ∧ k rs = some out := by
  exact ⟨_, real Try.func201 (by kernel_rfl), fn_ok tok1 (A := none0) (L := noL) (r := none) Try.func201 (by kernel_rfl) (by kernel_rfl) (loops0 (by kernel_rfl)) (by rw [s201]), h⟩

/-! math.Inf -/
theorem e202 (n : Int) : runFn T1 none0 noL Try.f202 [.el (.sc (.int .i64 n))] = (match (decide ((n : Int) ≥ 0) : Bool) with
  | true => some ⟨[.el (.sc (.fl .f64 (cn .f64 (Int.toNat 9218868437227405312))))], none⟩
  | false => some ⟨[.el (.sc (.fl .f64 (cn .f64 (Int.toNat 18442240474082181120))))], none⟩) := by kernel_rfl
theorem s202 (n : Int) : runFn T1 none0 noL Try.f202 [.el (.sc (.int .i64 n))] = some ⟨[.el (.sc (.fl .f64 (infOf n)))], none⟩ := by
  rw [e202]
  unfold infOf
  cases decide (n ≥ 0) <;> rfl
theorem c202 (n : Int) (k : List RV → R) (out : Out) (h : k [.el (.sc (.fl .f64 (infOf n)))] = some out) : ∃ rs, Real Try.prog 202 ∧ COK Try.prog 202 [.el (.sc (.int .i64 n))] rs ∧ k rs = some out := by
  exact ⟨_, real Try.func202 (by kernel_rfl), fn_ok tok1 (A := none0) (L := noL) (r := none) Try.func202 (by kernel_rfl) (by kernel_rfl) (loops0 (by kernel_rfl)) (by rw [s202]), h⟩

def S2 : SFn := fun f args k => match f, args with
  | 18, [.vw none ⟨.f32, xs⟩, .vw none ⟨.f32, ys⟩] => (match (Nat.beq xs.length ys.length : Bool) with
    | true => (match (Nat.ble xs.length big : Bool) with
      | true => k [.el (.sc (.bo (all2 sameW xs ys)))]
      | false => none)
    | false => k [.el (.sc (.bo false))])
  | 23, [.vw none ⟨.line, xs⟩] => (match (Nat.ble xs.length big : Bool) with
    | true => k [.fresh 67 ⟨.line, xs⟩]
    | false => none)
  | 38, [.vv none .line xss, .el (.sc (.int .i64 l))] => (match (decide ((0 : Int) ≤ l ∧ (l : Int) ≤ 1048576) && Nat.ble xss.length 9223372036854775807 : Bool) with
    | true => k [.el (.sc (.int .i64 (szLL xss l)))]
    | false => none)
  | 49, [.el (.ag [(.fl .f32 ap), (.fl .f32 ah), (.fl .f32 aw), (.int .i64 ak)]), .el (.ag [(.fl .f32 bp), (.fl .f32 bh), (.fl .f32 bw), (.int .i64 bk)])] => k [.el (.sc (.bo (eqLineF ((⟨ap, ah, aw, ak⟩ : LineV)) ((⟨bp, bh, bw, bk⟩ : LineV)))))]
  | 90, [.el (.sc (.fl .f32 c))] => k [.el (.sc (.fl .f32 (numOf c))), .el (.sc (.bo (fin c)))]
  | 121, [.pt ⟨.v ⟨.line, xs⟩, 4, j, 0⟩] => (match xs[j]? with
    | some l => k [.el (.sc (.bo (okLine l)))]
    | none => none)
  | 128, [.el (.sc (.int .i64 n))] => k [.el (.sc (.bo (within n 1 8)))]
  | 157, [.el (.sc (.fl .f32 c))] => k [.el (.sc (.bo (notFin c)))]
  | 169, [.el (.sc (.fl .f32 c))] => k [.el (.sc (.fl .f32 (numOf c))), .el (.sc (.bo (fin c)))]
  | 201, [.el (.sc (.fl .f32 c))] => k [.el (.sc (.bo (notPos c)))]
  | 202, [.el (.sc (.int .i64 n))] => k [.el (.sc (.fl .f64 (infOf n)))]
  | _, _ => S1 f args k
def M2 : MFn := fun f vec args k => match f, vec, args with
  | 57, ⟨.ll, xss⟩, [.el (.sc (.int .i64 n))] => (match (mkOk n xss && Nat.ble xss.length big : Bool) with
    | true => k [.el (.sc (.int .i64 (mkN n xss)))] ⟨.ll, mkC n xss⟩
    | false => none)
  | _, _, _ => M1 f vec args k
def T2 : TT := tab.T S2 muts M2
theorem tok2 : TOK Try.prog T2 := by
  refine (tab_ok tabok).tok (fun f args k out h => ?_) (fun f vec args k out h => ?_)
  · change S2 f args k = some out at h
    unfold S2 at h
    split at h
    · exact (fun k out h => cok_call (c18 _ _ k out h)) k out h
    · exact (fun k out h => cok_call (c23 _ k out h)) k out h
    · exact (fun k out h => cok_call (c38 _ _ k out h)) k out h
    · exact (fun k out h => cok_call (c49 _ _ _ _ _ _ _ _ k out h)) k out h
    · exact (fun k out h => cok_call (c90 _ k out h)) k out h
    · exact (fun k out h => cok_call (c121 _ _ k out h)) k out h
    · exact (fun k out h => cok_call (c128 _ k out h)) k out h
    · exact (fun k out h => cok_call (c157 _ k out h)) k out h
    · exact (fun k out h => cok_call (c169 _ k out h)) k out h
    · exact (fun k out h => cok_call (c201 _ k out h)) k out h
    · exact (fun k out h => cok_call (c202 _ k out h)) k out h
    · exact tok1.S f args k out h
  · change M2 f vec args k = some out at h
    unfold M2 at h
    split at h
    · exact c57 _ _ k out h
    · exact tok1.M f vec args k out h

end Go.Sm.Ytdeplgocckdbiaa
