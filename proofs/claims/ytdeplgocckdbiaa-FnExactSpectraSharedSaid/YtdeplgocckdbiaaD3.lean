/- What the functions hand back: level 2. -/
import Derived.Test.YtdeplgocckdbiaaD2
namespace Go.Sm.Ytdeplgocckdbiaa
open Go Go.Sm Go.RowKit Go.Proofs

/-! laws.eqLineS -/
def a25 : Ann := ann [(4, [0, 1, 5], [])] [4] 0
def lp25 : St → (Ex → St → R) → R := fun s k => match s with
  | ⟨[(0, .fv (.vw (some 0) ⟨.line, xs⟩)), (1, .fv (.vw (some 1) ⟨.line, ys⟩)), (5, .fv (.el (.sc (.int .i64 i))))], []⟩ => (match (decide (i = 0) && (Nat.beq xs.length ys.length && Nat.ble xs.length big) : Bool) with
    | true => (match (all2 eqLineF xs ys : Bool) with
      | true => k (.exit 0) ⟨[], []⟩
      | false => k .ret ⟨[(4, .fv (.el (.sc (.bo false))))], []⟩)
    | false => none)
  | _ => none
def l25 : Loops := fun key s k => bif Nat.beq key 4 then lp25 s k else none
theorem st25 (xs : List LineV) (ys : List LineV) (i : Int) (m : Nat) (k : Ex → St → R) : iterK a25 [0, 1, 5] [] (codeK T2 a25 l25 Try.f25.ntmps (loopAt Try.f25 0)) (m + 1) ⟨[(0, .fv (.vw (some 0) ⟨.line, xs⟩)), (1, .fv (.vw (some 1) ⟨.line, ys⟩)), (5, .fv (.el (.sc (.int .i64 i))))], []⟩ k = (match (decide ((i : Int) < (xs.length : Int)) : Bool) with
  | true => (match (decide (0 ≤ (i : Int) ∧ (i : Int) < (xs.length : Int)) && true : Bool) with
    | true => (match (xs : List LineV)[Int.toNat i]? with
      | some x1 => (match (decide (0 ≤ (i : Int) ∧ (i : Int) < (ys.length : Int)) && true : Bool) with
        | true => (match (ys : List LineV)[Int.toNat i]? with
          | some x2 => (match (!(eqLineF x1 x2) : Bool) with
            | true => k .ret ⟨[(4, .fv (.el (.sc (.bo false))))], []⟩
            | false => iterK a25 [0, 1, 5] [] (codeK T2 a25 l25 Try.f25.ntmps (loopAt Try.f25 0)) m ⟨[(0, .fv (.vw (some 0) ⟨.line, xs⟩)), (1, .fv (.vw (some 1) ⟨.line, ys⟩)), (5, .fv (.el (.sc (.int .i64 (IntKind.i64.wrap (i + 1))))))], []⟩ k)
          | none => none)
        | false => none)
      | none => none)
    | false => none)
  | false => k (.exit 0) ⟨[], []⟩) := by kernel_rfl
theorem ind25 (xs ys : List LineV) (hl : xs.length = ys.length) (hx : Nat.ble xs.length big = true) (k : Ex → St → R) : ∀ (m j : Nat), j + m = xs.length → iterK a25 [0, 1, 5] [] (codeK T2 a25 l25 Try.f25.ntmps (loopAt Try.f25 0)) (m + 1) ⟨[(0, .fv (.vw (some 0) ⟨.line, xs⟩)), (1, .fv (.vw (some 1) ⟨.line, ys⟩)), (5, .fv (.el (.sc (.int .i64 (j : Int)))))], []⟩ k =
    (match all2 eqLineF (xs.drop j) (ys.drop j) with
    | true => k (.exit 0) ⟨[], []⟩
    | false => k .ret ⟨[(4, .fv (.el (.sc (.bo false))))], []⟩) := by
  intro m
  induction m with
  | zero =>
    intro j hj
    have h1 : ¬ ((j : Int) < (xs.length : Int)) := by omega
    rw [st25, List.drop_of_length_le (by omega)]
    simp [h1, all2]
  | succ m ih =>
    intro j hj
    have hlt : j < xs.length := by omega
    have hlt2 : j < ys.length := by omega
    have h1 : ((j : Int) < (xs.length : Int)) := by omega
    have h12 : ((j : Int) < (ys.length : Int)) := by omega
    have h2 : (0 : Int) ≤ (j : Int) := by omega
    rw [st25, wrap_succ hlt hx]
    have h3 : xs[Int.toNat (j : Int)]? = some xs[j] := by simp [hlt]
    have h4 : ys[Int.toNat (j : Int)]? = some ys[j] := by simp [hlt2]
    rw [List.drop_eq_getElem_cons hlt, List.drop_eq_getElem_cons hlt2, ih (j + 1) (by omega)]
    simp only [h1, h12, h2, h3, h4, and_self, decide_true, Bool.and_true, all2]
    cases hp : eqLineF xs[j] ys[j] <;> simp

theorem lk25 : LOK T2 a25 l25 Try.f25.ntmps (loopAt Try.f25 0) := by
  intro ins outs hA s k out h
  have hA' : ([0, 1, 5], []) = (ins, outs) := Option.some.inj ((show a25.lp (firstRegion (loopAt Try.f25 0)) = some ([0, 1, 5], []) by kernel_rfl).symm.trans hA)
  cases hA'
  have hk : firstRegion (loopAt Try.f25 0) = 4 := by kernel_rfl
  rw [hk] at h
  change lp25 s k = some out at h
  unfold lp25 at h
  split at h
  · rename_i xs ys i
    cases hg : (decide (i = 0) && (Nat.beq xs.length ys.length && Nat.ble xs.length big)) with
    | false => rw [hg] at h; cases h
    | true =>
      rw [hg] at h
      simp only [Bool.and_eq_true, decide_eq_true_eq] at hg
      obtain ⟨rfl, hl, hx⟩ := hg
      refine ⟨xs.length + 1, ?_⟩
      exact (ind25 xs ys (Nat.eq_of_beq_eq_true hl) hx k xs.length 0 (by omega)).trans h
  · cases h
theorem e25 (xs : List LineV) (ys : List LineV) : runFn T2 a25 l25 Try.f25 [.vw none ⟨.line, xs⟩, .vw none ⟨.line, ys⟩] = (match (!(((xs.length : Int) : Int) == (ys.length : Int)) : Bool) with
  | true => some ⟨[.el (.sc (.bo false))], none⟩
  | false => (match (decide (0 = 0) && (Nat.beq xs.length ys.length && Nat.ble xs.length big) : Bool) with
    | true => (match (all2 eqLineF xs ys : Bool) with
      | true => some ⟨[.el (.sc (.bo true))], none⟩
      | false => some ⟨[.el (.sc (.bo false))], none⟩)
    | false => none)) := by kernel_rfl
theorem s25 (xs : List LineV) (ys : List LineV) : runFn T2 a25 l25 Try.f25 [.vw none ⟨.line, xs⟩, .vw none ⟨.line, ys⟩] = (match (Nat.beq xs.length ys.length : Bool) with
  | true => (match (Nat.ble xs.length big : Bool) with
    | true => some ⟨[.el (.sc (.bo (all2 eqLineF xs ys)))], none⟩
    | false => none)
  | false => some ⟨[.el (.sc (.bo false))], none⟩) := by
  rw [e25]
  cases hl : Nat.beq xs.length ys.length with
  | false =>
    have h1 : xs.length ≠ ys.length := fun e => by rw [e, Nat.beq_refl] at hl; cases hl
    have h2 : ((xs.length : Int) == (ys.length : Int)) = false := beq_false_of_ne (by omega)
    simp only [h2, Bool.not_false]
  | true =>
    have h1 := Nat.eq_of_beq_eq_true hl
    have h2 : ((xs.length : Int) == (ys.length : Int)) = true := beq_iff_eq.2 (by omega)
    simp only [h2, Bool.not_true]
    cases h : Nat.ble xs.length big with
    | false => simp
    | true => cases h3 : all2 eqLineF xs ys <;> simp
theorem c25 (xs : List LineV) (ys : List LineV) (k : List RV → R) (out : Out) (h : (match (Nat.beq xs.length ys.length : Bool) with
  | true => (match (Nat.ble xs.length big : Bool) with
    | true => k [.el (.sc (.bo (all2 eqLineF xs ys)))]
    | false => none)
  | false => k [.el (.sc (.bo false))]) = some out) : ∃ rs, Real Try.prog 25 ∧ COK Try.prog 25 [.vw none ⟨.line, xs⟩, .vw none ⟨.line, ys⟩] rs ∧ k rs = some out := by
  cases g0 : (Nat.beq xs.length ys.length : Bool) with
  | true =>
    rw [g0] at h
    cases g1 : (Nat.ble xs.length big : Bool) with
    | true =>
      rw [g1] at h
      exact ⟨_, real Try.func25 (by kernel_rfl), fn_ok tok2 (A := a25) (L := l25) (r := none) Try.func25 (by kernel_rfl) (by kernel_rfl) (loops1 (by kernel_rfl) lk25) (by rw [s25, g0, g1]), h⟩
    | false =>
      rw [g1] at h
      cases h
  | false =>
    rw [g0] at h
    exact ⟨_, real Try.func25 (by kernel_rfl), fn_ok tok2 (A := a25) (L := l25) (r := none) Try.func25 (by kernel_rfl) (by kernel_rfl) (loops1 (by kernel_rfl) lk25) (by rw [s25, g0]), h⟩

/-! laws.toLineSS -/
def a40 : Ann := ann [(3, [0, 3, 4], [3])] [2] 0
def lp40 : St → (Ex → St → R) → R := fun s k => match s with
  | ⟨[(0, .fv (.vv none .line xss)), (3, .fv (.own 0)), (4, .fv (.el (.sc (.int .i64 i))))], [some ⟨33, ⟨.ll, ys⟩⟩]⟩ => (match ((decide (i = 0) && (Nat.ble xss.length big && (xss.all (fun l => Nat.ble l.length big) && Nat.beq (ys : List ((List LineV))).length xss.length))) : Bool) with
    | true => k (.exit 0) ⟨[(3, .fv (.own 0))], [some ⟨33, ⟨.ll, rep (fun j ys => ys.set j (xss.getD j [])) (xss.length) 0 ((ys : List ((List LineV))) : (List (List LineV)))⟩⟩]⟩
    | false => none)
  | _ => none
def l40 : Loops := fun key s k => bif Nat.beq key 3 then lp40 s k else none
theorem st40 (xss : List (List LineV)) (i : Int) (ys : List ((List LineV))) (m : Nat) (k : Ex → St → R) : iterK a40 [0, 3, 4] [3] (codeK T2 a40 l40 Try.f40.ntmps (loopAt Try.f40 0)) (m + 1) ⟨[(0, .fv (.vv none .line xss)), (3, .fv (.own 0)), (4, .fv (.el (.sc (.int .i64 i))))], [some ⟨33, ⟨.ll, ys⟩⟩]⟩ k = (match (decide ((i : Int) < (xss.length : Int)) : Bool) with
  | true => (match (decide (0 ≤ (i : Int) ∧ (i : Int) < (xss.length : Int)) : Bool) with
    | true => (match (xss : List (List LineV))[Int.toNat i]? with
      | some x1 => (match (Nat.ble x1.length big : Bool) with
        | true => (match (decide (0 ≤ (i : Int) ∧ (i : Int) < (ys.length : Int)) : Bool) with
          | true => (match (decide (Int.toNat i < (ys : List (List LineV)).length) : Bool) with
            | true => iterK a40 [0, 3, 4] [3] (codeK T2 a40 l40 Try.f40.ntmps (loopAt Try.f40 0)) m ⟨[(0, .fv (.vv none .line xss)), (3, .fv (.own 0)), (4, .fv (.el (.sc (.int .i64 (IntKind.i64.wrap (i + 1))))))], [some ⟨33, ⟨.ll, (ys : List (List LineV)).set (Int.toNat i) x1⟩⟩]⟩ k
            | false => none)
          | false => none)
        | false => none)
      | none => none)
    | false => none)
  | false => k (.exit 0) ⟨[(3, .fv (.own 0))], [some ⟨33, ⟨.ll, ys⟩⟩]⟩) := by kernel_rfl
theorem ind40 (xss : List (List LineV)) (hxx : (Nat.ble xss.length big) = true) (hall : (xss.all (fun l => Nat.ble l.length big)) = true) (k : Ex → St → R) : ∀ (m j : Nat) (ys : List (List LineV)), ys.length = xss.length → 0 ≤ j → j + m = xss.length → iterK a40 [0, 3, 4] [3] (codeK T2 a40 l40 Try.f40.ntmps (loopAt Try.f40 0)) (m + 1) ⟨[(0, .fv (.vv none .line xss)), (3, .fv (.own 0)), (4, .fv (.el (.sc (.int .i64 (j : Int)))))], [some ⟨33, ⟨.ll, ys⟩⟩]⟩ k =
    k (.exit 0) ⟨[(3, .fv (.own 0))], [some ⟨33, ⟨.ll, rep (fun j ys => ys.set j (xss.getD j [])) m j (ys : (List (List LineV)))⟩⟩]⟩ := by
  intro m
  induction m with
  | zero =>
    intro j ys hs0 hlo hj
    have hxx_ := big_le hxx
    have h1 : ¬ (((j : Int) < (xss.length : Int))) := by omega
    rw [st40]
    simp only [h1, rep, decide_false] <;> rfl
  | succ m ih =>
    intro j ys hs0 hlo hj
    have hxx_ := big_le hxx
    have h1 : ((j : Int) < (xss.length : Int)) := by omega
    have lb : (0 : Int) ≤ ((j : Nat) : Int) ∧ ((j : Nat) : Int) < (xss.length : Int) := by omega
    have lq : xss[Int.toNat ((j : Nat) : Int)]? = some (xss.getD j []) := getI3 (by omega)
    have lw : Nat.ble (xss.getD j []).length big = true := all_big hall (by omega)
    have yb : (0 : Int) ≤ ((j : Nat) : Int) ∧ ((j : Nat) : Int) < (ys.length : Int) := by omega
    have yl : Int.toNat ((j : Nat) : Int) < ys.length := by omega
    have wn : IntKind.i64.wrap ((j : Int) + 1) = ((j + 1 : Nat) : Int) := wrapN (by omega) (by omega)
    rw [st40]
    simp only [h1, wn, lb, lq, lw, yb, yl, and_self, decide_true, Bool.and_true, Int.le_refl]
    try simp only [Int.toNat_natCast]
    exact ih (j + 1) (ys.set j (xss.getD j [])) (by simpa using hs0) (by omega) (by omega)

theorem lk40 : LOK T2 a40 l40 Try.f40.ntmps (loopAt Try.f40 0) := by
  intro ins outs hA s k out h
  have hA' : ([0, 3, 4], [3]) = (ins, outs) := Option.some.inj ((show a40.lp (firstRegion (loopAt Try.f40 0)) = some ([0, 3, 4], [3]) by kernel_rfl).symm.trans hA)
  cases hA'
  have hk : firstRegion (loopAt Try.f40 0) = 3 := by kernel_rfl
  rw [hk] at h
  change lp40 s k = some out at h
  unfold lp40 at h
  split at h
  · rename_i xss i ys
    cases hg : (decide (i = 0) && (Nat.ble xss.length big && (xss.all (fun l => Nat.ble l.length big) && Nat.beq ys.length xss.length))) with
    | false => rw [hg] at h; cases h
    | true =>
      rw [hg] at h
      simp only [Bool.and_eq_true, decide_eq_true_eq] at hg
      obtain ⟨rfl, hxx, hall, gs0⟩ := hg
      refine ⟨(xss.length) + 1, ?_⟩
      have hxx_ := big_le hxx
      have gs0_ := Nat.eq_of_beq_eq_true gs0
      exact (ind40 xss hxx hall k (xss.length) 0 ys (by omega) (by omega) (by omega)).trans h
  · cases h
theorem e40 (xss : List (List LineV)) : runFn T2 a40 l40 Try.f40 [.vv none .line xss] = (match (decide (0 ≤ ((xss.length : Int) : Int) ∧ ((xss.length : Int) : Int) = (xss.length : Int) ∧ ((xss.length : Int) : Int) ≤ 1099511627776) : Bool) with
  | true => (match ((decide (0 = 0) && (Nat.ble xss.length big && (xss.all (fun l => Nat.ble l.length big) && Nat.beq (List.replicate (Int.toNat ((xss.length : Int))) ([] : List LineV) : List ((List LineV))).length xss.length))) : Bool) with
    | true => some ⟨[.new2 33 ⟨.ll, rep (fun j ys => ys.set j (xss.getD j [])) (xss.length) 0 ((List.replicate (Int.toNat ((xss.length : Int))) ([] : List LineV) : List ((List LineV))) : (List (List LineV)))⟩], none⟩
    | false => none)
  | false => none) := by kernel_rfl
theorem s40 (xss : List (List LineV)) (hg : (Nat.ble xss.length big && xss.all (fun l => Nat.ble l.length big)) = true) : runFn T2 a40 l40 Try.f40 [.vv none .line xss] = some ⟨[.new2 33 ⟨.ll, xss⟩], none⟩ := by
  rw [e40]
  rw [Bool.and_eq_true] at hg
  have hx := big_le hg.1
  have h2 : (0 : Int) ≤ (xss.length : Int) ∧ (xss.length : Int) = (xss.length : Int) ∧ (xss.length : Int) ≤ 1099511627776 := by omega
  have hb : Nat.beq (List.replicate (Int.toNat (xss.length : Int)) ([] : List LineV)).length xss.length = true := by
    rw [List.length_replicate, Int.toNat_natCast]
    exact Nat.beq_refl _
  have e := copy_all xss (Int.toNat (xss.length : Int)) (Int.toNat_natCast _)
  simp only [h2, hg.1, hg.2, hb, e, and_self, decide_true, Bool.and_self]
theorem c40 (xss : List (List LineV)) (k : List RV → R) (out : Out) (h : (match (Nat.ble xss.length big && xss.all (fun l => Nat.ble l.length big) : Bool) with
  | true => k [.new2 33 ⟨.ll, xss⟩]
  | false => none) = some out) : ∃ rs, Real Try.prog 40 ∧ COK Try.prog 40 [.vv none .line xss] rs ∧ k rs = some out := by
  cases g0 : (Nat.ble xss.length big && xss.all (fun l => Nat.ble l.length big) : Bool) with
  | true =>
    rw [g0] at h
    exact ⟨_, real Try.func40 (by kernel_rfl), fn_ok tok2 (A := a40) (L := l40) (r := none) Try.func40 (by kernel_rfl) (by kernel_rfl) (loops1 (by kernel_rfl) lk40) (by rw [s40 _ g0]), h⟩
  | false =>
    rw [g0] at h
    cases h

/-! spec.l05Lines -/
def a117 : Ann := ann [(2, [0, 5, 6], [0])] [2] 0
def lp117 : St → (Ex → St → R) → R := fun s k => match s with
  | ⟨[(0, .fv (.vw (some 0) ⟨.line, xs⟩)), (5, .fv (.el (.sc (.int .i64 n)))), (6, .fv (.el (.sc (.int .i64 i))))], []⟩ => (match ((decide (n = (xs.length : Int)) && (decide (i = 0) && Nat.ble xs.length big)) : Bool) with
    | true => (match (xs.all okLine : Bool) with
      | true => k (.exit 0) ⟨[(0, .fv (.vw (some 0) ⟨.line, xs⟩))], []⟩
      | false => k .ret ⟨[(2, .fv (.el (.sc (.bo false))))], []⟩)
    | false => none)
  | _ => none
def l117 : Loops := fun key s k => bif Nat.beq key 2 then lp117 s k else none
theorem st117 (xs : List LineV) (n : Int) (i : Int) (m : Nat) (k : Ex → St → R) : iterK a117 [0, 5, 6] [0] (codeK T2 a117 l117 Try.f117.ntmps (loopAt Try.f117 0)) (m + 1) ⟨[(0, .fv (.vw (some 0) ⟨.line, xs⟩)), (5, .fv (.el (.sc (.int .i64 n)))), (6, .fv (.el (.sc (.int .i64 i))))], []⟩ k = (match (decide ((i : Int) < n) : Bool) with
  | true => (match (decide (0 ≤ (i : Int) ∧ (i : Int) < (xs.length : Int)) && true : Bool) with
    | true => (match xs[Int.toNat i]? with
      | some l => (match (!(okLine l) : Bool) with
        | true => k .ret ⟨[(2, .fv (.el (.sc (.bo false))))], []⟩
        | false => iterK a117 [0, 5, 6] [0] (codeK T2 a117 l117 Try.f117.ntmps (loopAt Try.f117 0)) m ⟨[(0, .fv (.vw (some 0) ⟨.line, xs⟩)), (5, .fv (.el (.sc (.int .i64 n)))), (6, .fv (.el (.sc (.int .i64 (IntKind.i64.wrap (i + 1))))))], []⟩ k)
      | none => none)
    | false => none)
  | false => k (.exit 0) ⟨[(0, .fv (.vw (some 0) ⟨.line, xs⟩))], []⟩) := by kernel_rfl
theorem ind117 (xs : List LineV)  (hx : Nat.ble xs.length big = true) (k : Ex → St → R) : ∀ (m j : Nat), j + m = xs.length → iterK a117 [0, 5, 6] [0] (codeK T2 a117 l117 Try.f117.ntmps (loopAt Try.f117 0)) (m + 1) ⟨[(0, .fv (.vw (some 0) ⟨.line, xs⟩)), (5, .fv (.el (.sc (.int .i64 (xs.length : Int))))), (6, .fv (.el (.sc (.int .i64 (j : Int)))))], []⟩ k =
    (match (xs.drop j).all okLine with
    | true => k (.exit 0) ⟨[(0, .fv (.vw (some 0) ⟨.line, xs⟩))], []⟩
    | false => k .ret ⟨[(2, .fv (.el (.sc (.bo false))))], []⟩) := by
  intro m
  induction m with
  | zero =>
    intro j hj
    have h1 : ¬ ((j : Int) < (xs.length : Int)) := by omega
    rw [st117, List.drop_of_length_le (by omega)]
    simp [h1]
  | succ m ih =>
    intro j hj
    have hlt : j < xs.length := by omega
    have h1 : ((j : Int) < (xs.length : Int)) := by omega
    have h2 : (0 : Int) ≤ (j : Int) := by omega
    rw [st117, wrap_succ hlt hx]
    have h3 : xs[Int.toNat (j : Int)]? = some xs[j] := by simp [hlt]
    rw [List.drop_eq_getElem_cons hlt, List.all_cons, ih (j + 1) (by omega)]
    simp only [h1, h2, h3, and_self, decide_true, Bool.and_true]
    cases hp : okLine xs[j] <;> simp [hp]

theorem lk117 : LOK T2 a117 l117 Try.f117.ntmps (loopAt Try.f117 0) := by
  intro ins outs hA s k out h
  have hA' : ([0, 5, 6], [0]) = (ins, outs) := Option.some.inj ((show a117.lp (firstRegion (loopAt Try.f117 0)) = some ([0, 5, 6], [0]) by kernel_rfl).symm.trans hA)
  cases hA'
  have hk : firstRegion (loopAt Try.f117 0) = 2 := by kernel_rfl
  rw [hk] at h
  change lp117 s k = some out at h
  unfold lp117 at h
  split at h
  · rename_i xs n i
    cases hg : (decide (n = (xs.length : Int)) && (decide (i = 0) && Nat.ble xs.length big)) with
    | false => rw [hg] at h; cases h
    | true =>
      rw [hg] at h
      simp only [Bool.and_eq_true, decide_eq_true_eq] at hg
      obtain ⟨rfl, rfl, hx⟩ := hg
      refine ⟨xs.length + 1, ?_⟩
      exact (ind117 xs  hx k xs.length 0 (by omega)).trans h
  · cases h
theorem e117 (xs : List LineV) : runFn T2 a117 l117 Try.f117 [.vw none ⟨.line, xs⟩] = (match ((decide ((xs.length : Int) = (xs.length : Int)) && (decide (0 = 0) && Nat.ble xs.length big)) : Bool) with
  | true => (match (xs.all okLine : Bool) with
    | true => some ⟨[.el (.sc (.bo (decide (((xs.length : Int) : Int) ≤ 12))))], none⟩
    | false => some ⟨[.el (.sc (.bo false))], none⟩)
  | false => none) := by kernel_rfl
theorem s117 (xs : List LineV) : runFn T2 a117 l117 Try.f117 [.vw none ⟨.line, xs⟩] = (match (Nat.ble xs.length big : Bool) with
  | true => some ⟨[.el (.sc (.bo (linesOk xs)))], none⟩
  | false => none) := by
  rw [e117]
  unfold linesOk
  cases h : Nat.ble xs.length big with
  | false => simp [h]
  | true =>
    have e4 : ((xs.length : Int) ≤ 12) ↔ xs.length ≤ 12 := by omega
    cases h2 : xs.all okLine <;> simp [h, h2, e4]
theorem c117 (xs : List LineV) (k : List RV → R) (out : Out) (h : (match (Nat.ble xs.length big : Bool) with
  | true => k [.el (.sc (.bo (linesOk xs)))]
  | false => none) = some out) : ∃ rs, Real Try.prog 117 ∧ COK Try.prog 117 [.vw none ⟨.line, xs⟩] rs ∧ k rs = some out := by
  cases g0 : (Nat.ble xs.length big : Bool) with
  | true =>
    rw [g0] at h
    exact ⟨_, real Try.func117 (by kernel_rfl), fn_ok tok2 (A := a117) (L := l117) (r := none) Try.func117 (by kernel_rfl) (by kernel_rfl) (loops1 (by kernel_rfl) lk117) (by rw [s117, g0]), h⟩
  | false =>
    rw [g0] at h
    cases h

/-! slices.IndexFunc[[]float32,float32] -/
def a190 : Ann := ann [(2, [0, 1, 7, 8], [])] [4] 0
def lp190 : St → (Ex → St → R) → R := fun s k => match s with
  | ⟨[(0, .fv (.vw (some 0) ⟨.f32, xs⟩)), (1, .fv (.fn 157 [])), (7, .fv (.el (.sc (.int .i64 n)))), (8, .fv (.el (.sc (.int .i64 i))))], []⟩ => (match (decide (n = (xs.length : Int)) && (decide (i = 0) && Nat.ble xs.length big) : Bool) with
    | true => (match xs.findIdx? notFin with
      | some q => k .ret ⟨[(4, .fv (.el (.sc (.int .i64 ((q : Int))))))], []⟩
      | none => k (.exit 0) ⟨[], []⟩)
    | false => none)
  | _ => none
def l190 : Loops := fun key s k => bif Nat.beq key 2 then lp190 s k else none
theorem st190 (xs : List Nat) (n : Int) (i : Int) (m : Nat) (k : Ex → St → R) : iterK a190 [0, 1, 7, 8] [] (codeK T2 a190 l190 Try.f190.ntmps (loopAt Try.f190 0)) (m + 1) ⟨[(0, .fv (.vw (some 0) ⟨.f32, xs⟩)), (1, .fv (.fn 157 [])), (7, .fv (.el (.sc (.int .i64 n)))), (8, .fv (.el (.sc (.int .i64 i))))], []⟩ k = (match (decide ((i : Int) < n) : Bool) with
  | true => (match (decide (0 ≤ (i : Int) ∧ (i : Int) < (xs.length : Int)) && true : Bool) with
    | true => (match (xs : List Nat)[Int.toNat i]? with
      | some x1 => (match (notFin x1 : Bool) with
        | true => k .ret ⟨[(4, .fv (.el (.sc (.int .i64 i))))], []⟩
        | false => iterK a190 [0, 1, 7, 8] [] (codeK T2 a190 l190 Try.f190.ntmps (loopAt Try.f190 0)) m ⟨[(0, .fv (.vw (some 0) ⟨.f32, xs⟩)), (1, .fv (.fn 157 [])), (7, .fv (.el (.sc (.int .i64 n)))), (8, .fv (.el (.sc (.int .i64 (IntKind.i64.wrap (i + 1))))))], []⟩ k)
      | none => none)
    | false => none)
  | false => k (.exit 0) ⟨[], []⟩) := by kernel_rfl
theorem ind190 (xs : List Nat) (hx : Nat.ble xs.length big = true) (k : Ex → St → R) : ∀ (m j : Nat), j + m = xs.length → iterK a190 [0, 1, 7, 8] [] (codeK T2 a190 l190 Try.f190.ntmps (loopAt Try.f190 0)) (m + 1) ⟨[(0, .fv (.vw (some 0) ⟨.f32, xs⟩)), (1, .fv (.fn 157 [])), (7, .fv (.el (.sc (.int .i64 (xs.length : Int))))), (8, .fv (.el (.sc (.int .i64 (j : Int)))))], []⟩ k =
    (match (xs.drop j).findIdx? notFin with
    | some q => k .ret ⟨[(4, .fv (.el (.sc (.int .i64 ((j + q : Nat) : Int)))))], []⟩
    | none => k (.exit 0) ⟨[], []⟩) := by
  intro m
  induction m with
  | zero =>
    intro j hj
    have h1 : ¬ ((j : Int) < (xs.length : Int)) := by omega
    rw [st190]
    have h2 : xs.drop j = [] := List.drop_of_length_le (by omega)
    simp [h1, h2]
  | succ m ih =>
    intro j hj
    have hlt : j < xs.length := by omega
    have h1 : ((j : Int) < (xs.length : Int)) := by omega
    have h2 : (0 : Int) ≤ (j : Int) := by omega
    rw [st190, wrap_succ hlt hx]
    have h3 : xs[Int.toNat (j : Int)]? = some xs[j] := by simp [hlt]
    rw [List.drop_eq_getElem_cons hlt, List.findIdx?_cons]
    simp only [h1, h2, h3, and_self, decide_true, Bool.and_true]
    cases hp : notFin xs[j] with
    | true => simp
    | false =>
      rw [ih (j + 1) (by omega)]
      cases (xs.drop (j + 1)).findIdx? notFin with
      | none => rfl
      | some q => simp only [Bool.false_eq_true, if_false, Option.map_some]; rw [show j + 1 + q = j + (q + 1) by omega]
theorem lk190 : LOK T2 a190 l190 Try.f190.ntmps (loopAt Try.f190 0) := by
  intro ins outs hA s k out h
  have hA' : ([0, 1, 7, 8], []) = (ins, outs) := Option.some.inj ((show a190.lp (firstRegion (loopAt Try.f190 0)) = some ([0, 1, 7, 8], []) by kernel_rfl).symm.trans hA)
  cases hA'
  have hk : firstRegion (loopAt Try.f190 0) = 2 := by kernel_rfl
  rw [hk] at h
  change lp190 s k = some out at h
  unfold lp190 at h
  split at h
  · rename_i xs n i
    cases hg : (decide (n = (xs.length : Int)) && (decide (i = 0) && Nat.ble xs.length big)) with
    | false => rw [hg] at h; cases h
    | true =>
      rw [hg] at h
      simp only [Bool.and_eq_true, decide_eq_true_eq] at hg
      obtain ⟨rfl, rfl, hx⟩ := hg
      refine ⟨xs.length + 1, ?_⟩
      have := ind190 xs hx k xs.length 0 (by omega)
      simp only [List.drop_zero, Nat.zero_add] at this
      exact this.trans h
  · cases h
theorem e190 (xs : List Nat) : runFn T2 a190 l190 Try.f190 [.vw none ⟨.f32, xs⟩, .fn 157 []] = (match (decide ((xs.length : Int) = (xs.length : Int)) && (decide (0 = 0) && Nat.ble xs.length big) : Bool) with
  | true => (match xs.findIdx? notFin with
    | some q => some ⟨[.el (.sc (.int .i64 ((q : Int))))], none⟩
    | none => some ⟨[.el (.sc (.int .i64 ((-1))))], none⟩)
  | false => none) := by kernel_rfl
theorem s190 (xs : List Nat) : runFn T2 a190 l190 Try.f190 [.vw none ⟨.f32, xs⟩, .fn 157 []] = (match (Nat.ble xs.length big : Bool) with
  | true => some ⟨[.el (.sc (.int .i64 (firstAt notFin xs)))], none⟩
  | false => none) := by
  rw [e190]
  unfold firstAt
  cases h : Nat.ble xs.length big with
  | false => simp [h]
  | true =>
    cases h2 : xs.findIdx? notFin with
    | some q => simp [h, h2]
    | none => simp [h, h2]
theorem c190 (xs : List Nat) (k : List RV → R) (out : Out) (h : (match (Nat.ble xs.length big : Bool) with
  | true => k [.el (.sc (.int .i64 (firstAt notFin xs)))]
  | false => none) = some out) : ∃ rs, Real Try.prog 190 ∧ COK Try.prog 190 [.vw none ⟨.f32, xs⟩, .fn 157 []] rs ∧ k rs = some out := by
  cases g0 : (Nat.ble xs.length big : Bool) with
  | true =>
    rw [g0] at h
    exact ⟨_, real Try.func190 (by kernel_rfl), fn_ok tok2 (A := a190) (L := l190) (r := none) Try.func190 (by kernel_rfl) (by kernel_rfl) (loops1 (by kernel_rfl) lk190) (by rw [s190, g0]), h⟩
  | false =>
    rw [g0] at h
    cases h

/-! slices.IndexFunc[[]float32,float32] -/
def a190b : Ann := ann [(2, [0, 1, 7, 8], [])] [4] 0
def lp190b : St → (Ex → St → R) → R := fun s k => match s with
  | ⟨[(0, .fv (.vw (some 0) ⟨.f32, xs⟩)), (1, .fv (.fn 201 [])), (7, .fv (.el (.sc (.int .i64 n)))), (8, .fv (.el (.sc (.int .i64 i))))], []⟩ => (match (decide (n = (xs.length : Int)) && (decide (i = 0) && Nat.ble xs.length big) : Bool) with
    | true => (match xs.findIdx? notPos with
      | some q => k .ret ⟨[(4, .fv (.el (.sc (.int .i64 ((q : Int))))))], []⟩
      | none => k (.exit 0) ⟨[], []⟩)
    | false => none)
  | _ => none
def l190b : Loops := fun key s k => bif Nat.beq key 2 then lp190b s k else none
theorem st190b (xs : List Nat) (n : Int) (i : Int) (m : Nat) (k : Ex → St → R) : iterK a190b [0, 1, 7, 8] [] (codeK T2 a190b l190b Try.f190.ntmps (loopAt Try.f190 0)) (m + 1) ⟨[(0, .fv (.vw (some 0) ⟨.f32, xs⟩)), (1, .fv (.fn 201 [])), (7, .fv (.el (.sc (.int .i64 n)))), (8, .fv (.el (.sc (.int .i64 i))))], []⟩ k = (match (decide ((i : Int) < n) : Bool) with
  | true => (match (decide (0 ≤ (i : Int) ∧ (i : Int) < (xs.length : Int)) && true : Bool) with
    | true => (match (xs : List Nat)[Int.toNat i]? with
      | some x1 => (match (notPos x1 : Bool) with
        | true => k .ret ⟨[(4, .fv (.el (.sc (.int .i64 i))))], []⟩
        | false => iterK a190b [0, 1, 7, 8] [] (codeK T2 a190b l190b Try.f190.ntmps (loopAt Try.f190 0)) m ⟨[(0, .fv (.vw (some 0) ⟨.f32, xs⟩)), (1, .fv (.fn 201 [])), (7, .fv (.el (.sc (.int .i64 n)))), (8, .fv (.el (.sc (.int .i64 (IntKind.i64.wrap (i + 1))))))], []⟩ k)
      | none => none)
    | false => none)
  | false => k (.exit 0) ⟨[], []⟩) := by kernel_rfl
theorem ind190b (xs : List Nat) (hx : Nat.ble xs.length big = true) (k : Ex → St → R) : ∀ (m j : Nat), j + m = xs.length → iterK a190b [0, 1, 7, 8] [] (codeK T2 a190b l190b Try.f190.ntmps (loopAt Try.f190 0)) (m + 1) ⟨[(0, .fv (.vw (some 0) ⟨.f32, xs⟩)), (1, .fv (.fn 201 [])), (7, .fv (.el (.sc (.int .i64 (xs.length : Int))))), (8, .fv (.el (.sc (.int .i64 (j : Int)))))], []⟩ k =
    (match (xs.drop j).findIdx? notPos with
    | some q => k .ret ⟨[(4, .fv (.el (.sc (.int .i64 ((j + q : Nat) : Int)))))], []⟩
    | none => k (.exit 0) ⟨[], []⟩) := by
  intro m
  induction m with
  | zero =>
    intro j hj
    have h1 : ¬ ((j : Int) < (xs.length : Int)) := by omega
    rw [st190b]
    have h2 : xs.drop j = [] := List.drop_of_length_le (by omega)
    simp [h1, h2]
  | succ m ih =>
    intro j hj
    have hlt : j < xs.length := by omega
    have h1 : ((j : Int) < (xs.length : Int)) := by omega
    have h2 : (0 : Int) ≤ (j : Int) := by omega
    rw [st190b, wrap_succ hlt hx]
    have h3 : xs[Int.toNat (j : Int)]? = some xs[j] := by simp [hlt]
    rw [List.drop_eq_getElem_cons hlt, List.findIdx?_cons]
    simp only [h1, h2, h3, and_self, decide_true, Bool.and_true]
    cases hp : notPos xs[j] with
    | true => simp
    | false =>
      rw [ih (j + 1) (by omega)]
      cases (xs.drop (j + 1)).findIdx? notPos with
      | none => rfl
      | some q => simp only [Bool.false_eq_true, if_false, Option.map_some]; rw [show j + 1 + q = j + (q + 1) by omega]
theorem lk190b : LOK T2 a190b l190b Try.f190.ntmps (loopAt Try.f190 0) := by
  intro ins outs hA s k out h
  have hA' : ([0, 1, 7, 8], []) = (ins, outs) := Option.some.inj ((show a190b.lp (firstRegion (loopAt Try.f190 0)) = some ([0, 1, 7, 8], []) by kernel_rfl).symm.trans hA)
  cases hA'
  have hk : firstRegion (loopAt Try.f190 0) = 2 := by kernel_rfl
  rw [hk] at h
  change lp190b s k = some out at h
  unfold lp190b at h
  split at h
  · rename_i xs n i
    cases hg : (decide (n = (xs.length : Int)) && (decide (i = 0) && Nat.ble xs.length big)) with
    | false => rw [hg] at h; cases h
    | true =>
      rw [hg] at h
      simp only [Bool.and_eq_true, decide_eq_true_eq] at hg
      obtain ⟨rfl, rfl, hx⟩ := hg
      refine ⟨xs.length + 1, ?_⟩
      have := ind190b xs hx k xs.length 0 (by omega)
      simp only [List.drop_zero, Nat.zero_add] at this
      exact this.trans h
  · cases h
theorem e190b (xs : List Nat) : runFn T2 a190b l190b Try.f190 [.vw none ⟨.f32, xs⟩, .fn 201 []] = (match (decide ((xs.length : Int) = (xs.length : Int)) && (decide (0 = 0) && Nat.ble xs.length big) : Bool) with
  | true => (match xs.findIdx? notPos with
    | some q => some ⟨[.el (.sc (.int .i64 ((q : Int))))], none⟩
    | none => some ⟨[.el (.sc (.int .i64 ((-1))))], none⟩)
  | false => none) := by kernel_rfl
theorem s190b (xs : List Nat) : runFn T2 a190b l190b Try.f190 [.vw none ⟨.f32, xs⟩, .fn 201 []] = (match (Nat.ble xs.length big : Bool) with
  | true => some ⟨[.el (.sc (.int .i64 (firstAt notPos xs)))], none⟩
  | false => none) := by
  rw [e190b]
  unfold firstAt
  cases h : Nat.ble xs.length big with
  | false => simp [h]
  | true =>
    cases h2 : xs.findIdx? notPos with
    | some q => simp [h, h2]
    | none => simp [h, h2]
theorem c190b (xs : List Nat) (k : List RV → R) (out : Out) (h : (match (Nat.ble xs.length big : Bool) with
  | true => k [.el (.sc (.int .i64 (firstAt notPos xs)))]
  | false => none) = some out) : ∃ rs, Real Try.prog 190 ∧ COK Try.prog 190 [.vw none ⟨.f32, xs⟩, .fn 201 []] rs ∧ k rs = some out := by
  cases g0 : (Nat.ble xs.length big : Bool) with
  | true =>
    rw [g0] at h
    exact ⟨_, real Try.func190 (by kernel_rfl), fn_ok tok2 (A := a190b) (L := l190b) (r := none) Try.func190 (by kernel_rfl) (by kernel_rfl) (loops1 (by kernel_rfl) lk190b) (by rw [s190b, g0]), h⟩
  | false =>
    rw [g0] at h
    cases h

/-! spec.l01ExpWide -/
def a204 : Ann := ann [(10, [3, 4, 5], [4]), (14, [4, 6], [4])] [2] 0
def lp204 : St → (Ex → St → R) → R := fun s k => match s with
  | ⟨[(3, .fv (.el (.sc (.fl .f64 t)))), (4, .fv (.el (.sc (.fl .f64 p)))), (5, .fv (.el (.sc (.int .i64 i))))], []⟩ => (match (decide (i = 12) : Bool) with
    | true => k (.exit 0) ⟨[(4, .fv (.el (.sc (.fl .f64 (expPoly t p)))))], []⟩
    | false => none)
  | _ => none
def lp204_1 : St → (Ex → St → R) → R := fun s k => match s with
  | ⟨[(4, .fv (.el (.sc (.fl .f64 p)))), (6, .fv (.el (.sc (.int .i64 i))))], []⟩ => (match (decide (i = 0) : Bool) with
    | true => k (.exit 2) ⟨[(4, .fv (.el (.sc (.fl .f64 (sqn 8 p)))))], []⟩
    | false => none)
  | _ => none
def l204 : Loops := fun key s k => bif Nat.beq key 10 then lp204 s k else bif Nat.beq key 14 then lp204_1 s k else none
theorem st204 (t : Nat) (p : Nat) (i : Int) (m : Nat) (k : Ex → St → R) : iterK a204 [3, 4, 5] [4] (codeK T2 a204 l204 Try.f204.ntmps (loopAt Try.f204 0)) (m + 1) ⟨[(3, .fv (.el (.sc (.fl .f64 t)))), (4, .fv (.el (.sc (.fl .f64 p)))), (5, .fv (.el (.sc (.int .i64 i))))], []⟩ k = (match (decide ((i : Int) ≥ 1) : Bool) with
  | true => iterK a204 [3, 4, 5] [4] (codeK T2 a204 l204 Try.f204.ntmps (loopAt Try.f204 0)) m ⟨[(3, .fv (.el (.sc (.fl .f64 t)))), (4, .fv (.el (.sc (.fl .f64 (fop .add .f64 4607182418800017408 (fop .quo .f64 (fop .mul .f64 t p) (fint .f64 i))))))), (5, .fv (.el (.sc (.int .i64 (IntKind.i64.wrap (i - 1))))))], []⟩ k
  | false => k (.exit 0) ⟨[(4, .fv (.el (.sc (.fl .f64 p))))], []⟩) := by kernel_rfl
theorem un204 (t : Nat) (p : Nat) (k : Ex → St → R) : iterK a204 [3, 4, 5] [4] (codeK T2 a204 l204 Try.f204.ntmps (loopAt Try.f204 0)) 13 ⟨[(3, .fv (.el (.sc (.fl .f64 t)))), (4, .fv (.el (.sc (.fl .f64 p)))), (5, .fv (.el (.sc (.int .i64 12))))], []⟩ k = k (.exit 0) ⟨[(4, .fv (.el (.sc (.fl .f64 (expPoly t p)))))], []⟩ := by kernel_rfl

theorem lk204 : LOK T2 a204 l204 Try.f204.ntmps (loopAt Try.f204 0) := by
  intro ins outs hA s k out h
  have hA' : ([3, 4, 5], [4]) = (ins, outs) := Option.some.inj ((show a204.lp (firstRegion (loopAt Try.f204 0)) = some ([3, 4, 5], [4]) by kernel_rfl).symm.trans hA)
  cases hA'
  have hk : firstRegion (loopAt Try.f204 0) = 10 := by kernel_rfl
  rw [hk] at h
  change lp204 s k = some out at h
  unfold lp204 at h
  split at h
  · rename_i t p i
    cases hg : decide (i = 12) with
    | false => rw [hg] at h; cases h
    | true =>
      rw [hg] at h
      replace hg := of_decide_eq_true hg
      subst hg
      refine ⟨13, ?_⟩
      exact (un204 t p k).trans h
  · cases h
theorem st204_1 (p : Nat) (i : Int) (m : Nat) (k : Ex → St → R) : iterK a204 [4, 6] [4] (codeK T2 a204 l204 Try.f204.ntmps (loopAt Try.f204 1)) (m + 1) ⟨[(4, .fv (.el (.sc (.fl .f64 p)))), (6, .fv (.el (.sc (.int .i64 i))))], []⟩ k = (match (decide ((i : Int) < 8) : Bool) with
  | true => iterK a204 [4, 6] [4] (codeK T2 a204 l204 Try.f204.ntmps (loopAt Try.f204 1)) m ⟨[(4, .fv (.el (.sc (.fl .f64 (fop .mul .f64 p p))))), (6, .fv (.el (.sc (.int .i64 (IntKind.i64.wrap (i + 1))))))], []⟩ k
  | false => k (.exit 2) ⟨[(4, .fv (.el (.sc (.fl .f64 p))))], []⟩) := by kernel_rfl
theorem un204_1 (p : Nat) (k : Ex → St → R) : iterK a204 [4, 6] [4] (codeK T2 a204 l204 Try.f204.ntmps (loopAt Try.f204 1)) 9 ⟨[(4, .fv (.el (.sc (.fl .f64 p)))), (6, .fv (.el (.sc (.int .i64 0))))], []⟩ k = k (.exit 2) ⟨[(4, .fv (.el (.sc (.fl .f64 (sqn 8 p)))))], []⟩ := by kernel_rfl

theorem lk204_1 : LOK T2 a204 l204 Try.f204.ntmps (loopAt Try.f204 1) := by
  intro ins outs hA s k out h
  have hA' : ([4, 6], [4]) = (ins, outs) := Option.some.inj ((show a204.lp (firstRegion (loopAt Try.f204 1)) = some ([4, 6], [4]) by kernel_rfl).symm.trans hA)
  cases hA'
  have hk : firstRegion (loopAt Try.f204 1) = 14 := by kernel_rfl
  rw [hk] at h
  change lp204_1 s k = some out at h
  unfold lp204_1 at h
  split at h
  · rename_i p i
    cases hg : decide (i = 0) with
    | false => rw [hg] at h; cases h
    | true =>
      rw [hg] at h
      replace hg := of_decide_eq_true hg
      subst hg
      refine ⟨9, ?_⟩
      exact (un204_1 p k).trans h
  · cases h
theorem e204 (y : Nat) : runFn T2 a204 l204 Try.f204 [.el (.sc (.fl .f64 y))] = (match (fcmp .neq .f64 y y : Bool) with
  | true => some ⟨[.el (.sc (.fl .f64 y))], none⟩
  | false => (match (fcmp .gtr .f64 y 4641240890982006784 : Bool) with
    | true => some ⟨[.el (.sc (.fl .f64 (infOf 1)))], none⟩
    | false => (match (fcmp .lss .f64 y 13864612927836782592 : Bool) with
      | true => some ⟨[.el (.sc (.fl .f64 0))], none⟩
      | false => (match (decide (12 = 12) : Bool) with
        | true => (match (decide (0 = 0) : Bool) with
          | true => some ⟨[.el (.sc (.fl .f64 (sqn 8 (expPoly (fop .quo .f64 y 4643211215818981376) 4607182418800017408))))], none⟩
          | false => none)
        | false => none)))) := by kernel_rfl
theorem s204 (y : Nat) : runFn T2 a204 l204 Try.f204 [.el (.sc (.fl .f64 y))] = some ⟨[.el (.sc (.fl .f64 (expS y)))], none⟩ := by
  rw [e204]
  unfold expS expI
  cases fcmp .neq .f64 y y <;> cases fcmp .gtr .f64 y 4641240890982006784 <;> cases fcmp .lss .f64 y 13864612927836782592 <;> kernel_rfl
theorem c204 (y : Nat) (k : List RV → R) (out : Out) (h : k [.el (.sc (.fl .f64 (expS y)))] = some out) : ∃ rs, Real Try.prog 204 ∧ COK Try.prog 204 [.el (.sc (.fl .f64 y))] rs ∧ k rs = some out := by
  exact ⟨_, real Try.func204 (by kernel_rfl), fn_ok tok2 (A := a204) (L := l204) (r := none) Try.func204 (by kernel_rfl) (by kernel_rfl) (loops2 (by kernel_rfl) lk204 lk204_1) (by rw [s204]), h⟩

/-! impl.exponential -/
def a231 : Ann := ann [(7, [3, 4, 5], [4]), (11, [4, 25], [4])] [2] 0
def lp231 : St → (Ex → St → R) → R := fun s k => match s with
  | ⟨[(3, .fv (.el (.sc (.fl .f64 t)))), (4, .fv (.el (.sc (.fl .f64 p)))), (5, .fv (.el (.sc (.fl .f64 i))))], []⟩ => (match (Nat.beq i 4622945017495814144 : Bool) with
    | true => k (.exit 1) ⟨[(4, .fv (.el (.sc (.fl .f64 (expPoly t p)))))], []⟩
    | false => none)
  | _ => none
def lp231_1 : St → (Ex → St → R) → R := fun s k => match s with
  | ⟨[(4, .fv (.el (.sc (.fl .f64 p)))), (25, .fv (.el (.sc (.int .i64 i))))], []⟩ => (match (decide (i = 0) : Bool) with
    | true => k (.exit 3) ⟨[(4, .fv (.el (.sc (.fl .f64 (sqn 8 p)))))], []⟩
    | false => none)
  | _ => none
def l231 : Loops := fun key s k => bif Nat.beq key 7 then lp231 s k else bif Nat.beq key 11 then lp231_1 s k else none
theorem st231 (t : Nat) (p : Nat) (i : Nat) (m : Nat) (k : Ex → St → R) : iterK a231 [3, 4, 5] [4] (codeK T2 a231 l231 Try.f231.ntmps (loopAt Try.f231 0)) (m + 1) ⟨[(3, .fv (.el (.sc (.fl .f64 t)))), (4, .fv (.el (.sc (.fl .f64 p)))), (5, .fv (.el (.sc (.fl .f64 i))))], []⟩ k = (match (fcmp .geq .f64 i 4607182418800017408 : Bool) with
  | true => iterK a231 [3, 4, 5] [4] (codeK T2 a231 l231 Try.f231.ntmps (loopAt Try.f231 0)) m ⟨[(3, .fv (.el (.sc (.fl .f64 t)))), (4, .fv (.el (.sc (.fl .f64 (fop .add .f64 4607182418800017408 (fop .quo .f64 (fop .mul .f64 t p) i)))))), (5, .fv (.el (.sc (.fl .f64 (fop .sub .f64 i 4607182418800017408)))))], []⟩ k
  | false => k (.exit 1) ⟨[(4, .fv (.el (.sc (.fl .f64 p))))], []⟩) := by kernel_rfl
theorem un231 (t : Nat) (p : Nat) (k : Ex → St → R) : iterK a231 [3, 4, 5] [4] (codeK T2 a231 l231 Try.f231.ntmps (loopAt Try.f231 0)) 13 ⟨[(3, .fv (.el (.sc (.fl .f64 t)))), (4, .fv (.el (.sc (.fl .f64 p)))), (5, .fv (.el (.sc (.fl .f64 4622945017495814144))))], []⟩ k = k (.exit 1) ⟨[(4, .fv (.el (.sc (.fl .f64 (expPoly t p)))))], []⟩ := by kernel_rfl

theorem lk231 : LOK T2 a231 l231 Try.f231.ntmps (loopAt Try.f231 0) := by
  intro ins outs hA s k out h
  have hA' : ([3, 4, 5], [4]) = (ins, outs) := Option.some.inj ((show a231.lp (firstRegion (loopAt Try.f231 0)) = some ([3, 4, 5], [4]) by kernel_rfl).symm.trans hA)
  cases hA'
  have hk : firstRegion (loopAt Try.f231 0) = 7 := by kernel_rfl
  rw [hk] at h
  change lp231 s k = some out at h
  unfold lp231 at h
  split at h
  · rename_i t p i
    cases hg : Nat.beq i 4622945017495814144 with
    | false => rw [hg] at h; cases h
    | true =>
      rw [hg] at h
      replace hg := Nat.eq_of_beq_eq_true hg
      subst hg
      refine ⟨13, ?_⟩
      exact (un231 t p k).trans h
  · cases h
theorem st231_1 (p : Nat) (i : Int) (m : Nat) (k : Ex → St → R) : iterK a231 [4, 25] [4] (codeK T2 a231 l231 Try.f231.ntmps (loopAt Try.f231 1)) (m + 1) ⟨[(4, .fv (.el (.sc (.fl .f64 p)))), (25, .fv (.el (.sc (.int .i64 i))))], []⟩ k = (match (decide ((i : Int) < 8) : Bool) with
  | true => iterK a231 [4, 25] [4] (codeK T2 a231 l231 Try.f231.ntmps (loopAt Try.f231 1)) m ⟨[(4, .fv (.el (.sc (.fl .f64 (fop .mul .f64 p p))))), (25, .fv (.el (.sc (.int .i64 (IntKind.i64.wrap (i + 1))))))], []⟩ k
  | false => k (.exit 3) ⟨[(4, .fv (.el (.sc (.fl .f64 p))))], []⟩) := by kernel_rfl
theorem un231_1 (p : Nat) (k : Ex → St → R) : iterK a231 [4, 25] [4] (codeK T2 a231 l231 Try.f231.ntmps (loopAt Try.f231 1)) 9 ⟨[(4, .fv (.el (.sc (.fl .f64 p)))), (25, .fv (.el (.sc (.int .i64 0))))], []⟩ k = k (.exit 3) ⟨[(4, .fv (.el (.sc (.fl .f64 (sqn 8 p)))))], []⟩ := by kernel_rfl

theorem lk231_1 : LOK T2 a231 l231 Try.f231.ntmps (loopAt Try.f231 1) := by
  intro ins outs hA s k out h
  have hA' : ([4, 25], [4]) = (ins, outs) := Option.some.inj ((show a231.lp (firstRegion (loopAt Try.f231 1)) = some ([4, 25], [4]) by kernel_rfl).symm.trans hA)
  cases hA'
  have hk : firstRegion (loopAt Try.f231 1) = 11 := by kernel_rfl
  rw [hk] at h
  change lp231_1 s k = some out at h
  unfold lp231_1 at h
  split at h
  · rename_i p i
    cases hg : decide (i = 0) with
    | false => rw [hg] at h; cases h
    | true =>
      rw [hg] at h
      replace hg := of_decide_eq_true hg
      subst hg
      refine ⟨9, ?_⟩
      exact (un231_1 p k).trans h
  · cases h
theorem e231 (y : Nat) : runFn T2 a231 l231 Try.f231 [.el (.sc (.fl .f64 y))] = (match (fcmp .gtr .f64 y 4641240890982006784 : Bool) with
  | true => some ⟨[.el (.sc (.fl .f64 (infOf 1)))], none⟩
  | false => (match (fcmp .lss .f64 y 13864612927836782592 : Bool) with
    | true => some ⟨[.el (.sc (.fl .f64 0))], none⟩
    | false => (match (Nat.beq 4622945017495814144 4622945017495814144 : Bool) with
      | true => (match (decide (0 = 0) : Bool) with
        | true => some ⟨[.el (.sc (.fl .f64 (sqn 8 (expPoly (fop .quo .f64 y 4643211215818981376) 4607182418800017408))))], none⟩
        | false => none)
      | false => none))) := by kernel_rfl
theorem s231 (y : Nat) : runFn T2 a231 l231 Try.f231 [.el (.sc (.fl .f64 y))] = some ⟨[.el (.sc (.fl .f64 (expI y)))], none⟩ := by
  rw [e231]
  unfold expI
  cases fcmp .gtr .f64 y 4641240890982006784 <;> cases fcmp .lss .f64 y 13864612927836782592 <;> kernel_rfl
theorem c231 (y : Nat) (k : List RV → R) (out : Out) (h : k [.el (.sc (.fl .f64 (expI y)))] = some out) : ∃ rs, Real Try.prog 231 ∧ COK Try.prog 231 [.el (.sc (.fl .f64 y))] rs ∧ k rs = some out := by
  exact ⟨_, real Try.func231 (by kernel_rfl), fn_ok tok2 (A := a231) (L := l231) (r := none) Try.func231 (by kernel_rfl) (by kernel_rfl) (loops2 (by kernel_rfl) lk231 lk231_1) (by rw [s231]), h⟩

def S3 : SFn := fun f args k => match f, args with
  | 25, [.vw none ⟨.line, xs⟩, .vw none ⟨.line, ys⟩] => (match (Nat.beq xs.length ys.length : Bool) with
    | true => (match (Nat.ble xs.length big : Bool) with
      | true => k [.el (.sc (.bo (all2 eqLineF xs ys)))]
      | false => none)
    | false => k [.el (.sc (.bo false))])
  | 40, [.vv none .line xss] => (match (Nat.ble xss.length big && xss.all (fun l => Nat.ble l.length big) : Bool) with
    | true => k [.new2 33 ⟨.ll, xss⟩]
    | false => none)
  | 117, [.vw none ⟨.line, xs⟩] => (match (Nat.ble xs.length big : Bool) with
    | true => k [.el (.sc (.bo (linesOk xs)))]
    | false => none)
  | 190, [.vw none ⟨.f32, xs⟩, .fn 157 []] => (match (Nat.ble xs.length big : Bool) with
    | true => k [.el (.sc (.int .i64 (firstAt notFin xs)))]
    | false => none)
  | 190, [.vw none ⟨.f32, xs⟩, .fn 201 []] => (match (Nat.ble xs.length big : Bool) with
    | true => k [.el (.sc (.int .i64 (firstAt notPos xs)))]
    | false => none)
  | 204, [.el (.sc (.fl .f64 y))] => k [.el (.sc (.fl .f64 (expS y)))]
  | 231, [.el (.sc (.fl .f64 y))] => k [.el (.sc (.fl .f64 (expI y)))]
  | _, _ => S2 f args k
abbrev M3 : MFn := M2
def T3 : TT := tab.T S3 muts M3
theorem tok3 : TOK Try.prog T3 := by
  refine (tab_ok tabok).tok (fun f args k out h => ?_) (fun f vec args k out h => ?_)
  · change S3 f args k = some out at h
    unfold S3 at h
    split at h
    · exact (fun k out h => cok_call (c25 _ _ k out h)) k out h
    · exact (fun k out h => cok_call (c40 _ k out h)) k out h
    · exact (fun k out h => cok_call (c117 _ k out h)) k out h
    · exact (fun k out h => cok_call (c190 _ k out h)) k out h
    · exact (fun k out h => cok_call (c190b _ k out h)) k out h
    · exact (fun k out h => cok_call (c204 _ k out h)) k out h
    · exact (fun k out h => cok_call (c231 _ k out h)) k out h
    · exact tok2.S f args k out h
  · exact tok2.M f vec args k out h

end Go.Sm.Ytdeplgocckdbiaa
