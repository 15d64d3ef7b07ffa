/- What the functions hand back: level 2. -/
import Derived.Test.YticbjjedljddgaaD2
namespace Go.Sm.Yticbjjedljddgaa
open Go Go.Sm Go.RowKit Go.Proofs

/-! spec.PeaksOf -/
def a4 : Ann := ann [(6, [0, 1, 2, 8, 9, 10], [0, 2, 8, 9]), (9, [0, 2, 8, 9], [9]), (11, [0, 2, 8, 9, 11, 76, 77], [0, 2, 8, 9, 11]), (19, [0, 2, 8, 9, 11, 107, 108], [0, 2, 8, 9]), (26, [9, 14, 129, 130], [14])] [6, 7] 0
def lp4 : St → (Ex → St → R) → R := fun s k => match s with
  | ⟨[(0, .fv (.vw (some 0) ⟨.f32, xs⟩)), (1, .fv (.el (.sc (.fl .f32 c)))), (2, .fv (.el (.sc (.int .i64 a)))), (8, .fv (.own 0)), (9, .fv (.own 1)), (10, .fv (.el (.sc (.int .i64 i))))], [some ⟨4, ⟨.bo, l⟩⟩, some ⟨4, ⟨.bo, t⟩⟩]⟩ => (match ((decide (i = 1) && (Nat.ble xs.length big && (Nat.ble 1 xs.length && Nat.beq (l : List Bool).length xs.length))) : Bool) with | true => k (.exit 0) ⟨[(0, .fv (.vw (some 0) ⟨.f32, xs⟩)), (2, .fv (.el (.sc (.int .i64 a)))), (8, .fv (.own 0)), (9, .fv (.own 1))], [some ⟨4, ⟨.bo, rep (pkSet xs c) (xs.length - 2 + 1 - 1) 1 ((l : List Bool) : (List Bool))⟩⟩, some ⟨4, ⟨.bo, (t : List Bool)⟩⟩]⟩ | false => none)
  | _ => none
def lp4_1 : St → (Ex → St → R) → R := fun s k => match s with
  | ⟨[(0, .fv (.vw (some 0) ⟨.f32, xs⟩)), (2, .fv (.el (.sc (.int .i64 a)))), (8, .fv (.own 0)), (9, .fv (.own 1))], [some ⟨4, ⟨.bo, l⟩⟩, some ⟨4, ⟨.bo, t⟩⟩]⟩ => (match ((decide (1 ≤ a ∧ a ≤ 128) && (Nat.ble xs.length 128 && (Nat.beq (l : List Bool).length xs.length && Nat.beq (t : List Bool).length xs.length))) : Bool) with | true => k (.exit 2) ⟨[(9, .fv (.own 0))], [some ⟨4, ⟨.bo, spRun xs a xs.length (l : List Bool) (t : List Bool)⟩⟩]⟩ | false => none)
  | _ => none
def lp4_2 : St → (Ex → St → R) → R := fun s k => match s with
  | ⟨[(0, .fv (.vw (some 0) ⟨.f32, xs⟩)), (2, .fv (.el (.sc (.int .i64 a)))), (8, .fv (.own 0)), (9, .fv (.own 1)), (11, .fv (.el (.sc (.int .i64 b)))), (76, .fv (.el (.sc (.int .i64 n)))), (77, .fv (.el (.sc (.int .i64 i))))], [some ⟨4, ⟨.bo, l⟩⟩, some ⟨4, ⟨.bo, t⟩⟩]⟩ => (match ((decide (n = (xs.length : Int)) && (decide (i = 0) && (Nat.ble xs.length big && (Nat.beq (l : List Bool).length xs.length && (decide (b < 0) || inR xs.length b))))) : Bool) with | true => k (.exit 4) ⟨[(0, .fv (.vw (some 0) ⟨.f32, xs⟩)), (2, .fv (.el (.sc (.int .i64 a)))), (8, .fv (.own 0)), (9, .fv (.own 1)), (11, .fv (.el (.sc (.int .i64 (rep (bestF xs (l : List Bool)) (xs.length) 0 (b : Int))))))], [some ⟨4, ⟨.bo, (l : List Bool)⟩⟩, some ⟨4, ⟨.bo, (t : List Bool)⟩⟩]⟩ | false => none)
  | _ => none
def lp4_3 : St → (Ex → St → R) → R := fun s k => match s with
  | ⟨[(0, .fv (.vw (some 0) ⟨.f32, xs⟩)), (2, .fv (.el (.sc (.int .i64 a)))), (8, .fv (.own 0)), (9, .fv (.own 1)), (11, .fv (.el (.sc (.int .i64 b)))), (107, .fv (.el (.sc (.int .i64 n)))), (108, .fv (.el (.sc (.int .i64 i))))], [some ⟨4, ⟨.bo, l⟩⟩, some ⟨4, ⟨.bo, t⟩⟩]⟩ => (match ((decide (n = (xs.length : Int)) && (decide (i = 0) && (Nat.ble xs.length big && Nat.beq (l : List Bool).length xs.length))) : Bool) with | true => k (.exit 6) ⟨[(0, .fv (.vw (some 0) ⟨.f32, xs⟩)), (2, .fv (.el (.sc (.int .i64 a)))), (8, .fv (.own 0)), (9, .fv (.own 1))], [some ⟨4, ⟨.bo, rep (clrF b a) (xs.length) 0 ((l : List Bool) : (List Bool))⟩⟩, some ⟨4, ⟨.bo, (t : List Bool)⟩⟩]⟩ | false => none)
  | _ => none
def lp4_4 : St → (Ex → St → R) → R := fun s k => match s with
  | ⟨[(9, .fv (.own 0)), (14, .fv (.own 1)), (129, .fv (.el (.sc (.int .i64 n)))), (130, .fv (.el (.sc (.int .i64 i))))], [some ⟨4, ⟨.bo, t⟩⟩, some ⟨2, ⟨.i64, zs⟩⟩]⟩ => (match ((decide (n = ((t : List Bool).length : Int)) && (decide (i = 0) && (Nat.ble (t : List Bool).length big && Nat.ble ((zs : List Int).length + (t : List Bool).length) big))) : Bool) with | true => k (.exit 8) ⟨[(14, .fv (.own 0))], [some ⟨2, ⟨.i64, rep (pkTake (t : List Bool)) ((t : List Bool).length) 0 ((zs : List Int) : (List Int))⟩⟩]⟩ | false => none)
  | _ => none
def l4 : Loops := fun key s k => bif Nat.beq key 6 then lp4 s k else bif Nat.beq key 9 then lp4_1 s k else bif Nat.beq key 11 then lp4_2 s k else bif Nat.beq key 19 then lp4_3 s k else bif Nat.beq key 26 then lp4_4 s k else none
theorem st4 (xs : List Nat) (c : Nat) (a : Int) (i : Int) (l : List Bool) (t : List Bool) (m : Nat) (k : Ex → St → R) : iterK a4 [0, 1, 2, 8, 9, 10] [0, 2, 8, 9] (codeK T2 a4 l4 Try.f4.ntmps (loopAt Try.f4 0)) (m + 1) ⟨[(0, .fv (.vw (some 0) ⟨.f32, xs⟩)), (1, .fv (.el (.sc (.fl .f32 c)))), (2, .fv (.el (.sc (.int .i64 a)))), (8, .fv (.own 0)), (9, .fv (.own 1)), (10, .fv (.el (.sc (.int .i64 i))))], [some ⟨4, ⟨.bo, l⟩⟩, some ⟨4, ⟨.bo, t⟩⟩]⟩ k = (match (decide ((IntKind.i64.wrap (i + 1) : Int) < (xs.length : Int)) : Bool) with | true => (match (decide (0 ≤ (i : Int) ∧ (i : Int) < (xs.length : Int)) && true : Bool) with | true => (match (xs : List Nat)[Int.toNat i]? with | some x1 => (match (fcmp .geq .f32 x1 c : Bool) with | true => (match (decide (0 ≤ (i : Int) ∧ (i : Int) < (xs.length : Int)) && true : Bool) with | true => (match (xs : List Nat)[Int.toNat i]? with | some x2 => (match (decide (0 ≤ (IntKind.i64.wrap (i - 1) : Int) ∧ (IntKind.i64.wrap (i - 1) : Int) < (xs.length : Int)) && true : Bool) with | true => (match (xs : List Nat)[Int.toNat (IntKind.i64.wrap (i - 1))]? with | some x3 => (match (fcmp .gtr .f32 x2 x3 : Bool) with | true => (match (decide (0 ≤ (i : Int) ∧ (i : Int) < (xs.length : Int)) && true : Bool) with | true => (match (xs : List Nat)[Int.toNat i]? with | some x4 => (match (decide (0 ≤ (IntKind.i64.wrap (i + 1) : Int) ∧ (IntKind.i64.wrap (i + 1) : Int) < (xs.length : Int)) && true : Bool) with | true => (match (xs : List Nat)[Int.toNat (IntKind.i64.wrap (i + 1))]? with | some x5 => (match (decide (0 ≤ (i : Int) ∧ (i : Int) < (l.length : Int)) && true : Bool) with | true => (match (l : List Bool)[Int.toNat i]? with | some x6 => iterK a4 [0, 1, 2, 8, 9, 10] [0, 2, 8, 9] (codeK T2 a4 l4 Try.f4.ntmps (loopAt Try.f4 0)) m ⟨[(0, .fv (.vw (some 0) ⟨.f32, xs⟩)), (1, .fv (.el (.sc (.fl .f32 c)))), (2, .fv (.el (.sc (.int .i64 a)))), (8, .fv (.own 0)), (9, .fv (.own 1)), (10, .fv (.el (.sc (.int .i64 (IntKind.i64.wrap (i + 1))))))], [some ⟨4, ⟨.bo, (l : List Bool).set (Int.toNat i) (fcmp .geq .f32 x4 x5)⟩⟩, some ⟨4, ⟨.bo, t⟩⟩]⟩ k | none => none) | false => none) | none => none) | false => none) | none => none) | false => none) | false => (match (decide (0 ≤ (i : Int) ∧ (i : Int) < (l.length : Int)) && true : Bool) with | true => (match (l : List Bool)[Int.toNat i]? with | some x7 => iterK a4 [0, 1, 2, 8, 9, 10] [0, 2, 8, 9] (codeK T2 a4 l4 Try.f4.ntmps (loopAt Try.f4 0)) m ⟨[(0, .fv (.vw (some 0) ⟨.f32, xs⟩)), (1, .fv (.el (.sc (.fl .f32 c)))), (2, .fv (.el (.sc (.int .i64 a)))), (8, .fv (.own 0)), (9, .fv (.own 1)), (10, .fv (.el (.sc (.int .i64 (IntKind.i64.wrap (i + 1))))))], [some ⟨4, ⟨.bo, (l : List Bool).set (Int.toNat i) false⟩⟩, some ⟨4, ⟨.bo, t⟩⟩]⟩ k | none => none) | false => none)) | none => none) | false => none) | none => none) | false => none) | false => (match (decide (0 ≤ (i : Int) ∧ (i : Int) < (l.length : Int)) && true : Bool) with | true => (match (l : List Bool)[Int.toNat i]? with | some x8 => iterK a4 [0, 1, 2, 8, 9, 10] [0, 2, 8, 9] (codeK T2 a4 l4 Try.f4.ntmps (loopAt Try.f4 0)) m ⟨[(0, .fv (.vw (some 0) ⟨.f32, xs⟩)), (1, .fv (.el (.sc (.fl .f32 c)))), (2, .fv (.el (.sc (.int .i64 a)))), (8, .fv (.own 0)), (9, .fv (.own 1)), (10, .fv (.el (.sc (.int .i64 (IntKind.i64.wrap (i + 1))))))], [some ⟨4, ⟨.bo, (l : List Bool).set (Int.toNat i) false⟩⟩, some ⟨4, ⟨.bo, t⟩⟩]⟩ k | none => none) | false => none)) | none => none) | false => none) | false => k (.exit 0) ⟨[(0, .fv (.vw (some 0) ⟨.f32, xs⟩)), (2, .fv (.el (.sc (.int .i64 a)))), (8, .fv (.own 0)), (9, .fv (.own 1))], [some ⟨4, ⟨.bo, l⟩⟩, some ⟨4, ⟨.bo, t⟩⟩]⟩) := by kernel_rfl
theorem ind4 (xs : List Nat) (c : Nat) (a : Int) (t : List Bool) (hx : (Nat.ble xs.length big) = true) (h1x : (Nat.ble 1 xs.length) = true) (k : Ex → St → R) : ∀ (m j : Nat) (l : List Bool), l.length = xs.length → 1 ≤ j → j + m = xs.length - 2 + 1 → iterK a4 [0, 1, 2, 8, 9, 10] [0, 2, 8, 9] (codeK T2 a4 l4 Try.f4.ntmps (loopAt Try.f4 0)) (m + 1) ⟨[(0, .fv (.vw (some 0) ⟨.f32, xs⟩)), (1, .fv (.el (.sc (.fl .f32 c)))), (2, .fv (.el (.sc (.int .i64 a)))), (8, .fv (.own 0)), (9, .fv (.own 1)), (10, .fv (.el (.sc (.int .i64 (j : Int)))))], [some ⟨4, ⟨.bo, l⟩⟩, some ⟨4, ⟨.bo, t⟩⟩]⟩ k =
    k (.exit 0) ⟨[(0, .fv (.vw (some 0) ⟨.f32, xs⟩)), (2, .fv (.el (.sc (.int .i64 a)))), (8, .fv (.own 0)), (9, .fv (.own 1))], [some ⟨4, ⟨.bo, rep (pkSet xs c) m j (l : (List Bool))⟩⟩, some ⟨4, ⟨.bo, t⟩⟩]⟩ := by
  intro m
  induction m with
  | zero =>
    intro j l hs0 hlo hj
    have hx_ := big_le hx
    have h1x_ := Nat.le_of_ble_eq_true h1x
    have w2 : IntKind.i64.wrap ((j : Int) + 1) = ((j + 1 : Nat) : Int) := wrapN (by omega) (by omega)
    have h1 : ¬ (((j + 1 : Nat) : Int) < (xs.length : Int)) := by omega
    rw [st4]
    simp only [h1, w2, rep, decide_false] <;> rfl
  | succ m ih =>
    intro j l hs0 hlo hj
    have hx_ := big_le hx
    have h1x_ := Nat.le_of_ble_eq_true h1x
    have w2 : IntKind.i64.wrap ((j : Int) + 1) = ((j + 1 : Nat) : Int) := wrapN (by omega) (by omega)
    have h1 : ((j + 1 : Nat) : Int) < (xs.length : Int) := by omega
    have pb : (0 : Int) ≤ ((j : Nat) : Int) ∧ ((j : Nat) : Int) < (xs.length : Int) := by omega
    have pq : xs[Int.toNat ((j : Nat) : Int)]? = some (xs.getD (j) 0) := getI (by omega)
    have pp : xs[j]? = some (xs.getD (j) 0) := getI2 (by omega)
    have w1 : IntKind.i64.wrap ((j : Int) - 1) = ((j - 1 : Nat) : Int) := wrapN (by omega) (by omega)
    have qb : (0 : Int) ≤ ((j - 1 : Nat) : Int) ∧ ((j - 1 : Nat) : Int) < (xs.length : Int) := by omega
    have qq : xs[Int.toNat ((j - 1 : Nat) : Int)]? = some (xs.getD (j - 1) 0) := getI (by omega)
    have qp : xs[j - 1]? = some (xs.getD (j - 1) 0) := getI2 (by omega)
    have rb : (0 : Int) ≤ ((j + 1 : Nat) : Int) ∧ ((j + 1 : Nat) : Int) < (xs.length : Int) := by omega
    have rq : xs[Int.toNat ((j + 1 : Nat) : Int)]? = some (xs.getD (j + 1) 0) := getI (by omega)
    have rp : xs[j + 1]? = some (xs.getD (j + 1) 0) := getI2 (by omega)
    have lb : (0 : Int) ≤ ((j : Nat) : Int) ∧ ((j : Nat) : Int) < (l.length : Int) := by omega
    have lq : l[Int.toNat ((j : Nat) : Int)]? = some (l.getD j false) := getI (by omega)
    have wn : IntKind.i64.wrap ((j : Int) + 1) = ((j + 1 : Nat) : Int) := wrapN (by omega) (by omega)
    rw [st4]
    simp only [h1, wn, w2, pb, pq, pp, w1, qb, qq, qp, rb, rq, rp, lb, lq, and_self, decide_true, Bool.and_true, Int.le_refl]
    rw [rep_succ]
    have r2 := ih (j + 1) (pkSet xs c j l) (by simpa [pkSet] using hs0) (by omega) (by omega)
    cases c1 : fcmp .geq .f32 (xs.getD j 0) c with
    | false =>
      have hp : peak xs c j = false := by unfold peak; rw [c1]; rfl
      rw [show pkSet xs c j l = l.set j false from (by unfold pkSet; rw [hp])] at r2 ⊢; exact r2
    | true =>
      cases c2 : fcmp .gtr .f32 (xs.getD j 0) (xs.getD (j - 1) 0) with
      | false =>
        have hp : peak xs c j = false := by unfold peak; rw [c1, c2]; rfl
        rw [show pkSet xs c j l = l.set j false from (by unfold pkSet; rw [hp])] at r2 ⊢; exact r2
      | true =>
        cases c3 : fcmp .geq .f32 (xs.getD j 0) (xs.getD (j + 1) 0) with
        | false =>
          have hp : peak xs c j = false := by unfold peak; rw [c1, c2, c3]; rfl
          rw [show pkSet xs c j l = l.set j false from (by unfold pkSet; rw [hp])] at r2 ⊢; exact r2
        | true =>
          have hp : peak xs c j = true := by unfold peak; rw [c1, c2, c3]; rfl
          rw [show pkSet xs c j l = l.set j true from (by unfold pkSet; rw [hp])] at r2 ⊢; exact r2

theorem lk4 : LOK T2 a4 l4 Try.f4.ntmps (loopAt Try.f4 0) := by
  intro ins outs hA s k out h
  have hA' : ([0, 1, 2, 8, 9, 10], [0, 2, 8, 9]) = (ins, outs) := Option.some.inj ((show a4.lp (firstRegion (loopAt Try.f4 0)) = some ([0, 1, 2, 8, 9, 10], [0, 2, 8, 9]) by kernel_rfl).symm.trans hA)
  cases hA'
  have hk : firstRegion (loopAt Try.f4 0) = 6 := by kernel_rfl
  rw [hk] at h
  change lp4 s k = some out at h
  unfold lp4 at h
  split at h
  · rename_i xs c a i l t
    cases hg : (decide (i = 1) && (Nat.ble xs.length big && (Nat.ble 1 xs.length && Nat.beq l.length xs.length))) with
    | false => rw [hg] at h; cases h
    | true =>
      rw [hg] at h
      simp only [Bool.and_eq_true, decide_eq_true_eq] at hg
      obtain ⟨rfl, hx, h1x, gs0⟩ := hg
      refine ⟨(xs.length - 2 + 1) - 1 + 1, ?_⟩
      have hx_ := big_le hx
      have h1x_ := Nat.le_of_ble_eq_true h1x
      have gs0_ := Nat.eq_of_beq_eq_true gs0
      exact (ind4 xs c a t hx h1x k ((xs.length - 2 + 1) - 1) 1 l (by omega) (by omega) (by omega)).trans h
  · cases h
theorem st4_1 (xs : List Nat) (a : Int) (l : List Bool) (t : List Bool) (m : Nat) (k : Ex → St → R) : iterK a4 [0, 2, 8, 9] [9] (codeK T2 a4 l4 Try.f4.ntmps (loopAt Try.f4 1)) (m + 1) ⟨[(0, .fv (.vw (some 0) ⟨.f32, xs⟩)), (2, .fv (.el (.sc (.int .i64 a)))), (8, .fv (.own 0)), (9, .fv (.own 1))], [some ⟨4, ⟨.bo, l⟩⟩, some ⟨4, ⟨.bo, t⟩⟩]⟩ k = (match ((decide (((xs.length : Int)) = (xs.length : Int)) && (decide (0 = 0) && (Nat.ble xs.length big && (Nat.beq (l : List Bool).length xs.length && (decide (((-1)) < 0) || inR xs.length ((-1))))))) : Bool) with | true => (match (decide ((rep (bestF xs (l : List Bool)) (xs.length) 0 (((-1)) : Int) : Int) < 0) : Bool) with | true => k (.exit 2) ⟨[(9, .fv (.own 0))], [some ⟨4, ⟨.bo, (t : List Bool)⟩⟩]⟩ | false => (match (decide (0 ≤ (rep (bestF xs (l : List Bool)) (xs.length) 0 (((-1)) : Int) : Int) ∧ (rep (bestF xs (l : List Bool)) (xs.length) 0 (((-1)) : Int) : Int) < (((t : List Bool)).length : Int)) && true : Bool) with | true => (match ((t : List Bool) : List Bool)[Int.toNat (rep (bestF xs (l : List Bool)) (xs.length) 0 (((-1)) : Int))]? with | some x1 => (match ((decide (((xs.length : Int)) = (xs.length : Int)) && (decide (0 = 0) && (Nat.ble xs.length big && Nat.beq ((l : List Bool) : List Bool).length xs.length))) : Bool) with | true => iterK a4 [0, 2, 8, 9] [9] (codeK T2 a4 l4 Try.f4.ntmps (loopAt Try.f4 1)) m ⟨[(0, .fv (.vw (some 0) ⟨.f32, xs⟩)), (2, .fv (.el (.sc (.int .i64 a)))), (8, .fv (.own 0)), (9, .fv (.own 1))], [some ⟨4, ⟨.bo, rep (clrF (rep (bestF xs (l : List Bool)) (xs.length) 0 (((-1)) : Int)) a) (xs.length) 0 (((l : List Bool) : List Bool) : (List Bool))⟩⟩, some ⟨4, ⟨.bo, (((t : List Bool) : List Bool).set (Int.toNat (rep (bestF xs (l : List Bool)) (xs.length) 0 (((-1)) : Int))) true : List Bool)⟩⟩]⟩ k | false => none) | none => none) | false => none)) | false => none) := by kernel_rfl
theorem ind4_1 (xs : List Nat) (a : Int) (ha : 1 ≤ a ∧ a ≤ 128) (hn : xs.length ≤ 128) (k : Ex → St → R) : ∀ (m : Nat) (l t : List Bool), l.length = xs.length → t.length = xs.length → l.count true ≤ m → iterK a4 [0, 2, 8, 9] [9] (codeK T2 a4 l4 Try.f4.ntmps (loopAt Try.f4 1)) (m + 1) ⟨[(0, .fv (.vw (some 0) ⟨.f32, xs⟩)), (2, .fv (.el (.sc (.int .i64 a)))), (8, .fv (.own 0)), (9, .fv (.own 1))], [some ⟨4, ⟨.bo, l⟩⟩, some ⟨4, ⟨.bo, t⟩⟩]⟩ k =
    k (.exit 2) ⟨[(9, .fv (.own 0))], [some ⟨4, ⟨.bo, spRun xs a m l t⟩⟩]⟩ := by
  have hx : Nat.ble xs.length big = true := big_of (by omega)
  have h0 : ∀ l : List Bool, rep (bestF xs l) xs.length 0 (-1) = bestS xs l := fun _ => rfl
  have h1 : ∀ l : List Bool, l.length = xs.length → Nat.beq l.length xs.length = true := fun l h => by rw [h]; exact Nat.beq_refl _
  have h2 : (decide ((-1 : Int) < 0) || inR xs.length (-1)) = true := rfl
  have main : ∀ (m : Nat) (l t : List Bool), l.length = xs.length → t.length = xs.length → ¬ bestS xs l < 0 → iterK a4 [0, 2, 8, 9] [9] (codeK T2 a4 l4 Try.f4.ntmps (loopAt Try.f4 1)) (m + 1) ⟨[(0, .fv (.vw (some 0) ⟨.f32, xs⟩)), (2, .fv (.el (.sc (.int .i64 a)))), (8, .fv (.own 0)), (9, .fv (.own 1))], [some ⟨4, ⟨.bo, l⟩⟩, some ⟨4, ⟨.bo, t⟩⟩]⟩ k = iterK a4 [0, 2, 8, 9] [9] (codeK T2 a4 l4 Try.f4.ntmps (loopAt Try.f4 1)) m ⟨[(0, .fv (.vw (some 0) ⟨.f32, xs⟩)), (2, .fv (.el (.sc (.int .i64 a)))), (8, .fv (.own 0)), (9, .fv (.own 1))], [some ⟨4, ⟨.bo, clr xs.length (bestS xs l) a l⟩⟩, some ⟨4, ⟨.bo, t.set (bestS xs l).toNat true⟩⟩]⟩ k := by
    intro m l t hl ht hb
    have h3 := (bestS_ok xs l).1
    rw [decide_eq_false hb, Bool.false_or] at h3
    have h4 := of_decide_eq_true h3
    have h5 : (0 : Int) ≤ bestS xs l ∧ bestS xs l < (t.length : Int) := by omega
    have h6 : t[Int.toNat (bestS xs l)]? = some (t.getD (bestS xs l).toNat false) := by
      have : (bestS xs l).toNat < t.length := by omega
      simp [List.getD, this]
    have h7 : rep (clrF (bestS xs l) a) xs.length 0 l = clr xs.length (bestS xs l) a l := rfl
    rw [st4_1]
    simp only [hx, h0, h1 l hl, h2, h5, h6, h7, decide_eq_false hb, and_self, decide_true, Bool.and_self, Bool.and_true]
  intro m
  induction m with
  | zero =>
    intro l t hl ht hc
    by_cases hb : bestS xs l < 0
    · rw [st4_1]
      simp only [hx, h0, h1 l hl, h2, decide_eq_true hb, decide_true, Bool.and_self]
      rfl
    · exact absurd (clr_less hl hn ha hb) (by omega)
  | succ m ih =>
    intro l t hl ht hc
    by_cases hb : bestS xs l < 0
    · have e : spRun xs a (m + 1) l t = t := by rw [spRun, decide_eq_true hb, cond_true]
      rw [e, st4_1]
      simp only [hx, h0, h1 l hl, h2, decide_eq_true hb, decide_true, Bool.and_self]
    · have e : spRun xs a (m + 1) l t = spRun xs a m (clr xs.length (bestS xs l) a l) (t.set (bestS xs l).toNat true) := by rw [spRun, decide_eq_false hb, cond_false]
      have hless := clr_less hl hn ha hb
      rw [e, main (m + 1) l t hl ht hb]
      exact ih _ _ (by rw [clr_len]; exact hl) (by rw [List.length_set]; exact ht) (by omega)

theorem lk4_1 : LOK T2 a4 l4 Try.f4.ntmps (loopAt Try.f4 1) := by
  intro ins outs hA s k out h
  have hA' : ([0, 2, 8, 9], [9]) = (ins, outs) := Option.some.inj ((show a4.lp (firstRegion (loopAt Try.f4 1)) = some ([0, 2, 8, 9], [9]) by kernel_rfl).symm.trans hA)
  cases hA'
  have hk : firstRegion (loopAt Try.f4 1) = 9 := by kernel_rfl
  rw [hk] at h
  change lp4_1 s k = some out at h
  unfold lp4_1 at h
  split at h
  · rename_i xs a l t
    cases hg : (decide (1 ≤ a ∧ a ≤ 128) && (Nat.ble xs.length 128 && (Nat.beq l.length xs.length && Nat.beq t.length xs.length))) with
    | false => rw [hg] at h; cases h
    | true =>
      rw [hg] at h
      simp only [Bool.and_eq_true, decide_eq_true_eq] at hg
      obtain ⟨ha, hn, hl, ht⟩ := hg
      refine ⟨xs.length + 1, ?_⟩
      have hl_ := Nat.eq_of_beq_eq_true hl
      exact (ind4_1 xs a ha (Nat.le_of_ble_eq_true hn) k xs.length l t hl_ (Nat.eq_of_beq_eq_true ht) (by have := List.count_le_length (a := true) (l := l); omega)).trans h
  · cases h
theorem st4_2 (xs : List Nat) (a : Int) (b : Int) (n : Int) (i : Int) (l : List Bool) (t : List Bool) (m : Nat) (k : Ex → St → R) : iterK a4 [0, 2, 8, 9, 11, 76, 77] [0, 2, 8, 9, 11] (codeK T2 a4 l4 Try.f4.ntmps (loopAt Try.f4 2)) (m + 1) ⟨[(0, .fv (.vw (some 0) ⟨.f32, xs⟩)), (2, .fv (.el (.sc (.int .i64 a)))), (8, .fv (.own 0)), (9, .fv (.own 1)), (11, .fv (.el (.sc (.int .i64 b)))), (76, .fv (.el (.sc (.int .i64 n)))), (77, .fv (.el (.sc (.int .i64 i))))], [some ⟨4, ⟨.bo, l⟩⟩, some ⟨4, ⟨.bo, t⟩⟩]⟩ k = (match (decide ((i : Int) < n) : Bool) with | true => (match (decide (0 ≤ (i : Int) ∧ (i : Int) < (l.length : Int)) && true : Bool) with | true => (match (l : List Bool)[Int.toNat i]? with | some x1 => (match (x1 : Bool) with | true => (match (decide ((b : Int) < 0) : Bool) with | true => iterK a4 [0, 2, 8, 9, 11, 76, 77] [0, 2, 8, 9, 11] (codeK T2 a4 l4 Try.f4.ntmps (loopAt Try.f4 2)) m ⟨[(0, .fv (.vw (some 0) ⟨.f32, xs⟩)), (2, .fv (.el (.sc (.int .i64 a)))), (8, .fv (.own 0)), (9, .fv (.own 1)), (11, .fv (.el (.sc (.int .i64 i)))), (76, .fv (.el (.sc (.int .i64 n)))), (77, .fv (.el (.sc (.int .i64 (IntKind.i64.wrap (i + 1))))))], [some ⟨4, ⟨.bo, l⟩⟩, some ⟨4, ⟨.bo, t⟩⟩]⟩ k | false => (match (decide (0 ≤ (i : Int) ∧ (i : Int) < (xs.length : Int)) && true : Bool) with | true => (match (xs : List Nat)[Int.toNat i]? with | some x2 => (match (decide (0 ≤ (b : Int) ∧ (b : Int) < (xs.length : Int)) && true : Bool) with | true => (match (xs : List Nat)[Int.toNat b]? with | some x3 => (match (fcmp .gtr .f32 x2 x3 : Bool) with | true => iterK a4 [0, 2, 8, 9, 11, 76, 77] [0, 2, 8, 9, 11] (codeK T2 a4 l4 Try.f4.ntmps (loopAt Try.f4 2)) m ⟨[(0, .fv (.vw (some 0) ⟨.f32, xs⟩)), (2, .fv (.el (.sc (.int .i64 a)))), (8, .fv (.own 0)), (9, .fv (.own 1)), (11, .fv (.el (.sc (.int .i64 i)))), (76, .fv (.el (.sc (.int .i64 n)))), (77, .fv (.el (.sc (.int .i64 (IntKind.i64.wrap (i + 1))))))], [some ⟨4, ⟨.bo, l⟩⟩, some ⟨4, ⟨.bo, t⟩⟩]⟩ k | false => iterK a4 [0, 2, 8, 9, 11, 76, 77] [0, 2, 8, 9, 11] (codeK T2 a4 l4 Try.f4.ntmps (loopAt Try.f4 2)) m ⟨[(0, .fv (.vw (some 0) ⟨.f32, xs⟩)), (2, .fv (.el (.sc (.int .i64 a)))), (8, .fv (.own 0)), (9, .fv (.own 1)), (11, .fv (.el (.sc (.int .i64 b)))), (76, .fv (.el (.sc (.int .i64 n)))), (77, .fv (.el (.sc (.int .i64 (IntKind.i64.wrap (i + 1))))))], [some ⟨4, ⟨.bo, l⟩⟩, some ⟨4, ⟨.bo, t⟩⟩]⟩ k) | none => none) | false => none) | none => none) | false => none)) | false => iterK a4 [0, 2, 8, 9, 11, 76, 77] [0, 2, 8, 9, 11] (codeK T2 a4 l4 Try.f4.ntmps (loopAt Try.f4 2)) m ⟨[(0, .fv (.vw (some 0) ⟨.f32, xs⟩)), (2, .fv (.el (.sc (.int .i64 a)))), (8, .fv (.own 0)), (9, .fv (.own 1)), (11, .fv (.el (.sc (.int .i64 b)))), (76, .fv (.el (.sc (.int .i64 n)))), (77, .fv (.el (.sc (.int .i64 (IntKind.i64.wrap (i + 1))))))], [some ⟨4, ⟨.bo, l⟩⟩, some ⟨4, ⟨.bo, t⟩⟩]⟩ k) | none => none) | false => none) | false => k (.exit 4) ⟨[(0, .fv (.vw (some 0) ⟨.f32, xs⟩)), (2, .fv (.el (.sc (.int .i64 a)))), (8, .fv (.own 0)), (9, .fv (.own 1)), (11, .fv (.el (.sc (.int .i64 b))))], [some ⟨4, ⟨.bo, l⟩⟩, some ⟨4, ⟨.bo, t⟩⟩]⟩) := by kernel_rfl
theorem ind4_2 (xs : List Nat) (a : Int) (l : List Bool) (t : List Bool) (hx : (Nat.ble xs.length big) = true) (hl : (Nat.beq l.length xs.length) = true) (k : Ex → St → R) : ∀ (m j : Nat) (b : Int), (decide (b < 0) || inR xs.length b) = true → 0 ≤ j → j + m = xs.length → iterK a4 [0, 2, 8, 9, 11, 76, 77] [0, 2, 8, 9, 11] (codeK T2 a4 l4 Try.f4.ntmps (loopAt Try.f4 2)) (m + 1) ⟨[(0, .fv (.vw (some 0) ⟨.f32, xs⟩)), (2, .fv (.el (.sc (.int .i64 a)))), (8, .fv (.own 0)), (9, .fv (.own 1)), (11, .fv (.el (.sc (.int .i64 b)))), (76, .fv (.el (.sc (.int .i64 (xs.length : Int))))), (77, .fv (.el (.sc (.int .i64 (j : Int)))))], [some ⟨4, ⟨.bo, l⟩⟩, some ⟨4, ⟨.bo, t⟩⟩]⟩ k =
    k (.exit 4) ⟨[(0, .fv (.vw (some 0) ⟨.f32, xs⟩)), (2, .fv (.el (.sc (.int .i64 a)))), (8, .fv (.own 0)), (9, .fv (.own 1)), (11, .fv (.el (.sc (.int .i64 (rep (bestF xs l) m j (b : Int))))))], [some ⟨4, ⟨.bo, l⟩⟩, some ⟨4, ⟨.bo, t⟩⟩]⟩ := by
  intro m
  induction m with
  | zero =>
    intro j b hs0 hlo hj
    have hx_ := big_le hx
    have h1 : ¬ (((j : Int) < (xs.length : Int))) := by omega
    rw [st4_2]
    simp only [h1, rep, decide_false] <;> rfl
  | succ m ih =>
    intro j b hs0 hlo hj
    have hx_ := big_le hx
    have h1 : ((j : Int) < (xs.length : Int)) := by omega
    have pb : (0 : Int) ≤ ((j : Nat) : Int) ∧ ((j : Nat) : Int) < (xs.length : Int) := by omega
    have pq : xs[Int.toNat ((j : Nat) : Int)]? = some (xs.getD (j) 0) := getI (by omega)
    have pp : xs[j]? = some (xs.getD (j) 0) := getI2 (by omega)
    have hl_ : l.length = xs.length := Nat.eq_of_beq_eq_true hl
    have lb : (0 : Int) ≤ ((j : Nat) : Int) ∧ ((j : Nat) : Int) < (l.length : Int) := by omega
    have lq : l[Int.toNat ((j : Nat) : Int)]? = some (l.getD j false) := getI (by omega)
    have wn : IntKind.i64.wrap ((j : Int) + 1) = ((j + 1 : Nat) : Int) := wrapN (by omega) (by omega)
    rw [st4_2]
    simp only [h1, wn, pb, pq, pp, hl_, lb, lq, and_self, decide_true, Bool.and_true, Int.le_refl]
    rw [rep_succ]
    have e : bestF xs l j b = bif l.getD j false && (decide (b < 0) || fcmp .gtr .f32 (xs.getD j 0) (xs.getD b.toNat 0)) then (j : Int) else b := rfl
    rw [e]
    have r1 := ih (j + 1) (j : Int) (by rw [show inR xs.length (j : Int) = true from decide_eq_true (by omega), Bool.or_true]) (by omega) (by omega)
    have r2 := ih (j + 1) b hs0 (by omega) (by omega)
    cases l.getD j false with
    | false => exact r2
    | true =>
      cases hb : decide (b < 0) with
      | true => exact r1
      | false =>
        have hi : inR xs.length b = true := by rw [hb, Bool.false_or] at hs0; exact hs0
        have gb := inR_get hi
        have db : decide (0 ≤ b ∧ b < (xs.length : Int)) = true := hi
        simp only [gb, db, Bool.and_self, Bool.true_and, Bool.false_or]
        cases fcmp .gtr .f32 (xs.getD j 0) (xs.getD b.toNat 0) with
        | true => exact r1
        | false => exact r2

theorem lk4_2 : LOK T2 a4 l4 Try.f4.ntmps (loopAt Try.f4 2) := by
  intro ins outs hA s k out h
  have hA' : ([0, 2, 8, 9, 11, 76, 77], [0, 2, 8, 9, 11]) = (ins, outs) := Option.some.inj ((show a4.lp (firstRegion (loopAt Try.f4 2)) = some ([0, 2, 8, 9, 11, 76, 77], [0, 2, 8, 9, 11]) by kernel_rfl).symm.trans hA)
  cases hA'
  have hk : firstRegion (loopAt Try.f4 2) = 11 := by kernel_rfl
  rw [hk] at h
  change lp4_2 s k = some out at h
  unfold lp4_2 at h
  split at h
  · rename_i xs a b n i l t
    cases hg : (decide (n = (xs.length : Int)) && (decide (i = 0) && (Nat.ble xs.length big && (Nat.beq l.length xs.length && (decide (b < 0) || inR xs.length b))))) with
    | false => rw [hg] at h; cases h
    | true =>
      rw [hg] at h
      simp only [Bool.and_eq_true, decide_eq_true_eq] at hg
      obtain ⟨rfl, rfl, hx, hl, gs0⟩ := hg
      refine ⟨(xs.length) + 1, ?_⟩
      have hx_ := big_le hx
      exact (ind4_2 xs a l t hx hl k (xs.length) 0 b (by omega) (by omega) (by omega)).trans h
  · cases h
theorem st4_3 (xs : List Nat) (a : Int) (b : Int) (n : Int) (i : Int) (l : List Bool) (t : List Bool) (m : Nat) (k : Ex → St → R) : iterK a4 [0, 2, 8, 9, 11, 107, 108] [0, 2, 8, 9] (codeK T2 a4 l4 Try.f4.ntmps (loopAt Try.f4 3)) (m + 1) ⟨[(0, .fv (.vw (some 0) ⟨.f32, xs⟩)), (2, .fv (.el (.sc (.int .i64 a)))), (8, .fv (.own 0)), (9, .fv (.own 1)), (11, .fv (.el (.sc (.int .i64 b)))), (107, .fv (.el (.sc (.int .i64 n)))), (108, .fv (.el (.sc (.int .i64 i))))], [some ⟨4, ⟨.bo, l⟩⟩, some ⟨4, ⟨.bo, t⟩⟩]⟩ k = (match (decide ((i : Int) < n) : Bool) with | true => (match (decide ((i : Int) > IntKind.i64.wrap (b - a)) : Bool) with | true => (match (decide ((i : Int) < IntKind.i64.wrap (b + a)) : Bool) with | true => (match (decide (0 ≤ (i : Int) ∧ (i : Int) < (l.length : Int)) && true : Bool) with | true => (match (l : List Bool)[Int.toNat i]? with | some x1 => iterK a4 [0, 2, 8, 9, 11, 107, 108] [0, 2, 8, 9] (codeK T2 a4 l4 Try.f4.ntmps (loopAt Try.f4 3)) m ⟨[(0, .fv (.vw (some 0) ⟨.f32, xs⟩)), (2, .fv (.el (.sc (.int .i64 a)))), (8, .fv (.own 0)), (9, .fv (.own 1)), (11, .fv (.el (.sc (.int .i64 b)))), (107, .fv (.el (.sc (.int .i64 n)))), (108, .fv (.el (.sc (.int .i64 (IntKind.i64.wrap (i + 1))))))], [some ⟨4, ⟨.bo, (l : List Bool).set (Int.toNat i) false⟩⟩, some ⟨4, ⟨.bo, t⟩⟩]⟩ k | none => none) | false => none) | false => iterK a4 [0, 2, 8, 9, 11, 107, 108] [0, 2, 8, 9] (codeK T2 a4 l4 Try.f4.ntmps (loopAt Try.f4 3)) m ⟨[(0, .fv (.vw (some 0) ⟨.f32, xs⟩)), (2, .fv (.el (.sc (.int .i64 a)))), (8, .fv (.own 0)), (9, .fv (.own 1)), (11, .fv (.el (.sc (.int .i64 b)))), (107, .fv (.el (.sc (.int .i64 n)))), (108, .fv (.el (.sc (.int .i64 (IntKind.i64.wrap (i + 1))))))], [some ⟨4, ⟨.bo, l⟩⟩, some ⟨4, ⟨.bo, t⟩⟩]⟩ k) | false => iterK a4 [0, 2, 8, 9, 11, 107, 108] [0, 2, 8, 9] (codeK T2 a4 l4 Try.f4.ntmps (loopAt Try.f4 3)) m ⟨[(0, .fv (.vw (some 0) ⟨.f32, xs⟩)), (2, .fv (.el (.sc (.int .i64 a)))), (8, .fv (.own 0)), (9, .fv (.own 1)), (11, .fv (.el (.sc (.int .i64 b)))), (107, .fv (.el (.sc (.int .i64 n)))), (108, .fv (.el (.sc (.int .i64 (IntKind.i64.wrap (i + 1))))))], [some ⟨4, ⟨.bo, l⟩⟩, some ⟨4, ⟨.bo, t⟩⟩]⟩ k) | false => k (.exit 6) ⟨[(0, .fv (.vw (some 0) ⟨.f32, xs⟩)), (2, .fv (.el (.sc (.int .i64 a)))), (8, .fv (.own 0)), (9, .fv (.own 1))], [some ⟨4, ⟨.bo, l⟩⟩, some ⟨4, ⟨.bo, t⟩⟩]⟩) := by kernel_rfl
theorem ind4_3 (xs : List Nat) (a : Int) (b : Int) (t : List Bool) (hx : (Nat.ble xs.length big) = true) (k : Ex → St → R) : ∀ (m j : Nat) (l : List Bool), l.length = xs.length → 0 ≤ j → j + m = xs.length → iterK a4 [0, 2, 8, 9, 11, 107, 108] [0, 2, 8, 9] (codeK T2 a4 l4 Try.f4.ntmps (loopAt Try.f4 3)) (m + 1) ⟨[(0, .fv (.vw (some 0) ⟨.f32, xs⟩)), (2, .fv (.el (.sc (.int .i64 a)))), (8, .fv (.own 0)), (9, .fv (.own 1)), (11, .fv (.el (.sc (.int .i64 b)))), (107, .fv (.el (.sc (.int .i64 (xs.length : Int))))), (108, .fv (.el (.sc (.int .i64 (j : Int)))))], [some ⟨4, ⟨.bo, l⟩⟩, some ⟨4, ⟨.bo, t⟩⟩]⟩ k =
    k (.exit 6) ⟨[(0, .fv (.vw (some 0) ⟨.f32, xs⟩)), (2, .fv (.el (.sc (.int .i64 a)))), (8, .fv (.own 0)), (9, .fv (.own 1))], [some ⟨4, ⟨.bo, rep (clrF b a) m j (l : (List Bool))⟩⟩, some ⟨4, ⟨.bo, t⟩⟩]⟩ := by
  intro m
  induction m with
  | zero =>
    intro j l hs0 hlo hj
    have hx_ := big_le hx
    have h1 : ¬ (((j : Int) < (xs.length : Int))) := by omega
    rw [st4_3]
    simp only [h1, rep, decide_false] <;> rfl
  | succ m ih =>
    intro j l hs0 hlo hj
    have hx_ := big_le hx
    have h1 : ((j : Int) < (xs.length : Int)) := by omega
    have lb : (0 : Int) ≤ ((j : Nat) : Int) ∧ ((j : Nat) : Int) < (l.length : Int) := by omega
    have lq : l[Int.toNat ((j : Nat) : Int)]? = some (l.getD j false) := getI (by omega)
    have wn : IntKind.i64.wrap ((j : Int) + 1) = ((j + 1 : Nat) : Int) := wrapN (by omega) (by omega)
    rw [st4_3]
    simp only [h1, wn, lb, lq, and_self, decide_true, Bool.and_true, Int.le_refl]
    rw [rep_succ]
    have e : clrF b a j l = bif decide ((j : Int) > IntKind.i64.wrap (b - a)) && decide ((j : Int) < IntKind.i64.wrap (b + a)) then l.set j false else l := rfl
    rw [e]
    have r1 := ih (j + 1) (l.set j false) (by simpa using hs0) (by omega) (by omega)
    have r2 := ih (j + 1) l hs0 (by omega) (by omega)
    cases decide ((j : Int) > IntKind.i64.wrap (b - a)) with
    | false => exact r2
    | true =>
      cases decide ((j : Int) < IntKind.i64.wrap (b + a)) with
      | false => exact r2
      | true => exact r1

theorem lk4_3 : LOK T2 a4 l4 Try.f4.ntmps (loopAt Try.f4 3) := by
  intro ins outs hA s k out h
  have hA' : ([0, 2, 8, 9, 11, 107, 108], [0, 2, 8, 9]) = (ins, outs) := Option.some.inj ((show a4.lp (firstRegion (loopAt Try.f4 3)) = some ([0, 2, 8, 9, 11, 107, 108], [0, 2, 8, 9]) by kernel_rfl).symm.trans hA)
  cases hA'
  have hk : firstRegion (loopAt Try.f4 3) = 19 := by kernel_rfl
  rw [hk] at h
  change lp4_3 s k = some out at h
  unfold lp4_3 at h
  split at h
  · rename_i xs a b n i l t
    cases hg : (decide (n = (xs.length : Int)) && (decide (i = 0) && (Nat.ble xs.length big && Nat.beq l.length xs.length))) with
    | false => rw [hg] at h; cases h
    | true =>
      rw [hg] at h
      simp only [Bool.and_eq_true, decide_eq_true_eq] at hg
      obtain ⟨rfl, rfl, hx, gs0⟩ := hg
      refine ⟨(xs.length) + 1, ?_⟩
      have hx_ := big_le hx
      have gs0_ := Nat.eq_of_beq_eq_true gs0
      exact (ind4_3 xs a b t hx k (xs.length) 0 l (by omega) (by omega) (by omega)).trans h
  · cases h
theorem st4_4 (n : Int) (i : Int) (t : List Bool) (zs : List Int) (m : Nat) (k : Ex → St → R) : iterK a4 [9, 14, 129, 130] [14] (codeK T2 a4 l4 Try.f4.ntmps (loopAt Try.f4 4)) (m + 1) ⟨[(9, .fv (.own 0)), (14, .fv (.own 1)), (129, .fv (.el (.sc (.int .i64 n)))), (130, .fv (.el (.sc (.int .i64 i))))], [some ⟨4, ⟨.bo, t⟩⟩, some ⟨2, ⟨.i64, zs⟩⟩]⟩ k = (match (decide ((i : Int) < n) : Bool) with | true => (match (decide (0 ≤ (i : Int) ∧ (i : Int) < (t.length : Int)) && true : Bool) with | true => (match (t : List Bool)[Int.toNat i]? with | some x1 => (match (x1 : Bool) with | true => (match (Nat.beq 2 2 && decide ((zs : List Int).length + ([i] : List Int).length ≤ 1099511627776) : Bool) with | true => iterK a4 [9, 14, 129, 130] [14] (codeK T2 a4 l4 Try.f4.ntmps (loopAt Try.f4 4)) m ⟨[(9, .fv (.own 0)), (14, .fv (.own 1)), (129, .fv (.el (.sc (.int .i64 n)))), (130, .fv (.el (.sc (.int .i64 (IntKind.i64.wrap (i + 1))))))], [some ⟨4, ⟨.bo, t⟩⟩, some ⟨2, ⟨.i64, (zs : List Int) ++ ([i])⟩⟩]⟩ k | false => none) | false => iterK a4 [9, 14, 129, 130] [14] (codeK T2 a4 l4 Try.f4.ntmps (loopAt Try.f4 4)) m ⟨[(9, .fv (.own 0)), (14, .fv (.own 1)), (129, .fv (.el (.sc (.int .i64 n)))), (130, .fv (.el (.sc (.int .i64 (IntKind.i64.wrap (i + 1))))))], [some ⟨4, ⟨.bo, t⟩⟩, some ⟨2, ⟨.i64, zs⟩⟩]⟩ k) | none => none) | false => none) | false => k (.exit 8) ⟨[(14, .fv (.own 0))], [some ⟨2, ⟨.i64, zs⟩⟩]⟩) := by kernel_rfl
theorem ind4_4 (t : List Bool) (ht : (Nat.ble t.length big) = true) (k : Ex → St → R) : ∀ (m j : Nat) (zs : List Int), zs.length + m ≤ 1099511627776 → 0 ≤ j → j + m = t.length → iterK a4 [9, 14, 129, 130] [14] (codeK T2 a4 l4 Try.f4.ntmps (loopAt Try.f4 4)) (m + 1) ⟨[(9, .fv (.own 0)), (14, .fv (.own 1)), (129, .fv (.el (.sc (.int .i64 (t.length : Int))))), (130, .fv (.el (.sc (.int .i64 (j : Int)))))], [some ⟨4, ⟨.bo, t⟩⟩, some ⟨2, ⟨.i64, zs⟩⟩]⟩ k =
    k (.exit 8) ⟨[(14, .fv (.own 0))], [some ⟨2, ⟨.i64, rep (pkTake t) m j (zs : (List Int))⟩⟩]⟩ := by
  intro m
  induction m with
  | zero =>
    intro j zs hs0 hlo hj
    have ht_ := big_le ht
    have h1 : ¬ (((j : Int) < (t.length : Int))) := by omega
    rw [st4_4]
    simp only [h1, rep, decide_false, List.length_singleton] <;> rfl
  | succ m ih =>
    intro j zs hs0 hlo hj
    have ht_ := big_le ht
    have h1 : ((j : Int) < (t.length : Int)) := by omega
    have hbq : Nat.beq 2 2 = true := rfl
    have hzl : zs.length + 1 ≤ 1099511627776 := by omega
    have wj : IntKind.i64.wrap (j : Int) = (j : Int) := wrapN rfl (by omega)
    have lb : (0 : Int) ≤ ((j : Nat) : Int) ∧ ((j : Nat) : Int) < (t.length : Int) := by omega
    have lq : t[Int.toNat ((j : Nat) : Int)]? = some (t.getD j false) := getI (by omega)
    have wn : IntKind.i64.wrap ((j : Int) + 1) = ((j + 1 : Nat) : Int) := wrapN (by omega) (by omega)
    rw [st4_4]
    simp only [h1, wn, hbq, hzl, wj, lb, lq, and_self, decide_true, Bool.and_true, Int.le_refl, List.length_singleton]
    rw [rep_succ]
    have e : pkTake t j zs = bif t.getD j false then zs ++ [(j : Int)] else zs := rfl
    rw [e]
    have r2 := ih (j + 1) zs (by omega) (by omega) (by omega)
    have r3 := ih (j + 1) (zs ++ [(j : Int)]) (by simp; omega) (by omega) (by omega)
    cases t.getD j false with
    | true => exact r3
    | false => exact r2

theorem lk4_4 : LOK T2 a4 l4 Try.f4.ntmps (loopAt Try.f4 4) := by
  intro ins outs hA s k out h
  have hA' : ([9, 14, 129, 130], [14]) = (ins, outs) := Option.some.inj ((show a4.lp (firstRegion (loopAt Try.f4 4)) = some ([9, 14, 129, 130], [14]) by kernel_rfl).symm.trans hA)
  cases hA'
  have hk : firstRegion (loopAt Try.f4 4) = 26 := by kernel_rfl
  rw [hk] at h
  change lp4_4 s k = some out at h
  unfold lp4_4 at h
  split at h
  · rename_i n i t zs
    cases hg : (decide (n = (t.length : Int)) && (decide (i = 0) && (Nat.ble t.length big && Nat.ble (zs.length + t.length) big))) with
    | false => rw [hg] at h; cases h
    | true =>
      rw [hg] at h
      simp only [Bool.and_eq_true, decide_eq_true_eq] at hg
      obtain ⟨rfl, rfl, ht, gs0⟩ := hg
      refine ⟨(t.length) + 1, ?_⟩
      have ht_ := big_le ht
      have gs0_ := big_le gs0
      exact (ind4_4 t ht k (t.length) 0 zs (by omega) (by omega) (by omega)).trans h
  · cases h
theorem e4 (xs : List Nat) (c : Nat) (a : Int) : runFn T2 a4 l4 Try.f4 [.vw none ⟨.f32, xs⟩, .el (.sc (.fl .f32 c)), .el (.sc (.int .i64 a))] = (match (Nat.ble xs.length big : Bool) with | true => (match (!(listOk xs 1) : Bool) with | true => some ⟨[.nil, .el (.sc (.bo false))], none⟩ | false => (match (!(fin c) : Bool) with | true => some ⟨[.nil, .el (.sc (.bo false))], none⟩ | false => (match (!(within a 1 128) : Bool) with | true => some ⟨[.nil, .el (.sc (.bo false))], none⟩ | false => (match (decide (0 ≤ ((xs.length : Int) : Int) ∧ ((xs.length : Int) : Int) = (xs.length : Int) ∧ ((xs.length : Int) : Int) ≤ 1099511627776) : Bool) with | true => (match (decide (0 ≤ ((xs.length : Int) : Int) ∧ ((xs.length : Int) : Int) = (xs.length : Int) ∧ ((xs.length : Int) : Int) ≤ 1099511627776) : Bool) with | true => (match ((decide (1 = 1) && (Nat.ble xs.length big && (Nat.ble 1 xs.length && Nat.beq (List.replicate (Int.toNat ((xs.length : Int))) ((false : Bool)) : List Bool).length xs.length))) : Bool) with | true => (match ((decide (1 ≤ a ∧ a ≤ 128) && (Nat.ble xs.length 128 && (Nat.beq (rep (pkSet xs c) (xs.length - 2 + 1 - 1) 1 ((List.replicate (Int.toNat ((xs.length : Int))) ((false : Bool)) : List Bool) : (List Bool)) : List Bool).length xs.length && Nat.beq ((List.replicate (Int.toNat ((xs.length : Int))) ((false : Bool)) : List Bool) : List Bool).length xs.length))) : Bool) with | true => (match ((decide ((((spRun xs a xs.length (rep (pkSet xs c) (xs.length - 2 + 1 - 1) 1 ((List.replicate (Int.toNat ((xs.length : Int))) ((false : Bool)) : List Bool) : (List Bool)) : List Bool) ((List.replicate (Int.toNat ((xs.length : Int))) ((false : Bool)) : List Bool) : List Bool)).length : Int)) = ((spRun xs a xs.length (rep (pkSet xs c) (xs.length - 2 + 1 - 1) 1 ((List.replicate (Int.toNat ((xs.length : Int))) ((false : Bool)) : List Bool) : (List Bool)) : List Bool) ((List.replicate (Int.toNat ((xs.length : Int))) ((false : Bool)) : List Bool) : List Bool) : List Bool).length : Int)) && (decide (0 = 0) && (Nat.ble (spRun xs a xs.length (rep (pkSet xs c) (xs.length - 2 + 1 - 1) 1 ((List.replicate (Int.toNat ((xs.length : Int))) ((false : Bool)) : List Bool) : (List Bool)) : List Bool) ((List.replicate (Int.toNat ((xs.length : Int))) ((false : Bool)) : List Bool) : List Bool) : List Bool).length big && Nat.ble (([] : List Int).length + (spRun xs a xs.length (rep (pkSet xs c) (xs.length - 2 + 1 - 1) 1 ((List.replicate (Int.toNat ((xs.length : Int))) ((false : Bool)) : List Bool) : (List Bool)) : List Bool) ((List.replicate (Int.toNat ((xs.length : Int))) ((false : Bool)) : List Bool) : List Bool) : List Bool).length) big))) : Bool) with | true => some ⟨[.fresh 2 ⟨.i64, rep (pkTake (spRun xs a xs.length (rep (pkSet xs c) (xs.length - 2 + 1 - 1) 1 ((List.replicate (Int.toNat ((xs.length : Int))) ((false : Bool)) : List Bool) : (List Bool)) : List Bool) ((List.replicate (Int.toNat ((xs.length : Int))) ((false : Bool)) : List Bool) : List Bool) : List Bool)) ((spRun xs a xs.length (rep (pkSet xs c) (xs.length - 2 + 1 - 1) 1 ((List.replicate (Int.toNat ((xs.length : Int))) ((false : Bool)) : List Bool) : (List Bool)) : List Bool) ((List.replicate (Int.toNat ((xs.length : Int))) ((false : Bool)) : List Bool) : List Bool) : List Bool).length) 0 (([] : List Int) : (List Int))⟩, .el (.sc (.bo true))], none⟩ | false => none) | false => none) | false => none) | false => none) | false => none)))) | false => none) := by kernel_rfl
theorem s4 (xs : List Nat) (c : Nat) (a : Int) (hg : (Nat.ble xs.length big) = true) : runFn T2 a4 l4 Try.f4 [.vw none ⟨.f32, xs⟩, .el (.sc (.fl .f32 c)), .el (.sc (.int .i64 a))] = (match (peaksOk xs c a : Bool) with | true => some ⟨[.fresh 2 ⟨.i64, peaksS xs c a⟩, .el (.sc (.bo true))], none⟩ | false => some ⟨[.nil, .el (.sc (.bo false))], none⟩) := by
  rw [e4]
  unfold peaksOk
  rw [hg]
  cases h1 : listOk xs 1 with
  | false => simp
  | true =>
    have h2 := h1
    unfold listOk at h2
    simp only [Bool.and_eq_true, decide_eq_true_eq] at h2
    obtain ⟨l1, l2, _⟩ := h2
    cases h3 : fin c with
    | false => simp
    | true =>
      cases h4 : within a 1 128 with
      | false => simp
      | true =>
        have hx : Nat.ble xs.length big = true := big_of (by omega)
        have hx1 : Nat.ble 1 xs.length = true := Nat.ble_eq_true_of_le (by omega)
        have hn : xs.length - 2 + 1 - 1 = xs.length - 2 := by omega
        have e1 : rep (pkSet xs c) (xs.length - 2) 1 (List.replicate xs.length false) = pkMarks xs c := rfl
        have hw : 1 ≤ a ∧ a ≤ 128 := by
          unfold within at h4
          simp only [Bool.and_eq_true, decide_eq_true_eq] at h4
          omega
        have h128 : Nat.ble xs.length 128 = true := Nat.ble_eq_true_of_le (by omega)
        have hd : (0 : Int) ≤ (xs.length : Int) ∧ (xs.length : Int) = (xs.length : Int) ∧ (xs.length : Int) ≤ 1099511627776 := by omega
        have hm : Nat.beq (pkMarks xs c).length xs.length = true := by
          rw [← e1, pkMarks_len, List.length_replicate]
          exact Nat.beq_refl _
        have hr : Nat.beq (List.replicate xs.length false).length xs.length = true := by rw [List.length_replicate]; exact Nat.beq_refl _
        have hs : (spRun xs a xs.length (pkMarks xs c) (List.replicate xs.length false)).length = xs.length := by rw [spRun_len, List.length_replicate]
        have hz : Nat.ble (([] : List Int).length + xs.length) big = true := big_of (by simp; omega)
        simp only [hx, hx1, hn, Int.toNat_natCast, hd, hw, h128, hm, hr, hs, hz, e1, decide_true, and_self, Bool.and_self, Bool.not_true, Bool.true_and]
        rfl
theorem c4 (xs : List Nat) (c : Nat) (a : Int) (k : List RV → R) (out : Out) (h : (match (Nat.ble xs.length big : Bool) with | true => k [.fresh 2 ⟨.i64, orNil (peaksOk xs c a) (peaksS xs c a)⟩, .el (.sc (.bo (peaksOk xs c a)))] | false => none) = some out) : ∃ rs, Real Try.prog 4 ∧ COK Try.prog 4 [.vw none ⟨.f32, xs⟩, .el (.sc (.fl .f32 c)), .el (.sc (.int .i64 a))] rs ∧ k rs = some out := by
  cases g0 : (Nat.ble xs.length big : Bool) with
  | false =>
    rw [g0] at h
    cases h
  | true =>
    rw [g0] at h
    dsimp only at h
    cases g1 : (peaksOk xs c a : Bool) with
    | true =>
      rw [g1] at h
      exact ⟨_, real Try.func4 (by kernel_rfl), fn_ok tok2 (A := a4) (L := l4) (r := none) Try.func4 (by kernel_rfl) (by kernel_rfl) (loops5 (by kernel_rfl) lk4 lk4_1 lk4_2 lk4_3 lk4_4) (by rw [s4 _ _ _ g0, g1]; rfl), h⟩
    | false =>
      rw [g1] at h
      exact ⟨_, real Try.func4 (by kernel_rfl), COK.nil (fn_ok tok2 (A := a4) (L := l4) (r := none) Try.func4 (by kernel_rfl) (by kernel_rfl) (loops5 (by kernel_rfl) lk4 lk4_1 lk4_2 lk4_3 lk4_4) (by rw [s4 _ _ _ g0, g1] <;> rfl)), h⟩

/-! slices.IndexFunc[[]float32,float32] -/
def a39 : Ann := ann [(2, [0, 1, 7, 8], [])] [4] 0
def lp39 : St → (Ex → St → R) → R := fun s k => match s with
  | ⟨[(0, .fv (.vw (some 0) ⟨.f32, xs⟩)), (1, .fv (.fn 27 [])), (7, .fv (.el (.sc (.int .i64 n)))), (8, .fv (.el (.sc (.int .i64 i))))], []⟩ => (match (decide (n = (xs.length : Int)) && (decide (i = 0) && Nat.ble xs.length big) : Bool) with | true => (match xs.findIdx? notFin with | some q => k .ret ⟨[(4, .fv (.el (.sc (.int .i64 ((q : Int))))))], []⟩ | none => k (.exit 0) ⟨[], []⟩) | false => none)
  | _ => none
def l39 : Loops := fun key s k => bif Nat.beq key 2 then lp39 s k else none
theorem st39 (xs : List Nat) (n : Int) (i : Int) (m : Nat) (k : Ex → St → R) : iterK a39 [0, 1, 7, 8] [] (codeK T2 a39 l39 Try.f39.ntmps (loopAt Try.f39 0)) (m + 1) ⟨[(0, .fv (.vw (some 0) ⟨.f32, xs⟩)), (1, .fv (.fn 27 [])), (7, .fv (.el (.sc (.int .i64 n)))), (8, .fv (.el (.sc (.int .i64 i))))], []⟩ k = (match (decide ((i : Int) < n) : Bool) with | true => (match (decide (0 ≤ (i : Int) ∧ (i : Int) < (xs.length : Int)) && true : Bool) with | true => (match (xs : List Nat)[Int.toNat i]? with | some x1 => (match (notFin x1 : Bool) with | true => k .ret ⟨[(4, .fv (.el (.sc (.int .i64 i))))], []⟩ | false => iterK a39 [0, 1, 7, 8] [] (codeK T2 a39 l39 Try.f39.ntmps (loopAt Try.f39 0)) m ⟨[(0, .fv (.vw (some 0) ⟨.f32, xs⟩)), (1, .fv (.fn 27 [])), (7, .fv (.el (.sc (.int .i64 n)))), (8, .fv (.el (.sc (.int .i64 (IntKind.i64.wrap (i + 1))))))], []⟩ k) | none => none) | false => none) | false => k (.exit 0) ⟨[], []⟩) := by kernel_rfl
theorem ind39 (xs : List Nat) (hx : Nat.ble xs.length big = true) (k : Ex → St → R) : ∀ (m j : Nat), j + m = xs.length → iterK a39 [0, 1, 7, 8] [] (codeK T2 a39 l39 Try.f39.ntmps (loopAt Try.f39 0)) (m + 1) ⟨[(0, .fv (.vw (some 0) ⟨.f32, xs⟩)), (1, .fv (.fn 27 [])), (7, .fv (.el (.sc (.int .i64 (xs.length : Int))))), (8, .fv (.el (.sc (.int .i64 (j : Int)))))], []⟩ k =
    (match (xs.drop j).findIdx? notFin with
    | some q => k .ret ⟨[(4, .fv (.el (.sc (.int .i64 ((j + q : Nat) : Int)))))], []⟩
    | none => k (.exit 0) ⟨[], []⟩) := by
  intro m
  induction m with
  | zero =>
    intro j hj
    have h1 : ¬ ((j : Int) < (xs.length : Int)) := by omega
    rw [st39]
    have h2 : xs.drop j = [] := List.drop_of_length_le (by omega)
    simp [h1, h2]
  | succ m ih =>
    intro j hj
    have hlt : j < xs.length := by omega
    have h1 : ((j : Int) < (xs.length : Int)) := by omega
    have h2 : (0 : Int) ≤ (j : Int) := by omega
    rw [st39, wrap_succ hlt hx]
    have h3 : xs[Int.toNat (j : Int)]? = some xs[j] := by simp [hlt]
    rw [List.drop_eq_getElem_cons hlt, List.findIdx?_cons]
    simp only [h1, h2, h3, and_self, decide_true, Bool.and_true]
    cases hp : notFin xs[j] with
    | true => simp
    | false =>
      rw [ih (j + 1) (by omega)]
      cases (xs.drop (j + 1)).findIdx? notFin with
      | none => rfl
      | some q => simp only [Bool.false_eq_true, if_false, Option.map_some]; rw [show j + 1 + q = j + (q + 1) by omega]
theorem lk39 : LOK T2 a39 l39 Try.f39.ntmps (loopAt Try.f39 0) := by
  intro ins outs hA s k out h
  have hA' : ([0, 1, 7, 8], []) = (ins, outs) := Option.some.inj ((show a39.lp (firstRegion (loopAt Try.f39 0)) = some ([0, 1, 7, 8], []) by kernel_rfl).symm.trans hA)
  cases hA'
  have hk : firstRegion (loopAt Try.f39 0) = 2 := by kernel_rfl
  rw [hk] at h
  change lp39 s k = some out at h
  unfold lp39 at h
  split at h
  · rename_i xs n i
    cases hg : (decide (n = (xs.length : Int)) && (decide (i = 0) && Nat.ble xs.length big)) with
    | false => rw [hg] at h; cases h
    | true =>
      rw [hg] at h
      simp only [Bool.and_eq_true, decide_eq_true_eq] at hg
      obtain ⟨rfl, rfl, hx⟩ := hg
      refine ⟨xs.length + 1, ?_⟩
      have := ind39 xs hx k xs.length 0 (by omega)
      simp only [List.drop_zero, Nat.zero_add] at this
      exact this.trans h
  · cases h
theorem e39 (xs : List Nat) : runFn T2 a39 l39 Try.f39 [.vw none ⟨.f32, xs⟩, .fn 27 []] = (match (decide ((xs.length : Int) = (xs.length : Int)) && (decide (0 = 0) && Nat.ble xs.length big) : Bool) with | true => (match xs.findIdx? notFin with | some q => some ⟨[.el (.sc (.int .i64 ((q : Int))))], none⟩ | none => some ⟨[.el (.sc (.int .i64 ((-1))))], none⟩) | false => none) := by kernel_rfl
theorem s39 (xs : List Nat) : runFn T2 a39 l39 Try.f39 [.vw none ⟨.f32, xs⟩, .fn 27 []] = (match (Nat.ble xs.length big : Bool) with | true => some ⟨[.el (.sc (.int .i64 (firstAt notFin xs)))], none⟩ | false => none) := by
  rw [e39]
  unfold firstAt
  cases h : Nat.ble xs.length big with
  | false => simp [h]
  | true =>
    cases h2 : xs.findIdx? notFin with
    | some q => simp [h, h2]
    | none => simp [h, h2]
theorem c39 (xs : List Nat) (k : List RV → R) (out : Out) (h : (match (Nat.ble xs.length big : Bool) with | true => k [.el (.sc (.int .i64 (firstAt notFin xs)))] | false => none) = some out) : ∃ rs, Real Try.prog 39 ∧ COK Try.prog 39 [.vw none ⟨.f32, xs⟩, .fn 27 []] rs ∧ k rs = some out := by
  cases g0 : (Nat.ble xs.length big : Bool) with
  | true =>
    rw [g0] at h
    exact ⟨_, real Try.func39 (by kernel_rfl), fn_ok tok2 (A := a39) (L := l39) (r := none) Try.func39 (by kernel_rfl) (by kernel_rfl) (loops1 (by kernel_rfl) lk39) (by rw [s39, g0]), h⟩
  | false =>
    rw [g0] at h
    cases h

def S3 : SFn := fun f args k => match f, args with
  | 4, [.vw none ⟨.f32, xs⟩, .el (.sc (.fl .f32 c)), .el (.sc (.int .i64 a))] => (match (Nat.ble xs.length big : Bool) with | true => k [.fresh 2 ⟨.i64, orNil (peaksOk xs c a) (peaksS xs c a)⟩, .el (.sc (.bo (peaksOk xs c a)))] | false => none)
  | 39, [.vw none ⟨.f32, xs⟩, .fn 27 []] => (match (Nat.ble xs.length big : Bool) with | true => k [.el (.sc (.int .i64 (firstAt notFin xs)))] | false => none)
  | _, _ => S2 f args k
abbrev M3 : MFn := M2
abbrev Dn3 : DFn := Dn2
def T3 : TT := tab.T S3 muts M3 Dn3
theorem tok3 : TOK Try.prog T3 := by
  refine (tab_ok tabok).tok (fun f args k out h => ?_) (fun f vec args k out h => ?_) (fun f vec args k out h => ?_)
  · change S3 f args k = some out at h
    unfold S3 at h
    split at h
    · exact (fun k out h => cok_call (c4 _ _ _ k out h)) k out h
    · exact (fun k out h => cok_call (c39 _ k out h)) k out h
    · exact tok2.S f args k out h
  · exact tok2.M f vec args k out h
  · exact tok2.D f vec args k out h

end Go.Sm.Yticbjjedljddgaa
