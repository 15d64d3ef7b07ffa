/- What the functions hand back: level 6. -/
import Derived.Test.YticbjjedljddgaaD6
namespace Go.Sm.Yticbjjedljddgaa
open Go Go.Sm Go.RowKit Go.Proofs

/-! impl.PeaksOf -/
def a6 : Ann := ann [(5, [0, 1, 5, 8, 9], [0, 5, 8]), (10, [0, 5, 8, 10], [10]), (13, [0, 5, 8, 10, 11, 76, 77, 78], [0, 5, 8, 10, 11])] [6, 7] 0
def lp6 : St → (Ex → St → R) → R := fun s k => match s with
  | ⟨[(0, .fv (.vw (some 0) ⟨.f32, xs⟩)), (1, .fv (.el (.sc (.fl .f32 c)))), (5, .fv (.pt ⟨.r 0, 1, 0, 0⟩)), (8, .fv (.own 1)), (9, .fv (.el (.sc (.int .i64 i))))], [some ⟨2, ⟨.i64, [a]⟩⟩, some ⟨2, ⟨.i64, zs⟩⟩]⟩ => (match ((decide (i = 1) && (Nat.ble xs.length big && (Nat.ble 1 xs.length && Nat.ble ((zs : List Int).length + xs.length) big))) : Bool) with | true => k (.exit 0) ⟨[(0, .fv (.vw (some 0) ⟨.f32, xs⟩)), (5, .fv (.pt ⟨.r 0, 1, 0, 0⟩)), (8, .fv (.own 1))], [some ⟨2, ⟨.i64, [a]⟩⟩, some ⟨2, ⟨.i64, rep (pkAdd xs c) (xs.length - 2 + 1 - 1) 1 ((zs : List Int) : (List Int))⟩⟩]⟩ | false => none)
  | _ => none
def lp6_1 : St → (Ex → St → R) → R := fun s k => match s with
  | ⟨[(0, .fv (.vw (some 0) ⟨.f32, xs⟩)), (5, .fv (.pt ⟨.r 0, 1, 0, 0⟩)), (8, .fv (.own 1)), (10, .fv (.own 2))], [some ⟨2, ⟨.i64, [a]⟩⟩, some ⟨2, ⟨.i64, l⟩⟩, some ⟨2, ⟨.i64, o⟩⟩]⟩ => (match (((l : List Int).all (inR xs.length) && Nat.ble ((o : List Int).length + (l : List Int).length) big) : Bool) with | true => k (.exit 2) ⟨[(10, .fv (.own 0))], [some ⟨2, ⟨.i64, pkRun xs a (l : List Int).length (l : List Int) (o : List Int)⟩⟩]⟩ | false => none)
  | _ => none
def lp6_2 : St → (Ex → St → R) → R := fun s k => match s with
  | ⟨[(0, .fv (.vw (some 0) ⟨.f32, xs⟩)), (5, .fv (.pt ⟨.r 0, 1, 0, 0⟩)), (8, .fv (.own 3)), (10, .fv (.own 1)), (11, .fv (.pt ⟨.r 2, 1, 0, 0⟩)), (76, .fv (.own 3)), (77, .fv (.el (.sc (.int .i64 n)))), (78, .fv (.el (.sc (.int .i64 i))))], [some ⟨2, ⟨.i64, [a]⟩⟩, some ⟨2, ⟨.i64, o⟩⟩, some ⟨2, ⟨.i64, [b]⟩⟩, some ⟨2, ⟨.i64, l⟩⟩]⟩ => (match ((decide (n = ((l : List Int).length : Int)) && (decide (i = 0) && (Nat.ble (l : List Int).length big && ((l : List Int).all (inR xs.length) && inR xs.length b)))) : Bool) with | true => k (.exit 4) ⟨[(0, .fv (.vw (some 0) ⟨.f32, xs⟩)), (5, .fv (.pt ⟨.r 0, 1, 0, 0⟩)), (8, .fv (.own 1)), (10, .fv (.own 2)), (11, .fv (.pt ⟨.r 3, 1, 0, 0⟩))], [some ⟨2, ⟨.i64, [a]⟩⟩, some ⟨2, ⟨.i64, (l : List Int)⟩⟩, some ⟨2, ⟨.i64, (o : List Int)⟩⟩, some ⟨2, ⟨.i64, [rep (pickB xs (l : List Int)) ((l : List Int).length) 0 (b : Int)]⟩⟩]⟩ | false => none)
  | _ => none
def l6 : Loops := fun key s k => bif Nat.beq key 5 then lp6 s k else bif Nat.beq key 10 then lp6_1 s k else bif Nat.beq key 13 then lp6_2 s k else none
theorem st6 (xs : List Nat) (c : Nat) (i : Int) (a : Int) (zs : List Int) (m : Nat) (k : Ex → St → R) : iterK a6 [0, 1, 5, 8, 9] [0, 5, 8] (codeK T6 a6 l6 Try.f6.ntmps (loopAt Try.f6 0)) (m + 1) ⟨[(0, .fv (.vw (some 0) ⟨.f32, xs⟩)), (1, .fv (.el (.sc (.fl .f32 c)))), (5, .fv (.pt ⟨.r 0, 1, 0, 0⟩)), (8, .fv (.own 1)), (9, .fv (.el (.sc (.int .i64 i))))], [some ⟨2, ⟨.i64, [a]⟩⟩, some ⟨2, ⟨.i64, zs⟩⟩]⟩ k = (match (decide ((IntKind.i64.wrap (i + 1) : Int) < (xs.length : Int)) : Bool) with | true => (match (decide (0 ≤ (i : Int) ∧ (i : Int) < (xs.length : Int)) && true : Bool) with | true => (match (xs : List Nat)[Int.toNat i]? with | some x1 => (match (fcmp .geq .f32 x1 c : Bool) with | true => (match (decide (0 ≤ (i : Int) ∧ (i : Int) < (xs.length : Int)) && true : Bool) with | true => (match (xs : List Nat)[Int.toNat i]? with | some x2 => (match (decide (0 ≤ (IntKind.i64.wrap (i - 1) : Int) ∧ (IntKind.i64.wrap (i - 1) : Int) < (xs.length : Int)) && true : Bool) with | true => (match (xs : List Nat)[Int.toNat (IntKind.i64.wrap (i - 1))]? with | some x3 => (match (fcmp .gtr .f32 x2 x3 : Bool) with | true => (match (decide (0 ≤ (i : Int) ∧ (i : Int) < (xs.length : Int)) && true : Bool) with | true => (match (xs : List Nat)[Int.toNat i]? with | some x4 => (match (decide (0 ≤ (IntKind.i64.wrap (i + 1) : Int) ∧ (IntKind.i64.wrap (i + 1) : Int) < (xs.length : Int)) && true : Bool) with | true => (match (xs : List Nat)[Int.toNat (IntKind.i64.wrap (i + 1))]? with | some x5 => (match (fcmp .geq .f32 x4 x5 : Bool) with | true => (match (Nat.beq 2 2 && decide ((zs : List Int).length + ([i] : List Int).length ≤ 1099511627776) : Bool) with | true => iterK a6 [0, 1, 5, 8, 9] [0, 5, 8] (codeK T6 a6 l6 Try.f6.ntmps (loopAt Try.f6 0)) m ⟨[(0, .fv (.vw (some 0) ⟨.f32, xs⟩)), (1, .fv (.el (.sc (.fl .f32 c)))), (5, .fv (.pt ⟨.r 0, 1, 0, 0⟩)), (8, .fv (.own 1)), (9, .fv (.el (.sc (.int .i64 (IntKind.i64.wrap (i + 1))))))], [some ⟨2, ⟨.i64, [a]⟩⟩, some ⟨2, ⟨.i64, (zs : List Int) ++ ([i])⟩⟩]⟩ k | false => none) | false => iterK a6 [0, 1, 5, 8, 9] [0, 5, 8] (codeK T6 a6 l6 Try.f6.ntmps (loopAt Try.f6 0)) m ⟨[(0, .fv (.vw (some 0) ⟨.f32, xs⟩)), (1, .fv (.el (.sc (.fl .f32 c)))), (5, .fv (.pt ⟨.r 0, 1, 0, 0⟩)), (8, .fv (.own 1)), (9, .fv (.el (.sc (.int .i64 (IntKind.i64.wrap (i + 1))))))], [some ⟨2, ⟨.i64, [a]⟩⟩, some ⟨2, ⟨.i64, zs⟩⟩]⟩ k) | none => none) | false => none) | none => none) | false => none) | false => iterK a6 [0, 1, 5, 8, 9] [0, 5, 8] (codeK T6 a6 l6 Try.f6.ntmps (loopAt Try.f6 0)) m ⟨[(0, .fv (.vw (some 0) ⟨.f32, xs⟩)), (1, .fv (.el (.sc (.fl .f32 c)))), (5, .fv (.pt ⟨.r 0, 1, 0, 0⟩)), (8, .fv (.own 1)), (9, .fv (.el (.sc (.int .i64 (IntKind.i64.wrap (i + 1))))))], [some ⟨2, ⟨.i64, [a]⟩⟩, some ⟨2, ⟨.i64, zs⟩⟩]⟩ k) | none => none) | false => none) | none => none) | false => none) | false => iterK a6 [0, 1, 5, 8, 9] [0, 5, 8] (codeK T6 a6 l6 Try.f6.ntmps (loopAt Try.f6 0)) m ⟨[(0, .fv (.vw (some 0) ⟨.f32, xs⟩)), (1, .fv (.el (.sc (.fl .f32 c)))), (5, .fv (.pt ⟨.r 0, 1, 0, 0⟩)), (8, .fv (.own 1)), (9, .fv (.el (.sc (.int .i64 (IntKind.i64.wrap (i + 1))))))], [some ⟨2, ⟨.i64, [a]⟩⟩, some ⟨2, ⟨.i64, zs⟩⟩]⟩ k) | none => none) | false => none) | false => k (.exit 0) ⟨[(0, .fv (.vw (some 0) ⟨.f32, xs⟩)), (5, .fv (.pt ⟨.r 0, 1, 0, 0⟩)), (8, .fv (.own 1))], [some ⟨2, ⟨.i64, [a]⟩⟩, some ⟨2, ⟨.i64, zs⟩⟩]⟩) := by kernel_rfl
theorem ind6 (xs : List Nat) (c : Nat) (a : Int) (hx : (Nat.ble xs.length big) = true) (h1x : (Nat.ble 1 xs.length) = true) (k : Ex → St → R) : ∀ (m j : Nat) (zs : List Int), zs.length + m ≤ 1099511627776 → 1 ≤ j → j + m = xs.length - 2 + 1 → iterK a6 [0, 1, 5, 8, 9] [0, 5, 8] (codeK T6 a6 l6 Try.f6.ntmps (loopAt Try.f6 0)) (m + 1) ⟨[(0, .fv (.vw (some 0) ⟨.f32, xs⟩)), (1, .fv (.el (.sc (.fl .f32 c)))), (5, .fv (.pt ⟨.r 0, 1, 0, 0⟩)), (8, .fv (.own 1)), (9, .fv (.el (.sc (.int .i64 (j : Int)))))], [some ⟨2, ⟨.i64, [a]⟩⟩, some ⟨2, ⟨.i64, zs⟩⟩]⟩ k =
    k (.exit 0) ⟨[(0, .fv (.vw (some 0) ⟨.f32, xs⟩)), (5, .fv (.pt ⟨.r 0, 1, 0, 0⟩)), (8, .fv (.own 1))], [some ⟨2, ⟨.i64, [a]⟩⟩, some ⟨2, ⟨.i64, rep (pkAdd xs c) m j (zs : (List Int))⟩⟩]⟩ := by
  intro m
  induction m with
  | zero =>
    intro j zs hs0 hlo hj
    have hx_ := big_le hx
    have h1x_ := Nat.le_of_ble_eq_true h1x
    have w2 : IntKind.i64.wrap ((j : Int) + 1) = ((j + 1 : Nat) : Int) := wrapN (by omega) (by omega)
    have h1 : ¬ (((j + 1 : Nat) : Int) < (xs.length : Int)) := by omega
    rw [st6]
    simp only [h1, w2, rep, decide_false, List.length_singleton] <;> rfl
  | succ m ih =>
    intro j zs hs0 hlo hj
    have hx_ := big_le hx
    have h1x_ := Nat.le_of_ble_eq_true h1x
    have w2 : IntKind.i64.wrap ((j : Int) + 1) = ((j + 1 : Nat) : Int) := wrapN (by omega) (by omega)
    have h1 : ((j + 1 : Nat) : Int) < (xs.length : Int) := by omega
    have hbq : Nat.beq 2 2 = true := rfl
    have hzl : zs.length + 1 ≤ 1099511627776 := by omega
    have wj : IntKind.i64.wrap (j : Int) = (j : Int) := wrapN rfl (by omega)
    have pb : (0 : Int) ≤ ((j : Nat) : Int) ∧ ((j : Nat) : Int) < (xs.length : Int) := by omega
    have pq : xs[Int.toNat ((j : Nat) : Int)]? = some (xs.getD (j) 0) := getI (by omega)
    have pp : xs[j]? = some (xs.getD (j) 0) := getI2 (by omega)
    have w1 : IntKind.i64.wrap ((j : Int) - 1) = ((j - 1 : Nat) : Int) := wrapN (by omega) (by omega)
    have qb : (0 : Int) ≤ ((j - 1 : Nat) : Int) ∧ ((j - 1 : Nat) : Int) < (xs.length : Int) := by omega
    have qq : xs[Int.toNat ((j - 1 : Nat) : Int)]? = some (xs.getD (j - 1) 0) := getI (by omega)
    have qp : xs[j - 1]? = some (xs.getD (j - 1) 0) := getI2 (by omega)
    have rb : (0 : Int) ≤ ((j + 1 : Nat) : Int) ∧ ((j + 1 : Nat) : Int) < (xs.length : Int) := by omega
    have rq : xs[Int.toNat ((j + 1 : Nat) : Int)]? = some (xs.getD (j + 1) 0) := getI (by omega)
    have rp : xs[j + 1]? = some (xs.getD (j + 1) 0) := getI2 (by omega)
    have wn : IntKind.i64.wrap ((j : Int) + 1) = ((j + 1 : Nat) : Int) := wrapN (by omega) (by omega)
    rw [st6]
    simp only [h1, wn, w2, hbq, hzl, wj, pb, pq, pp, w1, qb, qq, qp, rb, rq, rp, and_self, decide_true, Bool.and_true, Int.le_refl, List.length_singleton]
    rw [rep_succ]
    have e : pkAdd xs c j zs = bif peak xs c j then zs ++ [(j : Int)] else zs := rfl
    rw [e]
    have r2 := ih (j + 1) zs (by omega) (by omega) (by omega)
    have r3 := ih (j + 1) (zs ++ [(j : Int)]) (by simp; omega) (by omega) (by omega)
    cases c1 : fcmp .geq .f32 (xs.getD j 0) c with
    | false =>
      have hp : peak xs c j = false := by unfold peak; rw [c1]; rfl
      rw [hp]; exact r2
    | true =>
      cases c2 : fcmp .gtr .f32 (xs.getD j 0) (xs.getD (j - 1) 0) with
      | false =>
        have hp : peak xs c j = false := by unfold peak; rw [c1, c2]; rfl
        rw [hp]; exact r2
      | true =>
        cases c3 : fcmp .geq .f32 (xs.getD j 0) (xs.getD (j + 1) 0) with
        | false =>
          have hp : peak xs c j = false := by unfold peak; rw [c1, c2, c3]; rfl
          rw [hp]; exact r2
        | true =>
          have hp : peak xs c j = true := by unfold peak; rw [c1, c2, c3]; rfl
          rw [hp]; exact r3

theorem lk6 : LOK T6 a6 l6 Try.f6.ntmps (loopAt Try.f6 0) := by
  intro ins outs hA s k out h
  have hA' : ([0, 1, 5, 8, 9], [0, 5, 8]) = (ins, outs) := Option.some.inj ((show a6.lp (firstRegion (loopAt Try.f6 0)) = some ([0, 1, 5, 8, 9], [0, 5, 8]) by kernel_rfl).symm.trans hA)
  cases hA'
  have hk : firstRegion (loopAt Try.f6 0) = 5 := by kernel_rfl
  rw [hk] at h
  change lp6 s k = some out at h
  unfold lp6 at h
  split at h
  · rename_i xs c i a zs
    cases hg : (decide (i = 1) && (Nat.ble xs.length big && (Nat.ble 1 xs.length && Nat.ble (zs.length + xs.length) big))) with
    | false => rw [hg] at h; cases h
    | true =>
      rw [hg] at h
      simp only [Bool.and_eq_true, decide_eq_true_eq] at hg
      obtain ⟨rfl, hx, h1x, gs0⟩ := hg
      refine ⟨(xs.length - 2 + 1) - 1 + 1, ?_⟩
      have hx_ := big_le hx
      have h1x_ := Nat.le_of_ble_eq_true h1x
      have gs0_ := big_le gs0
      exact (ind6 xs c a hx h1x k ((xs.length - 2 + 1) - 1) 1 zs (by omega) (by omega) (by omega)).trans h
  · cases h
theorem st6_1 (xs : List Nat) (a : Int) (l : List Int) (o : List Int) (m : Nat) (k : Ex → St → R) : iterK a6 [0, 5, 8, 10] [10] (codeK T6 a6 l6 Try.f6.ntmps (loopAt Try.f6 1)) (m + 1) ⟨[(0, .fv (.vw (some 0) ⟨.f32, xs⟩)), (5, .fv (.pt ⟨.r 0, 1, 0, 0⟩)), (8, .fv (.own 1)), (10, .fv (.own 2))], [some ⟨2, ⟨.i64, [a]⟩⟩, some ⟨2, ⟨.i64, l⟩⟩, some ⟨2, ⟨.i64, o⟩⟩]⟩ k = (match (decide (((l.length : Int) : Int) > 0) : Bool) with | true => (match (decide (0 ≤ (0 : Int) ∧ (0 : Int) < (l.length : Int)) && true : Bool) with | true => (match (l : List Int)[Int.toNat 0]? with | some x1 => (match ((decide (((l.length : Int)) = ((l : List Int).length : Int)) && (decide (0 = 0) && (Nat.ble (l : List Int).length big && ((l : List Int).all (inR xs.length) && inR xs.length x1)))) : Bool) with | true => (match (Nat.beq 2 2 && decide (((o : List Int) : List Int).length + ([rep (pickB xs (l : List Int)) ((l : List Int).length) 0 (x1 : Int)] : List Int).length ≤ 1099511627776) : Bool) with | true => (match (!((l : List Int)).isEmpty && Nat.ble ((l : List Int)).length big : Bool) with | true => iterK a6 [0, 5, 8, 10] [10] (codeK T6 a6 l6 Try.f6.ntmps (loopAt Try.f6 1)) m ⟨[(0, .fv (.vw (some 0) ⟨.f32, xs⟩)), (5, .fv (.pt ⟨.r 0, 1, 0, 0⟩)), (8, .fv (.own 1)), (10, .fv (.own 2))], [some ⟨2, ⟨.i64, [a]⟩⟩, some ⟨2, ⟨.i64, ((l : List Int)).filter fun x => !struck (rep (pickB xs (l : List Int)) ((l : List Int).length) 0 (x1 : Int)) a x⟩⟩, some ⟨2, ⟨.i64, ((o : List Int) : List Int) ++ ([rep (pickB xs (l : List Int)) ((l : List Int).length) 0 (x1 : Int)])⟩⟩]⟩ k | false => none) | false => none) | false => none) | none => none) | false => none) | false => k (.exit 2) ⟨[(10, .fv (.own 0))], [some ⟨2, ⟨.i64, o⟩⟩]⟩) := by kernel_rfl
theorem ind6_1 (xs : List Nat) (a : Int) (k : Ex → St → R) : ∀ (m : Nat) (l o : List Int), l.length ≤ m → l.all (inR xs.length) = true → o.length + l.length ≤ 1099511627776 → iterK a6 [0, 5, 8, 10] [10] (codeK T6 a6 l6 Try.f6.ntmps (loopAt Try.f6 1)) (m + 1) ⟨[(0, .fv (.vw (some 0) ⟨.f32, xs⟩)), (5, .fv (.pt ⟨.r 0, 1, 0, 0⟩)), (8, .fv (.own 1)), (10, .fv (.own 2))], [some ⟨2, ⟨.i64, [a]⟩⟩, some ⟨2, ⟨.i64, l⟩⟩, some ⟨2, ⟨.i64, o⟩⟩]⟩ k =
    k (.exit 2) ⟨[(10, .fv (.own 0))], [some ⟨2, ⟨.i64, pkRun xs a m l o⟩⟩]⟩ := by
  intro m
  induction m with
  | zero =>
    intro l o hm hall ho
    have hl : l = [] := List.eq_nil_of_length_eq_zero (by omega)
    subst hl
    rw [st6_1]
    rfl
  | succ m ih =>
    intro l o hm hall ho
    by_cases hl : l = []
    · subst hl
      rw [st6_1]
      rfl
    · have hlen : 0 < l.length := List.length_pos_iff.2 hl
      have h1 : ((l.length : Int) > 0) := by omega
      have h2 : (0 : Int) ≤ 0 ∧ (0 : Int) < (l.length : Int) := by omega
      have h3 : l[Int.toNat 0]? = some (l.getD 0 0) := getI (n := 0) hlen
      have h4 := inR_at hall hlen
      have h5 : Nat.ble l.length big = true := big_of (by omega)
      have h6 : o.length + 1 ≤ 1099511627776 := by omega
      have h7 : l.isEmpty = false := by simpa using hl
      have h8 : rep (pickB xs l) l.length 0 (l.getD 0 0) = bestOf xs l := rfl
      have h9 := struck_less (xs := xs) a hl
      have hr := ih (l.filter fun x => !struck (bestOf xs l) a x) (o ++ [bestOf xs l]) (by omega) (all_filter hall) (by simp only [List.length_append, List.length_singleton]; omega)
      have e : pkRun xs a (m + 1) l o = pkRun xs a m (l.filter fun x => !struck (bestOf xs l) a x) (o ++ [bestOf xs l]) := by rw [pkRun, h7, cond_false]
      rw [e, st6_1]
      simp only [h1, h2, h3, h4, h5, h6, h7, h8, hall, Nat.beq_refl, List.length_singleton, and_self, decide_true, Bool.and_self, Bool.not_false]
      exact hr

theorem lk6_1 : LOK T6 a6 l6 Try.f6.ntmps (loopAt Try.f6 1) := by
  intro ins outs hA s k out h
  have hA' : ([0, 5, 8, 10], [10]) = (ins, outs) := Option.some.inj ((show a6.lp (firstRegion (loopAt Try.f6 1)) = some ([0, 5, 8, 10], [10]) by kernel_rfl).symm.trans hA)
  cases hA'
  have hk : firstRegion (loopAt Try.f6 1) = 10 := by kernel_rfl
  rw [hk] at h
  change lp6_1 s k = some out at h
  unfold lp6_1 at h
  split at h
  · rename_i xs a l o
    cases hg : (l.all (inR xs.length) && Nat.ble (o.length + l.length) big) with
    | false => rw [hg] at h; cases h
    | true =>
      rw [hg] at h
      simp only [Bool.and_eq_true, decide_eq_true_eq] at hg
      obtain ⟨hall, ho⟩ := hg
      refine ⟨l.length + 1, ?_⟩
      exact (ind6_1 xs a k l.length l o (Nat.le_refl _) hall (big_le ho)).trans h
  · cases h
theorem st6_2 (xs : List Nat) (n : Int) (i : Int) (a : Int) (o : List Int) (b : Int) (l : List Int) (m : Nat) (k : Ex → St → R) : iterK a6 [0, 5, 8, 10, 11, 76, 77, 78] [0, 5, 8, 10, 11] (codeK T6 a6 l6 Try.f6.ntmps (loopAt Try.f6 2)) (m + 1) ⟨[(0, .fv (.vw (some 0) ⟨.f32, xs⟩)), (5, .fv (.pt ⟨.r 0, 1, 0, 0⟩)), (8, .fv (.own 3)), (10, .fv (.own 1)), (11, .fv (.pt ⟨.r 2, 1, 0, 0⟩)), (76, .fv (.own 3)), (77, .fv (.el (.sc (.int .i64 n)))), (78, .fv (.el (.sc (.int .i64 i))))], [some ⟨2, ⟨.i64, [a]⟩⟩, some ⟨2, ⟨.i64, o⟩⟩, some ⟨2, ⟨.i64, [b]⟩⟩, some ⟨2, ⟨.i64, l⟩⟩]⟩ k = (match (decide ((i : Int) < n) : Bool) with | true => (match (decide (0 ≤ (i : Int) ∧ (i : Int) < (l.length : Int)) && true : Bool) with | true => (match (l : List Int)[Int.toNat i]? with | some x1 => (match (decide (0 ≤ (x1 : Int) ∧ (x1 : Int) < (xs.length : Int)) && true : Bool) with | true => (match (xs : List Nat)[Int.toNat x1]? with | some x2 => (match (decide (0 ≤ (b : Int) ∧ (b : Int) < (xs.length : Int)) && true : Bool) with | true => (match (xs : List Nat)[Int.toNat b]? with | some x3 => (match (fcmp .gtr .f32 x2 x3 : Bool) with | true => iterK a6 [0, 5, 8, 10, 11, 76, 77, 78] [0, 5, 8, 10, 11] (codeK T6 a6 l6 Try.f6.ntmps (loopAt Try.f6 2)) m ⟨[(0, .fv (.vw (some 0) ⟨.f32, xs⟩)), (5, .fv (.pt ⟨.r 0, 1, 0, 0⟩)), (8, .fv (.own 3)), (10, .fv (.own 1)), (11, .fv (.pt ⟨.r 2, 1, 0, 0⟩)), (76, .fv (.own 3)), (77, .fv (.el (.sc (.int .i64 n)))), (78, .fv (.el (.sc (.int .i64 (IntKind.i64.wrap (i + 1))))))], [some ⟨2, ⟨.i64, [a]⟩⟩, some ⟨2, ⟨.i64, o⟩⟩, some ⟨2, ⟨.i64, [x1]⟩⟩, some ⟨2, ⟨.i64, l⟩⟩]⟩ k | false => iterK a6 [0, 5, 8, 10, 11, 76, 77, 78] [0, 5, 8, 10, 11] (codeK T6 a6 l6 Try.f6.ntmps (loopAt Try.f6 2)) m ⟨[(0, .fv (.vw (some 0) ⟨.f32, xs⟩)), (5, .fv (.pt ⟨.r 0, 1, 0, 0⟩)), (8, .fv (.own 3)), (10, .fv (.own 1)), (11, .fv (.pt ⟨.r 2, 1, 0, 0⟩)), (76, .fv (.own 3)), (77, .fv (.el (.sc (.int .i64 n)))), (78, .fv (.el (.sc (.int .i64 (IntKind.i64.wrap (i + 1))))))], [some ⟨2, ⟨.i64, [a]⟩⟩, some ⟨2, ⟨.i64, o⟩⟩, some ⟨2, ⟨.i64, [b]⟩⟩, some ⟨2, ⟨.i64, l⟩⟩]⟩ k) | none => none) | false => none) | none => none) | false => none) | none => none) | false => none) | false => k (.exit 4) ⟨[(0, .fv (.vw (some 0) ⟨.f32, xs⟩)), (5, .fv (.pt ⟨.r 0, 1, 0, 0⟩)), (8, .fv (.own 1)), (10, .fv (.own 2)), (11, .fv (.pt ⟨.r 3, 1, 0, 0⟩))], [some ⟨2, ⟨.i64, [a]⟩⟩, some ⟨2, ⟨.i64, l⟩⟩, some ⟨2, ⟨.i64, o⟩⟩, some ⟨2, ⟨.i64, [b]⟩⟩]⟩) := by kernel_rfl
theorem ind6_2 (xs : List Nat) (a : Int) (o : List Int) (l : List Int) (hl : (Nat.ble l.length big) = true) (hall : (l.all (inR xs.length)) = true) (k : Ex → St → R) : ∀ (m j : Nat) (b : Int), inR xs.length b = true → 0 ≤ j → j + m = l.length → iterK a6 [0, 5, 8, 10, 11, 76, 77, 78] [0, 5, 8, 10, 11] (codeK T6 a6 l6 Try.f6.ntmps (loopAt Try.f6 2)) (m + 1) ⟨[(0, .fv (.vw (some 0) ⟨.f32, xs⟩)), (5, .fv (.pt ⟨.r 0, 1, 0, 0⟩)), (8, .fv (.own 3)), (10, .fv (.own 1)), (11, .fv (.pt ⟨.r 2, 1, 0, 0⟩)), (76, .fv (.own 3)), (77, .fv (.el (.sc (.int .i64 (l.length : Int))))), (78, .fv (.el (.sc (.int .i64 (j : Int)))))], [some ⟨2, ⟨.i64, [a]⟩⟩, some ⟨2, ⟨.i64, o⟩⟩, some ⟨2, ⟨.i64, [b]⟩⟩, some ⟨2, ⟨.i64, l⟩⟩]⟩ k =
    k (.exit 4) ⟨[(0, .fv (.vw (some 0) ⟨.f32, xs⟩)), (5, .fv (.pt ⟨.r 0, 1, 0, 0⟩)), (8, .fv (.own 1)), (10, .fv (.own 2)), (11, .fv (.pt ⟨.r 3, 1, 0, 0⟩))], [some ⟨2, ⟨.i64, [a]⟩⟩, some ⟨2, ⟨.i64, l⟩⟩, some ⟨2, ⟨.i64, o⟩⟩, some ⟨2, ⟨.i64, [rep (pickB xs l) m j (b : Int)]⟩⟩]⟩ := by
  intro m
  induction m with
  | zero =>
    intro j b hs0 hlo hj
    have hl_ := big_le hl
    have h1 : ¬ (((j : Int) < (l.length : Int))) := by omega
    rw [st6_2]
    simp only [h1, rep, decide_false] <;> rfl
  | succ m ih =>
    intro j b hs0 hlo hj
    have hl_ := big_le hl
    have h1 : ((j : Int) < (l.length : Int)) := by omega
    have pb : (0 : Int) ≤ ((j : Nat) : Int) ∧ ((j : Nat) : Int) < (l.length : Int) := by omega
    have pq : l[Int.toNat ((j : Nat) : Int)]? = some (l.getD (j) 0) := getI (by omega)
    have pp : l[j]? = some (l.getD (j) 0) := getI2 (by omega)
    have ix : inR xs.length (l.getD j 0) = true := inR_at hall (by omega)
    have dx : decide (0 ≤ l.getD j 0 ∧ l.getD j 0 < (xs.length : Int)) = true := ix
    have gx : xs[Int.toNat (l.getD j 0)]? = some (xs.getD (Int.toNat (l.getD j 0)) 0) := inR_get ix
    have db : decide (0 ≤ b ∧ b < (xs.length : Int)) = true := hs0
    have gb : xs[Int.toNat b]? = some (xs.getD (Int.toNat b) 0) := inR_get hs0
    have wn : IntKind.i64.wrap ((j : Int) + 1) = ((j + 1 : Nat) : Int) := wrapN (by omega) (by omega)
    rw [st6_2]
    simp only [h1, wn, pb, pq, pp, ix, dx, gx, db, gb, and_self, decide_true, Bool.and_true, Int.le_refl]
    rw [rep_succ]
    have e : pickB xs l j b = bif fcmp .gtr .f32 (xs.getD (l.getD j 0).toNat 0) (xs.getD b.toNat 0) then l.getD j 0 else b := rfl
    rw [e]
    have r1 := ih (j + 1) (l.getD j 0) ix (by omega) (by omega)
    have r2 := ih (j + 1) b hs0 (by omega) (by omega)
    cases fcmp .gtr .f32 (xs.getD (l.getD j 0).toNat 0) (xs.getD b.toNat 0) with
    | true => exact r1
    | false => exact r2

theorem lk6_2 : LOK T6 a6 l6 Try.f6.ntmps (loopAt Try.f6 2) := by
  intro ins outs hA s k out h
  have hA' : ([0, 5, 8, 10, 11, 76, 77, 78], [0, 5, 8, 10, 11]) = (ins, outs) := Option.some.inj ((show a6.lp (firstRegion (loopAt Try.f6 2)) = some ([0, 5, 8, 10, 11, 76, 77, 78], [0, 5, 8, 10, 11]) by kernel_rfl).symm.trans hA)
  cases hA'
  have hk : firstRegion (loopAt Try.f6 2) = 13 := by kernel_rfl
  rw [hk] at h
  change lp6_2 s k = some out at h
  unfold lp6_2 at h
  split at h
  · rename_i xs n i a o b l
    cases hg : (decide (n = (l.length : Int)) && (decide (i = 0) && (Nat.ble l.length big && (l.all (inR xs.length) && inR xs.length b)))) with
    | false => rw [hg] at h; cases h
    | true =>
      rw [hg] at h
      simp only [Bool.and_eq_true, decide_eq_true_eq] at hg
      obtain ⟨rfl, rfl, hl, hall, gs0⟩ := hg
      refine ⟨(l.length) + 1, ?_⟩
      have hl_ := big_le hl
      exact (ind6_2 xs a o l hl hall k (l.length) 0 b (by omega) (by omega) (by omega)).trans h
  · cases h
theorem e6 (xs : List Nat) (c : Nat) (a : Int) : runFn T6 a6 l6 Try.f6 [.vw none ⟨.f32, xs⟩, .el (.sc (.fl .f32 c)), .el (.sc (.int .i64 a))] = (match (!(listOk xs 1) : Bool) with | true => some ⟨[.nil, .el (.sc (.bo false))], none⟩ | false => (match (!(fin c) : Bool) with | true => some ⟨[.nil, .el (.sc (.bo false))], none⟩ | false => (match (!(within a 1 128) : Bool) with | true => some ⟨[.nil, .el (.sc (.bo false))], none⟩ | false => (match ((decide (1 = 1) && (Nat.ble xs.length big && (Nat.ble 1 xs.length && Nat.ble (([] : List Int).length + xs.length) big))) : Bool) with | true => (match (((rep (pkAdd xs c) (xs.length - 2 + 1 - 1) 1 (([] : List Int) : (List Int)) : List Int).all (inR xs.length) && Nat.ble (([] : List Int).length + (rep (pkAdd xs c) (xs.length - 2 + 1 - 1) 1 (([] : List Int) : (List Int)) : List Int).length) big) : Bool) with | true => (match (decide ((pkRun xs a (rep (pkAdd xs c) (xs.length - 2 + 1 - 1) 1 (([] : List Int) : (List Int)) : List Int).length (rep (pkAdd xs c) (xs.length - 2 + 1 - 1) 1 (([] : List Int) : (List Int)) : List Int) ([] : List Int)).length < 4611686018427387904) : Bool) with | true => some ⟨[.fresh 2 ⟨.i64, (pkRun xs a (rep (pkAdd xs c) (xs.length - 2 + 1 - 1) 1 (([] : List Int) : (List Int)) : List Int).length (rep (pkAdd xs c) (xs.length - 2 + 1 - 1) 1 (([] : List Int) : (List Int)) : List Int) ([] : List Int)).mergeSort fun x y => decide (x ≤ y)⟩, .el (.sc (.bo true))], none⟩ | false => none) | false => none) | false => none)))) := by kernel_rfl
theorem s6 (xs : List Nat) (c : Nat) (a : Int) : runFn T6 a6 l6 Try.f6 [.vw none ⟨.f32, xs⟩, .el (.sc (.fl .f32 c)), .el (.sc (.int .i64 a))] = (match (peaksOk xs c a : Bool) with | true => some ⟨[.fresh 2 ⟨.i64, peaksS xs c a⟩, .el (.sc (.bo true))], none⟩ | false => some ⟨[.nil, .el (.sc (.bo false))], none⟩) := by
  rw [e6]
  unfold peaksOk
  cases h1 : listOk xs 1 with
  | false => simp
  | true =>
    have h2 := h1
    unfold listOk at h2
    simp only [Bool.and_eq_true, decide_eq_true_eq] at h2
    obtain ⟨l1, l2, _⟩ := h2
    cases h3 : fin c with
    | false => simp
    | true =>
      cases h4 : within a 1 128 with
      | false => simp
      | true =>
        have hx : Nat.ble xs.length big = true := big_of (by omega)
        have hx1 : Nat.ble 1 xs.length = true := Nat.ble_eq_true_of_le (by omega)
        have hn : xs.length - 2 + 1 - 1 = xs.length - 2 := by omega
        have hz : Nat.ble (([] : List Int).length + xs.length) big = true := big_of (by simp; omega)
        have e1 : rep (pkAdd xs c) (xs.length - 2) 1 [] = pkFirst xs c := rfl
        have hl := pkFirst_len xs c
        have hy : Nat.ble (([] : List Int).length + (pkFirst xs c).length) big = true := big_of (by simp; omega)
        have hr := pkRun_len xs a (pkFirst xs c).length (pkFirst xs c) []
        have hs : (pkRun xs a (pkFirst xs c).length (pkFirst xs c) []).length < 4611686018427387904 := by simp only [List.length_nil] at hr; omega
        simp only [hx, hx1, hz, hn, e1, hy, hs, pkFirst_all, decide_true, Bool.and_self, Bool.not_true, Bool.true_and]
        have hw : 1 ≤ a ∧ a ≤ 128 := by
          unfold within at h4
          simp only [Bool.and_eq_true, decide_eq_true_eq] at h4
          omega
        rw [← peaks_same (by omega) (by omega) hw]
        rfl
theorem c6 (xs : List Nat) (c : Nat) (a : Int) (k : List RV → R) (out : Out) (h : k [.fresh 2 ⟨.i64, orNil (peaksOk xs c a) (peaksS xs c a)⟩, .el (.sc (.bo (peaksOk xs c a)))] = some out) : ∃ rs, Real Try.prog 6 ∧ COK Try.prog 6 [.vw none ⟨.f32, xs⟩, .el (.sc (.fl .f32 c)), .el (.sc (.int .i64 a))] rs ∧ k rs = some out := by
  cases g0 : (peaksOk xs c a : Bool) with
  | true =>
    rw [g0] at h
    exact ⟨_, real Try.func6 (by kernel_rfl), fn_ok tok6 (A := a6) (L := l6) (r := none) Try.func6 (by kernel_rfl) (by kernel_rfl) (loops3 (by kernel_rfl) lk6 lk6_1 lk6_2) (by rw [s6, g0]; rfl), h⟩
  | false =>
    rw [g0] at h
    exact ⟨_, real Try.func6 (by kernel_rfl), COK.nil (fn_ok tok6 (A := a6) (L := l6) (r := none) Try.func6 (by kernel_rfl) (by kernel_rfl) (loops3 (by kernel_rfl) lk6 lk6_1 lk6_2) (by rw [s6, g0] <;> rfl)), h⟩

def S7 : SFn := fun f args k => match f, args with
  | 6, [.vw none ⟨.f32, xs⟩, .el (.sc (.fl .f32 c)), .el (.sc (.int .i64 a))] => k [.fresh 2 ⟨.i64, orNil (peaksOk xs c a) (peaksS xs c a)⟩, .el (.sc (.bo (peaksOk xs c a)))]
  | _, _ => S6 f args k
abbrev M7 : MFn := M6
abbrev Dn7 : DFn := Dn6
def T7 : TT := tab.T S7 muts M7 Dn7
theorem tok7 : TOK Try.prog T7 := by
  refine (tab_ok tabok).tok (fun f args k out h => ?_) (fun f vec args k out h => ?_) (fun f vec args k out h => ?_)
  · change S7 f args k = some out at h
    unfold S7 at h
    split at h
    · exact (fun k out h => cok_call (c6 _ _ _ k out h)) k out h
    · exact tok6.S f args k out h
  · exact tok6.M f vec args k out h
  · exact tok6.D f vec args k out h

end Go.Sm.Yticbjjedljddgaa
