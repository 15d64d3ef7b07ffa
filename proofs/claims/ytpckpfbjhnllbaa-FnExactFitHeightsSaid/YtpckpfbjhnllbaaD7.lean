/- What the functions hand back: level 6. -/
import Derived.Test.YtpckpfbjhnllbaaD6
namespace Go.Sm.Ytpckpfbjhnllbaa
open Go Go.Sm Go.RowKit Go.Proofs

/-! spec.FitHeights -/
def a6 : Ann := ann [(5, [0, 1, 2, 3, 10, 39, 40], [0, 1, 10]), (11, [0, 1, 2, 3, 10, 12, 13, 39, 40, 50, 51], [0, 1, 2, 3, 10, 13, 39, 40]), (25, [17, 19, 88, 89], [19])] [8, 9] 0
def lp6 : St → (Ex → St → R) → R := fun s k => match s with
  | ⟨[(0, .fv (.vw (some 0) ⟨.line, xs⟩)), (1, .fv (.vw (some 1) ⟨.f32, ys⟩)), (2, .fv (.el (.sc (.fl .f32 b)))), (3, .fv (.el (.sc (.fl .f32 d)))), (10, .fv (.own 0)), (39, .fv (.el (.sc (.int .i64 n)))), (40, .fv (.el (.sc (.int .i64 i))))], [some ⟨23, ⟨.lf, fs⟩⟩]⟩ => (match ((decide (n = (xs.length : Int)) && (decide (i = 0) && (Nat.ble xs.length big && (Nat.ble ys.length big && Nat.ble ((fs : List ((List Nat))).length + xs.length) big)))) : Bool) with
    | true => (match repE (fitG xs b d ys.length) (xs.length) 0 ((fs : List ((List Nat))) : (List (List Nat))) with
      | some s => k (.exit 0) ⟨[(0, .fv (.vw (some 0) ⟨.line, xs⟩)), (1, .fv (.vw (some 1) ⟨.f32, ys⟩)), (10, .fv (.own 0))], [some ⟨23, ⟨.lf, s⟩⟩]⟩
      | none => k .ret ⟨[(8, .fv (.nil)), (9, .fv (.el (.sc (.bo false))))], []⟩)
    | false => none)
  | _ => none
def lp6_1 : St → (Ex → St → R) → R := fun s k => match s with
  | ⟨[(0, .fv (.vw (some 0) ⟨.line, xs⟩)), (1, .fv (.vw (some 1) ⟨.f32, ys⟩)), (2, .fv (.el (.sc (.fl .f32 b)))), (3, .fv (.el (.sc (.fl .f32 d)))), (10, .fv (.own 0)), (12, .fv (.pt ⟨.r 1, 4, 0, 0⟩)), (13, .fv (.own 2)), (39, .fv (.el (.sc (.int .i64 n)))), (40, .fv (.el (.sc (.int .i64 i)))), (50, .fv (.el (.sc (.int .i64 n2)))), (51, .fv (.el (.sc (.int .i64 q))))], [some ⟨23, ⟨.lf, fs⟩⟩, some ⟨38, ⟨.line, ln⟩⟩, some ⟨24, ⟨.f32, rs⟩⟩]⟩ => (match ((decide (n2 = (ys.length : Int)) && (decide (q = 0) && (Nat.ble ys.length big && (Nat.ble 1 (ln : List LineV).length && Nat.ble ((rs : List Nat).length + ys.length) big)))) : Bool) with
    | true => (match repE (atF ((ln : List LineV).getD 0 noLine) b d) (ys.length) 0 ((rs : List Nat) : (List Nat)) with
      | some s => k (.exit 2) ⟨[(0, .fv (.vw (some 0) ⟨.line, xs⟩)), (1, .fv (.vw (some 1) ⟨.f32, ys⟩)), (2, .fv (.el (.sc (.fl .f32 b)))), (3, .fv (.el (.sc (.fl .f32 d)))), (10, .fv (.own 0)), (13, .fv (.own 1)), (39, .fv (.el (.sc (.int .i64 n)))), (40, .fv (.el (.sc (.int .i64 i))))], [some ⟨23, ⟨.lf, (fs : List ((List Nat)))⟩⟩, some ⟨24, ⟨.f32, s⟩⟩]⟩
      | none => k .ret ⟨[(8, .fv (.nil)), (9, .fv (.el (.sc (.bo false))))], []⟩)
    | false => none)
  | _ => none
def lp6_2 : St → (Ex → St → R) → R := fun s k => match s with
  | ⟨[(17, .fv (.own 0)), (19, .fv (.own 1)), (88, .fv (.el (.sc (.int .i64 n)))), (89, .fv (.el (.sc (.int .i64 i))))], [some ⟨24, ⟨.f32, hs⟩⟩, some ⟨38, ⟨.line, zs⟩⟩]⟩ => (match ((decide (n = ((hs : List Nat).length : Int)) && (decide (i = 0) && (Nat.ble (hs : List Nat).length big && Nat.beq (zs : List LineV).length (hs : List Nat).length))) : Bool) with
    | true => k (.exit 4) ⟨[(19, .fv (.own 0))], [some ⟨38, ⟨.line, rep (setF (hs : List Nat)) ((hs : List Nat).length) 0 ((zs : List LineV) : (List LineV))⟩⟩]⟩
    | false => none)
  | _ => none
def l6 : Loops := fun key s k => bif Nat.beq key 5 then lp6 s k else bif Nat.beq key 11 then lp6_1 s k else bif Nat.beq key 25 then lp6_2 s k else none
theorem st6 (xs : List LineV) (ys : List Nat) (b : Nat) (d : Nat) (n : Int) (i : Int) (fs : List ((List Nat))) (m : Nat) (k : Ex → St → R) : iterK a6 [0, 1, 2, 3, 10, 39, 40] [0, 1, 10] (codeK T6 a6 l6 Try.f6.ntmps (loopAt Try.f6 0)) (m + 1) ⟨[(0, .fv (.vw (some 0) ⟨.line, xs⟩)), (1, .fv (.vw (some 1) ⟨.f32, ys⟩)), (2, .fv (.el (.sc (.fl .f32 b)))), (3, .fv (.el (.sc (.fl .f32 d)))), (10, .fv (.own 0)), (39, .fv (.el (.sc (.int .i64 n)))), (40, .fv (.el (.sc (.int .i64 i))))], [some ⟨23, ⟨.lf, fs⟩⟩]⟩ k = (match (decide ((i : Int) < n) : Bool) with
  | true => (match (decide (0 ≤ (i : Int) ∧ (i : Int) < (xs.length : Int)) && true : Bool) with
    | true => (match (xs : List LineV)[Int.toNat i]? with
      | some x1 => (match ((decide (((ys.length : Int)) = (ys.length : Int)) && (decide (0 = 0) && (Nat.ble ys.length big && (Nat.ble 1 ([(⟨x1.p, 1065353216, x1.w, x1.k⟩ : LineV)] : List LineV).length && Nat.ble (([] : List Nat).length + ys.length) big)))) : Bool) with
        | true => (match repE (atF (([(⟨x1.p, 1065353216, x1.w, x1.k⟩ : LineV)] : List LineV).getD 0 noLine) b d) (ys.length) 0 (([] : List Nat) : (List Nat)) with
          | some s => (match (decide (((fs : List ((List Nat))) : List (List Nat)).length + ([s] : List (List Nat)).length ≤ 1099511627776) : Bool) with
            | true => iterK a6 [0, 1, 2, 3, 10, 39, 40] [0, 1, 10] (codeK T6 a6 l6 Try.f6.ntmps (loopAt Try.f6 0)) m ⟨[(0, .fv (.vw (some 0) ⟨.line, xs⟩)), (1, .fv (.vw (some 1) ⟨.f32, ys⟩)), (2, .fv (.el (.sc (.fl .f32 b)))), (3, .fv (.el (.sc (.fl .f32 d)))), (10, .fv (.own 0)), (39, .fv (.el (.sc (.int .i64 n)))), (40, .fv (.el (.sc (.int .i64 (IntKind.i64.wrap (i + 1))))))], [some ⟨23, ⟨.lf, ((fs : List ((List Nat))) : List (List Nat)) ++ ([s])⟩⟩]⟩ k
            | false => none)
          | none => k .ret ⟨[(8, .fv (.nil)), (9, .fv (.el (.sc (.bo false))))], []⟩)
        | false => none)
      | none => none)
    | false => none)
  | false => k (.exit 0) ⟨[(0, .fv (.vw (some 0) ⟨.line, xs⟩)), (1, .fv (.vw (some 1) ⟨.f32, ys⟩)), (10, .fv (.own 0))], [some ⟨23, ⟨.lf, fs⟩⟩]⟩) := by kernel_rfl
theorem ind6 (xs : List LineV) (ys : List Nat) (b : Nat) (d : Nat) (hx : (Nat.ble xs.length big) = true) (hy : (Nat.ble ys.length big) = true) (k : Ex → St → R) : ∀ (m j : Nat) (fs : List (List Nat)), fs.length + m ≤ 1099511627776 → 0 ≤ j → j + m = xs.length → iterK a6 [0, 1, 2, 3, 10, 39, 40] [0, 1, 10] (codeK T6 a6 l6 Try.f6.ntmps (loopAt Try.f6 0)) (m + 1) ⟨[(0, .fv (.vw (some 0) ⟨.line, xs⟩)), (1, .fv (.vw (some 1) ⟨.f32, ys⟩)), (2, .fv (.el (.sc (.fl .f32 b)))), (3, .fv (.el (.sc (.fl .f32 d)))), (10, .fv (.own 0)), (39, .fv (.el (.sc (.int .i64 (xs.length : Int))))), (40, .fv (.el (.sc (.int .i64 (j : Int)))))], [some ⟨23, ⟨.lf, fs⟩⟩]⟩ k =
    (match repE (fitG xs b d ys.length) m j (fs : (List (List Nat))) with
    | some s => k (.exit 0) ⟨[(0, .fv (.vw (some 0) ⟨.line, xs⟩)), (1, .fv (.vw (some 1) ⟨.f32, ys⟩)), (10, .fv (.own 0))], [some ⟨23, ⟨.lf, s⟩⟩]⟩
    | none => k .ret ⟨[(8, .fv (.nil)), (9, .fv (.el (.sc (.bo false))))], []⟩) := by
  intro m
  induction m with
  | zero =>
    intro j fs hs0 hlo hj
    have hx_ := big_le hx
    have hy_ := big_le hy
    have h1 : ¬ (((j : Int) < (xs.length : Int))) := by omega
    rw [st6]
    simp only [h1, repE, decide_false] <;> rfl
  | succ m ih =>
    intro j fs hs0 hlo hj
    have hx_ := big_le hx
    have hy_ := big_le hy
    have h1 : ((j : Int) < (xs.length : Int)) := by omega
    have ub : (0 : Int) ≤ ((j : Nat) : Int) ∧ ((j : Nat) : Int) < (xs.length : Int) := by omega
    have uq : xs[Int.toNat ((j : Nat) : Int)]? = some (xs.getD (j) noLine) := getI (by omega)
    have up : xs[j]? = some (xs.getD (j) noLine) := getI2 (by omega)
    have hfl : fs.length + 1 ≤ 1099511627776 := by omega
    have wn : IntKind.i64.wrap ((j : Int) + 1) = ((j + 1 : Nat) : Int) := wrapN (by omega) (by omega)
    rw [st6]
    simp only [h1, wn, ub, uq, up, hfl, and_self, decide_true, Bool.and_true, Int.le_refl]
    rw [repE_succ]
    have eo : (⟨(xs.getD j noLine).p, 1065353216, (xs.getD j noLine).w, (xs.getD j noLine).k⟩ : LineV) = oneL (xs.getD j noLine) := rfl
    have e1 : Nat.ble 1 [oneL (xs.getD j noLine)].length = true := rfl
    have e2 : Nat.ble (([] : List Nat).length + ys.length) big = true := by rw [List.length_nil, Nat.zero_add]; exact hy
    have e3 : [oneL (xs.getD j noLine)].getD 0 noLine = oneL (xs.getD j noLine) := rfl
    have e4 : repE (atF (oneL (xs.getD j noLine)) b d) ys.length 0 [] = atRow (oneL (xs.getD j noLine)) b d ys.length := rfl
    have e5 : fitG xs b d ys.length j fs = match atRow (oneL (xs.getD j noLine)) b d ys.length with
      | some r => some (fs ++ [r])
      | none => none := rfl
    simp only [eo, hy, e1, e2, e3, e4, e5, Bool.and_self, Bool.true_and]
    cases hr : atRow (oneL (xs.getD j noLine)) b d ys.length with
    | none => rfl
    | some r =>
      simp only [hfl, List.length_singleton, decide_true]
      exact ih (j + 1) (fs ++ [r]) (by simp; omega) (by omega) (by omega)

theorem lk6 : LOK T6 a6 l6 Try.f6.ntmps (loopAt Try.f6 0) := by
  intro ins outs hA s k out h
  have hA' : ([0, 1, 2, 3, 10, 39, 40], [0, 1, 10]) = (ins, outs) := Option.some.inj ((show a6.lp (firstRegion (loopAt Try.f6 0)) = some ([0, 1, 2, 3, 10, 39, 40], [0, 1, 10]) by kernel_rfl).symm.trans hA)
  cases hA'
  have hk : firstRegion (loopAt Try.f6 0) = 5 := by kernel_rfl
  rw [hk] at h
  change lp6 s k = some out at h
  unfold lp6 at h
  split at h
  · rename_i xs ys b d n i fs
    cases hg : (decide (n = (xs.length : Int)) && (decide (i = 0) && (Nat.ble xs.length big && (Nat.ble ys.length big && Nat.ble (fs.length + xs.length) big)))) with
    | false => rw [hg] at h; cases h
    | true =>
      rw [hg] at h
      simp only [Bool.and_eq_true, decide_eq_true_eq] at hg
      obtain ⟨rfl, rfl, hx, hy, gs0⟩ := hg
      refine ⟨(xs.length) + 1, ?_⟩
      have hx_ := big_le hx
      have hy_ := big_le hy
      have gs0_ := big_le gs0
      exact (ind6 xs ys b d hx hy k (xs.length) 0 fs (by omega) (by omega) (by omega)).trans h
  · cases h
theorem st6_1 (xs : List LineV) (ys : List Nat) (b : Nat) (d : Nat) (n : Int) (i : Int) (n2 : Int) (q : Int) (fs : List ((List Nat))) (ln : List LineV) (rs : List Nat) (m : Nat) (k : Ex → St → R) : iterK a6 [0, 1, 2, 3, 10, 12, 13, 39, 40, 50, 51] [0, 1, 2, 3, 10, 13, 39, 40] (codeK T6 a6 l6 Try.f6.ntmps (loopAt Try.f6 1)) (m + 1) ⟨[(0, .fv (.vw (some 0) ⟨.line, xs⟩)), (1, .fv (.vw (some 1) ⟨.f32, ys⟩)), (2, .fv (.el (.sc (.fl .f32 b)))), (3, .fv (.el (.sc (.fl .f32 d)))), (10, .fv (.own 0)), (12, .fv (.pt ⟨.r 1, 4, 0, 0⟩)), (13, .fv (.own 2)), (39, .fv (.el (.sc (.int .i64 n)))), (40, .fv (.el (.sc (.int .i64 i)))), (50, .fv (.el (.sc (.int .i64 n2)))), (51, .fv (.el (.sc (.int .i64 q))))], [some ⟨23, ⟨.lf, fs⟩⟩, some ⟨38, ⟨.line, ln⟩⟩, some ⟨24, ⟨.f32, rs⟩⟩]⟩ k = (match (decide ((q : Int) < n2) : Bool) with
  | true => (match (ln : List LineV)[0]? with
    | some x1 => (match (!(lineOk x1 (placeAt b d q)) : Bool) with
      | true => k .ret ⟨[(8, .fv (.nil)), (9, .fv (.el (.sc (.bo false))))], []⟩
      | false => (match (Nat.beq 24 24 && decide ((rs : List Nat).length + ([orZero (lineOk x1 (placeAt b d q)) (lineV x1 (placeAt b d q))] : List Nat).length ≤ 1099511627776) : Bool) with
        | true => iterK a6 [0, 1, 2, 3, 10, 12, 13, 39, 40, 50, 51] [0, 1, 2, 3, 10, 13, 39, 40] (codeK T6 a6 l6 Try.f6.ntmps (loopAt Try.f6 1)) m ⟨[(0, .fv (.vw (some 0) ⟨.line, xs⟩)), (1, .fv (.vw (some 1) ⟨.f32, ys⟩)), (2, .fv (.el (.sc (.fl .f32 b)))), (3, .fv (.el (.sc (.fl .f32 d)))), (10, .fv (.own 0)), (12, .fv (.pt ⟨.r 1, 4, 0, 0⟩)), (13, .fv (.own 2)), (39, .fv (.el (.sc (.int .i64 n)))), (40, .fv (.el (.sc (.int .i64 i)))), (50, .fv (.el (.sc (.int .i64 n2)))), (51, .fv (.el (.sc (.int .i64 (IntKind.i64.wrap (q + 1))))))], [some ⟨23, ⟨.lf, fs⟩⟩, some ⟨38, ⟨.line, ln⟩⟩, some ⟨24, ⟨.f32, (rs : List Nat) ++ ([orZero (lineOk x1 (placeAt b d q)) (lineV x1 (placeAt b d q))])⟩⟩]⟩ k
        | false => none))
    | none => none)
  | false => k (.exit 2) ⟨[(0, .fv (.vw (some 0) ⟨.line, xs⟩)), (1, .fv (.vw (some 1) ⟨.f32, ys⟩)), (2, .fv (.el (.sc (.fl .f32 b)))), (3, .fv (.el (.sc (.fl .f32 d)))), (10, .fv (.own 0)), (13, .fv (.own 1)), (39, .fv (.el (.sc (.int .i64 n)))), (40, .fv (.el (.sc (.int .i64 i))))], [some ⟨23, ⟨.lf, fs⟩⟩, some ⟨24, ⟨.f32, rs⟩⟩]⟩) := by kernel_rfl
theorem ind6_1 (xs : List LineV) (ys : List Nat) (b : Nat) (d : Nat) (n : Int) (i : Int) (fs : List ((List Nat))) (ln : List LineV) (hy : (Nat.ble ys.length big) = true) (l1 : (Nat.ble 1 ln.length) = true) (k : Ex → St → R) : ∀ (m j : Nat) (rs : List Nat), rs.length + m ≤ 1099511627776 → 0 ≤ j → j + m = ys.length → iterK a6 [0, 1, 2, 3, 10, 12, 13, 39, 40, 50, 51] [0, 1, 2, 3, 10, 13, 39, 40] (codeK T6 a6 l6 Try.f6.ntmps (loopAt Try.f6 1)) (m + 1) ⟨[(0, .fv (.vw (some 0) ⟨.line, xs⟩)), (1, .fv (.vw (some 1) ⟨.f32, ys⟩)), (2, .fv (.el (.sc (.fl .f32 b)))), (3, .fv (.el (.sc (.fl .f32 d)))), (10, .fv (.own 0)), (12, .fv (.pt ⟨.r 1, 4, 0, 0⟩)), (13, .fv (.own 2)), (39, .fv (.el (.sc (.int .i64 n)))), (40, .fv (.el (.sc (.int .i64 i)))), (50, .fv (.el (.sc (.int .i64 (ys.length : Int))))), (51, .fv (.el (.sc (.int .i64 (j : Int)))))], [some ⟨23, ⟨.lf, fs⟩⟩, some ⟨38, ⟨.line, ln⟩⟩, some ⟨24, ⟨.f32, rs⟩⟩]⟩ k =
    (match repE (atF (ln.getD 0 noLine) b d) m j (rs : (List Nat)) with
    | some s => k (.exit 2) ⟨[(0, .fv (.vw (some 0) ⟨.line, xs⟩)), (1, .fv (.vw (some 1) ⟨.f32, ys⟩)), (2, .fv (.el (.sc (.fl .f32 b)))), (3, .fv (.el (.sc (.fl .f32 d)))), (10, .fv (.own 0)), (13, .fv (.own 1)), (39, .fv (.el (.sc (.int .i64 n)))), (40, .fv (.el (.sc (.int .i64 i))))], [some ⟨23, ⟨.lf, fs⟩⟩, some ⟨24, ⟨.f32, s⟩⟩]⟩
    | none => k .ret ⟨[(8, .fv (.nil)), (9, .fv (.el (.sc (.bo false))))], []⟩) := by
  intro m
  induction m with
  | zero =>
    intro j rs hs0 hlo hj
    have hy_ := big_le hy
    have l1_ := Nat.le_of_ble_eq_true l1
    have h1 : ¬ (((j : Int) < (ys.length : Int))) := by omega
    rw [st6_1]
    simp only [h1, repE, decide_false] <;> rfl
  | succ m ih =>
    intro j rs hs0 hlo hj
    have hy_ := big_le hy
    have l1_ := Nat.le_of_ble_eq_true l1
    have h1 : ((j : Int) < (ys.length : Int)) := by omega
    have lq : ln[0]? = some (ln.getD 0 noLine) := getI2 (by omega)
    have hrl : rs.length + 1 ≤ 1099511627776 := by omega
    have hbq : Nat.beq 24 24 = true := rfl
    have wn : IntKind.i64.wrap ((j : Int) + 1) = ((j + 1 : Nat) : Int) := wrapN (by omega) (by omega)
    rw [st6_1]
    simp only [h1, wn, lq, hrl, hbq, and_self, decide_true, Bool.and_true, Int.le_refl]
    rw [repE_succ]
    have e5 : atF (ln.getD 0 noLine) b d j rs = bif lineOk (ln.getD 0 noLine) (placeAt b d (j : Int)) then some (rs ++ [lineV (ln.getD 0 noLine) (placeAt b d (j : Int))]) else none := rfl
    rw [e5]
    cases hf : lineOk (ln.getD 0 noLine) (placeAt b d (j : Int)) with
    | false => rfl
    | true =>
      simp only [orZero, hrl, List.length_singleton, decide_true, Bool.not_true, Bool.and_self, cond_true]
      exact ih (j + 1) (rs ++ [lineV (ln.getD 0 noLine) (placeAt b d (j : Int))]) (by simp; omega) (by omega) (by omega)

theorem lk6_1 : LOK T6 a6 l6 Try.f6.ntmps (loopAt Try.f6 1) := by
  intro ins outs hA s k out h
  have hA' : ([0, 1, 2, 3, 10, 12, 13, 39, 40, 50, 51], [0, 1, 2, 3, 10, 13, 39, 40]) = (ins, outs) := Option.some.inj ((show a6.lp (firstRegion (loopAt Try.f6 1)) = some ([0, 1, 2, 3, 10, 12, 13, 39, 40, 50, 51], [0, 1, 2, 3, 10, 13, 39, 40]) by kernel_rfl).symm.trans hA)
  cases hA'
  have hk : firstRegion (loopAt Try.f6 1) = 11 := by kernel_rfl
  rw [hk] at h
  change lp6_1 s k = some out at h
  unfold lp6_1 at h
  split at h
  · rename_i xs ys b d n i n2 q fs ln rs
    cases hg : (decide (n2 = (ys.length : Int)) && (decide (q = 0) && (Nat.ble ys.length big && (Nat.ble 1 ln.length && Nat.ble (rs.length + ys.length) big)))) with
    | false => rw [hg] at h; cases h
    | true =>
      rw [hg] at h
      simp only [Bool.and_eq_true, decide_eq_true_eq] at hg
      obtain ⟨rfl, rfl, hy, l1, gs0⟩ := hg
      refine ⟨(ys.length) + 1, ?_⟩
      have hy_ := big_le hy
      have l1_ := Nat.le_of_ble_eq_true l1
      have gs0_ := big_le gs0
      exact (ind6_1 xs ys b d n i fs ln hy l1 k (ys.length) 0 rs (by omega) (by omega) (by omega)).trans h
  · cases h
theorem st6_2 (n : Int) (i : Int) (hs : List Nat) (zs : List LineV) (m : Nat) (k : Ex → St → R) : iterK a6 [17, 19, 88, 89] [19] (codeK T6 a6 l6 Try.f6.ntmps (loopAt Try.f6 2)) (m + 1) ⟨[(17, .fv (.own 0)), (19, .fv (.own 1)), (88, .fv (.el (.sc (.int .i64 n)))), (89, .fv (.el (.sc (.int .i64 i))))], [some ⟨24, ⟨.f32, hs⟩⟩, some ⟨38, ⟨.line, zs⟩⟩]⟩ k = (match (decide ((i : Int) < n) : Bool) with
  | true => (match (decide (0 ≤ (i : Int) ∧ (i : Int) < (hs.length : Int)) && true : Bool) with
    | true => (match (hs : List Nat)[Int.toNat i]? with
      | some x1 => (match (decide (0 ≤ (i : Int) ∧ (i : Int) < (zs.length : Int)) && true : Bool) with
        | true => (match (zs : List LineV)[Int.toNat i]? with
          | some x2 => iterK a6 [17, 19, 88, 89] [19] (codeK T6 a6 l6 Try.f6.ntmps (loopAt Try.f6 2)) m ⟨[(17, .fv (.own 0)), (19, .fv (.own 1)), (88, .fv (.el (.sc (.int .i64 n)))), (89, .fv (.el (.sc (.int .i64 (IntKind.i64.wrap (i + 1))))))], [some ⟨24, ⟨.f32, hs⟩⟩, some ⟨38, ⟨.line, (zs : List LineV).set (Int.toNat i) ((⟨x2.p, x1, x2.w, x2.k⟩ : LineV))⟩⟩]⟩ k
          | none => none)
        | false => none)
      | none => none)
    | false => none)
  | false => k (.exit 4) ⟨[(19, .fv (.own 0))], [some ⟨38, ⟨.line, zs⟩⟩]⟩) := by kernel_rfl
theorem ind6_2 (hs : List Nat) (hx : (Nat.ble hs.length big) = true) (k : Ex → St → R) : ∀ (m j : Nat) (zs : List LineV), zs.length = hs.length → 0 ≤ j → j + m = hs.length → iterK a6 [17, 19, 88, 89] [19] (codeK T6 a6 l6 Try.f6.ntmps (loopAt Try.f6 2)) (m + 1) ⟨[(17, .fv (.own 0)), (19, .fv (.own 1)), (88, .fv (.el (.sc (.int .i64 (hs.length : Int))))), (89, .fv (.el (.sc (.int .i64 (j : Int)))))], [some ⟨24, ⟨.f32, hs⟩⟩, some ⟨38, ⟨.line, zs⟩⟩]⟩ k =
    k (.exit 4) ⟨[(19, .fv (.own 0))], [some ⟨38, ⟨.line, rep (setF hs) m j (zs : (List LineV))⟩⟩]⟩ := by
  intro m
  induction m with
  | zero =>
    intro j zs hs0 hlo hj
    have hx_ := big_le hx
    have h1 : ¬ (((j : Int) < (hs.length : Int))) := by omega
    rw [st6_2]
    simp only [h1, rep, decide_false] <;> rfl
  | succ m ih =>
    intro j zs hs0 hlo hj
    have hx_ := big_le hx
    have h1 : ((j : Int) < (hs.length : Int)) := by omega
    have hb : (0 : Int) ≤ ((j : Nat) : Int) ∧ ((j : Nat) : Int) < (hs.length : Int) := by omega
    have hq : hs[Int.toNat ((j : Nat) : Int)]? = some (hs.getD (j) 0) := getI (by omega)
    have hp : hs[j]? = some (hs.getD (j) 0) := getI2 (by omega)
    have zl : j < zs.length := by omega
    have zb : (0 : Int) ≤ ((j : Nat) : Int) ∧ ((j : Nat) : Int) < (zs.length : Int) := by omega
    have zq : zs[Int.toNat ((j : Nat) : Int)]? = some (zs.getD (j) noLine) := getI (by omega)
    have zp : zs[j]? = some (zs.getD (j) noLine) := getI2 (by omega)
    have wn : IntKind.i64.wrap ((j : Int) + 1) = ((j + 1 : Nat) : Int) := wrapN (by omega) (by omega)
    rw [st6_2]
    simp only [h1, wn, hb, hq, hp, zl, zb, zq, zp, and_self, decide_true, Bool.and_true, Int.le_refl]
    exact ih (j + 1) (setF hs j zs) (by simpa [setF] using hs0) (by omega) (by omega)

theorem lk6_2 : LOK T6 a6 l6 Try.f6.ntmps (loopAt Try.f6 2) := by
  intro ins outs hA s k out h
  have hA' : ([17, 19, 88, 89], [19]) = (ins, outs) := Option.some.inj ((show a6.lp (firstRegion (loopAt Try.f6 2)) = some ([17, 19, 88, 89], [19]) by kernel_rfl).symm.trans hA)
  cases hA'
  have hk : firstRegion (loopAt Try.f6 2) = 25 := by kernel_rfl
  rw [hk] at h
  change lp6_2 s k = some out at h
  unfold lp6_2 at h
  split at h
  · rename_i n i hs zs
    cases hg : (decide (n = (hs.length : Int)) && (decide (i = 0) && (Nat.ble hs.length big && Nat.beq zs.length hs.length))) with
    | false => rw [hg] at h; cases h
    | true =>
      rw [hg] at h
      simp only [Bool.and_eq_true, decide_eq_true_eq] at hg
      obtain ⟨rfl, rfl, hx, gs0⟩ := hg
      refine ⟨(hs.length) + 1, ?_⟩
      have hx_ := big_le hx
      have gs0_ := Nat.eq_of_beq_eq_true gs0
      exact (ind6_2 hs hx k (hs.length) 0 zs (by omega) (by omega) (by omega)).trans h
  · cases h
theorem e6 (xs : List LineV) (ys : List Nat) (b : Nat) (d : Nat) : runFn T6 a6 l6 Try.f6 [.vw none ⟨.line, xs⟩, .vw none ⟨.f32, ys⟩, .el (.sc (.fl .f32 b)), .el (.sc (.fl .f32 d))] = (match (Nat.ble xs.length big && Nat.ble ys.length big : Bool) with
  | true => (match (!(linesOk xs && (listOk ys 1 && (fin b && fin d))) : Bool) with
    | true => some ⟨[.nil, .el (.sc (.bo false))], none⟩
    | false => (match (decide (((xs.length : Int) : Int) < 1) : Bool) with
      | true => some ⟨[.nil, .el (.sc (.bo false))], none⟩
      | false => (match (decide (((xs.length : Int) : Int) > 6) : Bool) with
        | true => some ⟨[.nil, .el (.sc (.bo false))], none⟩
        | false => (match ((decide (((xs.length : Int)) = (xs.length : Int)) && (decide (0 = 0) && (Nat.ble xs.length big && (Nat.ble ys.length big && Nat.ble ((([] : List (List Nat)) : List ((List Nat))).length + xs.length) big)))) : Bool) with
          | true => (match repE (fitG xs b d ys.length) (xs.length) 0 ((([] : List (List Nat)) : List ((List Nat))) : (List (List Nat))) with
            | some s => (match (rowsFit s ys : Bool) with
              | true => (match (sqOk (gram s ys) : Bool) with
                | true => (match solveL (gram s ys) with
                  | some l => (match (Nat.beq 38 38 && decide (([] : List LineV).length + (xs : List LineV).length ≤ 1099511627776) : Bool) with
                    | true => (match ((decide ((((([] : List LineV) ++ xs).length : Int)) = ((l : List Nat).length : Int)) && (decide (0 = 0) && (Nat.ble (l : List Nat).length big && Nat.beq (([] : List LineV) ++ xs : List LineV).length (l : List Nat).length))) : Bool) with
                      | true => (match (Nat.ble (rep (setF (l : List Nat)) ((l : List Nat).length) 0 ((([] : List LineV) ++ xs : List LineV) : (List LineV))).length big : Bool) with
                        | true => (match (!(linesOk (rep (setF (l : List Nat)) ((l : List Nat).length) 0 ((([] : List LineV) ++ xs : List LineV) : (List LineV)))) : Bool) with
                          | true => some ⟨[.nil, .el (.sc (.bo false))], none⟩
                          | false => some ⟨[.fresh 38 ⟨.line, rep (setF (l : List Nat)) ((l : List Nat).length) 0 ((([] : List LineV) ++ xs : List LineV) : (List LineV))⟩, .el (.sc (.bo true))], none⟩)
                        | false => none)
                      | false => none)
                    | false => none)
                  | none => some ⟨[.nil, .el (.sc (.bo false))], none⟩)
                | false => none)
              | false => none)
            | none => some ⟨[.nil, .el (.sc (.bo false))], none⟩)
          | false => none))))
  | false => none) := by kernel_rfl
theorem s6 (xs : List LineV) (ys : List Nat) (b : Nat) (d : Nat) (hg : (Nat.ble xs.length big && Nat.ble ys.length big) = true) : runFn T6 a6 l6 Try.f6 [.vw none ⟨.line, xs⟩, .vw none ⟨.f32, ys⟩, .el (.sc (.fl .f32 b)), .el (.sc (.fl .f32 d))] = (match (fhOk xs ys b d : Bool) with
  | true => some ⟨[.fresh 38 ⟨.line, fhX xs ys b d⟩, .el (.sc (.bo true))], none⟩
  | false => some ⟨[.nil, .el (.sc (.bo false))], none⟩) := by
  rw [e6]
  have hg2 := hg
  rw [Bool.and_eq_true] at hg2
  rw [hg]
  cases c1 : linesOk xs with
  | false =>
    have : linesIn xs 1 6 = false := by
      cases h : linesIn xs 1 6 with
      | false => rfl
      | true => rw [(linesIn_of h).1] at c1; cases c1
    rw [fhOk_none (fhL_out (by rw [this]; rfl))]
    rfl
  | true =>
  cases c2 : listOk ys 1 with
  | false =>
    rw [fhOk_none (fhL_out (by rw [c2, Bool.and_false]))]
    rfl
  | true =>
  by_cases c3 : xs.length < 1 ∨ 6 < xs.length
  · have : linesIn xs 1 6 = false := by
      cases h : linesIn xs 1 6 with
      | false => rfl
      | true => have := linesIn_of h; omega
    rw [fhOk_none (fhL_out (by rw [this]; rfl))]
    rcases c3 with c3 | c3
    · have e1 : decide ((xs.length : Int) < 1) = true := decide_eq_true (by omega)
      cases fin b <;> cases fin d <;> simp only [e1, Bool.and_self, Bool.and_true, Bool.and_false, Bool.not_true, Bool.not_false]
    · have e1 : decide ((xs.length : Int) < 1) = false := decide_eq_false (by omega)
      have e2 : decide ((xs.length : Int) > 6) = true := decide_eq_true (by omega)
      cases fin b <;> cases fin d <;> simp only [e1, e2, Bool.and_self, Bool.and_true, Bool.and_false, Bool.not_true, Bool.not_false]
  · have hin : linesIn xs 1 6 = true := by rw [linesIn_ok (by omega) (by omega)]; exact c1
    have hL0 := fhL_spec (b := b) (d := d) hin c2
    have hy : ys.length ≤ 128 := by
      unfold listOk at c2
      simp only [Bool.and_eq_true, decide_eq_true_eq] at c2
      omega
    cases c4 : (fin b && fin d) with
    | false =>
      rw [c4] at hL0
      rw [fhOk_none hL0]
      rfl
    | true =>
      have e1 : decide ((xs.length : Int) < 1) = false := decide_eq_false (by omega)
      have e2 : decide ((xs.length : Int) > 6) = false := decide_eq_false (by omega)
      have e3 : decide ((xs.length : Int) = (xs.length : Int)) = true := decide_eq_true rfl
      have e4 : decide ((0 : Int) = 0) = true := rfl
      have e5 : Nat.ble (([] : List (List Nat)).length + xs.length) big = true := by rw [List.length_nil, Nat.zero_add]; exact hg2.1
      have er := fitG_run xs b d ys.length
      simp only [e1, e2, e3, e4, e5, er, hg2.1, hg2.2, Bool.and_self, Bool.not_true]
      rw [c4, Bool.true_and] at hL0
      cases c5 : xs.all (fun l => rowAll (oneL l) b d ys.length) with
      | false =>
        rw [c5] at hL0
        rw [fhOk_none hL0]
        rfl
      | true =>
      rw [c5] at hL0
      have hfit := rowV_fit (xs := xs) (ys := ys) (b := b) (d := d) (by omega) hy
      have hlen : (xs.map fun l => rowV (oneL l) b d ys.length).length = xs.length := List.length_map _
      have hL : fhL xs ys b d = solveL (gram (xs.map fun l => rowV (oneL l) b d ys.length) ys) := hL0
      simp only [cond_true]
      generalize (xs.map fun l => rowV (oneL l) b d ys.length) = s at *
      have n0 : 1 ≤ s.length := by omega
      have n6 : s.length ≤ 6 := by omega
      have q1 := gram_sq ys n0 n6
      simp only [hfit, q1]
      cases hs : solveL (gram s ys) with
      | none =>
        rw [fhOk_none (hL.trans hs)]
        simp
      | some l =>
        obtain ⟨k1, k2⟩ := fhOk_some (hL.trans hs)
        have hll : l.length = xs.length := by
          rw [solveL_len hs q1, gram_len]
          exact hlen
        have r1 : Nat.ble l.length big = true := big_of (by omega)
        have r2 : rep (setF l) l.length 0 xs = setH xs l := rfl
        have r3 : (setH xs l).length = xs.length := setH_len xs l
        have r4 : Nat.ble (setH xs l).length big = true := big_of (by omega)
        have r5 : Nat.beq xs.length l.length = true := by rw [hll]; exact Nat.beq_refl _
        have r6 : decide ((xs.length : Int) = (l.length : Int)) = true := decide_eq_true (by omega)
        have r7 : decide ((0 : Int) = 0) = true := rfl
        have r8 : decide (xs.length ≤ 1099511627776) = true := decide_eq_true (by omega)
        have r9 : Nat.beq 38 38 = true := rfl
        simp only [List.nil_append, List.length_nil, Nat.zero_add, r1, r2, r4, r5, r6, r7, r8, r9, Bool.and_self]
        rw [k1, k2]
        cases linesOk (setH xs l) <;> simp
theorem c6 (xs : List LineV) (ys : List Nat) (b : Nat) (d : Nat) (k : List RV → R) (out : Out) (h : (match (Nat.ble xs.length big && Nat.ble ys.length big : Bool) with
  | true => k [.fresh 38 ⟨.line, orNil (fhOk xs ys b d) (fhX xs ys b d)⟩, .el (.sc (.bo (fhOk xs ys b d)))]
  | false => none) = some out) : ∃ rs, Real Try.prog 6 ∧ COK Try.prog 6 [.vw none ⟨.line, xs⟩, .vw none ⟨.f32, ys⟩, .el (.sc (.fl .f32 b)), .el (.sc (.fl .f32 d))] rs ∧ k rs = some out := by
  cases g0 : (Nat.ble xs.length big && Nat.ble ys.length big : Bool) with
  | false =>
    rw [g0] at h
    cases h
  | true =>
    rw [g0] at h
    dsimp only at h
    cases g1 : (fhOk xs ys b d : Bool) with
    | true =>
      rw [g1] at h
      exact ⟨_, real Try.func6 (by kernel_rfl), fn_ok tok6 (A := a6) (L := l6) (r := none) Try.func6 (by kernel_rfl) (by kernel_rfl) (loops3 (by kernel_rfl) lk6 lk6_1 lk6_2) (by rw [s6 _ _ _ _ g0, g1]; rfl), h⟩
    | false =>
      rw [g1] at h
      exact ⟨_, real Try.func6 (by kernel_rfl), COK.nil (fn_ok tok6 (A := a6) (L := l6) (r := none) Try.func6 (by kernel_rfl) (by kernel_rfl) (loops3 (by kernel_rfl) lk6 lk6_1 lk6_2) (by rw [s6 _ _ _ _ g0, g1] <;> rfl)), h⟩

/-! impl.areLines$1 -/
theorem s47 (lp : Nat) (lh : Nat) (lw : Nat) (lk : Int) : runFn T6 none0 noL Try.f47 [.el (.ag [(.fl .f32 lp), (.fl .f32 lh), (.fl .f32 lw), (.int .i64 lk)])] = some ⟨[.el (.sc (.bo (notLine ((⟨lp, lh, lw, lk⟩ : LineV)))))], none⟩ := by kernel_rfl
theorem c47 (lp : Nat) (lh : Nat) (lw : Nat) (lk : Int) (k : List RV → R) (out : Out) (h : k [.el (.sc (.bo (notLine ((⟨lp, lh, lw, lk⟩ : LineV)))))] = some out) : ∃ rs, Real Try.prog 47 ∧ COK Try.prog 47 [.el (.ag [(.fl .f32 lp), (.fl .f32 lh), (.fl .f32 lw), (.int .i64 lk)])] rs ∧ k rs = some out := by
  exact ⟨_, real Try.func47 (by kernel_rfl), fn_ok tok6 (A := none0) (L := noL) (r := none) Try.func47 (by kernel_rfl) (by kernel_rfl) (loops0 (by kernel_rfl)) (by rw [s47]), h⟩

/-! impl.LineAt -/
theorem e60 (lp : Nat) (lh : Nat) (lw : Nat) (lk : Int) (x : Nat) : runFn T6 none0 noL Try.f60 [.el (.ag [(.fl .f32 lp), (.fl .f32 lh), (.fl .f32 lw), (.int .i64 lk)]), .el (.sc (.fl .f32 x))] = (match (!(okLine ((⟨lp, lh, lw, lk⟩ : LineV))) : Bool) with
  | true => some ⟨[.el (.sc (.fl .f32 0)), .el (.sc (.bo false))], none⟩
  | false => (match (!(fin x) : Bool) with
    | true => some ⟨[.el (.sc (.fl .f32 0)), .el (.sc (.bo false))], none⟩
    | false => some ⟨[.el (.sc (.fl .f32 (numOf (lineV ((⟨lp, lh, lw, lk⟩ : LineV)) x)))), .el (.sc (.bo (fin (lineV ((⟨lp, lh, lw, lk⟩ : LineV)) x))))], none⟩)) := by kernel_rfl
theorem s60 (lp : Nat) (lh : Nat) (lw : Nat) (lk : Int) (x : Nat) : runFn T6 none0 noL Try.f60 [.el (.ag [(.fl .f32 lp), (.fl .f32 lh), (.fl .f32 lw), (.int .i64 lk)]), .el (.sc (.fl .f32 x))] = some ⟨[.el (.sc (.fl .f32 (orZero (lineOk ((⟨lp, lh, lw, lk⟩ : LineV)) x) (lineV ((⟨lp, lh, lw, lk⟩ : LineV)) x)))), .el (.sc (.bo (lineOk ((⟨lp, lh, lw, lk⟩ : LineV)) x)))], none⟩ := by
  rw [e60]
  unfold lineOk orZero numOf
  cases okLine (⟨lp, lh, lw, lk⟩ : LineV) <;> cases fin x <;> cases fin (lineV (⟨lp, lh, lw, lk⟩ : LineV) x) <;> rfl
theorem c60 (lp : Nat) (lh : Nat) (lw : Nat) (lk : Int) (x : Nat) (k : List RV → R) (out : Out) (h : k [.el (.sc (.fl .f32 (orZero (lineOk ((⟨lp, lh, lw, lk⟩ : LineV)) x) (lineV ((⟨lp, lh, lw, lk⟩ : LineV)) x)))), .el (.sc (.bo (lineOk ((⟨lp, lh, lw, lk⟩ : LineV)) x)))] = some out) : ∃ rs, Real Try.prog 60 ∧ COK Try.prog 60 [.el (.ag [(.fl .f32 lp), (.fl .f32 lh), (.fl .f32 lw), (.int .i64 lk)]), .el (.sc (.fl .f32 x))] rs ∧ k rs = some out := by
  exact ⟨_, real Try.func60 (by kernel_rfl), fn_ok tok6 (A := none0) (L := noL) (r := none) Try.func60 (by kernel_rfl) (by kernel_rfl) (loops0 (by kernel_rfl)) (by rw [s60]), h⟩

def S7 : SFn := fun f args k => match f, args with
  | 6, [.vw none ⟨.line, xs⟩, .vw none ⟨.f32, ys⟩, .el (.sc (.fl .f32 b)), .el (.sc (.fl .f32 d))] => (match (Nat.ble xs.length big && Nat.ble ys.length big : Bool) with
    | true => k [.fresh 38 ⟨.line, orNil (fhOk xs ys b d) (fhX xs ys b d)⟩, .el (.sc (.bo (fhOk xs ys b d)))]
    | false => none)
  | 47, [.el (.ag [(.fl .f32 lp), (.fl .f32 lh), (.fl .f32 lw), (.int .i64 lk)])] => k [.el (.sc (.bo (notLine ((⟨lp, lh, lw, lk⟩ : LineV)))))]
  | 60, [.el (.ag [(.fl .f32 lp), (.fl .f32 lh), (.fl .f32 lw), (.int .i64 lk)]), .el (.sc (.fl .f32 x))] => k [.el (.sc (.fl .f32 (orZero (lineOk ((⟨lp, lh, lw, lk⟩ : LineV)) x) (lineV ((⟨lp, lh, lw, lk⟩ : LineV)) x)))), .el (.sc (.bo (lineOk ((⟨lp, lh, lw, lk⟩ : LineV)) x)))]
  | _, _ => S6 f args k
abbrev M7 : MFn := M6
def T7 : TT := tab.T S7 muts M7
theorem tok7 : TOK Try.prog T7 := by
  refine (tab_ok tabok).tok (fun f args k out h => ?_) (fun f vec args k out h => ?_)
  · change S7 f args k = some out at h
    unfold S7 at h
    split at h
    · exact (fun k out h => cok_call (c6 _ _ _ _ k out h)) k out h
    · exact (fun k out h => cok_call (c47 _ _ _ _ k out h)) k out h
    · exact (fun k out h => cok_call (c60 _ _ _ _ _ k out h)) k out h
    · exact tok6.S f args k out h
  · exact tok6.M f vec args k out h

end Go.Sm.Ytpckpfbjhnllbaa
