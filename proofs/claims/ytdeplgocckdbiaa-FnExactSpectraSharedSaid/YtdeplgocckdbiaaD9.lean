/- What the functions hand back: level 8. -/
import Derived.Test.YtdeplgocckdbiaaD8
namespace Go.Sm.Ytdeplgocckdbiaa
open Go Go.Sm Go.RowKit Go.Proofs

/-! spec.SpectraShared -/
def a55 : Ann := ann [(5, [0, 1, 2, 3, 12, 28, 29], [12]), (12, [0, 1, 2, 3, 12, 14, 16, 28, 29, 46, 47], [0, 1, 2, 3, 12, 16, 28, 29])] [10, 11] 0
def lp55 : St → (Ex → St → R) → R := fun s k => match s with
  | ⟨[(0, .fv (.vv none .line xss)), (1, .fv (.el (.sc (.fl .f32 b)))), (2, .fv (.el (.sc (.fl .f32 d)))), (3, .fv (.el (.sc (.int .i64 n)))), (12, .fv (.own 0)), (28, .fv (.el (.sc (.int .i64 c)))), (29, .fv (.el (.sc (.int .i64 i))))], [some ⟨30, ⟨.f32, zs⟩⟩]⟩ => (match ((decide (c = (xss.length : Int)) && (decide (i = 0) && (Nat.ble xss.length big && (xss.all (fun l => Nat.ble l.length big) && Nat.ble ((zs : List Nat).length + xss.length) big)))) : Bool) with
    | true => (match repE (fun j zs => bif spOk (xss.getD j []) b d n && fin (shOne b d n (xss.getD j [])) then some (zs ++ [shOne b d n (xss.getD j [])]) else none) (xss.length) 0 ((zs : List Nat) : (List Nat)) with
      | some s => k (.exit 0) ⟨[(12, .fv (.own 0))], [some ⟨30, ⟨.f32, s⟩⟩]⟩
      | none => k .ret ⟨[(10, .fv (.nil)), (11, .fv (.el (.sc (.bo false))))], []⟩)
    | false => none)
  | _ => none
def lp55_1 : St → (Ex → St → R) → R := fun s k => match s with
  | ⟨[(0, .fv (.vv none .line xss)), (1, .fv (.el (.sc (.fl .f32 b)))), (2, .fv (.el (.sc (.fl .f32 d)))), (3, .fv (.el (.sc (.int .i64 n)))), (12, .fv (.own 0)), (14, .fv (.own 1)), (16, .fv (.el (.sc (.fl .f32 a)))), (28, .fv (.el (.sc (.int .i64 c)))), (29, .fv (.el (.sc (.int .i64 q)))), (46, .fv (.el (.sc (.int .i64 p)))), (47, .fv (.el (.sc (.int .i64 i))))], [some ⟨30, ⟨.f32, zs⟩⟩, some ⟨30, ⟨.f32, ls⟩⟩]⟩ => (match ((decide (p = ((ls : List Nat).length : Int)) && (decide (i = 0) && Nat.ble (ls : List Nat).length big)) : Bool) with
    | true => k (.exit 2) ⟨[(0, .fv (.vv none .line xss)), (1, .fv (.el (.sc (.fl .f32 b)))), (2, .fv (.el (.sc (.fl .f32 d)))), (3, .fv (.el (.sc (.int .i64 n)))), (12, .fv (.own 0)), (16, .fv (.el (.sc (.fl .f32 (rep (fun j a => fop .add .f32 a ((ls : List Nat).getD j 0)) ((ls : List Nat).length) 0 (a : Nat)))))), (28, .fv (.el (.sc (.int .i64 c)))), (29, .fv (.el (.sc (.int .i64 q))))], [some ⟨30, ⟨.f32, (zs : List Nat)⟩⟩]⟩
    | false => none)
  | _ => none
def l55 : Loops := fun key s k => bif Nat.beq key 5 then lp55 s k else bif Nat.beq key 12 then lp55_1 s k else none
theorem st55 (xss : List (List LineV)) (b : Nat) (d : Nat) (n : Int) (c : Int) (i : Int) (zs : List Nat) (m : Nat) (k : Ex → St → R) : iterK a55 [0, 1, 2, 3, 12, 28, 29] [12] (codeK T8 a55 l55 Try.f55.ntmps (loopAt Try.f55 0)) (m + 1) ⟨[(0, .fv (.vv none .line xss)), (1, .fv (.el (.sc (.fl .f32 b)))), (2, .fv (.el (.sc (.fl .f32 d)))), (3, .fv (.el (.sc (.int .i64 n)))), (12, .fv (.own 0)), (28, .fv (.el (.sc (.int .i64 c)))), (29, .fv (.el (.sc (.int .i64 i))))], [some ⟨30, ⟨.f32, zs⟩⟩]⟩ k = (match (decide ((i : Int) < c) : Bool) with
  | true => (match (decide (0 ≤ (i : Int) ∧ (i : Int) < (xss.length : Int)) : Bool) with
    | true => (match (xss : List (List LineV))[Int.toNat i]? with
      | some x1 => (match (Nat.ble x1.length big : Bool) with
        | true => (match (!(spOk x1 b d n) : Bool) with
          | true => k .ret ⟨[(10, .fv (.nil)), (11, .fv (.el (.sc (.bo false))))], []⟩
          | false => (match ((decide ((((orNil (spOk x1 b d n) (spX x1 b d n)).length : Int)) = ((orNil (spOk x1 b d n) (spX x1 b d n) : List Nat).length : Int)) && (decide (0 = 0) && Nat.ble (orNil (spOk x1 b d n) (spX x1 b d n) : List Nat).length big)) : Bool) with
            | true => (match (!(fin (rep (fun j a => fop .add .f32 a ((orNil (spOk x1 b d n) (spX x1 b d n) : List Nat).getD j 0)) ((orNil (spOk x1 b d n) (spX x1 b d n) : List Nat).length) 0 (0 : Nat))) : Bool) with
              | true => k .ret ⟨[(10, .fv (.nil)), (11, .fv (.el (.sc (.bo false))))], []⟩
              | false => (match (Nat.beq 30 30 && decide (((zs : List Nat) : List Nat).length + ([rep (fun j a => fop .add .f32 a ((orNil (spOk x1 b d n) (spX x1 b d n) : List Nat).getD j 0)) ((orNil (spOk x1 b d n) (spX x1 b d n) : List Nat).length) 0 (0 : Nat)] : List Nat).length ≤ 1099511627776) : Bool) with
                | true => iterK a55 [0, 1, 2, 3, 12, 28, 29] [12] (codeK T8 a55 l55 Try.f55.ntmps (loopAt Try.f55 0)) m ⟨[(0, .fv (.vv none .line xss)), (1, .fv (.el (.sc (.fl .f32 b)))), (2, .fv (.el (.sc (.fl .f32 d)))), (3, .fv (.el (.sc (.int .i64 n)))), (12, .fv (.own 0)), (28, .fv (.el (.sc (.int .i64 c)))), (29, .fv (.el (.sc (.int .i64 (IntKind.i64.wrap (i + 1))))))], [some ⟨30, ⟨.f32, ((zs : List Nat) : List Nat) ++ ([rep (fun j a => fop .add .f32 a ((orNil (spOk x1 b d n) (spX x1 b d n) : List Nat).getD j 0)) ((orNil (spOk x1 b d n) (spX x1 b d n) : List Nat).length) 0 (0 : Nat)])⟩⟩]⟩ k
                | false => none))
            | false => none))
        | false => none)
      | none => none)
    | false => none)
  | false => k (.exit 0) ⟨[(12, .fv (.own 0))], [some ⟨30, ⟨.f32, zs⟩⟩]⟩) := by kernel_rfl
theorem ind55 (xss : List (List LineV)) (b : Nat) (d : Nat) (n : Int) (hxx : (Nat.ble xss.length big) = true) (hall : (xss.all (fun l => Nat.ble l.length big)) = true) (k : Ex → St → R) : ∀ (m j : Nat) (zs : List Nat), zs.length + m ≤ 1099511627776 → 0 ≤ j → j + m = xss.length → iterK a55 [0, 1, 2, 3, 12, 28, 29] [12] (codeK T8 a55 l55 Try.f55.ntmps (loopAt Try.f55 0)) (m + 1) ⟨[(0, .fv (.vv none .line xss)), (1, .fv (.el (.sc (.fl .f32 b)))), (2, .fv (.el (.sc (.fl .f32 d)))), (3, .fv (.el (.sc (.int .i64 n)))), (12, .fv (.own 0)), (28, .fv (.el (.sc (.int .i64 (xss.length : Int))))), (29, .fv (.el (.sc (.int .i64 (j : Int)))))], [some ⟨30, ⟨.f32, zs⟩⟩]⟩ k =
    (match repE (fun j zs => bif spOk (xss.getD j []) b d n && fin (shOne b d n (xss.getD j [])) then some (zs ++ [shOne b d n (xss.getD j [])]) else none) m j (zs : (List Nat)) with
    | some s => k (.exit 0) ⟨[(12, .fv (.own 0))], [some ⟨30, ⟨.f32, s⟩⟩]⟩
    | none => k .ret ⟨[(10, .fv (.nil)), (11, .fv (.el (.sc (.bo false))))], []⟩) := by
  intro m
  induction m with
  | zero =>
    intro j zs hs0 hlo hj
    have hxx_ := big_le hxx
    have h1 : ¬ (((j : Int) < (xss.length : Int))) := by omega
    rw [st55]
    simp only [h1, repE, decide_false, List.length_singleton, hall] <;> rfl
  | succ m ih =>
    intro j zs hs0 hlo hj
    have hxx_ := big_le hxx
    have h1 : ((j : Int) < (xss.length : Int)) := by omega
    have hbq : Nat.beq 30 30 = true := rfl
    have hzl : zs.length + 1 ≤ 1099511627776 := by omega
    have lb : (0 : Int) ≤ ((j : Nat) : Int) ∧ ((j : Nat) : Int) < (xss.length : Int) := by omega
    have lq : xss[Int.toNat ((j : Nat) : Int)]? = some (xss.getD j []) := getI3 (by omega)
    have lw : Nat.ble (xss.getD j []).length big = true := all_big hall (by omega)
    have wn : IntKind.i64.wrap ((j : Int) + 1) = ((j + 1 : Nat) : Int) := wrapN (by omega) (by omega)
    rw [st55]
    simp only [h1, wn, hbq, hzl, lb, lq, lw, and_self, decide_true, Bool.and_true, Int.le_refl, List.length_singleton, hall]
    rw [repE_succ]
    have r1 := ih (j + 1) (zs ++ [shOne b d n (xss.getD j [])]) (by simp; omega) (by omega) (by omega)
    cases hf : spOk (xss.getD j []) b d n with
    | true =>
      have hl : Nat.ble (spX (xss.getD j []) b d n).length big = true := big_of (spX_big hf)
      have es := rep_list 0 (fop .add .f32) (spX (xss.getD j []) b d n) (spX (xss.getD j []) b d n).length 0 0 (by omega)
      have es2 : (spX (xss.getD j []) b d n).foldl (fop .add .f32) 0 = shOne b d n (xss.getD j []) := rfl
      rw [List.drop_zero, es2] at es
      simp only [hl, es, orNil, cond_true, hzl, List.length_singleton, decide_true, Bool.and_self, Bool.not_true, Bool.true_and]
      cases hq : fin (shOne b d n (xss.getD j [])) with
      | true => exact r1
      | false => rfl
    | false => rfl

theorem lk55 : LOK T8 a55 l55 Try.f55.ntmps (loopAt Try.f55 0) := by
  intro ins outs hA s k out h
  have hA' : ([0, 1, 2, 3, 12, 28, 29], [12]) = (ins, outs) := Option.some.inj ((show a55.lp (firstRegion (loopAt Try.f55 0)) = some ([0, 1, 2, 3, 12, 28, 29], [12]) by kernel_rfl).symm.trans hA)
  cases hA'
  have hk : firstRegion (loopAt Try.f55 0) = 5 := by kernel_rfl
  rw [hk] at h
  change lp55 s k = some out at h
  unfold lp55 at h
  split at h
  · rename_i xss b d n c i zs
    cases hg : (decide (c = (xss.length : Int)) && (decide (i = 0) && (Nat.ble xss.length big && (xss.all (fun l => Nat.ble l.length big) && Nat.ble (zs.length + xss.length) big)))) with
    | false => rw [hg] at h; cases h
    | true =>
      rw [hg] at h
      simp only [Bool.and_eq_true, decide_eq_true_eq] at hg
      obtain ⟨rfl, rfl, hxx, hall, gs0⟩ := hg
      refine ⟨(xss.length) + 1, ?_⟩
      have hxx_ := big_le hxx
      have gs0_ := big_le gs0
      exact (ind55 xss b d n hxx hall k (xss.length) 0 zs (by omega) (by omega) (by omega)).trans h
  · cases h
theorem st55_1 (xss : List (List LineV)) (b : Nat) (d : Nat) (n : Int) (a : Nat) (c : Int) (q : Int) (p : Int) (i : Int) (zs : List Nat) (ls : List Nat) (m : Nat) (k : Ex → St → R) : iterK a55 [0, 1, 2, 3, 12, 14, 16, 28, 29, 46, 47] [0, 1, 2, 3, 12, 16, 28, 29] (codeK T8 a55 l55 Try.f55.ntmps (loopAt Try.f55 1)) (m + 1) ⟨[(0, .fv (.vv none .line xss)), (1, .fv (.el (.sc (.fl .f32 b)))), (2, .fv (.el (.sc (.fl .f32 d)))), (3, .fv (.el (.sc (.int .i64 n)))), (12, .fv (.own 0)), (14, .fv (.own 1)), (16, .fv (.el (.sc (.fl .f32 a)))), (28, .fv (.el (.sc (.int .i64 c)))), (29, .fv (.el (.sc (.int .i64 q)))), (46, .fv (.el (.sc (.int .i64 p)))), (47, .fv (.el (.sc (.int .i64 i))))], [some ⟨30, ⟨.f32, zs⟩⟩, some ⟨30, ⟨.f32, ls⟩⟩]⟩ k = (match (decide ((i : Int) < p) : Bool) with
  | true => (match (decide (0 ≤ (i : Int) ∧ (i : Int) < (ls.length : Int)) && true : Bool) with
    | true => (match (ls : List Nat)[Int.toNat i]? with
      | some x1 => iterK a55 [0, 1, 2, 3, 12, 14, 16, 28, 29, 46, 47] [0, 1, 2, 3, 12, 16, 28, 29] (codeK T8 a55 l55 Try.f55.ntmps (loopAt Try.f55 1)) m ⟨[(0, .fv (.vv none .line xss)), (1, .fv (.el (.sc (.fl .f32 b)))), (2, .fv (.el (.sc (.fl .f32 d)))), (3, .fv (.el (.sc (.int .i64 n)))), (12, .fv (.own 0)), (14, .fv (.own 1)), (16, .fv (.el (.sc (.fl .f32 (fop .add .f32 a x1))))), (28, .fv (.el (.sc (.int .i64 c)))), (29, .fv (.el (.sc (.int .i64 q)))), (46, .fv (.el (.sc (.int .i64 p)))), (47, .fv (.el (.sc (.int .i64 (IntKind.i64.wrap (i + 1))))))], [some ⟨30, ⟨.f32, zs⟩⟩, some ⟨30, ⟨.f32, ls⟩⟩]⟩ k
      | none => none)
    | false => none)
  | false => k (.exit 2) ⟨[(0, .fv (.vv none .line xss)), (1, .fv (.el (.sc (.fl .f32 b)))), (2, .fv (.el (.sc (.fl .f32 d)))), (3, .fv (.el (.sc (.int .i64 n)))), (12, .fv (.own 0)), (16, .fv (.el (.sc (.fl .f32 a)))), (28, .fv (.el (.sc (.int .i64 c)))), (29, .fv (.el (.sc (.int .i64 q))))], [some ⟨30, ⟨.f32, zs⟩⟩]⟩) := by kernel_rfl
theorem ind55_1 (xss : List (List LineV)) (b : Nat) (d : Nat) (n : Int) (c : Int) (q : Int) (zs : List Nat) (ls : List Nat) (hls : (Nat.ble ls.length big) = true) (k : Ex → St → R) : ∀ (m j : Nat) (a : Nat), 0 ≤ j → j + m = ls.length → iterK a55 [0, 1, 2, 3, 12, 14, 16, 28, 29, 46, 47] [0, 1, 2, 3, 12, 16, 28, 29] (codeK T8 a55 l55 Try.f55.ntmps (loopAt Try.f55 1)) (m + 1) ⟨[(0, .fv (.vv none .line xss)), (1, .fv (.el (.sc (.fl .f32 b)))), (2, .fv (.el (.sc (.fl .f32 d)))), (3, .fv (.el (.sc (.int .i64 n)))), (12, .fv (.own 0)), (14, .fv (.own 1)), (16, .fv (.el (.sc (.fl .f32 a)))), (28, .fv (.el (.sc (.int .i64 c)))), (29, .fv (.el (.sc (.int .i64 q)))), (46, .fv (.el (.sc (.int .i64 (ls.length : Int))))), (47, .fv (.el (.sc (.int .i64 (j : Int)))))], [some ⟨30, ⟨.f32, zs⟩⟩, some ⟨30, ⟨.f32, ls⟩⟩]⟩ k =
    k (.exit 2) ⟨[(0, .fv (.vv none .line xss)), (1, .fv (.el (.sc (.fl .f32 b)))), (2, .fv (.el (.sc (.fl .f32 d)))), (3, .fv (.el (.sc (.int .i64 n)))), (12, .fv (.own 0)), (16, .fv (.el (.sc (.fl .f32 (rep (fun j a => fop .add .f32 a (ls.getD j 0)) m j (a : Nat)))))), (28, .fv (.el (.sc (.int .i64 c)))), (29, .fv (.el (.sc (.int .i64 q))))], [some ⟨30, ⟨.f32, zs⟩⟩]⟩ := by
  intro m
  induction m with
  | zero =>
    intro j a hlo hj
    have hls_ := big_le hls
    have h1 : ¬ (((j : Int) < (ls.length : Int))) := by omega
    rw [st55_1]
    simp only [h1, rep, decide_false] <;> rfl
  | succ m ih =>
    intro j a hlo hj
    have hls_ := big_le hls
    have h1 : ((j : Int) < (ls.length : Int)) := by omega
    have xb : (0 : Int) ≤ ((j : Nat) : Int) ∧ ((j : Nat) : Int) < (ls.length : Int) := by omega
    have xq : ls[Int.toNat ((j : Nat) : Int)]? = some (ls.getD (j) 0) := getI (by omega)
    have xp : ls[j]? = some (ls.getD (j) 0) := getI2 (by omega)
    have wn : IntKind.i64.wrap ((j : Int) + 1) = ((j + 1 : Nat) : Int) := wrapN (by omega) (by omega)
    rw [st55_1]
    simp only [h1, wn, xb, xq, xp, and_self, decide_true, Bool.and_true, Int.le_refl]
    exact ih (j + 1) _ (by omega) (by omega)

theorem lk55_1 : LOK T8 a55 l55 Try.f55.ntmps (loopAt Try.f55 1) := by
  intro ins outs hA s k out h
  have hA' : ([0, 1, 2, 3, 12, 14, 16, 28, 29, 46, 47], [0, 1, 2, 3, 12, 16, 28, 29]) = (ins, outs) := Option.some.inj ((show a55.lp (firstRegion (loopAt Try.f55 1)) = some ([0, 1, 2, 3, 12, 14, 16, 28, 29, 46, 47], [0, 1, 2, 3, 12, 16, 28, 29]) by kernel_rfl).symm.trans hA)
  cases hA'
  have hk : firstRegion (loopAt Try.f55 1) = 12 := by kernel_rfl
  rw [hk] at h
  change lp55_1 s k = some out at h
  unfold lp55_1 at h
  split at h
  · rename_i xss b d n a c q p i zs ls
    cases hg : (decide (p = (ls.length : Int)) && (decide (i = 0) && Nat.ble ls.length big)) with
    | false => rw [hg] at h; cases h
    | true =>
      rw [hg] at h
      simp only [Bool.and_eq_true, decide_eq_true_eq] at hg
      obtain ⟨rfl, rfl, hls⟩ := hg
      refine ⟨(ls.length) + 1, ?_⟩
      have hls_ := big_le hls
      exact (ind55_1 xss b d n c q zs ls hls k (ls.length) 0 a (by omega) (by omega)).trans h
  · cases h
theorem e55 (xss : List (List LineV)) (b : Nat) (d : Nat) (n : Int) (w : Int) : runFn T8 a55 l55 Try.f55 [.vv none .line xss, .el (.sc (.fl .f32 b)), .el (.sc (.fl .f32 d)), .el (.sc (.int .i64 n)), .el (.sc (.int .i64 w))] = (match (decide (((xss.length : Int) : Int) > 8) : Bool) with
  | true => some ⟨[.nil, .el (.sc (.bo false))], none⟩
  | false => (match (!(within w 1 8) : Bool) with
    | true => some ⟨[.nil, .el (.sc (.bo false))], none⟩
    | false => (match ((decide (((xss.length : Int)) = (xss.length : Int)) && (decide (0 = 0) && (Nat.ble xss.length big && (xss.all (fun l => Nat.ble l.length big) && Nat.ble (([] : List Nat).length + xss.length) big)))) : Bool) with
      | true => (match repE (fun j zs => bif spOk (xss.getD j []) b d n && fin (shOne b d n (xss.getD j [])) then some (zs ++ [shOne b d n (xss.getD j [])]) else none) (xss.length) 0 (([] : List Nat) : (List Nat)) with
        | some s => some ⟨[.fresh 30 ⟨.f32, s⟩, .el (.sc (.bo true))], none⟩
        | none => some ⟨[.nil, .el (.sc (.bo false))], none⟩)
      | false => none))) := by kernel_rfl
theorem s55 (xss : List (List LineV)) (b : Nat) (d : Nat) (n : Int) (w : Int) (hg : (xss.all (fun l => Nat.ble l.length big)) = true) : runFn T8 a55 l55 Try.f55 [.vv none .line xss, .el (.sc (.fl .f32 b)), .el (.sc (.fl .f32 d)), .el (.sc (.int .i64 n)), .el (.sc (.int .i64 w))] = (match (sharedOk xss b d n w : Bool) with
  | true => some ⟨[.fresh 30 ⟨.f32, sharedX xss b d n⟩, .el (.sc (.bo true))], none⟩
  | false => some ⟨[.nil, .el (.sc (.bo false))], none⟩) := by
  rw [e55]
  unfold sharedOk
  by_cases c1 : xss.length ≤ 8
  · have d1 : ¬ ((xss.length : Int) > 8) := by omega
    have hx : Nat.ble xss.length big = true := big_of (by omega)
    have hz : Nat.ble (0 + xss.length) big = true := big_of (by omega)
    have hr : Nat.ble (sharedX xss b d n).length big = true := big_of (by rw [sharedX_len]; omega)
    have e := repE_each ([] : List LineV) (fun l => spOk l b d n && fin (shOne b d n l)) (shOne b d n) xss xss.length 0 [] (by omega)
    have e2 : ([] : List Nat) ++ xss.map (shOne b d n) = sharedX xss b d n := rfl
    rw [List.drop_zero, e2, shared_all] at e
    cases h1 : within w 1 8 with
    | false => simp [c1, d1]
    | true =>
      simp only [c1, d1, e, hx, hz, hg, List.length_nil, decide_true, decide_false, Bool.and_self, Bool.not_true, Bool.true_and]
      cases h2 : (xss.all (fun l => spOk l b d n) && (sharedX xss b d n).all fin) with
      | false => simp
      | true => simp
  · have d1 : ((xss.length : Int) > 8) := by omega
    simp [c1, d1]
theorem c55 (xss : List (List LineV)) (b : Nat) (d : Nat) (n : Int) (w : Int) (k : List RV → R) (out : Out) (h : (match (xss.all (fun l => Nat.ble l.length big) : Bool) with
  | true => k [.fresh 30 ⟨.f32, orNil (sharedOk xss b d n w) (sharedX xss b d n)⟩, .el (.sc (.bo (sharedOk xss b d n w)))]
  | false => none) = some out) : ∃ rs, Real Try.prog 55 ∧ COK Try.prog 55 [.vv none .line xss, .el (.sc (.fl .f32 b)), .el (.sc (.fl .f32 d)), .el (.sc (.int .i64 n)), .el (.sc (.int .i64 w))] rs ∧ k rs = some out := by
  cases g0 : (xss.all (fun l => Nat.ble l.length big) : Bool) with
  | false =>
    rw [g0] at h
    cases h
  | true =>
    rw [g0] at h
    dsimp only at h
    cases g1 : (sharedOk xss b d n w : Bool) with
    | true =>
      rw [g1] at h
      exact ⟨_, real Try.func55 (by kernel_rfl), fn_ok tok8 (A := a55) (L := l55) (r := none) Try.func55 (by kernel_rfl) (by kernel_rfl) (loops2 (by kernel_rfl) lk55 lk55_1) (by rw [s55 _ _ _ _ _ g0, g1]; rfl), h⟩
    | false =>
      rw [g1] at h
      exact ⟨_, real Try.func55 (by kernel_rfl), COK.nil (fn_ok tok8 (A := a55) (L := l55) (r := none) Try.func55 (by kernel_rfl) (by kernel_rfl) (loops2 (by kernel_rfl) lk55 lk55_1) (by rw [s55 _ _ _ _ _ g0, g1] <;> rfl)), h⟩

/-! slices.ContainsFunc[[]impl.Line,impl.Line] -/
theorem e154 (xs : List LineV) : runFn T8 none0 noL Try.f154 [.vw none ⟨.line, xs⟩, .fn 155 []] = (match (Nat.ble xs.length big : Bool) with
  | true => some ⟨[.el (.sc (.bo (decide ((firstAt notLine xs : Int) ≥ 0))))], none⟩
  | false => none) := by kernel_rfl
theorem s154 (xs : List LineV) : runFn T8 none0 noL Try.f154 [.vw none ⟨.line, xs⟩, .fn 155 []] = (match (Nat.ble xs.length big : Bool) with
  | true => some ⟨[.el (.sc (.bo (xs.any notLine)))], none⟩
  | false => none) := by
  rw [e154]
  rw [any_firstAt]
theorem c154 (xs : List LineV) (k : List RV → R) (out : Out) (h : (match (Nat.ble xs.length big : Bool) with
  | true => k [.el (.sc (.bo (xs.any notLine)))]
  | false => none) = some out) : ∃ rs, Real Try.prog 154 ∧ COK Try.prog 154 [.vw none ⟨.line, xs⟩, .fn 155 []] rs ∧ k rs = some out := by
  cases g0 : (Nat.ble xs.length big : Bool) with
  | true =>
    rw [g0] at h
    exact ⟨_, real Try.func154 (by kernel_rfl), fn_ok tok8 (A := none0) (L := noL) (r := none) Try.func154 (by kernel_rfl) (by kernel_rfl) (loops0 (by kernel_rfl)) (by rw [s154, g0]), h⟩
  | false =>
    rw [g0] at h
    cases h

def S9 : SFn := fun f args k => match f, args with
  | 55, [.vv none .line xss, .el (.sc (.fl .f32 b)), .el (.sc (.fl .f32 d)), .el (.sc (.int .i64 n)), .el (.sc (.int .i64 w))] => (match (xss.all (fun l => Nat.ble l.length big) : Bool) with
    | true => k [.fresh 30 ⟨.f32, orNil (sharedOk xss b d n w) (sharedX xss b d n)⟩, .el (.sc (.bo (sharedOk xss b d n w)))]
    | false => none)
  | 154, [.vw none ⟨.line, xs⟩, .fn 155 []] => (match (Nat.ble xs.length big : Bool) with
    | true => k [.el (.sc (.bo (xs.any notLine)))]
    | false => none)
  | _, _ => S8 f args k
abbrev M9 : MFn := M8
def T9 : TT := tab.T S9 muts M9
theorem tok9 : TOK Try.prog T9 := by
  refine (tab_ok tabok).tok (fun f args k out h => ?_) (fun f vec args k out h => ?_)
  · change S9 f args k = some out at h
    unfold S9 at h
    split at h
    · exact (fun k out h => cok_call (c55 _ _ _ _ _ k out h)) k out h
    · exact (fun k out h => cok_call (c154 _ k out h)) k out h
    · exact tok8.S f args k out h
  · exact tok8.M f vec args k out h

end Go.Sm.Ytdeplgocckdbiaa
