/- What the functions hand back: level 9. -/
import Derived.Test.YtdeplgocckdbiaaD9
namespace Go.Sm.Ytdeplgocckdbiaa
open Go Go.Sm Go.RowKit Go.Proofs

/-! spec.CountLines -/
def a39 : Ann := ann [(6, [0, 1, 2, 3, 11, 12, 32, 33], [11, 12])] [8, 9, 10] 0
def lp39 : St → (Ex → St → R) → R := fun s k => match s with
  | ⟨[(0, .fv (.vv none .line xss)), (1, .fv (.vw (some 1) ⟨.f32, ys⟩)), (2, .fv (.el (.sc (.fl .f32 b)))), (3, .fv (.el (.sc (.fl .f32 d)))), (11, .fv (.el (.sc (.int .i64 b1)))), (12, .fv (.el (.sc (.fl .f32 l1)))), (32, .fv (.el (.sc (.int .i64 n)))), (33, .fv (.el (.sc (.int .i64 i))))], []⟩ => (match ((decide (n = (xss.length : Int)) && (decide (i = 0) && (Nat.ble xss.length big && (xss.all (fun l => Nat.ble l.length big) && Nat.ble ys.length big)))) : Bool) with
    | true => (match repE (cntStep xss ys b d) (xss.length) 0 ((b1, l1) : Int × Nat) with
      | some s => k (.exit 0) ⟨[(11, .fv (.el (.sc (.int .i64 s.1)))), (12, .fv (.el (.sc (.fl .f32 s.2))))], []⟩
      | none => k .ret ⟨[(8, .fv (.el (.sc (.int .i64 0)))), (9, .fv (.el (.sc (.fl .f32 0)))), (10, .fv (.el (.sc (.bo false))))], []⟩)
    | false => none)
  | _ => none
def l39 : Loops := fun key s k => bif Nat.beq key 6 then lp39 s k else none
theorem st39 (xss : List (List LineV)) (ys : List Nat) (b : Nat) (d : Nat) (b1 : Int) (l1 : Nat) (n : Int) (i : Int) (m : Nat) (k : Ex → St → R) : iterK a39 [0, 1, 2, 3, 11, 12, 32, 33] [11, 12] (codeK T9 a39 l39 Try.f39.ntmps (loopAt Try.f39 0)) (m + 1) ⟨[(0, .fv (.vv none .line xss)), (1, .fv (.vw (some 1) ⟨.f32, ys⟩)), (2, .fv (.el (.sc (.fl .f32 b)))), (3, .fv (.el (.sc (.fl .f32 d)))), (11, .fv (.el (.sc (.int .i64 b1)))), (12, .fv (.el (.sc (.fl .f32 l1)))), (32, .fv (.el (.sc (.int .i64 n)))), (33, .fv (.el (.sc (.int .i64 i))))], []⟩ k = (match (decide ((i : Int) < n) : Bool) with
  | true => (match (decide (0 ≤ (i : Int) ∧ (i : Int) < (xss.length : Int)) : Bool) with
    | true => (match (xss : List (List LineV))[Int.toNat i]? with
      | some x1 => (match (Nat.ble x1.length big && Nat.ble ys.length big : Bool) with
        | true => (match (!(restOk x1 ys b d) : Bool) with
          | true => k .ret ⟨[(8, .fv (.el (.sc (.int .i64 0)))), (9, .fv (.el (.sc (.fl .f32 0)))), (10, .fv (.el (.sc (.bo false))))], []⟩
          | false => (match (decide (0 ≤ (i : Int) ∧ (i : Int) < (xss.length : Int)) : Bool) with
            | true => (match (xss : List (List LineV))[Int.toNat i]? with
              | some x2 => (match (!(critOk (fop .add .f32 (orZero (restOk x1 ys b d) (restSum x1 ys b d)) 897988541) ((ys.length : Int)) (IntKind.i64.wrap (3 * ((x2.length : Int))))) : Bool) with
                | true => k .ret ⟨[(8, .fv (.el (.sc (.int .i64 0)))), (9, .fv (.el (.sc (.fl .f32 0)))), (10, .fv (.el (.sc (.bo false))))], []⟩
                | false => (match ((i : Int) == 0 : Bool) with
                  | true => iterK a39 [0, 1, 2, 3, 11, 12, 32, 33] [11, 12] (codeK T9 a39 l39 Try.f39.ntmps (loopAt Try.f39 0)) m ⟨[(0, .fv (.vv none .line xss)), (1, .fv (.vw (some 1) ⟨.f32, ys⟩)), (2, .fv (.el (.sc (.fl .f32 b)))), (3, .fv (.el (.sc (.fl .f32 d)))), (11, .fv (.el (.sc (.int .i64 i)))), (12, .fv (.el (.sc (.fl .f32 (orZero (critOk (fop .add .f32 (orZero (restOk x1 ys b d) (restSum x1 ys b d)) 897988541) ((ys.length : Int)) (IntKind.i64.wrap (3 * ((x2.length : Int))))) (critX (fop .add .f32 (orZero (restOk x1 ys b d) (restSum x1 ys b d)) 897988541) ((ys.length : Int)) (IntKind.i64.wrap (3 * ((x2.length : Int)))))))))), (32, .fv (.el (.sc (.int .i64 n)))), (33, .fv (.el (.sc (.int .i64 (IntKind.i64.wrap (i + 1))))))], []⟩ k
                  | false => (match (fcmp .lss .f32 (orZero (critOk (fop .add .f32 (orZero (restOk x1 ys b d) (restSum x1 ys b d)) 897988541) ((ys.length : Int)) (IntKind.i64.wrap (3 * ((x2.length : Int))))) (critX (fop .add .f32 (orZero (restOk x1 ys b d) (restSum x1 ys b d)) 897988541) ((ys.length : Int)) (IntKind.i64.wrap (3 * ((x2.length : Int)))))) l1 : Bool) with
                    | true => iterK a39 [0, 1, 2, 3, 11, 12, 32, 33] [11, 12] (codeK T9 a39 l39 Try.f39.ntmps (loopAt Try.f39 0)) m ⟨[(0, .fv (.vv none .line xss)), (1, .fv (.vw (some 1) ⟨.f32, ys⟩)), (2, .fv (.el (.sc (.fl .f32 b)))), (3, .fv (.el (.sc (.fl .f32 d)))), (11, .fv (.el (.sc (.int .i64 i)))), (12, .fv (.el (.sc (.fl .f32 (orZero (critOk (fop .add .f32 (orZero (restOk x1 ys b d) (restSum x1 ys b d)) 897988541) ((ys.length : Int)) (IntKind.i64.wrap (3 * ((x2.length : Int))))) (critX (fop .add .f32 (orZero (restOk x1 ys b d) (restSum x1 ys b d)) 897988541) ((ys.length : Int)) (IntKind.i64.wrap (3 * ((x2.length : Int)))))))))), (32, .fv (.el (.sc (.int .i64 n)))), (33, .fv (.el (.sc (.int .i64 (IntKind.i64.wrap (i + 1))))))], []⟩ k
                    | false => iterK a39 [0, 1, 2, 3, 11, 12, 32, 33] [11, 12] (codeK T9 a39 l39 Try.f39.ntmps (loopAt Try.f39 0)) m ⟨[(0, .fv (.vv none .line xss)), (1, .fv (.vw (some 1) ⟨.f32, ys⟩)), (2, .fv (.el (.sc (.fl .f32 b)))), (3, .fv (.el (.sc (.fl .f32 d)))), (11, .fv (.el (.sc (.int .i64 b1)))), (12, .fv (.el (.sc (.fl .f32 l1)))), (32, .fv (.el (.sc (.int .i64 n)))), (33, .fv (.el (.sc (.int .i64 (IntKind.i64.wrap (i + 1))))))], []⟩ k)))
              | none => none)
            | false => none))
        | false => none)
      | none => none)
    | false => none)
  | false => k (.exit 0) ⟨[(11, .fv (.el (.sc (.int .i64 b1)))), (12, .fv (.el (.sc (.fl .f32 l1))))], []⟩) := by kernel_rfl
theorem ind39 (xss : List (List LineV)) (ys : List Nat) (b : Nat) (d : Nat) (hxx : (Nat.ble xss.length big) = true) (hall : (xss.all (fun l => Nat.ble l.length big)) = true) (hy : (Nat.ble ys.length big) = true) (k : Ex → St → R) : ∀ (m j : Nat) (b1 : Int) (l1 : Nat), 0 ≤ j → j + m = xss.length → iterK a39 [0, 1, 2, 3, 11, 12, 32, 33] [11, 12] (codeK T9 a39 l39 Try.f39.ntmps (loopAt Try.f39 0)) (m + 1) ⟨[(0, .fv (.vv none .line xss)), (1, .fv (.vw (some 1) ⟨.f32, ys⟩)), (2, .fv (.el (.sc (.fl .f32 b)))), (3, .fv (.el (.sc (.fl .f32 d)))), (11, .fv (.el (.sc (.int .i64 b1)))), (12, .fv (.el (.sc (.fl .f32 l1)))), (32, .fv (.el (.sc (.int .i64 (xss.length : Int))))), (33, .fv (.el (.sc (.int .i64 (j : Int)))))], []⟩ k =
    (match repE (cntStep xss ys b d) m j ((b1, l1) : Int × Nat) with
    | some s => k (.exit 0) ⟨[(11, .fv (.el (.sc (.int .i64 s.1)))), (12, .fv (.el (.sc (.fl .f32 s.2))))], []⟩
    | none => k .ret ⟨[(8, .fv (.el (.sc (.int .i64 0)))), (9, .fv (.el (.sc (.fl .f32 0)))), (10, .fv (.el (.sc (.bo false))))], []⟩) := by
  intro m
  induction m with
  | zero =>
    intro j b1 l1 hlo hj
    have hxx_ := big_le hxx
    have hy_ := big_le hy
    have h1 : ¬ (((j : Int) < (xss.length : Int))) := by omega
    rw [st39]
    simp only [h1, repE, decide_false, hy] <;> rfl
  | succ m ih =>
    intro j b1 l1 hlo hj
    have hxx_ := big_le hxx
    have hy_ := big_le hy
    have h1 : ((j : Int) < (xss.length : Int)) := by omega
    have lb : (0 : Int) ≤ ((j : Nat) : Int) ∧ ((j : Nat) : Int) < (xss.length : Int) := by omega
    have lq : xss[Int.toNat ((j : Nat) : Int)]? = some (xss.getD j []) := getI3 (by omega)
    have lw : Nat.ble (xss.getD j []).length big = true := all_big hall (by omega)
    have w3 : IntKind.i64.wrap (3 * ((xss.getD j []).length : Int)) = 3 * ((xss.getD j []).length : Int) := wrap64 (by omega) (by have := big_le (all_big hall (show j < xss.length by omega)); omega)
    have wn : IntKind.i64.wrap ((j : Int) + 1) = ((j + 1 : Nat) : Int) := wrapN (by omega) (by omega)
    rw [st39]
    simp only [h1, wn, lb, lq, lw, w3, and_self, decide_true, Bool.and_true, Int.le_refl, hy]
    rw [repE_succ]
    have hs : cntStep xss ys b d j (b1, l1) = bif restOk (xss.getD j []) ys b d && critOk (fop .add .f32 (restSum (xss.getD j []) ys b d) 897988541) (ys.length : Int) (3 * ((xss.getD j []).length : Int)) then some (bif ((j : Int) == 0) || fcmp .lss .f32 (critX (fop .add .f32 (restSum (xss.getD j []) ys b d) 897988541) (ys.length : Int) (3 * ((xss.getD j []).length : Int))) l1 then ((j : Int), critX (fop .add .f32 (restSum (xss.getD j []) ys b d) 897988541) (ys.length : Int) (3 * ((xss.getD j []).length : Int))) else (b1, l1)) else none := rfl
    rw [hs]
    have r1 := ih (j + 1) (j : Int) (critX (fop .add .f32 (restSum (xss.getD j []) ys b d) 897988541) (ys.length : Int) (3 * ((xss.getD j []).length : Int))) (by omega) (by omega)
    have r2 := ih (j + 1) b1 l1 (by omega) (by omega)
    cases h1 : restOk (xss.getD j []) ys b d with
    | false => rfl
    | true =>
      simp only [orZero]
      cases h2 : critOk (fop .add .f32 (restSum (xss.getD j []) ys b d) 897988541) (ys.length : Int) (3 * ((xss.getD j []).length : Int)) with
      | false => rfl
      | true =>
        simp only [r1, r2]
        cases ((j : Int) == 0) <;> cases fcmp .lss .f32 (critX (fop .add .f32 (restSum (xss.getD j []) ys b d) 897988541) (ys.length : Int) (3 * ((xss.getD j []).length : Int))) l1 <;> rfl

theorem lk39 : LOK T9 a39 l39 Try.f39.ntmps (loopAt Try.f39 0) := by
  intro ins outs hA s k out h
  have hA' : ([0, 1, 2, 3, 11, 12, 32, 33], [11, 12]) = (ins, outs) := Option.some.inj ((show a39.lp (firstRegion (loopAt Try.f39 0)) = some ([0, 1, 2, 3, 11, 12, 32, 33], [11, 12]) by kernel_rfl).symm.trans hA)
  cases hA'
  have hk : firstRegion (loopAt Try.f39 0) = 6 := by kernel_rfl
  rw [hk] at h
  change lp39 s k = some out at h
  unfold lp39 at h
  split at h
  · rename_i xss ys b d b1 l1 n i
    cases hg : (decide (n = (xss.length : Int)) && (decide (i = 0) && (Nat.ble xss.length big && (xss.all (fun l => Nat.ble l.length big) && Nat.ble ys.length big)))) with
    | false => rw [hg] at h; cases h
    | true =>
      rw [hg] at h
      simp only [Bool.and_eq_true, decide_eq_true_eq] at hg
      obtain ⟨rfl, rfl, hxx, hall, hy⟩ := hg
      refine ⟨(xss.length) + 1, ?_⟩
      have hxx_ := big_le hxx
      have hy_ := big_le hy
      exact (ind39 xss ys b d hxx hall hy k (xss.length) 0 b1 l1 (by omega) (by omega)).trans h
  · cases h
theorem e39 (xss : List (List LineV)) (ys : List Nat) (b : Nat) (d : Nat) : runFn T9 a39 l39 Try.f39 [.vv none .line xss, .vw none ⟨.f32, ys⟩, .el (.sc (.fl .f32 b)), .el (.sc (.fl .f32 d))] = (match (decide (((xss.length : Int) : Int) < 1) : Bool) with
  | true => some ⟨[.el (.sc (.int .i64 0)), .el (.sc (.fl .f32 0)), .el (.sc (.bo false))], none⟩
  | false => (match (decide (((xss.length : Int) : Int) > 8) : Bool) with
    | true => some ⟨[.el (.sc (.int .i64 0)), .el (.sc (.fl .f32 0)), .el (.sc (.bo false))], none⟩
    | false => (match (Nat.ble ys.length big : Bool) with
      | true => (match (!(listOk ys 1) : Bool) with
        | true => some ⟨[.el (.sc (.int .i64 0)), .el (.sc (.fl .f32 0)), .el (.sc (.bo false))], none⟩
        | false => (match ((decide (((xss.length : Int)) = (xss.length : Int)) && (decide (0 = 0) && (Nat.ble xss.length big && (xss.all (fun l => Nat.ble l.length big) && Nat.ble ys.length big)))) : Bool) with
          | true => (match repE (cntStep xss ys b d) (xss.length) 0 ((0, 0) : Int × Nat) with
            | some s => some ⟨[.el (.sc (.int .i64 s.1)), .el (.sc (.fl .f32 s.2)), .el (.sc (.bo true))], none⟩
            | none => some ⟨[.el (.sc (.int .i64 0)), .el (.sc (.fl .f32 0)), .el (.sc (.bo false))], none⟩)
          | false => none))
      | false => none))) := by kernel_rfl
theorem s39 (xss : List (List LineV)) (ys : List Nat) (b : Nat) (d : Nat) (hg : (xss.all (fun l => Nat.ble l.length big) && Nat.ble ys.length big) = true) : runFn T9 a39 l39 Try.f39 [.vv none .line xss, .vw none ⟨.f32, ys⟩, .el (.sc (.fl .f32 b)), .el (.sc (.fl .f32 d))] = some ⟨[.el (.sc (.int .i64 (((cntRun xss ys b d).getD (0, 0)).1))), .el (.sc (.fl .f32 (((cntRun xss ys b d).getD (0, 0)).2))), .el (.sc (.bo ((cntRun xss ys b d).isSome)))], none⟩ := by
  rw [e39]
  unfold cntRun
  rw [Bool.and_eq_true] at hg
  by_cases c1 : xss.length ≥ 1
  · by_cases c2 : xss.length ≤ 8
    · have d1 : ¬ ((xss.length : Int) < 1) := by omega
      have d2 : ¬ ((xss.length : Int) > 8) := by omega
      have hx : Nat.ble xss.length big = true := big_of (by omega)
      rw [decide_eq_true c1, decide_eq_true c2, decide_eq_false d1, decide_eq_false d2]
      cases h1 : listOk ys 1 with
      | false => simp only [hg.2, h1]; rfl
      | true =>
        simp only [hx, hg.1, hg.2, h1, decide_true, Bool.and_self, Bool.not_true, cond_true]
        cases repE (cntStep xss ys b d) xss.length 0 (0, 0) <;> rfl
    · have d1 : ¬ ((xss.length : Int) < 1) := by omega
      have d2 : ((xss.length : Int) > 8) := by omega
      rw [decide_eq_true c1, decide_eq_false c2, decide_eq_false d1, decide_eq_true d2]
      rfl
  · have d1 : ((xss.length : Int) < 1) := by omega
    rw [decide_eq_false c1, decide_eq_true d1]
    rfl
theorem c39 (xss : List (List LineV)) (ys : List Nat) (b : Nat) (d : Nat) (k : List RV → R) (out : Out) (h : (match (xss.all (fun l => Nat.ble l.length big) && Nat.ble ys.length big : Bool) with
  | true => k [.el (.sc (.int .i64 (((cntRun xss ys b d).getD (0, 0)).1))), .el (.sc (.fl .f32 (((cntRun xss ys b d).getD (0, 0)).2))), .el (.sc (.bo ((cntRun xss ys b d).isSome)))]
  | false => none) = some out) : ∃ rs, Real Try.prog 39 ∧ COK Try.prog 39 [.vv none .line xss, .vw none ⟨.f32, ys⟩, .el (.sc (.fl .f32 b)), .el (.sc (.fl .f32 d))] rs ∧ k rs = some out := by
  cases g0 : (xss.all (fun l => Nat.ble l.length big) && Nat.ble ys.length big : Bool) with
  | true =>
    rw [g0] at h
    exact ⟨_, real Try.func39 (by kernel_rfl), fn_ok tok9 (A := a39) (L := l39) (r := none) Try.func39 (by kernel_rfl) (by kernel_rfl) (loops1 (by kernel_rfl) lk39) (by rw [s39 _ _ _ _ g0]), h⟩
  | false =>
    rw [g0] at h
    cases h

/-! impl.areLines -/
theorem e84 (xs : List LineV) (a : Int) (b : Int) : runFn T9 none0 noL Try.f84 [.vw none ⟨.line, xs⟩, .el (.sc (.int .i64 a)), .el (.sc (.int .i64 b))] = (match (decide (((xs.length : Int) : Int) ≥ a) : Bool) with
  | true => (match (decide (((xs.length : Int) : Int) ≤ b) : Bool) with
    | true => (match (Nat.ble xs.length big : Bool) with
      | true => some ⟨[.el (.sc (.bo (!(xs.any notLine))))], none⟩
      | false => none)
    | false => some ⟨[.el (.sc (.bo false))], none⟩)
  | false => some ⟨[.el (.sc (.bo false))], none⟩) := by kernel_rfl
theorem s84 (xs : List LineV) (a : Int) (b : Int) (hg : (decide (b ≤ 1099511627776)) = true) : runFn T9 none0 noL Try.f84 [.vw none ⟨.line, xs⟩, .el (.sc (.int .i64 a)), .el (.sc (.int .i64 b))] = some ⟨[.el (.sc (.bo (linesIn xs a b)))], none⟩ := by
  rw [e84]
  rw [notLine_fun, not_any]
  have hb := of_decide_eq_true hg
  unfold linesIn
  by_cases h4 : (xs.length : Int) ≤ b
  · have h : Nat.ble xs.length big = true := big_of (by omega)
    cases h3 : decide ((xs.length : Int) ≥ a) <;> simp [h4, h]
  · cases h3 : decide ((xs.length : Int) ≥ a) <;> simp [h4]
theorem c84 (xs : List LineV) (a : Int) (b : Int) (k : List RV → R) (out : Out) (h : (match (decide (b ≤ 1099511627776) : Bool) with
  | true => k [.el (.sc (.bo (linesIn xs a b)))]
  | false => none) = some out) : ∃ rs, Real Try.prog 84 ∧ COK Try.prog 84 [.vw none ⟨.line, xs⟩, .el (.sc (.int .i64 a)), .el (.sc (.int .i64 b))] rs ∧ k rs = some out := by
  cases g0 : (decide (b ≤ 1099511627776) : Bool) with
  | true =>
    rw [g0] at h
    exact ⟨_, real Try.func84 (by kernel_rfl), fn_ok tok9 (A := none0) (L := noL) (r := none) Try.func84 (by kernel_rfl) (by kernel_rfl) (loops0 (by kernel_rfl)) (by rw [s84 _ _ _ g0]), h⟩
  | false =>
    rw [g0] at h
    cases h

def S10 : SFn := fun f args k => match f, args with
  | 39, [.vv none .line xss, .vw none ⟨.f32, ys⟩, .el (.sc (.fl .f32 b)), .el (.sc (.fl .f32 d))] => (match (xss.all (fun l => Nat.ble l.length big) && Nat.ble ys.length big : Bool) with
    | true => k [.el (.sc (.int .i64 (((cntRun xss ys b d).getD (0, 0)).1))), .el (.sc (.fl .f32 (((cntRun xss ys b d).getD (0, 0)).2))), .el (.sc (.bo ((cntRun xss ys b d).isSome)))]
    | false => none)
  | 84, [.vw none ⟨.line, xs⟩, .el (.sc (.int .i64 a)), .el (.sc (.int .i64 b))] => (match (decide (b ≤ 1099511627776) : Bool) with
    | true => k [.el (.sc (.bo (linesIn xs a b)))]
    | false => none)
  | _, _ => S9 f args k
abbrev M10 : MFn := M9
def T10 : TT := tab.T S10 muts M10
theorem tok10 : TOK Try.prog T10 := by
  refine (tab_ok tabok).tok (fun f args k out h => ?_) (fun f vec args k out h => ?_)
  · change S10 f args k = some out at h
    unfold S10 at h
    split at h
    · exact (fun k out h => cok_call (c39 _ _ _ _ k out h)) k out h
    · exact (fun k out h => cok_call (c84 _ _ _ k out h)) k out h
    · exact tok9.S f args k out h
  · exact tok9.M f vec args k out h

end Go.Sm.Ytdeplgocckdbiaa
