/- What the functions hand back: level 12. -/
import Derived.Test.YtdeplgocckdbiaaD12
namespace Go.Sm.Ytdeplgocckdbiaa
open Go Go.Sm Go.RowKit Go.Proofs

/-! impl.SpectraShared -/
def a56 : Ann := ann [(5, [1, 2, 3, 12, 26, 27, 28], [12])] [10, 11] 0
def lp56 : St → (Ex → St → R) → R := fun s k => match s with
  | ⟨[(1, .fv (.el (.sc (.fl .f32 b)))), (2, .fv (.el (.sc (.fl .f32 d)))), (3, .fv (.el (.sc (.int .i64 n)))), (12, .fv (.own 0)), (26, .fv (.vv none .line xss)), (27, .fv (.el (.sc (.int .i64 c)))), (28, .fv (.el (.sc (.int .i64 i))))], [some ⟨30, ⟨.f32, zs⟩⟩]⟩ => (match ((decide (c = (xss.length : Int)) && (decide (i = 0) && (Nat.ble xss.length big && Nat.ble ((zs : List Nat).length + xss.length) big))) : Bool) with
    | true => (match repE (fun j zs => bif spOk (xss.getD j []) b d n then some (zs ++ [shOne b d n (xss.getD j [])]) else none) (xss.length) 0 ((zs : List Nat) : (List Nat)) with
      | some s => k (.exit 0) ⟨[(12, .fv (.own 0))], [some ⟨30, ⟨.f32, s⟩⟩]⟩
      | none => k .ret ⟨[(10, .fv (.nil)), (11, .fv (.el (.sc (.bo false))))], []⟩)
    | false => none)
  | _ => none
def l56 : Loops := fun key s k => bif Nat.beq key 5 then lp56 s k else none
theorem st56 (b : Nat) (d : Nat) (n : Int) (xss : List (List LineV)) (c : Int) (i : Int) (zs : List Nat) (m : Nat) (k : Ex → St → R) : iterK a56 [1, 2, 3, 12, 26, 27, 28] [12] (codeK T12 a56 l56 Try.f56.ntmps (loopAt Try.f56 0)) (m + 1) ⟨[(1, .fv (.el (.sc (.fl .f32 b)))), (2, .fv (.el (.sc (.fl .f32 d)))), (3, .fv (.el (.sc (.int .i64 n)))), (12, .fv (.own 0)), (26, .fv (.vv none .line xss)), (27, .fv (.el (.sc (.int .i64 c)))), (28, .fv (.el (.sc (.int .i64 i))))], [some ⟨30, ⟨.f32, zs⟩⟩]⟩ k = (match (decide ((i : Int) < c) : Bool) with
  | true => (match (decide (0 ≤ (i : Int) ∧ (i : Int) < (xss.length : Int)) : Bool) with
    | true => (match (xss : List (List LineV))[Int.toNat i]? with
      | some x1 => (match (!(spOk x1 b d n) : Bool) with
        | true => k .ret ⟨[(10, .fv (.nil)), (11, .fv (.el (.sc (.bo false))))], []⟩
        | false => (match (Nat.ble (orNil (spOk x1 b d n) (spX x1 b d n)).length big : Bool) with
          | true => (match (Nat.beq 30 30 && decide ((zs : List Nat).length + ([sumF (orNil (spOk x1 b d n) (spX x1 b d n))] : List Nat).length ≤ 1099511627776) : Bool) with
            | true => iterK a56 [1, 2, 3, 12, 26, 27, 28] [12] (codeK T12 a56 l56 Try.f56.ntmps (loopAt Try.f56 0)) m ⟨[(1, .fv (.el (.sc (.fl .f32 b)))), (2, .fv (.el (.sc (.fl .f32 d)))), (3, .fv (.el (.sc (.int .i64 n)))), (12, .fv (.own 0)), (26, .fv (.vv none .line xss)), (27, .fv (.el (.sc (.int .i64 c)))), (28, .fv (.el (.sc (.int .i64 (IntKind.i64.wrap (i + 1))))))], [some ⟨30, ⟨.f32, (zs : List Nat) ++ ([sumF (orNil (spOk x1 b d n) (spX x1 b d n))])⟩⟩]⟩ k
            | false => none)
          | false => none))
      | none => none)
    | false => none)
  | false => k (.exit 0) ⟨[(12, .fv (.own 0))], [some ⟨30, ⟨.f32, zs⟩⟩]⟩) := by kernel_rfl
theorem ind56 (b : Nat) (d : Nat) (n : Int) (xss : List (List LineV)) (hxx : (Nat.ble xss.length big) = true) (k : Ex → St → R) : ∀ (m j : Nat) (zs : List Nat), zs.length + m ≤ 1099511627776 → 0 ≤ j → j + m = xss.length → iterK a56 [1, 2, 3, 12, 26, 27, 28] [12] (codeK T12 a56 l56 Try.f56.ntmps (loopAt Try.f56 0)) (m + 1) ⟨[(1, .fv (.el (.sc (.fl .f32 b)))), (2, .fv (.el (.sc (.fl .f32 d)))), (3, .fv (.el (.sc (.int .i64 n)))), (12, .fv (.own 0)), (26, .fv (.vv none .line xss)), (27, .fv (.el (.sc (.int .i64 (xss.length : Int))))), (28, .fv (.el (.sc (.int .i64 (j : Int)))))], [some ⟨30, ⟨.f32, zs⟩⟩]⟩ k =
    (match repE (fun j zs => bif spOk (xss.getD j []) b d n then some (zs ++ [shOne b d n (xss.getD j [])]) else none) m j (zs : (List Nat)) with
    | some s => k (.exit 0) ⟨[(12, .fv (.own 0))], [some ⟨30, ⟨.f32, s⟩⟩]⟩
    | none => k .ret ⟨[(10, .fv (.nil)), (11, .fv (.el (.sc (.bo false))))], []⟩) := by
  intro m
  induction m with
  | zero =>
    intro j zs hs0 hlo hj
    have hxx_ := big_le hxx
    have h1 : ¬ (((j : Int) < (xss.length : Int))) := by omega
    rw [st56]
    simp only [h1, repE, decide_false, List.length_singleton] <;> rfl
  | succ m ih =>
    intro j zs hs0 hlo hj
    have hxx_ := big_le hxx
    have h1 : ((j : Int) < (xss.length : Int)) := by omega
    have hbq : Nat.beq 30 30 = true := rfl
    have hzl : zs.length + 1 ≤ 1099511627776 := by omega
    have lb : (0 : Int) ≤ ((j : Nat) : Int) ∧ ((j : Nat) : Int) < (xss.length : Int) := by omega
    have lq : xss[Int.toNat ((j : Nat) : Int)]? = some (xss.getD j []) := getI3 (by omega)
    have wn : IntKind.i64.wrap ((j : Int) + 1) = ((j + 1 : Nat) : Int) := wrapN (by omega) (by omega)
    rw [st56]
    simp only [h1, wn, hbq, hzl, lb, lq, and_self, decide_true, Bool.and_true, Int.le_refl, List.length_singleton]
    rw [repE_succ]
    have r1 := ih (j + 1) (zs ++ [shOne b d n (xss.getD j [])]) (by simp; omega) (by omega) (by omega)
    cases hf : spOk (xss.getD j []) b d n with
    | true =>
      have hl : Nat.ble (spX (xss.getD j []) b d n).length big = true := big_of (spX_big hf)
      simp only [hl, orNil, cond_true, hzl, List.length_singleton, decide_true, Bool.and_self, Bool.not_true]
      exact r1
    | false => rfl

theorem lk56 : LOK T12 a56 l56 Try.f56.ntmps (loopAt Try.f56 0) := by
  intro ins outs hA s k out h
  have hA' : ([1, 2, 3, 12, 26, 27, 28], [12]) = (ins, outs) := Option.some.inj ((show a56.lp (firstRegion (loopAt Try.f56 0)) = some ([1, 2, 3, 12, 26, 27, 28], [12]) by kernel_rfl).symm.trans hA)
  cases hA'
  have hk : firstRegion (loopAt Try.f56 0) = 5 := by kernel_rfl
  rw [hk] at h
  change lp56 s k = some out at h
  unfold lp56 at h
  split at h
  · rename_i b d n xss c i zs
    cases hg : (decide (c = (xss.length : Int)) && (decide (i = 0) && (Nat.ble xss.length big && Nat.ble (zs.length + xss.length) big))) with
    | false => rw [hg] at h; cases h
    | true =>
      rw [hg] at h
      simp only [Bool.and_eq_true, decide_eq_true_eq] at hg
      obtain ⟨rfl, rfl, hxx, gs0⟩ := hg
      refine ⟨(xss.length) + 1, ?_⟩
      have hxx_ := big_le hxx
      have gs0_ := big_le gs0
      exact (ind56 b d n xss hxx k (xss.length) 0 zs (by omega) (by omega) (by omega)).trans h
  · cases h
theorem e56 (xss : List (List LineV)) (b : Nat) (d : Nat) (n : Int) (w : Int) : runFn T12 a56 l56 Try.f56 [.vv none .line xss, .el (.sc (.fl .f32 b)), .el (.sc (.fl .f32 d)), .el (.sc (.int .i64 n)), .el (.sc (.int .i64 w))] = (match (decide (((xss.length : Int) : Int) > 8) : Bool) with
  | true => some ⟨[.nil, .el (.sc (.bo false))], none⟩
  | false => (match (!(within w 1 8) : Bool) with
    | true => some ⟨[.nil, .el (.sc (.bo false))], none⟩
    | false => (match ((decide (((xss.length : Int)) = (xss.length : Int)) && (decide (0 = 0) && (Nat.ble xss.length big && Nat.ble (([] : List Nat).length + xss.length) big))) : Bool) with
      | true => (match repE (fun j zs => bif spOk (xss.getD j []) b d n then some (zs ++ [shOne b d n (xss.getD j [])]) else none) (xss.length) 0 (([] : List Nat) : (List Nat)) with
        | some s => (match (Nat.ble s.length big : Bool) with
          | true => (match (s.all fin : Bool) with
            | true => some ⟨[.fresh 30 ⟨.f32, s⟩, .el (.sc (.bo true))], none⟩
            | false => some ⟨[.nil, .el (.sc (.bo false))], none⟩)
          | false => none)
        | none => some ⟨[.nil, .el (.sc (.bo false))], none⟩)
      | false => none))) := by kernel_rfl
theorem s56 (xss : List (List LineV)) (b : Nat) (d : Nat) (n : Int) (w : Int) : runFn T12 a56 l56 Try.f56 [.vv none .line xss, .el (.sc (.fl .f32 b)), .el (.sc (.fl .f32 d)), .el (.sc (.int .i64 n)), .el (.sc (.int .i64 w))] = (match (sharedOk xss b d n w : Bool) with
  | true => some ⟨[.fresh 30 ⟨.f32, sharedX xss b d n⟩, .el (.sc (.bo true))], none⟩
  | false => some ⟨[.nil, .el (.sc (.bo false))], none⟩) := by
  rw [e56]
  unfold sharedOk
  by_cases c1 : xss.length ≤ 8
  · have d1 : ¬ ((xss.length : Int) > 8) := by omega
    have hx : Nat.ble xss.length big = true := big_of (by omega)
    have hz : Nat.ble (0 + xss.length) big = true := big_of (by omega)
    have hr : Nat.ble (sharedX xss b d n).length big = true := big_of (by rw [sharedX_len]; omega)
    have e := repE_each ([] : List LineV) (fun l => spOk l b d n) (shOne b d n) xss xss.length 0 [] (by omega)
    have e2 : ([] : List Nat) ++ xss.map (shOne b d n) = sharedX xss b d n := rfl
    rw [List.drop_zero, e2] at e
    cases h1 : within w 1 8 with
    | false => simp [c1, d1]
    | true =>
      simp only [c1, d1, e, hx, hz, List.length_nil, decide_true, decide_false, Bool.and_self, Bool.not_true, Bool.true_and]
      cases h2 : xss.all (fun l => spOk l b d n) with
      | false => simp
      | true => cases h3 : (sharedX xss b d n).all fin <;> simp [hr, h3]
  · have d1 : ((xss.length : Int) > 8) := by omega
    simp [c1, d1]
theorem c56 (xss : List (List LineV)) (b : Nat) (d : Nat) (n : Int) (w : Int) (k : List RV → R) (out : Out) (h : k [.fresh 30 ⟨.f32, orNil (sharedOk xss b d n w) (sharedX xss b d n)⟩, .el (.sc (.bo (sharedOk xss b d n w)))] = some out) : ∃ rs, Real Try.prog 56 ∧ COK Try.prog 56 [.vv none .line xss, .el (.sc (.fl .f32 b)), .el (.sc (.fl .f32 d)), .el (.sc (.int .i64 n)), .el (.sc (.int .i64 w))] rs ∧ k rs = some out := by
  cases g0 : (sharedOk xss b d n w : Bool) with
  | true =>
    rw [g0] at h
    exact ⟨_, real Try.func56 (by kernel_rfl), fn_ok tok12 (A := a56) (L := l56) (r := none) Try.func56 (by kernel_rfl) (by kernel_rfl) (loops1 (by kernel_rfl) lk56) (by rw [s56, g0]; rfl), h⟩
  | false =>
    rw [g0] at h
    exact ⟨_, real Try.func56 (by kernel_rfl), COK.nil (fn_ok tok12 (A := a56) (L := l56) (r := none) Try.func56 (by kernel_rfl) (by kernel_rfl) (loops1 (by kernel_rfl) lk56) (by rw [s56, g0] <;> rfl)), h⟩

def S13 : SFn := fun f args k => match f, args with
  | 56, [.vv none .line xss, .el (.sc (.fl .f32 b)), .el (.sc (.fl .f32 d)), .el (.sc (.int .i64 n)), .el (.sc (.int .i64 w))] => k [.fresh 30 ⟨.f32, orNil (sharedOk xss b d n w) (sharedX xss b d n)⟩, .el (.sc (.bo (sharedOk xss b d n w)))]
  | _, _ => S12 f args k
abbrev M13 : MFn := M12
def T13 : TT := tab.T S13 muts M13
theorem tok13 : TOK Try.prog T13 := by
  refine (tab_ok tabok).tok (fun f args k out h => ?_) (fun f vec args k out h => ?_)
  · change S13 f args k = some out at h
    unfold S13 at h
    split at h
    · exact (fun k out h => cok_call (c56 _ _ _ _ _ k out h)) k out h
    · exact tok12.S f args k out h
  · exact tok12.M f vec args k out h

end Go.Sm.Ytdeplgocckdbiaa
