/- What the functions hand back: level 13. -/
import Derived.Test.YtpckpfbjhnllbaaD13
namespace Go.Sm.Ytpckpfbjhnllbaa
open Go Go.Sm Go.RowKit Go.Proofs

/-! impl.FitLine -/
def a17 : Ann := ann [(7, [1, 2, 3, 5, 10, 13, 53, 54], [5, 10, 13])] [10, 11, 12] 0
def lp17 : St → (Ex → St → R) → R := fun s k => match s with
  | ⟨[(1, .fv (.vw (some 1) ⟨.f32, ys⟩)), (2, .fv (.el (.sc (.fl .f32 b)))), (3, .fv (.el (.sc (.fl .f32 d)))), (5, .fv (.pt ⟨.r 0, 4, 0, 0⟩)), (10, .fv (.pt ⟨.r 1, 4, 0, 0⟩)), (13, .fv (.el (.sc (.fl .f32 rr)))), (53, .fv (.el (.sc (.int .i64 n)))), (54, .fv (.el (.sc (.int .i64 i))))], [some ⟨38, ⟨.line, ln⟩⟩, some ⟨38, ⟨.line, rz⟩⟩]⟩ => (match ((decide (n ≤ 16) && (decide (i = 0) && (Nat.ble 1 (ln : List LineV).length && (Nat.ble 1 (rz : List LineV).length && Nat.ble ys.length 128)))) : Bool) with | true => (match fitRun (stepI ys b d) (n.toNat) ((ln : List LineV).getD 0 noLine) rr with | some s => k (.exit 0) ⟨[(5, .fv (.pt ⟨.r 0, 4, 0, 0⟩)), (10, .fv (.pt ⟨.r 1, 4, 0, 0⟩)), (13, .fv (.el (.sc (.fl .f32 s.2))))], [some ⟨38, ⟨.line, (ln : List LineV).set 0 s.1⟩⟩, some ⟨38, ⟨.line, rz⟩⟩]⟩ | none => k .ret ⟨[(10, .fv (.pt ⟨.r 0, 4, 0, 0⟩)), (11, .fv (.el (.sc (.fl .f32 0)))), (12, .fv (.el (.sc (.bo false))))], [some ⟨38, ⟨.line, (rz : List LineV).set 0 (⟨0, 0, 0, 0⟩ : LineV)⟩⟩]⟩) | false => none)
  | _ => none
def l17 : Loops := fun key s k => bif Nat.beq key 7 then lp17 s k else none
theorem st17 (ys : List Nat) (b : Nat) (d : Nat) (rr : Nat) (n : Int) (i : Int) (ln : List LineV) (rz : List LineV) (m : Nat) (k : Ex → St → R) : iterK a17 [1, 2, 3, 5, 10, 13, 53, 54] [5, 10, 13] (codeK T13 a17 l17 Try.f17.ntmps (loopAt Try.f17 0)) (m + 1) ⟨[(1, .fv (.vw (some 1) ⟨.f32, ys⟩)), (2, .fv (.el (.sc (.fl .f32 b)))), (3, .fv (.el (.sc (.fl .f32 d)))), (5, .fv (.pt ⟨.r 0, 4, 0, 0⟩)), (10, .fv (.pt ⟨.r 1, 4, 0, 0⟩)), (13, .fv (.el (.sc (.fl .f32 rr)))), (53, .fv (.el (.sc (.int .i64 n)))), (54, .fv (.el (.sc (.int .i64 i))))], [some ⟨38, ⟨.line, ln⟩⟩, some ⟨38, ⟨.line, rz⟩⟩]⟩ k = (match (decide ((i : Int) < n) : Bool) with | true => (match (ln : List LineV)[0]? with | some x1 => (match (Nat.ble ys.length 128 : Bool) with | true => (match (!(chOk x1 ys b d) : Bool) with | true => (match (rz : List LineV)[0]? with | some x2 => k .ret ⟨[(10, .fv (.pt ⟨.r 0, 4, 0, 0⟩)), (11, .fv (.el (.sc (.fl .f32 0)))), (12, .fv (.el (.sc (.bo false))))], [some ⟨38, ⟨.line, (rz : List LineV).set 0 ((⟨0, 0, 0, 0⟩ : LineV))⟩⟩]⟩ | none => none) | false => (match (ln : List LineV)[0]? with | some x3 => (match (decide (0 ≤ (0 : Int) ∧ (0 : Int) < ((orNil (chOk x1 ys b d) (chX x1 ys b d)).length : Int)) && true : Bool) with | true => (match (orNil (chOk x1 ys b d) (chX x1 ys b d) : List Nat)[Int.toNat 0]? with | some x4 => (match (ln : List LineV)[0]? with | some x5 => (match (decide (0 ≤ (1 : Int) ∧ (1 : Int) < ((orNil (chOk x1 ys b d) (chX x1 ys b d)).length : Int)) && true : Bool) with | true => (match (orNil (chOk x1 ys b d) (chX x1 ys b d) : List Nat)[Int.toNat 1]? with | some x6 => (match (ln : List LineV)[0]? with | some x7 => (match (decide (0 ≤ (2 : Int) ∧ (2 : Int) < ((orNil (chOk x1 ys b d) (chX x1 ys b d)).length : Int)) && true : Bool) with | true => (match (orNil (chOk x1 ys b d) (chX x1 ys b d) : List Nat)[Int.toNat 2]? with | some x8 => (match (ln : List LineV)[0]? with | some x9 => (match (!(restOk ([(⟨fop .add .f32 x3.p x4, fop .add .f32 x5.h x6, fop .add .f32 x7.w x8, x9.k⟩ : LineV)]) ys b d) : Bool) with | true => k (.exit 0) ⟨[(5, .fv (.pt ⟨.r 0, 4, 0, 0⟩)), (10, .fv (.pt ⟨.r 1, 4, 0, 0⟩)), (13, .fv (.el (.sc (.fl .f32 rr))))], [some ⟨38, ⟨.line, ln⟩⟩, some ⟨38, ⟨.line, rz⟩⟩]⟩ | false => (match (!(fcmp .lss .f32 (orZero (restOk ([(⟨fop .add .f32 x3.p x4, fop .add .f32 x5.h x6, fop .add .f32 x7.w x8, x9.k⟩ : LineV)]) ys b d) (restSum ([(⟨fop .add .f32 x3.p x4, fop .add .f32 x5.h x6, fop .add .f32 x7.w x8, x9.k⟩ : LineV)]) ys b d)) rr) : Bool) with | true => k (.exit 0) ⟨[(5, .fv (.pt ⟨.r 0, 4, 0, 0⟩)), (10, .fv (.pt ⟨.r 1, 4, 0, 0⟩)), (13, .fv (.el (.sc (.fl .f32 rr))))], [some ⟨38, ⟨.line, ln⟩⟩, some ⟨38, ⟨.line, rz⟩⟩]⟩ | false => (match (ln : List LineV)[0]? with | some x10 => iterK a17 [1, 2, 3, 5, 10, 13, 53, 54] [5, 10, 13] (codeK T13 a17 l17 Try.f17.ntmps (loopAt Try.f17 0)) m ⟨[(1, .fv (.vw (some 1) ⟨.f32, ys⟩)), (2, .fv (.el (.sc (.fl .f32 b)))), (3, .fv (.el (.sc (.fl .f32 d)))), (5, .fv (.pt ⟨.r 0, 4, 0, 0⟩)), (10, .fv (.pt ⟨.r 1, 4, 0, 0⟩)), (13, .fv (.el (.sc (.fl .f32 (orZero (restOk ([(⟨fop .add .f32 x3.p x4, fop .add .f32 x5.h x6, fop .add .f32 x7.w x8, x9.k⟩ : LineV)]) ys b d) (restSum ([(⟨fop .add .f32 x3.p x4, fop .add .f32 x5.h x6, fop .add .f32 x7.w x8, x9.k⟩ : LineV)]) ys b d)))))), (53, .fv (.el (.sc (.int .i64 n)))), (54, .fv (.el (.sc (.int .i64 (IntKind.i64.wrap (i + 1))))))], [some ⟨38, ⟨.line, (ln : List LineV).set 0 ((⟨fop .add .f32 x3.p x4, fop .add .f32 x5.h x6, fop .add .f32 x7.w x8, x9.k⟩ : LineV))⟩⟩, some ⟨38, ⟨.line, rz⟩⟩]⟩ k | none => none))) | none => none) | none => none) | false => none) | none => none) | none => none) | false => none) | none => none) | none => none) | false => none) | none => none)) | false => none) | none => none) | false => k (.exit 0) ⟨[(5, .fv (.pt ⟨.r 0, 4, 0, 0⟩)), (10, .fv (.pt ⟨.r 1, 4, 0, 0⟩)), (13, .fv (.el (.sc (.fl .f32 rr))))], [some ⟨38, ⟨.line, ln⟩⟩, some ⟨38, ⟨.line, rz⟩⟩]⟩) := by kernel_rfl
theorem ind17 (ys : List Nat) (b d : Nat) (n : Int) (rz : List LineV) (hy : Nat.ble ys.length 128 = true) (rz1 : Nat.ble 1 rz.length = true) (hn : n ≤ 16) (k : Ex → St → R) : ∀ (m j : Nat) (ln : List LineV) (rr : Nat), Nat.ble 1 ln.length = true → j + m = n.toNat → iterK a17 [1, 2, 3, 5, 10, 13, 53, 54] [5, 10, 13] (codeK T13 a17 l17 Try.f17.ntmps (loopAt Try.f17 0)) (m + 1) ⟨[(1, .fv (.vw (some 1) ⟨.f32, ys⟩)), (2, .fv (.el (.sc (.fl .f32 b)))), (3, .fv (.el (.sc (.fl .f32 d)))), (5, .fv (.pt ⟨.r 0, 4, 0, 0⟩)), (10, .fv (.pt ⟨.r 1, 4, 0, 0⟩)), (13, .fv (.el (.sc (.fl .f32 rr)))), (53, .fv (.el (.sc (.int .i64 n)))), (54, .fv (.el (.sc (.int .i64 (j : Int)))))], [some ⟨38, ⟨.line, ln⟩⟩, some ⟨38, ⟨.line, rz⟩⟩]⟩ k =
    (match fitRun (stepI ys b d) m (ln.getD 0 noLine) rr with
    | some s => k (.exit 0) ⟨[(5, .fv (.pt ⟨.r 0, 4, 0, 0⟩)), (10, .fv (.pt ⟨.r 1, 4, 0, 0⟩)), (13, .fv (.el (.sc (.fl .f32 s.2))))], [some ⟨38, ⟨.line, ln.set 0 s.1⟩⟩, some ⟨38, ⟨.line, rz⟩⟩]⟩
    | none => k .ret ⟨[(10, .fv (.pt ⟨.r 0, 4, 0, 0⟩)), (11, .fv (.el (.sc (.fl .f32 0)))), (12, .fv (.el (.sc (.bo false))))], [some ⟨38, ⟨.line, rz.set 0 (⟨0, 0, 0, 0⟩ : LineV)⟩⟩]⟩) := by
  intro m
  induction m with
  | zero =>
    intro j ln rr l1 hj
    have h1 : ¬ ((j : Int) < n) := by omega
    have l1_ := Nat.le_of_ble_eq_true l1
    rw [st17]
    simp only [h1, decide_false, fitRun, set_getD]
  | succ m ih =>
    intro j ln rr l1 hj
    have h1 : (j : Int) < n := by omega
    have l1_ := Nat.le_of_ble_eq_true l1
    have hy_ := Nat.le_of_ble_eq_true hy
    have lq : ln[0]? = some (ln.getD 0 noLine) := getI2 (by omega)
    have wn : IntKind.i64.wrap ((j : Int) + 1) = ((j + 1 : Nat) : Int) := wrapN (by omega) (by omega)
    rw [st17]
    simp only [h1, lq, wn, hy, decide_true]
    have rz1_ := Nat.le_of_ble_eq_true rz1
    have rq : rz[0]? = some (rz.getD 0 noLine) := getI2 (by omega)
    have nx : ∀ a : LineV, (ln.set 0 a).getD 0 noLine = a := fun a => getD_set0 l1_
    have nl : ∀ a : LineV, Nat.ble 1 (ln.set 0 a).length = true := fun a => by rw [List.length_set]; exact l1
    have nss : ∀ a c : LineV, (ln.set 0 a).set 0 c = ln.set 0 c := fun a c => List.set_set _
    have nse : ln.set 0 (ln.getD 0 noLine) = ln := set_getD _ _
    generalize ln.getD 0 noLine = L at *
    rw [fitRun_succ]
    cases hc : chL L ys b d with
    | none =>
      have h5 : chOk L ys b d = false := by unfold chOk; rw [hc]; rfl
      have h6 : stepI ys b d L rr = none := by unfold stepI; rw [hc]
      simp only [h5, h6, rq, Bool.not_false]
    | some c =>
      have hlen := chL_len hy_ hc
      have h5 : chOk L ys b d = true := by unfold chOk; rw [hc]; rfl
      have h7 : chX L ys b d = c := by unfold chX; rw [hc]; rfl
      have h6 : stepI ys b d L rr = bif restOk [nextL L c] ys b d && fcmp .lss .f32 (restSum [nextL L c] ys b d) rr then some (some (nextL L c, restSum [nextL L c] ys b d)) else some none := by unfold stepI; rw [hc]
      obtain ⟨c0, c1, c2, rfl⟩ := lst3 hlen
      have k0 : decide ((0 : Int) ≤ 0 ∧ (0 : Int) < (([c0, c1, c2] : List Nat).length : Int)) = true := decide_eq_true (by simp)
      have k1 : decide ((0 : Int) ≤ 1 ∧ (1 : Int) < (([c0, c1, c2] : List Nat).length : Int)) = true := decide_eq_true (by simp)
      have k2 : decide ((0 : Int) ≤ 2 ∧ (2 : Int) < (([c0, c1, c2] : List Nat).length : Int)) = true := decide_eq_true (by simp)
      have i0 : ([c0, c1, c2] : List Nat)[Int.toNat 0]? = some c0 := rfl
      have i1 : ([c0, c1, c2] : List Nat)[Int.toNat 1]? = some c1 := rfl
      have i2 : ([c0, c1, c2] : List Nat)[Int.toNat 2]? = some c2 := rfl
      have eN : (⟨fop .add .f32 L.p c0, fop .add .f32 L.h c1, fop .add .f32 L.w c2, L.k⟩ : LineV) = nextL L [c0, c1, c2] := rfl
      simp only [h5, h6, h7, orNil, k0, k1, k2, i0, i1, i2, eN, Bool.not_true, Bool.and_self, Bool.and_true]
      generalize nextL L [c0, c1, c2] = N at *
      have hh := ih (j + 1) (ln.set 0 N) (restSum [N] ys b d) (nl N) (by omega)
      simp only [nx, nss] at hh
      rcases Bool.eq_false_or_eq_true (restOk [N] ys b d) with g | g
      case inr => simp only [g, Bool.not_false, Bool.false_and, cond_false, nse]
      case inl =>
        simp only [g, orZero, Bool.not_true, Bool.true_and]
        generalize restSum [N] ys b d = Q at *
        cases fcmp .lss .f32 Q rr with
        | false => simp only [Bool.not_false, cond_false, nse]
        | true =>
          simp only [Bool.not_true, cond_true]
          exact hh

theorem lk17 : LOK T13 a17 l17 Try.f17.ntmps (loopAt Try.f17 0) := by
  intro ins outs hA s k out h
  have hA' : ([1, 2, 3, 5, 10, 13, 53, 54], [5, 10, 13]) = (ins, outs) := Option.some.inj ((show a17.lp (firstRegion (loopAt Try.f17 0)) = some ([1, 2, 3, 5, 10, 13, 53, 54], [5, 10, 13]) by kernel_rfl).symm.trans hA)
  cases hA'
  have hk : firstRegion (loopAt Try.f17 0) = 7 := by kernel_rfl
  rw [hk] at h
  change lp17 s k = some out at h
  unfold lp17 at h
  split at h
  · rename_i ys b d rr n i ln rz
    cases hg : (decide (n ≤ 16) && (decide (i = 0) && (Nat.ble 1 ln.length && (Nat.ble 1 rz.length && Nat.ble ys.length 128)))) with
    | false => rw [hg] at h; cases h
    | true =>
      rw [hg] at h
      simp only [Bool.and_eq_true, decide_eq_true_eq] at hg
      obtain ⟨hn, rfl, l1, rz1, hy⟩ := hg
      refine ⟨n.toNat + 1, ?_⟩
      exact (ind17 ys b d n rz hy rz1 hn k n.toNat 0 ln rr l1 (by omega)).trans h
  · cases h
theorem e17 (lp : Nat) (lh : Nat) (lw : Nat) (lk : Int) (ys : List Nat) (b : Nat) (d : Nat) (n : Int) : runFn T13 a17 l17 Try.f17 [.el (.ag [(.fl .f32 lp), (.fl .f32 lh), (.fl .f32 lw), (.int .i64 lk)]), .vw none ⟨.f32, ys⟩, .el (.sc (.fl .f32 b)), .el (.sc (.fl .f32 d)), .el (.sc (.int .i64 n))] = (match (!(okLine ((⟨lp, lh, lw, lk⟩ : LineV))) : Bool) with | true => some ⟨[.el (.ag [(.fl .f32 0), (.fl .f32 0), (.fl .f32 0), (.int .i64 0)]), .el (.sc (.fl .f32 0)), .el (.sc (.bo false))], none⟩ | false => (match (!(listOk ys 3) : Bool) with | true => some ⟨[.el (.ag [(.fl .f32 0), (.fl .f32 0), (.fl .f32 0), (.int .i64 0)]), .el (.sc (.fl .f32 0)), .el (.sc (.bo false))], none⟩ | false => (match (!(([b, d]).all fin) : Bool) with | true => some ⟨[.el (.ag [(.fl .f32 0), (.fl .f32 0), (.fl .f32 0), (.int .i64 0)]), .el (.sc (.fl .f32 0)), .el (.sc (.bo false))], none⟩ | false => (match (!(within n 1 16) : Bool) with | true => some ⟨[.el (.ag [(.fl .f32 0), (.fl .f32 0), (.fl .f32 0), (.int .i64 0)]), .el (.sc (.fl .f32 0)), .el (.sc (.bo false))], none⟩ | false => (match (!(restOk ([(⟨lp, lh, lw, lk⟩ : LineV)]) ys b d) : Bool) with | true => some ⟨[.el (.ag [(.fl .f32 0), (.fl .f32 0), (.fl .f32 0), (.int .i64 0)]), .el (.sc (.fl .f32 0)), .el (.sc (.bo false))], none⟩ | false => (match ((decide (n ≤ 16) && (decide (0 = 0) && (Nat.ble 1 ([(⟨lp, lh, lw, lk⟩ : LineV)] : List LineV).length && (Nat.ble 1 ([(⟨0, 0, 0, 0⟩ : LineV)] : List LineV).length && Nat.ble ys.length 128)))) : Bool) with | true => (match fitRun (stepI ys b d) (n.toNat) (([(⟨lp, lh, lw, lk⟩ : LineV)] : List LineV).getD 0 noLine) (orZero (restOk ([(⟨lp, lh, lw, lk⟩ : LineV)]) ys b d) (restSum ([(⟨lp, lh, lw, lk⟩ : LineV)]) ys b d)) with | some s => (match (([(⟨lp, lh, lw, lk⟩ : LineV)] : List LineV).set 0 s.1 : List LineV)[0]? with | some x1 => some ⟨[.el (.ag [(.fl .f32 x1.p), (.fl .f32 x1.h), (.fl .f32 x1.w), (.int .i64 x1.k)]), .el (.sc (.fl .f32 s.2)), .el (.sc (.bo true))], none⟩ | none => none) | none => (match (([(⟨0, 0, 0, 0⟩ : LineV)] : List LineV).set 0 (⟨0, 0, 0, 0⟩ : LineV) : List LineV)[0]? with | some x2 => some ⟨[.el (.ag [(.fl .f32 x2.p), (.fl .f32 x2.h), (.fl .f32 x2.w), (.int .i64 x2.k)]), .el (.sc (.fl .f32 0)), .el (.sc (.bo false))], none⟩ | none => none)) | false => none)))))) := by kernel_rfl
theorem s17 (lp : Nat) (lh : Nat) (lw : Nat) (lk : Int) (ys : List Nat) (b : Nat) (d : Nat) (n : Int) (hg : (Nat.ble ys.length big) = true) : runFn T13 a17 l17 Try.f17 [.el (.ag [(.fl .f32 lp), (.fl .f32 lh), (.fl .f32 lw), (.int .i64 lk)]), .vw none ⟨.f32, ys⟩, .el (.sc (.fl .f32 b)), .el (.sc (.fl .f32 d)), .el (.sc (.int .i64 n))] = (match flI ((⟨lp, lh, lw, lk⟩ : LineV)) ys b d n with | some s_12 => some ⟨[.el (.ag [(.fl .f32 s_12.1.p), (.fl .f32 s_12.1.h), (.fl .f32 s_12.1.w), (.int .i64 s_12.1.k)]), .el (.sc (.fl .f32 s_12.2)), .el (.sc (.bo true))], none⟩ | none => some ⟨[.el (.ag [(.fl .f32 0), (.fl .f32 0), (.fl .f32 0), (.int .i64 0)]), .el (.sc (.fl .f32 0)), .el (.sc (.bo false))], none⟩) := by
  rw [e17]
  have hv : flI (⟨lp, lh, lw, lk⟩ : LineV) ys b d n = bif (okLine (⟨lp, lh, lw, lk⟩ : LineV) && (listOk ys 3 && (fin b && (fin d && within n 1 16)))) && restOk [(⟨lp, lh, lw, lk⟩ : LineV)] ys b d then fitRun (stepI ys b d) n.toNat (⟨lp, lh, lw, lk⟩ : LineV) (restSum [(⟨lp, lh, lw, lk⟩ : LineV)] ys b d) else none := rfl
  have hall : [b, d].all fin = (fin b && fin d) := by simp [List.all]
  rw [hv]
  simp only [hall]
  cases o1 : okLine (⟨lp, lh, lw, lk⟩ : LineV) with
  | false => simp
  | true =>
  cases o2 : listOk ys 3 with
  | false => simp
  | true =>
  cases hb : fin b with
  | false => simp
  | true =>
  cases hd : fin d with
  | false => simp
  | true =>
  cases hw : within n 1 16 with
  | false => simp
  | true =>
  have hn : n ≤ 16 := by
    unfold within at hw
    simp only [Bool.and_eq_true, decide_eq_true_eq] at hw
    omega
  have hy : ys.length ≤ 128 := by
    unfold listOk at o2
    simp only [Bool.and_eq_true, decide_eq_true_eq] at o2
    omega
  have hy8 : Nat.ble ys.length 128 = true := Nat.ble_eq_true_of_le hy
  rcases Bool.eq_false_or_eq_true (restOk [(⟨lp, lh, lw, lk⟩ : LineV)] ys b d) with hr | hr
  case inr => simp [hr]
  case inl =>
    have g2 : Nat.ble 1 [(⟨lp, lh, lw, lk⟩ : LineV)].length = true := rfl
    have z1 : Nat.ble 1 [(⟨0, 0, 0, 0⟩ : LineV)].length = true := rfl
    have e0 : [(⟨lp, lh, lw, lk⟩ : LineV)].getD 0 noLine = (⟨lp, lh, lw, lk⟩ : LineV) := rfl
    simp only [hr, orZero, hn, hy8, g2, z1, e0, decide_true, Bool.not_true, Bool.and_self, cond_true]
    cases fitRun (stepI ys b d) n.toNat (⟨lp, lh, lw, lk⟩ : LineV) (restSum [(⟨lp, lh, lw, lk⟩ : LineV)] ys b d) <;> rfl
theorem c17 (lp : Nat) (lh : Nat) (lw : Nat) (lk : Int) (ys : List Nat) (b : Nat) (d : Nat) (n : Int) (k : List RV → R) (out : Out) (h : (match (Nat.ble ys.length big : Bool) with | true => (match flI ((⟨lp, lh, lw, lk⟩ : LineV)) ys b d n with | some s_11 => k [.el (.ag [(.fl .f32 s_11.1.p), (.fl .f32 s_11.1.h), (.fl .f32 s_11.1.w), (.int .i64 s_11.1.k)]), .el (.sc (.fl .f32 s_11.2)), .el (.sc (.bo true))] | none => k [.el (.ag [(.fl .f32 0), (.fl .f32 0), (.fl .f32 0), (.int .i64 0)]), .el (.sc (.fl .f32 0)), .el (.sc (.bo false))]) | false => none) = some out) : ∃ rs, Real Try.prog 17 ∧ COK Try.prog 17 [.el (.ag [(.fl .f32 lp), (.fl .f32 lh), (.fl .f32 lw), (.int .i64 lk)]), .vw none ⟨.f32, ys⟩, .el (.sc (.fl .f32 b)), .el (.sc (.fl .f32 d)), .el (.sc (.int .i64 n))] rs ∧ k rs = some out := by
  cases g0 : (Nat.ble ys.length big : Bool) with
  | true =>
    rw [g0] at h
    cases g1 : (flI ((⟨lp, lh, lw, lk⟩ : LineV)) ys b d n) with
    | some s_11 =>
      rw [g1] at h
      exact ⟨_, real Try.func17 (by kernel_rfl), fn_ok tok13 (A := a17) (L := l17) (r := none) Try.func17 (by kernel_rfl) (by kernel_rfl) (loops1 (by kernel_rfl) lk17) (by rw [s17 _ _ _ _ _ _ _ _ g0, g1]), h⟩
    | none =>
      rw [g1] at h
      exact ⟨_, real Try.func17 (by kernel_rfl), fn_ok tok13 (A := a17) (L := l17) (r := none) Try.func17 (by kernel_rfl) (by kernel_rfl) (loops1 (by kernel_rfl) lk17) (by rw [s17 _ _ _ _ _ _ _ _ g0, g1]), h⟩
  | false =>
    rw [g0] at h
    cases h

def S14 : SFn := fun f args k => match f, args with
  | 17, [.el (.ag [(.fl .f32 lp), (.fl .f32 lh), (.fl .f32 lw), (.int .i64 lk)]), .vw none ⟨.f32, ys⟩, .el (.sc (.fl .f32 b)), .el (.sc (.fl .f32 d)), .el (.sc (.int .i64 n))] => (match (Nat.ble ys.length big : Bool) with | true => (match flI ((⟨lp, lh, lw, lk⟩ : LineV)) ys b d n with | some s_13 => k [.el (.ag [(.fl .f32 s_13.1.p), (.fl .f32 s_13.1.h), (.fl .f32 s_13.1.w), (.int .i64 s_13.1.k)]), .el (.sc (.fl .f32 s_13.2)), .el (.sc (.bo true))] | none => k [.el (.ag [(.fl .f32 0), (.fl .f32 0), (.fl .f32 0), (.int .i64 0)]), .el (.sc (.fl .f32 0)), .el (.sc (.bo false))]) | false => none)
  | _, _ => S13 f args k
abbrev M14 : MFn := M13
def T14 : TT := tab.T S14 muts M14
theorem tok14 : TOK Try.prog T14 := by
  refine (tab_ok tabok).tok (fun f args k out h => ?_) (fun f vec args k out h => ?_)
  · change S14 f args k = some out at h
    unfold S14 at h
    split at h
    · exact (fun k out h => cok_call (c17 _ _ _ _ _ _ _ _ k out h)) k out h
    · exact tok13.S f args k out h
  · exact tok13.M f vec args k out h

end Go.Sm.Ytpckpfbjhnllbaa
