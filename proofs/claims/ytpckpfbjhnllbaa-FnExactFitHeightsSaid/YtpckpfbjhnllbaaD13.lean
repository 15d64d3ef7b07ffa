/- What the functions hand back: level 12. -/
import Derived.Test.YtpckpfbjhnllbaaD12
namespace Go.Sm.Ytpckpfbjhnllbaa
open Go Go.Sm Go.RowKit Go.Proofs

/-! impl.FitHeights -/
def a9 : Ann := ann [(5, [0, 1, 2, 3, 10, 28, 29, 30], [0, 1, 10]), (18, [15, 17, 64, 65], [17])] [8, 9] 0
def lp9 : St → (Ex → St → R) → R := fun s k => match s with
  | ⟨[(0, .fv (.vw (some 0) ⟨.line, xs⟩)), (1, .fv (.vw (some 1) ⟨.f32, ys⟩)), (2, .fv (.el (.sc (.fl .f32 b)))), (3, .fv (.el (.sc (.fl .f32 d)))), (10, .fv (.own 0)), (28, .fv (.vw (some 0) ⟨.line, us⟩)), (29, .fv (.el (.sc (.int .i64 n)))), (30, .fv (.el (.sc (.int .i64 i))))], [some ⟨23, ⟨.lf, fs⟩⟩]⟩ => (match ((decide (n = (us.length : Int)) && (decide (i = 0) && (Nat.ble us.length big && Nat.ble ((fs : List ((List Nat))).length + us.length) big))) : Bool) with
    | true => (match repE (fitF us b d ys.length) (us.length) 0 ((fs : List ((List Nat))) : (List (List Nat))) with
      | some s => k (.exit 0) ⟨[(0, .fv (.vw (some 0) ⟨.line, xs⟩)), (1, .fv (.vw (some 1) ⟨.f32, ys⟩)), (10, .fv (.own 0))], [some ⟨23, ⟨.lf, s⟩⟩]⟩
      | none => k .ret ⟨[(8, .fv (.nil)), (9, .fv (.el (.sc (.bo false))))], []⟩)
    | false => none)
  | _ => none
def lp9_1 : St → (Ex → St → R) → R := fun s k => match s with
  | ⟨[(15, .fv (.own 0)), (17, .fv (.own 1)), (64, .fv (.el (.sc (.int .i64 n)))), (65, .fv (.el (.sc (.int .i64 i))))], [some ⟨24, ⟨.f32, hs⟩⟩, some ⟨38, ⟨.line, zs⟩⟩]⟩ => (match ((decide (n = ((hs : List Nat).length : Int)) && (decide (i = 0) && (Nat.ble (hs : List Nat).length big && Nat.beq (zs : List LineV).length (hs : List Nat).length))) : Bool) with
    | true => k (.exit 2) ⟨[(17, .fv (.own 0))], [some ⟨38, ⟨.line, rep (setF (hs : List Nat)) ((hs : List Nat).length) 0 ((zs : List LineV) : (List LineV))⟩⟩]⟩
    | false => none)
  | _ => none
def l9 : Loops := fun key s k => bif Nat.beq key 5 then lp9 s k else bif Nat.beq key 18 then lp9_1 s k else none
theorem st9 (xs : List LineV) (ys : List Nat) (b : Nat) (d : Nat) (us : List LineV) (n : Int) (i : Int) (fs : List ((List Nat))) (m : Nat) (k : Ex → St → R) : iterK a9 [0, 1, 2, 3, 10, 28, 29, 30] [0, 1, 10] (codeK T12 a9 l9 Try.f9.ntmps (loopAt Try.f9 0)) (m + 1) ⟨[(0, .fv (.vw (some 0) ⟨.line, xs⟩)), (1, .fv (.vw (some 1) ⟨.f32, ys⟩)), (2, .fv (.el (.sc (.fl .f32 b)))), (3, .fv (.el (.sc (.fl .f32 d)))), (10, .fv (.own 0)), (28, .fv (.vw (some 0) ⟨.line, us⟩)), (29, .fv (.el (.sc (.int .i64 n)))), (30, .fv (.el (.sc (.int .i64 i))))], [some ⟨23, ⟨.lf, fs⟩⟩]⟩ k = (match (decide ((i : Int) < n) : Bool) with
  | true => (match (decide (0 ≤ (i : Int) ∧ (i : Int) < (us.length : Int)) && true : Bool) with
    | true => (match (us : List LineV)[Int.toNat i]? with
      | some x1 => (match (!(spOk ([(⟨x1.p, 1065353216, x1.w, x1.k⟩ : LineV)]) b d ((ys.length : Int))) : Bool) with
        | true => k .ret ⟨[(8, .fv (.nil)), (9, .fv (.el (.sc (.bo false))))], []⟩
        | false => (match (decide ((fs : List (List Nat)).length + ([orNil (spOk ([(⟨x1.p, 1065353216, x1.w, x1.k⟩ : LineV)]) b d ((ys.length : Int))) (spX ([(⟨x1.p, 1065353216, x1.w, x1.k⟩ : LineV)]) b d ((ys.length : Int)))] : List (List Nat)).length ≤ 1099511627776) : Bool) with
          | true => iterK a9 [0, 1, 2, 3, 10, 28, 29, 30] [0, 1, 10] (codeK T12 a9 l9 Try.f9.ntmps (loopAt Try.f9 0)) m ⟨[(0, .fv (.vw (some 0) ⟨.line, xs⟩)), (1, .fv (.vw (some 1) ⟨.f32, ys⟩)), (2, .fv (.el (.sc (.fl .f32 b)))), (3, .fv (.el (.sc (.fl .f32 d)))), (10, .fv (.own 0)), (28, .fv (.vw (some 0) ⟨.line, us⟩)), (29, .fv (.el (.sc (.int .i64 n)))), (30, .fv (.el (.sc (.int .i64 (IntKind.i64.wrap (i + 1))))))], [some ⟨23, ⟨.lf, (fs : List (List Nat)) ++ ([orNil (spOk ([(⟨x1.p, 1065353216, x1.w, x1.k⟩ : LineV)]) b d ((ys.length : Int))) (spX ([(⟨x1.p, 1065353216, x1.w, x1.k⟩ : LineV)]) b d ((ys.length : Int)))])⟩⟩]⟩ k
          | false => none))
      | none => none)
    | false => none)
  | false => k (.exit 0) ⟨[(0, .fv (.vw (some 0) ⟨.line, xs⟩)), (1, .fv (.vw (some 1) ⟨.f32, ys⟩)), (10, .fv (.own 0))], [some ⟨23, ⟨.lf, fs⟩⟩]⟩) := by kernel_rfl
theorem ind9 (xs : List LineV) (ys : List Nat) (b : Nat) (d : Nat) (us : List LineV) (hx : (Nat.ble us.length big) = true) (k : Ex → St → R) : ∀ (m j : Nat) (fs : List (List Nat)), fs.length + m ≤ 1099511627776 → 0 ≤ j → j + m = us.length → iterK a9 [0, 1, 2, 3, 10, 28, 29, 30] [0, 1, 10] (codeK T12 a9 l9 Try.f9.ntmps (loopAt Try.f9 0)) (m + 1) ⟨[(0, .fv (.vw (some 0) ⟨.line, xs⟩)), (1, .fv (.vw (some 1) ⟨.f32, ys⟩)), (2, .fv (.el (.sc (.fl .f32 b)))), (3, .fv (.el (.sc (.fl .f32 d)))), (10, .fv (.own 0)), (28, .fv (.vw (some 0) ⟨.line, us⟩)), (29, .fv (.el (.sc (.int .i64 (us.length : Int))))), (30, .fv (.el (.sc (.int .i64 (j : Int)))))], [some ⟨23, ⟨.lf, fs⟩⟩]⟩ k =
    (match repE (fitF us b d ys.length) m j (fs : (List (List Nat))) with
    | some s => k (.exit 0) ⟨[(0, .fv (.vw (some 0) ⟨.line, xs⟩)), (1, .fv (.vw (some 1) ⟨.f32, ys⟩)), (10, .fv (.own 0))], [some ⟨23, ⟨.lf, s⟩⟩]⟩
    | none => k .ret ⟨[(8, .fv (.nil)), (9, .fv (.el (.sc (.bo false))))], []⟩) := by
  intro m
  induction m with
  | zero =>
    intro j fs hs0 hlo hj
    have hx_ := big_le hx
    have h1 : ¬ (((j : Int) < (us.length : Int))) := by omega
    rw [st9]
    simp only [h1, repE, decide_false] <;> rfl
  | succ m ih =>
    intro j fs hs0 hlo hj
    have hx_ := big_le hx
    have h1 : ((j : Int) < (us.length : Int)) := by omega
    have ub : (0 : Int) ≤ ((j : Nat) : Int) ∧ ((j : Nat) : Int) < (us.length : Int) := by omega
    have uq : us[Int.toNat ((j : Nat) : Int)]? = some (us.getD (j) noLine) := getI (by omega)
    have up : us[j]? = some (us.getD (j) noLine) := getI2 (by omega)
    have hfl : fs.length + 1 ≤ 1099511627776 := by omega
    have wn : IntKind.i64.wrap ((j : Int) + 1) = ((j + 1 : Nat) : Int) := wrapN (by omega) (by omega)
    rw [st9]
    simp only [h1, wn, ub, uq, up, hfl, and_self, decide_true, Bool.and_true, Int.le_refl]
    rw [repE_succ]
    have eo : (⟨(us.getD j noLine).p, 1065353216, (us.getD j noLine).w, (us.getD j noLine).k⟩ : LineV) = oneL (us.getD j noLine) := rfl
    have e5 : fitF us b d ys.length j fs = bif spOk [oneL (us.getD j noLine)] b d (ys.length : Int) then some (fs ++ [spX [oneL (us.getD j noLine)] b d (ys.length : Int)]) else none := rfl
    rw [e5]
    simp only [eo]
    cases hf : spOk [oneL (us.getD j noLine)] b d (ys.length : Int) with
    | false => rfl
    | true =>
      simp only [orNil, hfl, List.length_singleton, decide_true, Bool.not_true, cond_true]
      exact ih (j + 1) (fs ++ [spX [oneL (us.getD j noLine)] b d (ys.length : Int)]) (by simp; omega) (by omega) (by omega)

theorem lk9 : LOK T12 a9 l9 Try.f9.ntmps (loopAt Try.f9 0) := by
  intro ins outs hA s k out h
  have hA' : ([0, 1, 2, 3, 10, 28, 29, 30], [0, 1, 10]) = (ins, outs) := Option.some.inj ((show a9.lp (firstRegion (loopAt Try.f9 0)) = some ([0, 1, 2, 3, 10, 28, 29, 30], [0, 1, 10]) by kernel_rfl).symm.trans hA)
  cases hA'
  have hk : firstRegion (loopAt Try.f9 0) = 5 := by kernel_rfl
  rw [hk] at h
  change lp9 s k = some out at h
  unfold lp9 at h
  split at h
  · rename_i xs ys b d us n i fs
    cases hg : (decide (n = (us.length : Int)) && (decide (i = 0) && (Nat.ble us.length big && Nat.ble (fs.length + us.length) big))) with
    | false => rw [hg] at h; cases h
    | true =>
      rw [hg] at h
      simp only [Bool.and_eq_true, decide_eq_true_eq] at hg
      obtain ⟨rfl, rfl, hx, gs0⟩ := hg
      refine ⟨(us.length) + 1, ?_⟩
      have hx_ := big_le hx
      have gs0_ := big_le gs0
      exact (ind9 xs ys b d us hx k (us.length) 0 fs (by omega) (by omega) (by omega)).trans h
  · cases h
theorem st9_1 (n : Int) (i : Int) (hs : List Nat) (zs : List LineV) (m : Nat) (k : Ex → St → R) : iterK a9 [15, 17, 64, 65] [17] (codeK T12 a9 l9 Try.f9.ntmps (loopAt Try.f9 1)) (m + 1) ⟨[(15, .fv (.own 0)), (17, .fv (.own 1)), (64, .fv (.el (.sc (.int .i64 n)))), (65, .fv (.el (.sc (.int .i64 i))))], [some ⟨24, ⟨.f32, hs⟩⟩, some ⟨38, ⟨.line, zs⟩⟩]⟩ k = (match (decide ((i : Int) < n) : Bool) with
  | true => (match (decide (0 ≤ (i : Int) ∧ (i : Int) < (hs.length : Int)) && true : Bool) with
    | true => (match (hs : List Nat)[Int.toNat i]? with
      | some x1 => (match (decide (0 ≤ (i : Int) ∧ (i : Int) < (zs.length : Int)) && true : Bool) with
        | true => (match (zs : List LineV)[Int.toNat i]? with
          | some x2 => iterK a9 [15, 17, 64, 65] [17] (codeK T12 a9 l9 Try.f9.ntmps (loopAt Try.f9 1)) m ⟨[(15, .fv (.own 0)), (17, .fv (.own 1)), (64, .fv (.el (.sc (.int .i64 n)))), (65, .fv (.el (.sc (.int .i64 (IntKind.i64.wrap (i + 1))))))], [some ⟨24, ⟨.f32, hs⟩⟩, some ⟨38, ⟨.line, (zs : List LineV).set (Int.toNat i) ((⟨x2.p, x1, x2.w, x2.k⟩ : LineV))⟩⟩]⟩ k
          | none => none)
        | false => none)
      | none => none)
    | false => none)
  | false => k (.exit 2) ⟨[(17, .fv (.own 0))], [some ⟨38, ⟨.line, zs⟩⟩]⟩) := by kernel_rfl
theorem ind9_1 (hs : List Nat) (hx : (Nat.ble hs.length big) = true) (k : Ex → St → R) : ∀ (m j : Nat) (zs : List LineV), zs.length = hs.length → 0 ≤ j → j + m = hs.length → iterK a9 [15, 17, 64, 65] [17] (codeK T12 a9 l9 Try.f9.ntmps (loopAt Try.f9 1)) (m + 1) ⟨[(15, .fv (.own 0)), (17, .fv (.own 1)), (64, .fv (.el (.sc (.int .i64 (hs.length : Int))))), (65, .fv (.el (.sc (.int .i64 (j : Int)))))], [some ⟨24, ⟨.f32, hs⟩⟩, some ⟨38, ⟨.line, zs⟩⟩]⟩ k =
    k (.exit 2) ⟨[(17, .fv (.own 0))], [some ⟨38, ⟨.line, rep (setF hs) m j (zs : (List LineV))⟩⟩]⟩ := by
  intro m
  induction m with
  | zero =>
    intro j zs hs0 hlo hj
    have hx_ := big_le hx
    have h1 : ¬ (((j : Int) < (hs.length : Int))) := by omega
    rw [st9_1]
    simp only [h1, rep, decide_false] <;> rfl
  | succ m ih =>
    intro j zs hs0 hlo hj
    have hx_ := big_le hx
    have h1 : ((j : Int) < (hs.length : Int)) := by omega
    have hb : (0 : Int) ≤ ((j : Nat) : Int) ∧ ((j : Nat) : Int) < (hs.length : Int) := by omega
    have hq : hs[Int.toNat ((j : Nat) : Int)]? = some (hs.getD (j) 0) := getI (by omega)
    have hp : hs[j]? = some (hs.getD (j) 0) := getI2 (by omega)
    have zl : j < zs.length := by omega
    have zb : (0 : Int) ≤ ((j : Nat) : Int) ∧ ((j : Nat) : Int) < (zs.length : Int) := by omega
    have zq : zs[Int.toNat ((j : Nat) : Int)]? = some (zs.getD (j) noLine) := getI (by omega)
    have zp : zs[j]? = some (zs.getD (j) noLine) := getI2 (by omega)
    have wn : IntKind.i64.wrap ((j : Int) + 1) = ((j + 1 : Nat) : Int) := wrapN (by omega) (by omega)
    rw [st9_1]
    simp only [h1, wn, hb, hq, hp, zl, zb, zq, zp, and_self, decide_true, Bool.and_true, Int.le_refl]
    exact ih (j + 1) (setF hs j zs) (by simpa [setF] using hs0) (by omega) (by omega)

theorem lk9_1 : LOK T12 a9 l9 Try.f9.ntmps (loopAt Try.f9 1) := by
  intro ins outs hA s k out h
  have hA' : ([15, 17, 64, 65], [17]) = (ins, outs) := Option.some.inj ((show a9.lp (firstRegion (loopAt Try.f9 1)) = some ([15, 17, 64, 65], [17]) by kernel_rfl).symm.trans hA)
  cases hA'
  have hk : firstRegion (loopAt Try.f9 1) = 18 := by kernel_rfl
  rw [hk] at h
  change lp9_1 s k = some out at h
  unfold lp9_1 at h
  split at h
  · rename_i n i hs zs
    cases hg : (decide (n = (hs.length : Int)) && (decide (i = 0) && (Nat.ble hs.length big && Nat.beq zs.length hs.length))) with
    | false => rw [hg] at h; cases h
    | true =>
      rw [hg] at h
      simp only [Bool.and_eq_true, decide_eq_true_eq] at hg
      obtain ⟨rfl, rfl, hx, gs0⟩ := hg
      refine ⟨(hs.length) + 1, ?_⟩
      have hx_ := big_le hx
      have gs0_ := Nat.eq_of_beq_eq_true gs0
      exact (ind9_1 hs hx k (hs.length) 0 zs (by omega) (by omega) (by omega)).trans h
  · cases h
theorem e9 (xs : List LineV) (ys : List Nat) (b : Nat) (d : Nat) : runFn T12 a9 l9 Try.f9 [.vw none ⟨.line, xs⟩, .vw none ⟨.f32, ys⟩, .el (.sc (.fl .f32 b)), .el (.sc (.fl .f32 d))] = (match (decide (6 ≤ 1099511627776) : Bool) with
  | true => (match (!(linesIn xs 1 6) : Bool) with
    | true => some ⟨[.nil, .el (.sc (.bo false))], none⟩
    | false => (match (!(listOk ys 1) : Bool) with
      | true => some ⟨[.nil, .el (.sc (.bo false))], none⟩
      | false => (match ((decide (((xs.length : Int)) = (xs.length : Int)) && (decide (0 = 0) && (Nat.ble xs.length big && Nat.ble ((([] : List (List Nat)) : List ((List Nat))).length + xs.length) big))) : Bool) with
        | true => (match repE (fitF xs b d ys.length) (xs.length) 0 ((([] : List (List Nat)) : List ((List Nat))) : (List (List Nat))) with
          | some s => (match (rowsFit s ys : Bool) with
            | true => (match (sqOk (gram s ys) : Bool) with
              | true => (match solveL (gram s ys) with
                | some l => (match (Nat.ble 1 xs.length && Nat.ble xs.length big : Bool) with
                  | true => (match ((decide (((xs.length : Int)) = ((l : List Nat).length : Int)) && (decide (0 = 0) && (Nat.ble (l : List Nat).length big && Nat.beq (xs : List LineV).length (l : List Nat).length))) : Bool) with
                    | true => (match (decide (6 ≤ 1099511627776) : Bool) with
                      | true => (match (!(linesIn (rep (setF (l : List Nat)) ((l : List Nat).length) 0 ((xs : List LineV) : (List LineV))) 1 6) : Bool) with
                        | true => some ⟨[.nil, .el (.sc (.bo false))], none⟩
                        | false => some ⟨[.fresh 38 ⟨.line, rep (setF (l : List Nat)) ((l : List Nat).length) 0 ((xs : List LineV) : (List LineV))⟩, .el (.sc (.bo true))], none⟩)
                      | false => none)
                    | false => none)
                  | false => none)
                | none => some ⟨[.nil, .el (.sc (.bo false))], none⟩)
              | false => none)
            | false => none)
          | none => some ⟨[.nil, .el (.sc (.bo false))], none⟩)
        | false => none)))
  | false => none) := by kernel_rfl
theorem s9 (xs : List LineV) (ys : List Nat) (b : Nat) (d : Nat) : runFn T12 a9 l9 Try.f9 [.vw none ⟨.line, xs⟩, .vw none ⟨.f32, ys⟩, .el (.sc (.fl .f32 b)), .el (.sc (.fl .f32 d))] = (match (fhOk xs ys b d : Bool) with
  | true => some ⟨[.fresh 38 ⟨.line, fhX xs ys b d⟩, .el (.sc (.bo true))], none⟩
  | false => some ⟨[.nil, .el (.sc (.bo false))], none⟩) := by
  rw [e9]
  cases c1 : linesIn xs 1 6 with
  | false =>
    rw [fhOk_none (fhL_out (by rw [c1]; rfl))]
    simp
  | true =>
  cases c2 : listOk ys 1 with
  | false =>
    rw [fhOk_none (fhL_out (by rw [c2, Bool.and_false]))]
    simp
  | true =>
  obtain ⟨_, m1, m6⟩ := linesIn_of c1
  have hy : ys.length ≤ 128 := by
    unfold listOk at c2
    simp only [Bool.and_eq_true, decide_eq_true_eq] at c2
    omega
  have e0 : decide ((6 : Int) ≤ 1099511627776) = true := rfl
  have e3 : decide ((xs.length : Int) = (xs.length : Int)) = true := decide_eq_true rfl
  have e4 : decide ((0 : Int) = 0) = true := rfl
  have ex : Nat.ble xs.length big = true := big_of (by omega)
  have ex1 : Nat.ble 1 xs.length = true := Nat.ble_eq_true_of_le m1
  have e5 : Nat.ble (([] : List (List Nat)).length + xs.length) big = true := by rw [List.length_nil, Nat.zero_add]; exact ex
  have er := fitF_run xs b d ys.length
  simp only [e0, e3, e4, e5, ex, ex1, er, Bool.and_self, Bool.not_true]
  have hL0 : fhL xs ys b d = bif xs.all (fun l => spOk [oneL l] b d (ys.length : Int)) then solveL (gram (fhR xs b d ys.length) ys) else none := by
    unfold fhL
    rw [c1, c2]
    rfl
  cases c5 : xs.all (fun l => spOk [oneL l] b d (ys.length : Int)) with
  | false =>
    rw [c5] at hL0
    rw [fhOk_none hL0]
    rfl
  | true =>
      rw [c5] at hL0
      have hfit := fhR_fit (xs := xs) (ys := ys) (b := b) (d := d) m6 hy
      have hlen : (fhR xs b d ys.length).length = xs.length := List.length_map _
      have hL : fhL xs ys b d = solveL (gram (fhR xs b d ys.length) ys) := hL0
      simp only [cond_true]
      generalize fhR xs b d ys.length = s at *
      have n0 : 1 ≤ s.length := by omega
      have n6 : s.length ≤ 6 := by omega
      have q1 := gram_sq ys n0 n6
      simp only [hfit, q1]
      cases hs : solveL (gram s ys) with
      | none =>
        rw [fhOk_none (hL.trans hs)]
        simp
      | some l =>
        obtain ⟨k1, k2⟩ := fhOk_some (hL.trans hs)
        have hll : l.length = xs.length := by
          rw [solveL_len hs q1, gram_len]
          exact hlen
        have r1 : Nat.ble l.length big = true := big_of (by omega)
        have r2 : rep (setF l) l.length 0 xs = setH xs l := rfl
        have r3 : (setH xs l).length = xs.length := setH_len xs l
        have r4 : Nat.ble (setH xs l).length big = true := big_of (by omega)
        have r5 : Nat.beq xs.length l.length = true := by rw [hll]; exact Nat.beq_refl _
        have r6 : decide ((xs.length : Int) = (l.length : Int)) = true := decide_eq_true (by omega)
        have r7 : decide ((0 : Int) = 0) = true := rfl
        have r8 : decide (xs.length ≤ 1099511627776) = true := decide_eq_true (by omega)
        have r9 : Nat.beq 38 38 = true := rfl
        have ri := linesIn_ok (xs := setH xs l) (by omega) (by omega)
        simp only [r1, r2, r4, r5, r6, r7, r8, r9, ri, Bool.and_self]
        rw [k1, k2]
        cases linesOk (setH xs l) <;> simp
theorem c9 (xs : List LineV) (ys : List Nat) (b : Nat) (d : Nat) (k : List RV → R) (out : Out) (h : k [.fresh 38 ⟨.line, orNil (fhOk xs ys b d) (fhX xs ys b d)⟩, .el (.sc (.bo (fhOk xs ys b d)))] = some out) : ∃ rs, Real Try.prog 9 ∧ COK Try.prog 9 [.vw none ⟨.line, xs⟩, .vw none ⟨.f32, ys⟩, .el (.sc (.fl .f32 b)), .el (.sc (.fl .f32 d))] rs ∧ k rs = some out := by
  cases g0 : (fhOk xs ys b d : Bool) with
  | true =>
    rw [g0] at h
    exact ⟨_, real Try.func9 (by kernel_rfl), fn_ok tok12 (A := a9) (L := l9) (r := none) Try.func9 (by kernel_rfl) (by kernel_rfl) (loops2 (by kernel_rfl) lk9 lk9_1) (by rw [s9, g0]; rfl), h⟩
  | false =>
    rw [g0] at h
    exact ⟨_, real Try.func9 (by kernel_rfl), COK.nil (fn_ok tok12 (A := a9) (L := l9) (r := none) Try.func9 (by kernel_rfl) (by kernel_rfl) (loops2 (by kernel_rfl) lk9 lk9_1) (by rw [s9, g0] <;> rfl)), h⟩

def S13 : SFn := fun f args k => match f, args with
  | 9, [.vw none ⟨.line, xs⟩, .vw none ⟨.f32, ys⟩, .el (.sc (.fl .f32 b)), .el (.sc (.fl .f32 d))] => k [.fresh 38 ⟨.line, orNil (fhOk xs ys b d) (fhX xs ys b d)⟩, .el (.sc (.bo (fhOk xs ys b d)))]
  | _, _ => S12 f args k
abbrev M13 : MFn := M12
def T13 : TT := tab.T S13 muts M13
theorem tok13 : TOK Try.prog T13 := by
  refine (tab_ok tabok).tok (fun f args k out h => ?_) (fun f vec args k out h => ?_)
  · change S13 f args k = some out at h
    unfold S13 at h
    split at h
    · exact (fun k out h => cok_call (c9 _ _ _ _ k out h)) k out h
    · exact tok12.S f args k out h
  · exact tok12.M f vec args k out h

end Go.Sm.Ytpckpfbjhnllbaa
