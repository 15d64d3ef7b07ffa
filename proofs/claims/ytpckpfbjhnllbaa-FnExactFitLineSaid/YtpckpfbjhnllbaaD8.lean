/- What the functions hand back: level 7. -/
import Derived.Test.YtpckpfbjhnllbaaD7
namespace Go.Sm.Ytpckpfbjhnllbaa
open Go Go.Sm Go.RowKit Go.Proofs

/-! spec.l05Rest -/
def a36 : Ann := ann [(3, [0, 1, 2, 3, 10, 16, 17], [10])] [8, 9] 0
def lp36 : St → (Ex → St → R) → R := fun s k => match s with
  | ⟨[(0, .fv (.vw (some 0) ⟨.line, xs⟩)), (1, .fv (.vw (some 1) ⟨.f32, ys⟩)), (2, .fv (.el (.sc (.fl .f32 b)))), (3, .fv (.el (.sc (.fl .f32 d)))), (10, .fv (.el (.sc (.fl .f32 a)))), (16, .fv (.el (.sc (.int .i64 n)))), (17, .fv (.el (.sc (.int .i64 i))))], []⟩ => (match ((decide (n = (ys.length : Int)) && (decide (i = 0) && (Nat.ble xs.length big && Nat.ble ys.length big))) : Bool) with | true => (match repE (fun j a => bif linesAtOk xs (placeAt b d (j : Int)) then some (sqTo (ys.getD j 0) (spAt xs b d j) a) else none) (ys.length) 0 (a : Nat) with | some s => k (.exit 0) ⟨[(10, .fv (.el (.sc (.fl .f32 s))))], []⟩ | none => k .ret ⟨[(8, .fv (.el (.sc (.fl .f32 0)))), (9, .fv (.el (.sc (.bo false))))], []⟩) | false => none)
  | _ => none
def l36 : Loops := fun key s k => bif Nat.beq key 3 then lp36 s k else none
theorem st36 (xs : List LineV) (ys : List Nat) (b : Nat) (d : Nat) (a : Nat) (n : Int) (i : Int) (m : Nat) (k : Ex → St → R) : iterK a36 [0, 1, 2, 3, 10, 16, 17] [10] (codeK T7 a36 l36 Try.f36.ntmps (loopAt Try.f36 0)) (m + 1) ⟨[(0, .fv (.vw (some 0) ⟨.line, xs⟩)), (1, .fv (.vw (some 1) ⟨.f32, ys⟩)), (2, .fv (.el (.sc (.fl .f32 b)))), (3, .fv (.el (.sc (.fl .f32 d)))), (10, .fv (.el (.sc (.fl .f32 a)))), (16, .fv (.el (.sc (.int .i64 n)))), (17, .fv (.el (.sc (.int .i64 i))))], []⟩ k = (match (decide ((i : Int) < n) : Bool) with | true => (match (Nat.ble xs.length big : Bool) with | true => (match (!(linesAtOk xs (placeAt b d i)) : Bool) with | true => k .ret ⟨[(8, .fv (.el (.sc (.fl .f32 0)))), (9, .fv (.el (.sc (.bo false))))], []⟩ | false => (match (decide (0 ≤ (i : Int) ∧ (i : Int) < (ys.length : Int)) && true : Bool) with | true => (match (ys : List Nat)[Int.toNat i]? with | some x1 => iterK a36 [0, 1, 2, 3, 10, 16, 17] [10] (codeK T7 a36 l36 Try.f36.ntmps (loopAt Try.f36 0)) m ⟨[(0, .fv (.vw (some 0) ⟨.line, xs⟩)), (1, .fv (.vw (some 1) ⟨.f32, ys⟩)), (2, .fv (.el (.sc (.fl .f32 b)))), (3, .fv (.el (.sc (.fl .f32 d)))), (10, .fv (.el (.sc (.fl .f32 (fop .add .f32 a (fop .mul .f32 (fop .sub .f32 x1 (orZero (linesAtOk xs (placeAt b d i)) (linesSum xs (placeAt b d i)))) (fop .sub .f32 x1 (orZero (linesAtOk xs (placeAt b d i)) (linesSum xs (placeAt b d i)))))))))), (16, .fv (.el (.sc (.int .i64 n)))), (17, .fv (.el (.sc (.int .i64 (IntKind.i64.wrap (i + 1))))))], []⟩ k | none => none) | false => none)) | false => none) | false => k (.exit 0) ⟨[(10, .fv (.el (.sc (.fl .f32 a))))], []⟩) := by kernel_rfl
theorem ind36 (xs : List LineV) (ys : List Nat) (b : Nat) (d : Nat) (hx : (Nat.ble xs.length big) = true) (hy : (Nat.ble ys.length big) = true) (k : Ex → St → R) : ∀ (m j : Nat) (a : Nat), 0 ≤ j → j + m = ys.length → iterK a36 [0, 1, 2, 3, 10, 16, 17] [10] (codeK T7 a36 l36 Try.f36.ntmps (loopAt Try.f36 0)) (m + 1) ⟨[(0, .fv (.vw (some 0) ⟨.line, xs⟩)), (1, .fv (.vw (some 1) ⟨.f32, ys⟩)), (2, .fv (.el (.sc (.fl .f32 b)))), (3, .fv (.el (.sc (.fl .f32 d)))), (10, .fv (.el (.sc (.fl .f32 a)))), (16, .fv (.el (.sc (.int .i64 (ys.length : Int))))), (17, .fv (.el (.sc (.int .i64 (j : Int)))))], []⟩ k =
    (match repE (fun j a => bif linesAtOk xs (placeAt b d (j : Int)) then some (sqTo (ys.getD j 0) (spAt xs b d j) a) else none) m j (a : Nat) with
    | some s => k (.exit 0) ⟨[(10, .fv (.el (.sc (.fl .f32 s))))], []⟩
    | none => k .ret ⟨[(8, .fv (.el (.sc (.fl .f32 0)))), (9, .fv (.el (.sc (.bo false))))], []⟩) := by
  intro m
  induction m with
  | zero =>
    intro j a hlo hj
    have hx_ := big_le hx
    have hy_ := big_le hy
    have h1 : ¬ (((j : Int) < (ys.length : Int))) := by omega
    rw [st36]
    simp only [h1, repE, decide_false, hx] <;> rfl
  | succ m ih =>
    intro j a hlo hj
    have hx_ := big_le hx
    have hy_ := big_le hy
    have h1 : ((j : Int) < (ys.length : Int)) := by omega
    have yb : (0 : Int) ≤ ((j : Nat) : Int) ∧ ((j : Nat) : Int) < (ys.length : Int) := by omega
    have yq : ys[Int.toNat ((j : Nat) : Int)]? = some (ys.getD (j) 0) := getI (by omega)
    have yp : ys[j]? = some (ys.getD (j) 0) := getI2 (by omega)
    have wn : IntKind.i64.wrap ((j : Int) + 1) = ((j + 1 : Nat) : Int) := wrapN (by omega) (by omega)
    rw [st36]
    simp only [h1, wn, yb, yq, yp, and_self, decide_true, Bool.and_true, Int.le_refl, hx]
    rw [repE_succ]
    have r1 := ih (j + 1) (sqTo (ys.getD j 0) (spAt xs b d j) a) (by omega) (by omega)
    cases hf : linesAtOk xs (placeAt b d (j : Int)) with
    | true => exact r1
    | false => rfl

theorem lk36 : LOK T7 a36 l36 Try.f36.ntmps (loopAt Try.f36 0) := by
  intro ins outs hA s k out h
  have hA' : ([0, 1, 2, 3, 10, 16, 17], [10]) = (ins, outs) := Option.some.inj ((show a36.lp (firstRegion (loopAt Try.f36 0)) = some ([0, 1, 2, 3, 10, 16, 17], [10]) by kernel_rfl).symm.trans hA)
  cases hA'
  have hk : firstRegion (loopAt Try.f36 0) = 3 := by kernel_rfl
  rw [hk] at h
  change lp36 s k = some out at h
  unfold lp36 at h
  split at h
  · rename_i xs ys b d a n i
    cases hg : (decide (n = (ys.length : Int)) && (decide (i = 0) && (Nat.ble xs.length big && Nat.ble ys.length big))) with
    | false => rw [hg] at h; cases h
    | true =>
      rw [hg] at h
      simp only [Bool.and_eq_true, decide_eq_true_eq] at hg
      obtain ⟨rfl, rfl, hx, hy⟩ := hg
      refine ⟨(ys.length) + 1, ?_⟩
      have hx_ := big_le hx
      have hy_ := big_le hy
      exact (ind36 xs ys b d hx hy k (ys.length) 0 a (by omega) (by omega)).trans h
  · cases h
theorem e36 (xs : List LineV) (ys : List Nat) (b : Nat) (d : Nat) : runFn T7 a36 l36 Try.f36 [.vw none ⟨.line, xs⟩, .vw none ⟨.f32, ys⟩, .el (.sc (.fl .f32 b)), .el (.sc (.fl .f32 d))] = (match ((decide (((ys.length : Int)) = (ys.length : Int)) && (decide (0 = 0) && (Nat.ble xs.length big && Nat.ble ys.length big))) : Bool) with | true => (match repE (fun j a => bif linesAtOk xs (placeAt b d (j : Int)) then some (sqTo (ys.getD j 0) (spAt xs b d j) a) else none) (ys.length) 0 (0 : Nat) with | some s => some ⟨[.el (.sc (.fl .f32 s)), .el (.sc (.bo (fin s)))], none⟩ | none => some ⟨[.el (.sc (.fl .f32 0)), .el (.sc (.bo false))], none⟩) | false => none) := by kernel_rfl
theorem s36 (xs : List LineV) (ys : List Nat) (b : Nat) (d : Nat) (hg : (Nat.ble xs.length big && Nat.ble ys.length big) = true) : runFn T7 a36 l36 Try.f36 [.vw none ⟨.line, xs⟩, .vw none ⟨.f32, ys⟩, .el (.sc (.fl .f32 b)), .el (.sc (.fl .f32 d))] = (match (spAll xs b d ys.length : Bool) with | true => some ⟨[.el (.sc (.fl .f32 (restSum xs ys b d))), .el (.sc (.bo (fin (restSum xs ys b d))))], none⟩ | false => some ⟨[.el (.sc (.fl .f32 0)), .el (.sc (.bo false))], none⟩) := by
  rw [e36]
  rw [Bool.and_eq_true] at hg
  have e := rest_run xs ys b d
  simp only [hg.1, hg.2, e]
  cases spAll xs b d ys.length <;> rfl
theorem c36 (xs : List LineV) (ys : List Nat) (b : Nat) (d : Nat) (k : List RV → R) (out : Out) (h : (match (Nat.ble xs.length big && Nat.ble ys.length big : Bool) with | true => (match (spAll xs b d ys.length : Bool) with | true => k [.el (.sc (.fl .f32 (restSum xs ys b d))), .el (.sc (.bo (fin (restSum xs ys b d))))] | false => k [.el (.sc (.fl .f32 0)), .el (.sc (.bo false))]) | false => none) = some out) : ∃ rs, Real Try.prog 36 ∧ COK Try.prog 36 [.vw none ⟨.line, xs⟩, .vw none ⟨.f32, ys⟩, .el (.sc (.fl .f32 b)), .el (.sc (.fl .f32 d))] rs ∧ k rs = some out := by
  cases g0 : (Nat.ble xs.length big && Nat.ble ys.length big : Bool) with
  | true =>
    rw [g0] at h
    cases g1 : (spAll xs b d ys.length : Bool) with
    | true =>
      rw [g1] at h
      exact ⟨_, real Try.func36 (by kernel_rfl), fn_ok tok7 (A := a36) (L := l36) (r := none) Try.func36 (by kernel_rfl) (by kernel_rfl) (loops1 (by kernel_rfl) lk36) (by rw [s36 _ _ _ _ g0, g1]), h⟩
    | false =>
      rw [g1] at h
      exact ⟨_, real Try.func36 (by kernel_rfl), fn_ok tok7 (A := a36) (L := l36) (r := none) Try.func36 (by kernel_rfl) (by kernel_rfl) (loops1 (by kernel_rfl) lk36) (by rw [s36 _ _ _ _ g0, g1]), h⟩
  | false =>
    rw [g0] at h
    cases h

/-! impl.linePlaces -/
def a58 : Ann := ann [(3, [1, 2, 4, 10, 15, 16], [10])] [8, 9] 0
def lp58 : St → (Ex → St → R) → R := fun s k => match s with
  | ⟨[(1, .fv (.el (.sc (.fl .f32 b)))), (2, .fv (.el (.sc (.fl .f32 d)))), (4, .fv (.pt ⟨.r 0, 4, 0, 0⟩)), (10, .fv (.own 1)), (15, .fv (.el (.sc (.int .i64 n)))), (16, .fv (.el (.sc (.int .i64 i))))], [some ⟨38, ⟨.line, ln⟩⟩, some ⟨24, ⟨.f32, zs⟩⟩]⟩ => (match ((decide (i = 0) && (Nat.ble 1 (ln : List LineV).length && (Nat.ble ((zs : List Nat).length + n.toNat) big && decide (n ≤ 1099511627776)))) : Bool) with | true => (match repE (atF ((ln : List LineV).getD 0 noLine) b d) (n.toNat) 0 ((zs : List Nat) : (List Nat)) with | some s => k (.exit 0) ⟨[(10, .fv (.own 0))], [some ⟨24, ⟨.f32, s⟩⟩]⟩ | none => k .ret ⟨[(8, .fv (.nil)), (9, .fv (.el (.sc (.bo false))))], []⟩) | false => none)
  | _ => none
def l58 : Loops := fun key s k => bif Nat.beq key 3 then lp58 s k else none
theorem st58 (b : Nat) (d : Nat) (n : Int) (i : Int) (ln : List LineV) (zs : List Nat) (m : Nat) (k : Ex → St → R) : iterK a58 [1, 2, 4, 10, 15, 16] [10] (codeK T7 a58 l58 Try.f58.ntmps (loopAt Try.f58 0)) (m + 1) ⟨[(1, .fv (.el (.sc (.fl .f32 b)))), (2, .fv (.el (.sc (.fl .f32 d)))), (4, .fv (.pt ⟨.r 0, 4, 0, 0⟩)), (10, .fv (.own 1)), (15, .fv (.el (.sc (.int .i64 n)))), (16, .fv (.el (.sc (.int .i64 i))))], [some ⟨38, ⟨.line, ln⟩⟩, some ⟨24, ⟨.f32, zs⟩⟩]⟩ k = (match (decide ((i : Int) < n) : Bool) with | true => (match (ln : List LineV)[0]? with | some x1 => (match (!(lineOk x1 (fop .add .f32 b (fop .mul .f32 (fint .f32 i) d))) : Bool) with | true => k .ret ⟨[(8, .fv (.nil)), (9, .fv (.el (.sc (.bo false))))], []⟩ | false => (match (Nat.beq 24 24 && decide ((zs : List Nat).length + ([orZero (lineOk x1 (fop .add .f32 b (fop .mul .f32 (fint .f32 i) d))) (lineV x1 (fop .add .f32 b (fop .mul .f32 (fint .f32 i) d)))] : List Nat).length ≤ 1099511627776) : Bool) with | true => iterK a58 [1, 2, 4, 10, 15, 16] [10] (codeK T7 a58 l58 Try.f58.ntmps (loopAt Try.f58 0)) m ⟨[(1, .fv (.el (.sc (.fl .f32 b)))), (2, .fv (.el (.sc (.fl .f32 d)))), (4, .fv (.pt ⟨.r 0, 4, 0, 0⟩)), (10, .fv (.own 1)), (15, .fv (.el (.sc (.int .i64 n)))), (16, .fv (.el (.sc (.int .i64 (IntKind.i64.wrap (i + 1))))))], [some ⟨38, ⟨.line, ln⟩⟩, some ⟨24, ⟨.f32, (zs : List Nat) ++ ([orZero (lineOk x1 (fop .add .f32 b (fop .mul .f32 (fint .f32 i) d))) (lineV x1 (fop .add .f32 b (fop .mul .f32 (fint .f32 i) d)))])⟩⟩]⟩ k | false => none)) | none => none) | false => k (.exit 0) ⟨[(10, .fv (.own 0))], [some ⟨24, ⟨.f32, zs⟩⟩]⟩) := by kernel_rfl
theorem ind58 (b : Nat) (d : Nat) (n : Int) (ln : List LineV) (l1 : (Nat.ble 1 ln.length) = true) (k : Ex → St → R) : ∀ (m j : Nat) (zs : List Nat), zs.length + m ≤ 1099511627776 → n ≤ 1099511627776 → 0 ≤ j → j + m = n.toNat → iterK a58 [1, 2, 4, 10, 15, 16] [10] (codeK T7 a58 l58 Try.f58.ntmps (loopAt Try.f58 0)) (m + 1) ⟨[(1, .fv (.el (.sc (.fl .f32 b)))), (2, .fv (.el (.sc (.fl .f32 d)))), (4, .fv (.pt ⟨.r 0, 4, 0, 0⟩)), (10, .fv (.own 1)), (15, .fv (.el (.sc (.int .i64 n)))), (16, .fv (.el (.sc (.int .i64 (j : Int)))))], [some ⟨38, ⟨.line, ln⟩⟩, some ⟨24, ⟨.f32, zs⟩⟩]⟩ k =
    (match repE (atF (ln.getD 0 noLine) b d) m j (zs : (List Nat)) with
    | some s => k (.exit 0) ⟨[(10, .fv (.own 0))], [some ⟨24, ⟨.f32, s⟩⟩]⟩
    | none => k .ret ⟨[(8, .fv (.nil)), (9, .fv (.el (.sc (.bo false))))], []⟩) := by
  intro m
  induction m with
  | zero =>
    intro j zs hs0 hs1 hlo hj
    have l1_ := Nat.le_of_ble_eq_true l1
    have h1 : ¬ ((j : Int) < n) := by omega
    rw [st58]
    simp only [h1, repE, decide_false, Int.toNat_natCast] <;> rfl
  | succ m ih =>
    intro j zs hs0 hs1 hlo hj
    have l1_ := Nat.le_of_ble_eq_true l1
    have h1 : (j : Int) < n := by omega
    have lq : ln[0]? = some (ln.getD 0 noLine) := getI2 (by omega)
    have hbq : Nat.beq 24 24 = true := rfl
    have hzl : zs.length + 1 ≤ 1099511627776 := by omega
    have wn : IntKind.i64.wrap ((j : Int) + 1) = ((j + 1 : Nat) : Int) := wrapN (by omega) (by omega)
    rw [st58]
    simp only [h1, wn, lq, hbq, hzl, and_self, decide_true, Bool.and_true, Int.le_refl, Int.toNat_natCast]
    rw [repE_succ]
    have ep : fop .add .f32 b (fop .mul .f32 (fint .f32 (j : Int)) d) = placeAt b d (j : Int) := rfl
    simp only [ep]
    have e5 : atF (ln.getD 0 noLine) b d j zs = bif lineOk (ln.getD 0 noLine) (placeAt b d (j : Int)) then some (zs ++ [lineV (ln.getD 0 noLine) (placeAt b d (j : Int))]) else none := rfl
    rw [e5]
    cases hf : lineOk (ln.getD 0 noLine) (placeAt b d (j : Int)) with
    | false => rfl
    | true =>
      simp only [orZero, hzl, List.length_singleton, decide_true, Bool.not_true, Bool.and_self, cond_true]
      exact ih (j + 1) (zs ++ [lineV (ln.getD 0 noLine) (placeAt b d (j : Int))]) (by simp; omega) hs1 (by omega) (by omega)

theorem lk58 : LOK T7 a58 l58 Try.f58.ntmps (loopAt Try.f58 0) := by
  intro ins outs hA s k out h
  have hA' : ([1, 2, 4, 10, 15, 16], [10]) = (ins, outs) := Option.some.inj ((show a58.lp (firstRegion (loopAt Try.f58 0)) = some ([1, 2, 4, 10, 15, 16], [10]) by kernel_rfl).symm.trans hA)
  cases hA'
  have hk : firstRegion (loopAt Try.f58 0) = 3 := by kernel_rfl
  rw [hk] at h
  change lp58 s k = some out at h
  unfold lp58 at h
  split at h
  · rename_i b d n i ln zs
    cases hg : (decide (i = 0) && (Nat.ble 1 ln.length && (Nat.ble (zs.length + n.toNat) big && decide (n ≤ 1099511627776)))) with
    | false => rw [hg] at h; cases h
    | true =>
      rw [hg] at h
      simp only [Bool.and_eq_true, decide_eq_true_eq] at hg
      obtain ⟨rfl, l1, gs0, gs1⟩ := hg
      refine ⟨(n.toNat) + 1, ?_⟩
      have l1_ := Nat.le_of_ble_eq_true l1
      have gs0_ := big_le gs0
      exact (ind58 b d n ln l1 k (n.toNat) 0 zs (by omega) (by omega) (by omega) (by omega)).trans h
  · cases h
theorem e58 (lp : Nat) (lh : Nat) (lw : Nat) (lk : Int) (b : Nat) (d : Nat) (n : Int) : runFn T7 a58 l58 Try.f58 [.el (.ag [(.fl .f32 lp), (.fl .f32 lh), (.fl .f32 lw), (.int .i64 lk)]), .el (.sc (.fl .f32 b)), .el (.sc (.fl .f32 d)), .el (.sc (.int .i64 n))] = (match ((decide (0 = 0) && (Nat.ble 1 ([(⟨lp, lh, lw, lk⟩ : LineV)] : List LineV).length && (Nat.ble (([] : List Nat).length + n.toNat) big && decide (n ≤ 1099511627776)))) : Bool) with | true => (match repE (atF (([(⟨lp, lh, lw, lk⟩ : LineV)] : List LineV).getD 0 noLine) b d) (n.toNat) 0 (([] : List Nat) : (List Nat)) with | some s => some ⟨[.fresh 24 ⟨.f32, s⟩, .el (.sc (.bo true))], none⟩ | none => some ⟨[.nil, .el (.sc (.bo false))], none⟩) | false => none) := by kernel_rfl
theorem s58 (lp : Nat) (lh : Nat) (lw : Nat) (lk : Int) (b : Nat) (d : Nat) (n : Int) (hg : (decide (n ≤ 128)) = true) : runFn T7 a58 l58 Try.f58 [.el (.ag [(.fl .f32 lp), (.fl .f32 lh), (.fl .f32 lw), (.int .i64 lk)]), .el (.sc (.fl .f32 b)), .el (.sc (.fl .f32 d)), .el (.sc (.int .i64 n))] = (match (rowAll ((⟨lp, lh, lw, lk⟩ : LineV)) b d n.toNat : Bool) with | true => some ⟨[.fresh 24 ⟨.f32, rowV ((⟨lp, lh, lw, lk⟩ : LineV)) b d n.toNat⟩, .el (.sc (.bo true))], none⟩ | false => some ⟨[.nil, .el (.sc (.bo false))], none⟩) := by
  rw [e58]
  have hn := of_decide_eq_true hg
  have e1 : Nat.ble 1 [(⟨lp, lh, lw, lk⟩ : LineV)].length = true := rfl
  have e2 : Nat.ble (([] : List Nat).length + n.toNat) big = true := big_of (by rw [List.length_nil]; omega)
  have e3 : decide (n ≤ 1099511627776) = true := decide_eq_true (by omega)
  have e4 : repE (atF ([(⟨lp, lh, lw, lk⟩ : LineV)].getD 0 noLine) b d) n.toNat 0 [] = bif rowAll ⟨lp, lh, lw, lk⟩ b d n.toNat then some (rowV ⟨lp, lh, lw, lk⟩ b d n.toNat) else none := atRow_eq _ b d n.toNat
  have e5 : decide ((0 : Int) = 0) = true := rfl
  simp only [e1, e2, e3, e4, e5, Bool.and_self]
  cases rowAll ⟨lp, lh, lw, lk⟩ b d n.toNat <;> rfl
theorem c58 (lp : Nat) (lh : Nat) (lw : Nat) (lk : Int) (b : Nat) (d : Nat) (n : Int) (k : List RV → R) (out : Out) (h : (match (decide (n ≤ 128) : Bool) with | true => k [.fresh 24 ⟨.f32, orNil (rowAll ((⟨lp, lh, lw, lk⟩ : LineV)) b d n.toNat) (rowV ((⟨lp, lh, lw, lk⟩ : LineV)) b d n.toNat)⟩, .el (.sc (.bo (rowAll ((⟨lp, lh, lw, lk⟩ : LineV)) b d n.toNat)))] | false => none) = some out) : ∃ rs, Real Try.prog 58 ∧ COK Try.prog 58 [.el (.ag [(.fl .f32 lp), (.fl .f32 lh), (.fl .f32 lw), (.int .i64 lk)]), .el (.sc (.fl .f32 b)), .el (.sc (.fl .f32 d)), .el (.sc (.int .i64 n))] rs ∧ k rs = some out := by
  cases g0 : (decide (n ≤ 128) : Bool) with
  | false =>
    rw [g0] at h
    cases h
  | true =>
    rw [g0] at h
    dsimp only at h
    cases g1 : (rowAll ((⟨lp, lh, lw, lk⟩ : LineV)) b d n.toNat : Bool) with
    | true =>
      rw [g1] at h
      exact ⟨_, real Try.func58 (by kernel_rfl), fn_ok tok7 (A := a58) (L := l58) (r := none) Try.func58 (by kernel_rfl) (by kernel_rfl) (loops1 (by kernel_rfl) lk58) (by rw [s58 _ _ _ _ _ _ _ g0, g1]; rfl), h⟩
    | false =>
      rw [g1] at h
      exact ⟨_, real Try.func58 (by kernel_rfl), COK.nil (fn_ok tok7 (A := a58) (L := l58) (r := none) Try.func58 (by kernel_rfl) (by kernel_rfl) (loops1 (by kernel_rfl) lk58) (by rw [s58 _ _ _ _ _ _ _ g0, g1] <;> rfl)), h⟩

/-! slices.IndexFunc[[]impl.Line,impl.Line] -/
def a59 : Ann := ann [(2, [0, 1, 7, 8], [])] [4] 0
def lp59 : St → (Ex → St → R) → R := fun s k => match s with
  | ⟨[(0, .fv (.vw (some 0) ⟨.line, xs⟩)), (1, .fv (.fn 47 [])), (7, .fv (.el (.sc (.int .i64 n)))), (8, .fv (.el (.sc (.int .i64 i))))], []⟩ => (match (decide (n = (xs.length : Int)) && (decide (i = 0) && Nat.ble xs.length big) : Bool) with | true => (match xs.findIdx? notLine with | some q => k .ret ⟨[(4, .fv (.el (.sc (.int .i64 ((q : Int))))))], []⟩ | none => k (.exit 0) ⟨[], []⟩) | false => none)
  | _ => none
def l59 : Loops := fun key s k => bif Nat.beq key 2 then lp59 s k else none
theorem st59 (xs : List LineV) (n : Int) (i : Int) (m : Nat) (k : Ex → St → R) : iterK a59 [0, 1, 7, 8] [] (codeK T7 a59 l59 Try.f59.ntmps (loopAt Try.f59 0)) (m + 1) ⟨[(0, .fv (.vw (some 0) ⟨.line, xs⟩)), (1, .fv (.fn 47 [])), (7, .fv (.el (.sc (.int .i64 n)))), (8, .fv (.el (.sc (.int .i64 i))))], []⟩ k = (match (decide ((i : Int) < n) : Bool) with | true => (match (decide (0 ≤ (i : Int) ∧ (i : Int) < (xs.length : Int)) && true : Bool) with | true => (match (xs : List LineV)[Int.toNat i]? with | some x1 => (match (notLine x1 : Bool) with | true => k .ret ⟨[(4, .fv (.el (.sc (.int .i64 i))))], []⟩ | false => iterK a59 [0, 1, 7, 8] [] (codeK T7 a59 l59 Try.f59.ntmps (loopAt Try.f59 0)) m ⟨[(0, .fv (.vw (some 0) ⟨.line, xs⟩)), (1, .fv (.fn 47 [])), (7, .fv (.el (.sc (.int .i64 n)))), (8, .fv (.el (.sc (.int .i64 (IntKind.i64.wrap (i + 1))))))], []⟩ k) | none => none) | false => none) | false => k (.exit 0) ⟨[], []⟩) := by kernel_rfl
theorem ind59 (xs : List LineV) (hx : Nat.ble xs.length big = true) (k : Ex → St → R) : ∀ (m j : Nat), j + m = xs.length → iterK a59 [0, 1, 7, 8] [] (codeK T7 a59 l59 Try.f59.ntmps (loopAt Try.f59 0)) (m + 1) ⟨[(0, .fv (.vw (some 0) ⟨.line, xs⟩)), (1, .fv (.fn 47 [])), (7, .fv (.el (.sc (.int .i64 (xs.length : Int))))), (8, .fv (.el (.sc (.int .i64 (j : Int)))))], []⟩ k =
    (match (xs.drop j).findIdx? notLine with
    | some q => k .ret ⟨[(4, .fv (.el (.sc (.int .i64 ((j + q : Nat) : Int)))))], []⟩
    | none => k (.exit 0) ⟨[], []⟩) := by
  intro m
  induction m with
  | zero =>
    intro j hj
    have h1 : ¬ ((j : Int) < (xs.length : Int)) := by omega
    rw [st59]
    have h2 : xs.drop j = [] := List.drop_of_length_le (by omega)
    simp [h1, h2]
  | succ m ih =>
    intro j hj
    have hlt : j < xs.length := by omega
    have h1 : ((j : Int) < (xs.length : Int)) := by omega
    have h2 : (0 : Int) ≤ (j : Int) := by omega
    rw [st59, wrap_succ hlt hx]
    have h3 : xs[Int.toNat (j : Int)]? = some xs[j] := by simp [hlt]
    rw [List.drop_eq_getElem_cons hlt, List.findIdx?_cons]
    simp only [h1, h2, h3, and_self, decide_true, Bool.and_true]
    cases hp : notLine xs[j] with
    | true => simp
    | false =>
      rw [ih (j + 1) (by omega)]
      cases (xs.drop (j + 1)).findIdx? notLine with
      | none => rfl
      | some q => simp only [Bool.false_eq_true, if_false, Option.map_some]; rw [show j + 1 + q = j + (q + 1) by omega]
theorem lk59 : LOK T7 a59 l59 Try.f59.ntmps (loopAt Try.f59 0) := by
  intro ins outs hA s k out h
  have hA' : ([0, 1, 7, 8], []) = (ins, outs) := Option.some.inj ((show a59.lp (firstRegion (loopAt Try.f59 0)) = some ([0, 1, 7, 8], []) by kernel_rfl).symm.trans hA)
  cases hA'
  have hk : firstRegion (loopAt Try.f59 0) = 2 := by kernel_rfl
  rw [hk] at h
  change lp59 s k = some out at h
  unfold lp59 at h
  split at h
  · rename_i xs n i
    cases hg : (decide (n = (xs.length : Int)) && (decide (i = 0) && Nat.ble xs.length big)) with
    | false => rw [hg] at h; cases h
    | true =>
      rw [hg] at h
      simp only [Bool.and_eq_true, decide_eq_true_eq] at hg
      obtain ⟨rfl, rfl, hx⟩ := hg
      refine ⟨xs.length + 1, ?_⟩
      have := ind59 xs hx k xs.length 0 (by omega)
      simp only [List.drop_zero, Nat.zero_add] at this
      exact this.trans h
  · cases h
theorem e59 (xs : List LineV) : runFn T7 a59 l59 Try.f59 [.vw none ⟨.line, xs⟩, .fn 47 []] = (match (decide ((xs.length : Int) = (xs.length : Int)) && (decide (0 = 0) && Nat.ble xs.length big) : Bool) with | true => (match xs.findIdx? notLine with | some q => some ⟨[.el (.sc (.int .i64 ((q : Int))))], none⟩ | none => some ⟨[.el (.sc (.int .i64 ((-1))))], none⟩) | false => none) := by kernel_rfl
theorem s59 (xs : List LineV) : runFn T7 a59 l59 Try.f59 [.vw none ⟨.line, xs⟩, .fn 47 []] = (match (Nat.ble xs.length big : Bool) with | true => some ⟨[.el (.sc (.int .i64 (firstAt notLine xs)))], none⟩ | false => none) := by
  rw [e59]
  unfold firstAt
  cases h : Nat.ble xs.length big with
  | false => simp [h]
  | true =>
    cases h2 : xs.findIdx? notLine with
    | some q => simp [h, h2]
    | none => simp [h, h2]
theorem c59 (xs : List LineV) (k : List RV → R) (out : Out) (h : (match (Nat.ble xs.length big : Bool) with | true => k [.el (.sc (.int .i64 (firstAt notLine xs)))] | false => none) = some out) : ∃ rs, Real Try.prog 59 ∧ COK Try.prog 59 [.vw none ⟨.line, xs⟩, .fn 47 []] rs ∧ k rs = some out := by
  cases g0 : (Nat.ble xs.length big : Bool) with
  | true =>
    rw [g0] at h
    exact ⟨_, real Try.func59 (by kernel_rfl), fn_ok tok7 (A := a59) (L := l59) (r := none) Try.func59 (by kernel_rfl) (by kernel_rfl) (loops1 (by kernel_rfl) lk59) (by rw [s59, g0]), h⟩
  | false =>
    rw [g0] at h
    cases h

def S8 : SFn := fun f args k => match f, args with
  | 36, [.vw none ⟨.line, xs⟩, .vw none ⟨.f32, ys⟩, .el (.sc (.fl .f32 b)), .el (.sc (.fl .f32 d))] => (match (Nat.ble xs.length big && Nat.ble ys.length big : Bool) with | true => (match (spAll xs b d ys.length : Bool) with | true => k [.el (.sc (.fl .f32 (restSum xs ys b d))), .el (.sc (.bo (fin (restSum xs ys b d))))] | false => k [.el (.sc (.fl .f32 0)), .el (.sc (.bo false))]) | false => none)
  | 58, [.el (.ag [(.fl .f32 lp), (.fl .f32 lh), (.fl .f32 lw), (.int .i64 lk)]), .el (.sc (.fl .f32 b)), .el (.sc (.fl .f32 d)), .el (.sc (.int .i64 n))] => (match (decide (n ≤ 128) : Bool) with | true => k [.fresh 24 ⟨.f32, orNil (rowAll ((⟨lp, lh, lw, lk⟩ : LineV)) b d n.toNat) (rowV ((⟨lp, lh, lw, lk⟩ : LineV)) b d n.toNat)⟩, .el (.sc (.bo (rowAll ((⟨lp, lh, lw, lk⟩ : LineV)) b d n.toNat)))] | false => none)
  | 59, [.vw none ⟨.line, xs⟩, .fn 47 []] => (match (Nat.ble xs.length big : Bool) with | true => k [.el (.sc (.int .i64 (firstAt notLine xs)))] | false => none)
  | _, _ => S7 f args k
abbrev M8 : MFn := M7
def T8 : TT := tab.T S8 muts M8
theorem tok8 : TOK Try.prog T8 := by
  refine (tab_ok tabok).tok (fun f args k out h => ?_) (fun f vec args k out h => ?_)
  · change S8 f args k = some out at h
    unfold S8 at h
    split at h
    · exact (fun k out h => cok_call (c36 _ _ _ _ k out h)) k out h
    · exact (fun k out h => cok_call (c58 _ _ _ _ _ _ _ k out h)) k out h
    · exact (fun k out h => cok_call (c59 _ k out h)) k out h
    · exact tok7.S f args k out h
  · exact tok7.M f vec args k out h

end Go.Sm.Ytpckpfbjhnllbaa
