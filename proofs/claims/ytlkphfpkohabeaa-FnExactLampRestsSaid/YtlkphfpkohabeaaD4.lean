/- What the functions hand back: level 3. -/
import Derived.Test.YtlkphfpkohabeaaD3
namespace Go.Sm.Ytlkphfpkohabeaa
open Go Go.Sm Go.RowKit Go.Proofs

/-! spec.ShiftLines -/
def a22 : Ann := ann [(5, [1, 2, 8, 27, 28], [8])] [6, 7] 0
def lp22 : St → (Ex → St → R) → R := fun s k => match s with
  | ⟨[(1, .fv (.el (.sc (.fl .f32 b)))), (2, .fv (.el (.sc (.fl .f32 d)))), (8, .fv (.own 0)), (27, .fv (.el (.sc (.int .i64 n)))), (28, .fv (.el (.sc (.int .i64 i))))], [some ⟨49, ⟨.line, zs⟩⟩]⟩ => (match ((decide (i = 0) && (Nat.beq (zs : List LineV).length n.toNat && decide (0 ≤ n ∧ n ≤ 1099511627776))) : Bool) with
    | true => k (.exit 0) ⟨[(8, .fv (.own 0))], [some ⟨49, ⟨.line, rep (fun j zs => zs.set j (shiftL b d (zs.getD j noLine))) (n.toNat) 0 ((zs : List LineV) : (List LineV))⟩⟩]⟩
    | false => none)
  | _ => none
def l22 : Loops := fun key s k => bif Nat.beq key 5 then lp22 s k else none
theorem st22 (b : Nat) (d : Nat) (n : Int) (i : Int) (zs : List LineV) (m : Nat) (k : Ex → St → R) : iterK a22 [1, 2, 8, 27, 28] [8] (codeK T3 a22 l22 Try.f22.ntmps (loopAt Try.f22 0)) (m + 1) ⟨[(1, .fv (.el (.sc (.fl .f32 b)))), (2, .fv (.el (.sc (.fl .f32 d)))), (8, .fv (.own 0)), (27, .fv (.el (.sc (.int .i64 n)))), (28, .fv (.el (.sc (.int .i64 i))))], [some ⟨49, ⟨.line, zs⟩⟩]⟩ k = (match (decide ((i : Int) < n) : Bool) with
  | true => (match (decide (0 ≤ (i : Int) ∧ (i : Int) < (zs.length : Int)) && true : Bool) with
    | true => (match (zs : List LineV)[Int.toNat i]? with
      | some x1 => (match (decide (0 ≤ (i : Int) ∧ (i : Int) < (zs.length : Int)) && true : Bool) with
        | true => (match (zs : List LineV)[Int.toNat i]? with
          | some x2 => (match (decide (0 ≤ (i : Int) ∧ (i : Int) < (((zs : List LineV).set (Int.toNat i) ((⟨fop .add .f32 x1.p b, x2.h, x2.w, x2.k⟩ : LineV))).length : Int)) && true : Bool) with
            | true => (match ((zs : List LineV).set (Int.toNat i) ((⟨fop .add .f32 x1.p b, x2.h, x2.w, x2.k⟩ : LineV)) : List LineV)[Int.toNat i]? with
              | some x3 => (match (decide (0 ≤ (i : Int) ∧ (i : Int) < (((zs : List LineV).set (Int.toNat i) ((⟨fop .add .f32 x1.p b, x2.h, x2.w, x2.k⟩ : LineV))).length : Int)) && true : Bool) with
                | true => (match ((zs : List LineV).set (Int.toNat i) ((⟨fop .add .f32 x1.p b, x2.h, x2.w, x2.k⟩ : LineV)) : List LineV)[Int.toNat i]? with
                  | some x4 => iterK a22 [1, 2, 8, 27, 28] [8] (codeK T3 a22 l22 Try.f22.ntmps (loopAt Try.f22 0)) m ⟨[(1, .fv (.el (.sc (.fl .f32 b)))), (2, .fv (.el (.sc (.fl .f32 d)))), (8, .fv (.own 0)), (27, .fv (.el (.sc (.int .i64 n)))), (28, .fv (.el (.sc (.int .i64 (IntKind.i64.wrap (i + 1))))))], [some ⟨49, ⟨.line, ((zs : List LineV).set (Int.toNat i) ((⟨fop .add .f32 x1.p b, x2.h, x2.w, x2.k⟩ : LineV)) : List LineV).set (Int.toNat i) ((⟨x4.p, fop .mul .f32 x3.h d, x4.w, x4.k⟩ : LineV))⟩⟩]⟩ k
                  | none => none)
                | false => none)
              | none => none)
            | false => none)
          | none => none)
        | false => none)
      | none => none)
    | false => none)
  | false => k (.exit 0) ⟨[(8, .fv (.own 0))], [some ⟨49, ⟨.line, zs⟩⟩]⟩) := by kernel_rfl
theorem ind22 (b : Nat) (d : Nat) (n : Int) (k : Ex → St → R) : ∀ (m j : Nat) (zs : List LineV), zs.length = n.toNat → 0 ≤ n ∧ n ≤ 1099511627776 → 0 ≤ j → j + m = n.toNat → iterK a22 [1, 2, 8, 27, 28] [8] (codeK T3 a22 l22 Try.f22.ntmps (loopAt Try.f22 0)) (m + 1) ⟨[(1, .fv (.el (.sc (.fl .f32 b)))), (2, .fv (.el (.sc (.fl .f32 d)))), (8, .fv (.own 0)), (27, .fv (.el (.sc (.int .i64 n)))), (28, .fv (.el (.sc (.int .i64 (j : Int)))))], [some ⟨49, ⟨.line, zs⟩⟩]⟩ k =
    k (.exit 0) ⟨[(8, .fv (.own 0))], [some ⟨49, ⟨.line, rep (fun j zs => zs.set j (shiftL b d (zs.getD j noLine))) m j (zs : (List LineV))⟩⟩]⟩ := by
  intro m
  induction m with
  | zero =>
    intro j zs hs0 hs1 hlo hj
    have h1 : ¬ ((j : Int) < n) := by omega
    rw [st22]
    simp only [h1, rep, decide_false] <;> rfl
  | succ m ih =>
    intro j zs hs0 hs1 hlo hj
    have h1 : (j : Int) < n := by omega
    have xb : (0 : Int) ≤ ((j : Nat) : Int) ∧ ((j : Nat) : Int) < (zs.length : Int) := by omega
    have xq : zs[Int.toNat ((j : Nat) : Int)]? = some (zs.getD (j) noLine) := getI (by omega)
    have xp : zs[j]? = some (zs.getD (j) noLine) := getI2 (by omega)
    have h5 : ∀ b : LineV, (zs.set (Int.toNat (j : Int)) b)[Int.toNat (j : Int)]? = some b := by intro b; rw [Int.toNat_natCast, List.getElem?_set_self (by omega)]
    have wn : IntKind.i64.wrap ((j : Int) + 1) = ((j + 1 : Nat) : Int) := wrapN (by omega) (by omega)
    rw [st22]
    simp only [h1, wn, xb, xq, xp, h5, and_self, decide_true, Bool.and_true, Int.le_refl]
    have r1 := ih (j + 1) (zs.set j (shiftL b d (zs.getD j noLine))) (by simpa using hs0) hs1 (by omega) (by omega)
    simp only [h5, List.length_set, List.set_set, xb, xq, and_self, decide_true, Bool.and_true]
    exact r1

theorem lk22 : LOK T3 a22 l22 Try.f22.ntmps (loopAt Try.f22 0) := by
  intro ins outs hA s k out h
  have hA' : ([1, 2, 8, 27, 28], [8]) = (ins, outs) := Option.some.inj ((show a22.lp (firstRegion (loopAt Try.f22 0)) = some ([1, 2, 8, 27, 28], [8]) by kernel_rfl).symm.trans hA)
  cases hA'
  have hk : firstRegion (loopAt Try.f22 0) = 5 := by kernel_rfl
  rw [hk] at h
  change lp22 s k = some out at h
  unfold lp22 at h
  split at h
  · rename_i b d n i zs
    cases hg : (decide (i = 0) && (Nat.beq zs.length n.toNat && decide (0 ≤ n ∧ n ≤ 1099511627776))) with
    | false => rw [hg] at h; cases h
    | true =>
      rw [hg] at h
      simp only [Bool.and_eq_true, decide_eq_true_eq] at hg
      obtain ⟨rfl, gs0, gs1⟩ := hg
      refine ⟨(n.toNat) + 1, ?_⟩
      have gs0_ := Nat.eq_of_beq_eq_true gs0
      exact (ind22 b d n k (n.toNat) 0 zs (by omega) (by omega) (by omega) (by omega)).trans h
  · cases h
theorem e22 (xs : List LineV) (b : Nat) (d : Nat) : runFn T3 a22 l22 Try.f22 [.vw none ⟨.line, xs⟩, .el (.sc (.fl .f32 b)), .el (.sc (.fl .f32 d))] = (match (Nat.ble xs.length big : Bool) with
  | true => (match (!(linesOk xs) : Bool) with
    | true => some ⟨[.nil, .el (.sc (.bo false))], none⟩
    | false => (match (!(fin b) : Bool) with
      | true => some ⟨[.nil, .el (.sc (.bo false))], none⟩
      | false => (match (!(fin d) : Bool) with
        | true => some ⟨[.nil, .el (.sc (.bo false))], none⟩
        | false => (match (Nat.beq 49 49 && decide (([] : List LineV).length + (xs : List LineV).length ≤ 1099511627776) : Bool) with
          | true => (match ((decide (0 = 0) && (Nat.beq (([] : List LineV) ++ xs : List LineV).length (((([] : List LineV) ++ xs).length : Int)).toNat && decide (0 ≤ (((([] : List LineV) ++ xs).length : Int)) ∧ (((([] : List LineV) ++ xs).length : Int)) ≤ 1099511627776))) : Bool) with
            | true => (match (Nat.ble (rep (fun j zs => zs.set j (shiftL b d (zs.getD j noLine))) ((((([] : List LineV) ++ xs).length : Int)).toNat) 0 ((([] : List LineV) ++ xs : List LineV) : (List LineV))).length big : Bool) with
              | true => (match (!(linesOk (rep (fun j zs => zs.set j (shiftL b d (zs.getD j noLine))) ((((([] : List LineV) ++ xs).length : Int)).toNat) 0 ((([] : List LineV) ++ xs : List LineV) : (List LineV)))) : Bool) with
                | true => some ⟨[.nil, .el (.sc (.bo false))], none⟩
                | false => some ⟨[.fresh 49 ⟨.line, rep (fun j zs => zs.set j (shiftL b d (zs.getD j noLine))) ((((([] : List LineV) ++ xs).length : Int)).toNat) 0 ((([] : List LineV) ++ xs : List LineV) : (List LineV))⟩, .el (.sc (.bo true))], none⟩)
              | false => none)
            | false => none)
          | false => none))))
  | false => none) := by kernel_rfl
theorem s22 (xs : List LineV) (b : Nat) (d : Nat) (hg : (Nat.ble xs.length big) = true) : runFn T3 a22 l22 Try.f22 [.vw none ⟨.line, xs⟩, .el (.sc (.fl .f32 b)), .el (.sc (.fl .f32 d))] = (match (shiftOk xs b d : Bool) with
  | true => some ⟨[.fresh 49 ⟨.line, shiftX xs b d⟩, .el (.sc (.bo true))], none⟩
  | false => some ⟨[.nil, .el (.sc (.bo false))], none⟩) := by
  rw [e22]
  rw [hg]
  unfold shiftOk
  cases h1 : linesOk xs with
  | false => simp
  | true =>
    have h1b := h1
    unfold linesOk at h1b
    rw [Bool.and_eq_true, decide_eq_true_eq] at h1b
    have hx : Nat.ble xs.length big = true := big_of (by omega)
    have hx2 : xs.length ≤ 1099511627776 := by omega
    have hz : Nat.ble (0 + xs.length) big = true := big_of (by omega)
    have hl : Nat.ble (shiftX xs b d).length big = true := big_of (by rw [shiftX_len]; omega)
    cases h2 : fin b with
    | false => simp [h2]
    | true =>
      cases h3 : fin d with
      | false => simp [h2, h3]
      | true =>
        have e := shift_sets xs b d
        have hd : (0 : Int) ≤ (xs.length : Int) ∧ (xs.length : Int) ≤ 1099511627776 := by omega
        simp only [hx, hx2, hd, e, Int.toNat_natCast, List.nil_append, Nat.beq_refl, h2, h3, hl, decide_true, Bool.and_self, Bool.not_true, Bool.true_and, Bool.and_true]
        cases h6 : linesOk (shiftX xs b d) with
        | false => simp [hx2]
        | true => simp [hl, hx2]
theorem c22 (xs : List LineV) (b : Nat) (d : Nat) (k : List RV → R) (out : Out) (h : (match (Nat.ble xs.length big : Bool) with
  | true => k [.fresh 49 ⟨.line, orNil (shiftOk xs b d) (shiftX xs b d)⟩, .el (.sc (.bo (shiftOk xs b d)))]
  | false => none) = some out) : ∃ rs, Real Try.prog 22 ∧ COK Try.prog 22 [.vw none ⟨.line, xs⟩, .el (.sc (.fl .f32 b)), .el (.sc (.fl .f32 d))] rs ∧ k rs = some out := by
  cases g0 : (Nat.ble xs.length big : Bool) with
  | false =>
    rw [g0] at h
    cases h
  | true =>
    rw [g0] at h
    dsimp only at h
    cases g1 : (shiftOk xs b d : Bool) with
    | true =>
      rw [g1] at h
      exact ⟨_, real Try.func22 (by kernel_rfl), fn_ok tok3 (A := a22) (L := l22) (r := none) Try.func22 (by kernel_rfl) (by kernel_rfl) (loops1 (by kernel_rfl) lk22) (by rw [s22 _ _ _ g0, g1]; rfl), h⟩
    | false =>
      rw [g1] at h
      exact ⟨_, real Try.func22 (by kernel_rfl), COK.nil (fn_ok tok3 (A := a22) (L := l22) (r := none) Try.func22 (by kernel_rfl) (by kernel_rfl) (loops1 (by kernel_rfl) lk22) (by rw [s22 _ _ _ g0, g1] <;> rfl)), h⟩

/-! spec.LampRests -/
def a49 : Ann := ann [(5, [0, 1, 2, 9, 10], [9])] [6, 7, 8] 0
def lp49 : St → (Ex → St → R) → R := fun s k => match s with
  | ⟨[(0, .fv (.vw (some 0) ⟨.f32, cs⟩)), (1, .fv (.vw (some 1) ⟨.f32, xs⟩)), (2, .fv (.vw (some 2) ⟨.f32, ys⟩)), (9, .fv (.own 0)), (10, .fv (.el (.sc (.int .i64 i))))], [some ⟨30, ⟨.f32, zs⟩⟩]⟩ => (match ((decide (i = 0) && (Nat.ble xs.length big && (Nat.ble cs.length big && (Nat.ble xs.length ys.length && Nat.ble ((zs : List Nat).length + xs.length) big)))) : Bool) with
    | true => k (.exit 0) ⟨[(9, .fv (.own 0))], [some ⟨30, ⟨.f32, rep (fun j zs => zs ++ [lampR cs xs ys j]) (xs.length) 0 ((zs : List Nat) : (List Nat))⟩⟩]⟩
    | false => none)
  | _ => none
def l49 : Loops := fun key s k => bif Nat.beq key 5 then lp49 s k else none
theorem st49 (cs : List Nat) (xs : List Nat) (ys : List Nat) (i : Int) (zs : List Nat) (m : Nat) (k : Ex → St → R) : iterK a49 [0, 1, 2, 9, 10] [9] (codeK T3 a49 l49 Try.f49.ntmps (loopAt Try.f49 0)) (m + 1) ⟨[(0, .fv (.vw (some 0) ⟨.f32, cs⟩)), (1, .fv (.vw (some 1) ⟨.f32, xs⟩)), (2, .fv (.vw (some 2) ⟨.f32, ys⟩)), (9, .fv (.own 0)), (10, .fv (.el (.sc (.int .i64 i))))], [some ⟨30, ⟨.f32, zs⟩⟩]⟩ k = (match (decide ((i : Int) < (xs.length : Int)) : Bool) with
  | true => (match (decide (0 ≤ (i : Int) ∧ (i : Int) < (ys.length : Int)) && true : Bool) with
    | true => (match (ys : List Nat)[Int.toNat i]? with
      | some x1 => (match (decide (0 ≤ (i : Int) ∧ (i : Int) < (xs.length : Int)) && true : Bool) with
        | true => (match (xs : List Nat)[Int.toNat i]? with
          | some x2 => (match (Nat.ble cs.length big : Bool) with
            | true => (match (Nat.beq 30 30 && decide ((zs : List Nat).length + ([fop .sub .f32 x1 (horner x2 0 cs)] : List Nat).length ≤ 1099511627776) : Bool) with
              | true => iterK a49 [0, 1, 2, 9, 10] [9] (codeK T3 a49 l49 Try.f49.ntmps (loopAt Try.f49 0)) m ⟨[(0, .fv (.vw (some 0) ⟨.f32, cs⟩)), (1, .fv (.vw (some 1) ⟨.f32, xs⟩)), (2, .fv (.vw (some 2) ⟨.f32, ys⟩)), (9, .fv (.own 0)), (10, .fv (.el (.sc (.int .i64 (IntKind.i64.wrap (i + 1))))))], [some ⟨30, ⟨.f32, (zs : List Nat) ++ ([fop .sub .f32 x1 (horner x2 0 cs)])⟩⟩]⟩ k
              | false => none)
            | false => none)
          | none => none)
        | false => none)
      | none => none)
    | false => none)
  | false => k (.exit 0) ⟨[(9, .fv (.own 0))], [some ⟨30, ⟨.f32, zs⟩⟩]⟩) := by kernel_rfl
theorem ind49 (cs : List Nat) (xs : List Nat) (ys : List Nat) (hx : (Nat.ble xs.length big) = true) (hc : (Nat.ble cs.length big) = true) (hl : (Nat.ble xs.length ys.length) = true) (k : Ex → St → R) : ∀ (m j : Nat) (zs : List Nat), zs.length + m ≤ 1099511627776 → 0 ≤ j → j + m = xs.length → iterK a49 [0, 1, 2, 9, 10] [9] (codeK T3 a49 l49 Try.f49.ntmps (loopAt Try.f49 0)) (m + 1) ⟨[(0, .fv (.vw (some 0) ⟨.f32, cs⟩)), (1, .fv (.vw (some 1) ⟨.f32, xs⟩)), (2, .fv (.vw (some 2) ⟨.f32, ys⟩)), (9, .fv (.own 0)), (10, .fv (.el (.sc (.int .i64 (j : Int)))))], [some ⟨30, ⟨.f32, zs⟩⟩]⟩ k =
    k (.exit 0) ⟨[(9, .fv (.own 0))], [some ⟨30, ⟨.f32, rep (fun j zs => zs ++ [lampR cs xs ys j]) m j (zs : (List Nat))⟩⟩]⟩ := by
  intro m
  induction m with
  | zero =>
    intro j zs hs0 hlo hj
    have hx_ := big_le hx
    have hc_ := big_le hc
    have hl_ := Nat.le_of_ble_eq_true hl
    have h1 : ¬ (((j : Int) < (xs.length : Int))) := by omega
    rw [st49]
    simp only [h1, rep, decide_false, hc, List.length_singleton] <;> rfl
  | succ m ih =>
    intro j zs hs0 hlo hj
    have hx_ := big_le hx
    have hc_ := big_le hc
    have hl_ := Nat.le_of_ble_eq_true hl
    have h1 : ((j : Int) < (xs.length : Int)) := by omega
    have hbq : Nat.beq 30 30 = true := rfl
    have hzl : zs.length + 1 ≤ 1099511627776 := by omega
    have xb : (0 : Int) ≤ ((j : Nat) : Int) ∧ ((j : Nat) : Int) < (xs.length : Int) := by omega
    have xq : xs[Int.toNat ((j : Nat) : Int)]? = some (xs.getD (j) 0) := getI (by omega)
    have xp : xs[j]? = some (xs.getD (j) 0) := getI2 (by omega)
    have yl : j < ys.length := by omega
    have yb : (0 : Int) ≤ ((j : Nat) : Int) ∧ ((j : Nat) : Int) < (ys.length : Int) := by omega
    have yq : ys[Int.toNat ((j : Nat) : Int)]? = some (ys.getD (j) 0) := getI (by omega)
    have yp : ys[j]? = some (ys.getD (j) 0) := getI2 (by omega)
    have wn : IntKind.i64.wrap ((j : Int) + 1) = ((j + 1 : Nat) : Int) := wrapN (by omega) (by omega)
    rw [st49]
    simp only [h1, wn, hbq, hzl, xb, xq, xp, yl, yb, yq, yp, and_self, decide_true, Bool.and_true, Int.le_refl, hc, List.length_singleton]
    exact ih (j + 1) _ (by simp; omega) (by omega) (by omega)

theorem lk49 : LOK T3 a49 l49 Try.f49.ntmps (loopAt Try.f49 0) := by
  intro ins outs hA s k out h
  have hA' : ([0, 1, 2, 9, 10], [9]) = (ins, outs) := Option.some.inj ((show a49.lp (firstRegion (loopAt Try.f49 0)) = some ([0, 1, 2, 9, 10], [9]) by kernel_rfl).symm.trans hA)
  cases hA'
  have hk : firstRegion (loopAt Try.f49 0) = 5 := by kernel_rfl
  rw [hk] at h
  change lp49 s k = some out at h
  unfold lp49 at h
  split at h
  · rename_i cs xs ys i zs
    cases hg : (decide (i = 0) && (Nat.ble xs.length big && (Nat.ble cs.length big && (Nat.ble xs.length ys.length && Nat.ble (zs.length + xs.length) big)))) with
    | false => rw [hg] at h; cases h
    | true =>
      rw [hg] at h
      simp only [Bool.and_eq_true, decide_eq_true_eq] at hg
      obtain ⟨rfl, hx, hc, hl, gs0⟩ := hg
      refine ⟨(xs.length) + 1, ?_⟩
      have hx_ := big_le hx
      have hc_ := big_le hc
      have hl_ := Nat.le_of_ble_eq_true hl
      have gs0_ := big_le gs0
      exact (ind49 cs xs ys hx hc hl k (xs.length) 0 zs (by omega) (by omega) (by omega)).trans h
  · cases h
theorem e49 (cs : List Nat) (xs : List Nat) (ys : List Nat) : runFn T3 a49 l49 Try.f49 [.vw none ⟨.f32, cs⟩, .vw none ⟨.f32, xs⟩, .vw none ⟨.f32, ys⟩] = (match (!(cs.all fin && (decide (cs.length ≥ 1) && decide (cs.length ≤ 3))) : Bool) with
  | true => some ⟨[.nil, .el (.sc (.fl .f32 0)), .el (.sc (.bo false))], none⟩
  | false => (match (!(lamps xs ys 1) : Bool) with
    | true => some ⟨[.nil, .el (.sc (.fl .f32 0)), .el (.sc (.bo false))], none⟩
    | false => (match ((decide (0 = 0) && (Nat.ble xs.length big && (Nat.ble cs.length big && (Nat.ble xs.length ys.length && Nat.ble (([] : List Nat).length + xs.length) big)))) : Bool) with
      | true => (match (Nat.ble (rep (fun j zs => zs ++ [lampR cs xs ys j]) (xs.length) 0 (([] : List Nat) : (List Nat))).length big && Nat.ble (rep (fun j zs => zs ++ [lampR cs xs ys j]) (xs.length) 0 (([] : List Nat) : (List Nat))).length (rep (fun j zs => zs ++ [lampR cs xs ys j]) (xs.length) 0 (([] : List Nat) : (List Nat))).length : Bool) with
        | true => (match (Nat.ble (rep (fun j zs => zs ++ [lampR cs xs ys j]) (xs.length) 0 (([] : List Nat) : (List Nat))).length big : Bool) with
          | true => (match (!((rep (fun j zs => zs ++ [lampR cs xs ys j]) (xs.length) 0 (([] : List Nat) : (List Nat))).all fin) : Bool) with
            | true => some ⟨[.nil, .el (.sc (.fl .f32 0)), .el (.sc (.bo false))], none⟩
            | false => (match (!(fin (rootF (fop .quo .f32 (dot2 (rep (fun j zs => zs ++ [lampR cs xs ys j]) (xs.length) 0 (([] : List Nat) : (List Nat))) (rep (fun j zs => zs ++ [lampR cs xs ys j]) (xs.length) 0 (([] : List Nat) : (List Nat)))) (fint .f32 (((rep (fun j zs => zs ++ [lampR cs xs ys j]) (xs.length) 0 (([] : List Nat) : (List Nat))).length : Int)))))) : Bool) with
              | true => some ⟨[.nil, .el (.sc (.fl .f32 0)), .el (.sc (.bo false))], none⟩
              | false => some ⟨[.fresh 30 ⟨.f32, rep (fun j zs => zs ++ [lampR cs xs ys j]) (xs.length) 0 (([] : List Nat) : (List Nat))⟩, .el (.sc (.fl .f32 (rootF (fop .quo .f32 (dot2 (rep (fun j zs => zs ++ [lampR cs xs ys j]) (xs.length) 0 (([] : List Nat) : (List Nat))) (rep (fun j zs => zs ++ [lampR cs xs ys j]) (xs.length) 0 (([] : List Nat) : (List Nat)))) (fint .f32 (((rep (fun j zs => zs ++ [lampR cs xs ys j]) (xs.length) 0 (([] : List Nat) : (List Nat))).length : Int))))))), .el (.sc (.bo true))], none⟩))
          | false => none)
        | false => none)
      | false => none))) := by kernel_rfl
theorem s49 (cs : List Nat) (xs : List Nat) (ys : List Nat) : runFn T3 a49 l49 Try.f49 [.vw none ⟨.f32, cs⟩, .vw none ⟨.f32, xs⟩, .vw none ⟨.f32, ys⟩] = (match (lampROk cs xs ys : Bool) with
  | true => some ⟨[.fresh 30 ⟨.f32, lampRests cs xs ys⟩, .el (.sc (.fl .f32 (lampRoot cs xs ys))), .el (.sc (.bo true))], none⟩
  | false => some ⟨[.nil, .el (.sc (.fl .f32 0)), .el (.sc (.bo false))], none⟩) := by
  rw [e49]
  unfold lampROk
  have hcur : (cs.all fin && (decide (cs.length ≥ 1) && decide (cs.length ≤ 3))) = curveOk cs := rfl
  try rw [hcur]
  cases h2 : lamps xs ys 1 with
  | false => cases curveOk cs <;> simp
  | true =>
    have h2b := h2
    unfold lamps at h2b
    simp only [Bool.and_eq_true, decide_eq_true_eq] at h2b
    have hx : Nat.ble xs.length big = true := big_of (by omega)
    have hxy : Nat.ble xs.length ys.length = true := Nat.ble_eq_true_of_le (by omega)
    have hz : Nat.ble (0 + xs.length) big = true := big_of (by omega)
    have hr : Nat.ble (lampRests cs xs ys).length big = true := big_of (by rw [lampRests_len]; omega)
    have hll : (lampRests cs xs ys).length = xs.length := lampRests_len cs xs ys
    have hself : Nat.ble (lampRests cs xs ys).length (lampRests cs xs ys).length = true := Nat.ble_eq_true_of_le (Nat.le_refl _)
    have hlr : rootF (fop .quo .f32 (dot2 (lampRests cs xs ys) (lampRests cs xs ys)) (fint .f32 (xs.length : Int))) = lampRoot cs xs ys := rfl
    cases h1 : curveOk cs with
    | false => simp
    | true =>
      have hc : Nat.ble cs.length big = true := by
        have h1b := h1
        unfold curveOk at h1b
        simp only [Bool.and_eq_true, decide_eq_true_eq] at h1b
        exact big_of (by omega)
      have e := rep_map (lampR cs xs ys) xs.length 0 []
      have e2 : (fromTo 0 xs.length).map (lampR cs xs ys) = lampRests cs xs ys := rfl
      rw [List.nil_append, e2] at e
      have hxx : Nat.ble xs.length xs.length = true := Nat.ble_eq_true_of_le (Nat.le_refl _)
      simp only [hx, hc, hxy, hz, e, hr, hself, hll, hxx, hlr, List.length_nil, decide_true, Bool.and_self, Bool.not_true, Bool.true_and, Bool.and_true]
      cases h6 : (lampRests cs xs ys).all fin <;> cases h7 : fin (lampRoot cs xs ys) <;> simp [h6, h7, hxx]
theorem c49 (cs : List Nat) (xs : List Nat) (ys : List Nat) (k : List RV → R) (out : Out) (h : k [.fresh 30 ⟨.f32, orNil (lampROk cs xs ys) (lampRests cs xs ys)⟩, .el (.sc (.fl .f32 (orZero (lampROk cs xs ys) (lampRoot cs xs ys)))), .el (.sc (.bo (lampROk cs xs ys)))] = some out) : ∃ rs, Real Try.prog 49 ∧ COK Try.prog 49 [.vw none ⟨.f32, cs⟩, .vw none ⟨.f32, xs⟩, .vw none ⟨.f32, ys⟩] rs ∧ k rs = some out := by
  cases g0 : (lampROk cs xs ys : Bool) with
  | true =>
    rw [g0] at h
    exact ⟨_, real Try.func49 (by kernel_rfl), fn_ok tok3 (A := a49) (L := l49) (r := none) Try.func49 (by kernel_rfl) (by kernel_rfl) (loops1 (by kernel_rfl) lk49) (by rw [s49, g0]; rfl), h⟩
  | false =>
    rw [g0] at h
    exact ⟨_, real Try.func49 (by kernel_rfl), COK.nil (fn_ok tok3 (A := a49) (L := l49) (r := none) Try.func49 (by kernel_rfl) (by kernel_rfl) (loops1 (by kernel_rfl) lk49) (by rw [s49, g0] <;> rfl)), h⟩

/-! slices.ContainsFunc[[]float32,float32] -/
theorem e113 (xs : List Nat) : runFn T3 none0 noL Try.f113 [.vw none ⟨.f32, xs⟩, .fn 114 []] = (match (Nat.ble xs.length big : Bool) with
  | true => some ⟨[.el (.sc (.bo (decide ((firstAt notFin xs : Int) ≥ 0))))], none⟩
  | false => none) := by kernel_rfl
theorem s113 (xs : List Nat) : runFn T3 none0 noL Try.f113 [.vw none ⟨.f32, xs⟩, .fn 114 []] = (match (Nat.ble xs.length big : Bool) with
  | true => some ⟨[.el (.sc (.bo (xs.any notFin)))], none⟩
  | false => none) := by
  rw [e113]
  rw [any_firstAt]
theorem c113 (xs : List Nat) (k : List RV → R) (out : Out) (h : (match (Nat.ble xs.length big : Bool) with
  | true => k [.el (.sc (.bo (xs.any notFin)))]
  | false => none) = some out) : ∃ rs, Real Try.prog 113 ∧ COK Try.prog 113 [.vw none ⟨.f32, xs⟩, .fn 114 []] rs ∧ k rs = some out := by
  cases g0 : (Nat.ble xs.length big : Bool) with
  | true =>
    rw [g0] at h
    exact ⟨_, real Try.func113 (by kernel_rfl), fn_ok tok3 (A := none0) (L := noL) (r := none) Try.func113 (by kernel_rfl) (by kernel_rfl) (loops0 (by kernel_rfl)) (by rw [s113, g0]), h⟩
  | false =>
    rw [g0] at h
    cases h

/-! slices.ContainsFunc[[]float32,float32] -/
theorem e113b (xs : List Nat) : runFn T3 none0 noL Try.f113 [.vw none ⟨.f32, xs⟩, .fn 121 []] = (match (Nat.ble xs.length big : Bool) with
  | true => some ⟨[.el (.sc (.bo (decide ((firstAt notPos xs : Int) ≥ 0))))], none⟩
  | false => none) := by kernel_rfl
theorem s113b (xs : List Nat) : runFn T3 none0 noL Try.f113 [.vw none ⟨.f32, xs⟩, .fn 121 []] = (match (Nat.ble xs.length big : Bool) with
  | true => some ⟨[.el (.sc (.bo (xs.any notPos)))], none⟩
  | false => none) := by
  rw [e113b]
  rw [any_firstAt]
theorem c113b (xs : List Nat) (k : List RV → R) (out : Out) (h : (match (Nat.ble xs.length big : Bool) with
  | true => k [.el (.sc (.bo (xs.any notPos)))]
  | false => none) = some out) : ∃ rs, Real Try.prog 113 ∧ COK Try.prog 113 [.vw none ⟨.f32, xs⟩, .fn 121 []] rs ∧ k rs = some out := by
  cases g0 : (Nat.ble xs.length big : Bool) with
  | true =>
    rw [g0] at h
    exact ⟨_, real Try.func113 (by kernel_rfl), fn_ok tok3 (A := none0) (L := noL) (r := none) Try.func113 (by kernel_rfl) (by kernel_rfl) (loops0 (by kernel_rfl)) (by rw [s113b, g0]), h⟩
  | false =>
    rw [g0] at h
    cases h

def S4 : SFn := fun f args k => match f, args with
  | 22, [.vw none ⟨.line, xs⟩, .el (.sc (.fl .f32 b)), .el (.sc (.fl .f32 d))] => (match (Nat.ble xs.length big : Bool) with
    | true => k [.fresh 49 ⟨.line, orNil (shiftOk xs b d) (shiftX xs b d)⟩, .el (.sc (.bo (shiftOk xs b d)))]
    | false => none)
  | 49, [.vw none ⟨.f32, cs⟩, .vw none ⟨.f32, xs⟩, .vw none ⟨.f32, ys⟩] => k [.fresh 30 ⟨.f32, orNil (lampROk cs xs ys) (lampRests cs xs ys)⟩, .el (.sc (.fl .f32 (orZero (lampROk cs xs ys) (lampRoot cs xs ys)))), .el (.sc (.bo (lampROk cs xs ys)))]
  | 113, [.vw none ⟨.f32, xs⟩, .fn 114 []] => (match (Nat.ble xs.length big : Bool) with
    | true => k [.el (.sc (.bo (xs.any notFin)))]
    | false => none)
  | 113, [.vw none ⟨.f32, xs⟩, .fn 121 []] => (match (Nat.ble xs.length big : Bool) with
    | true => k [.el (.sc (.bo (xs.any notPos)))]
    | false => none)
  | _, _ => S3 f args k
abbrev M4 : MFn := M3
def T4 : TT := tab.T S4 muts M4
theorem tok4 : TOK Try.prog T4 := by
  refine (tab_ok tabok).tok (fun f args k out h => ?_) (fun f vec args k out h => ?_)
  · change S4 f args k = some out at h
    unfold S4 at h
    split at h
    · exact (fun k out h => cok_call (c22 _ _ _ k out h)) k out h
    · exact (fun k out h => cok_call (c49 _ _ _ k out h)) k out h
    · exact (fun k out h => cok_call (c113 _ k out h)) k out h
    · exact (fun k out h => cok_call (c113b _ k out h)) k out h
    · exact tok3.S f args k out h
  · exact tok3.M f vec args k out h

end Go.Sm.Ytlkphfpkohabeaa
