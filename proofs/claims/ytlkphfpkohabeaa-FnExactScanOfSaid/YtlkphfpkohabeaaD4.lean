/- What the functions hand back: level 3. -/
import Derived.Test.YtlkphfpkohabeaaD3
namespace Go.Sm.Ytlkphfpkohabeaa
open Go Go.Sm Go.RowKit Go.Proofs

/-! spec.StitchLists -/
def a15 : Ann := ann [(8, [1, 2, 8, 9, 10, 11, 12], [11])] [6, 7] 0
def lp15 : St → (Ex → St → R) → R := fun s k => match s with
  | ⟨[(1, .fv (.vw (some 1) ⟨.f32, bs⟩)), (2, .fv (.el (.sc (.int .i64 o)))), (8, .fv (.el (.sc (.int .i64 n)))), (9, .fv (.el (.sc (.int .i64 p)))), (10, .fv (.el (.sc (.fl .f32 q)))), (11, .fv (.own 0)), (12, .fv (.el (.sc (.int .i64 i))))], [some ⟨30, ⟨.f32, zs⟩⟩]⟩ => (match ((decide (p = (bs.length : Int)) && (decide (i = 0) && (Nat.ble bs.length big && (Nat.ble ((zs : List Nat).length + bs.length) big && decide (0 ≤ o ∧ o ≤ n ∧ n ≤ ((zs : List Nat).length : Int)))))) : Bool) with
    | true => k (.exit 0) ⟨[(11, .fv (.own 0))], [some ⟨30, ⟨.f32, rep (stS bs q (n - o).toNat o.toNat) (bs.length) 0 ((zs : List Nat) : (List Nat))⟩⟩]⟩
    | false => none)
  | _ => none
def l15 : Loops := fun key s k => bif Nat.beq key 8 then lp15 s k else none
theorem st15 (bs : List Nat) (o : Int) (n : Int) (p : Int) (q : Nat) (i : Int) (zs : List Nat) (m : Nat) (k : Ex → St → R) : iterK a15 [1, 2, 8, 9, 10, 11, 12] [11] (codeK T3 a15 l15 Try.f15.ntmps (loopAt Try.f15 0)) (m + 1) ⟨[(1, .fv (.vw (some 1) ⟨.f32, bs⟩)), (2, .fv (.el (.sc (.int .i64 o)))), (8, .fv (.el (.sc (.int .i64 n)))), (9, .fv (.el (.sc (.int .i64 p)))), (10, .fv (.el (.sc (.fl .f32 q)))), (11, .fv (.own 0)), (12, .fv (.el (.sc (.int .i64 i))))], [some ⟨30, ⟨.f32, zs⟩⟩]⟩ k = (match (decide ((i : Int) < p) : Bool) with
  | true => (match (decide (0 ≤ (i : Int) ∧ (i : Int) < (bs.length : Int)) && true : Bool) with
    | true => (match (bs : List Nat)[Int.toNat i]? with
      | some x1 => (match (decide ((i : Int) < o) : Bool) with
        | true => (match (decide (0 ≤ (IntKind.i64.wrap ((IntKind.i64.wrap (n - o)) + i) : Int) ∧ (IntKind.i64.wrap ((IntKind.i64.wrap (n - o)) + i) : Int) < (zs.length : Int)) && true : Bool) with
          | true => (match (zs : List Nat)[Int.toNat (IntKind.i64.wrap ((IntKind.i64.wrap (n - o)) + i))]? with
            | some x2 => (match (decide (0 ≤ (IntKind.i64.wrap ((IntKind.i64.wrap (n - o)) + i) : Int) ∧ (IntKind.i64.wrap ((IntKind.i64.wrap (n - o)) + i) : Int) < (zs.length : Int)) && true : Bool) with
              | true => (match (zs : List Nat)[Int.toNat (IntKind.i64.wrap ((IntKind.i64.wrap (n - o)) + i))]? with
                | some x3 => iterK a15 [1, 2, 8, 9, 10, 11, 12] [11] (codeK T3 a15 l15 Try.f15.ntmps (loopAt Try.f15 0)) m ⟨[(1, .fv (.vw (some 1) ⟨.f32, bs⟩)), (2, .fv (.el (.sc (.int .i64 o)))), (8, .fv (.el (.sc (.int .i64 n)))), (9, .fv (.el (.sc (.int .i64 p)))), (10, .fv (.el (.sc (.fl .f32 q)))), (11, .fv (.own 0)), (12, .fv (.el (.sc (.int .i64 (IntKind.i64.wrap (i + 1))))))], [some ⟨30, ⟨.f32, (zs : List Nat).set (Int.toNat (IntKind.i64.wrap ((IntKind.i64.wrap (n - o)) + i))) (fop .mul .f32 1056964608 (fop .add .f32 x2 (fop .mul .f32 x1 q)))⟩⟩]⟩ k
                | none => none)
              | false => none)
            | none => none)
          | false => none)
        | false => (match (Nat.beq 30 30 && decide ((zs : List Nat).length + ([fop .mul .f32 x1 q] : List Nat).length ≤ 1099511627776) : Bool) with
          | true => iterK a15 [1, 2, 8, 9, 10, 11, 12] [11] (codeK T3 a15 l15 Try.f15.ntmps (loopAt Try.f15 0)) m ⟨[(1, .fv (.vw (some 1) ⟨.f32, bs⟩)), (2, .fv (.el (.sc (.int .i64 o)))), (8, .fv (.el (.sc (.int .i64 n)))), (9, .fv (.el (.sc (.int .i64 p)))), (10, .fv (.el (.sc (.fl .f32 q)))), (11, .fv (.own 0)), (12, .fv (.el (.sc (.int .i64 (IntKind.i64.wrap (i + 1))))))], [some ⟨30, ⟨.f32, (zs : List Nat) ++ ([fop .mul .f32 x1 q])⟩⟩]⟩ k
          | false => none))
      | none => none)
    | false => none)
  | false => k (.exit 0) ⟨[(11, .fv (.own 0))], [some ⟨30, ⟨.f32, zs⟩⟩]⟩) := by kernel_rfl
theorem ind15 (bs : List Nat) (o : Int) (n : Int) (q : Nat) (hs : (Nat.ble bs.length big) = true) (k : Ex → St → R) : ∀ (m j : Nat) (zs : List Nat), zs.length + m ≤ 1099511627776 → 0 ≤ o ∧ o ≤ n ∧ n ≤ (zs.length : Int) → 0 ≤ j → j + m = bs.length → iterK a15 [1, 2, 8, 9, 10, 11, 12] [11] (codeK T3 a15 l15 Try.f15.ntmps (loopAt Try.f15 0)) (m + 1) ⟨[(1, .fv (.vw (some 1) ⟨.f32, bs⟩)), (2, .fv (.el (.sc (.int .i64 o)))), (8, .fv (.el (.sc (.int .i64 n)))), (9, .fv (.el (.sc (.int .i64 (bs.length : Int))))), (10, .fv (.el (.sc (.fl .f32 q)))), (11, .fv (.own 0)), (12, .fv (.el (.sc (.int .i64 (j : Int)))))], [some ⟨30, ⟨.f32, zs⟩⟩]⟩ k =
    k (.exit 0) ⟨[(11, .fv (.own 0))], [some ⟨30, ⟨.f32, rep (stS bs q (n - o).toNat o.toNat) m j (zs : (List Nat))⟩⟩]⟩ := by
  intro m
  induction m with
  | zero =>
    intro j zs hs0 hs1 hlo hj
    have hs_ := big_le hs
    have h1 : ¬ (((j : Int) < (bs.length : Int))) := by omega
    rw [st15]
    simp only [h1, rep, decide_false] <;> rfl
  | succ m ih =>
    intro j zs hs0 hs1 hlo hj
    have hs_ := big_le hs
    have h1 : ((j : Int) < (bs.length : Int)) := by omega
    have hbq : Nat.beq 30 30 = true := rfl
    have hzl : zs.length + 1 ≤ 1099511627776 := by omega
    have bb : (0 : Int) ≤ ((j : Nat) : Int) ∧ ((j : Nat) : Int) < (bs.length : Int) := by omega
    have bq : bs[Int.toNat ((j : Nat) : Int)]? = some (bs.getD (j) 0) := getI (by omega)
    have bp : bs[j]? = some (bs.getD (j) 0) := getI2 (by omega)
    have wn : IntKind.i64.wrap ((j : Int) + 1) = ((j + 1 : Nat) : Int) := wrapN (by omega) (by omega)
    rw [st15]
    simp only [h1, wn, hbq, hzl, bb, bq, bp, and_self, decide_true, Bool.and_true, Int.le_refl]
    have r1 := ih (j + 1) (stS bs q (n - o).toNat o.toNat j zs) (by unfold stS; cases decide (j < o.toNat) <;> simp <;> omega) (by unfold stS; cases decide (j < o.toNat) <;> simp <;> omega) (by omega) (by omega)
    refine Eq.trans ?_ r1
    by_cases hj : (j : Int) < o
    · have hj2 : j < o.toNat := by omega
      have w1 : IntKind.i64.wrap (n - o) = n - o := wrap64 (by omega) (by omega)
      have w2 : IntKind.i64.wrap (n - o + (j : Int)) = (((n - o).toNat + j : Nat) : Int) := wrapN (by omega) (by omega)
      have hb2 : (0 : Int) ≤ (((n - o).toNat + j : Nat) : Int) ∧ (((n - o).toNat + j : Nat) : Int) < (zs.length : Int) := by omega
      have hb3 : (0 : Int) ≤ (((n - o).toNat + j : Nat) : Int) ∧ (((n - o).toNat + j : Nat) : Int) < (zs.length : Int) := by omega
      have hg2 : zs[Int.toNat (((n - o).toNat + j : Nat) : Int)]? = some (zs.getD ((n - o).toNat + j) 0) := getI (by omega)
      have hg3 : zs[Int.toNat (((n - o).toNat + j : Nat) : Int)]? = some (zs.getD ((n - o).toNat + j) 0) := getI (by omega)
      have e : stS bs q (n - o).toNat o.toNat j zs = zs.set ((n - o).toNat + j) (stVal bs q ((n - o).toNat) j (zs.getD ((n - o).toNat + j) 0)) := by
        unfold stS
        rw [decide_eq_true hj2]
        rfl
      rw [e]
      simp only [hj, w1, w2, hb2, hb3, hg2, hg3, and_self, decide_true, Bool.and_true]
      rfl
    · have hj2 : ¬ j < o.toNat := by omega
      have e : stS bs q (n - o).toNat o.toNat j zs = zs ++ [fop .mul .f32 (bs.getD j 0) q] := by
        unfold stS
        rw [decide_eq_false hj2]
        rfl
      rw [e]
      simp only [hj, hzl, List.length_singleton, and_self, decide_true, decide_false, Bool.and_true]
      try rfl

theorem lk15 : LOK T3 a15 l15 Try.f15.ntmps (loopAt Try.f15 0) := by
  intro ins outs hA s k out h
  have hA' : ([1, 2, 8, 9, 10, 11, 12], [11]) = (ins, outs) := Option.some.inj ((show a15.lp (firstRegion (loopAt Try.f15 0)) = some ([1, 2, 8, 9, 10, 11, 12], [11]) by kernel_rfl).symm.trans hA)
  cases hA'
  have hk : firstRegion (loopAt Try.f15 0) = 8 := by kernel_rfl
  rw [hk] at h
  change lp15 s k = some out at h
  unfold lp15 at h
  split at h
  · rename_i bs o n p q i zs
    cases hg : (decide (p = (bs.length : Int)) && (decide (i = 0) && (Nat.ble bs.length big && (Nat.ble (zs.length + bs.length) big && decide (0 ≤ o ∧ o ≤ n ∧ n ≤ (zs.length : Int)))))) with
    | false => rw [hg] at h; cases h
    | true =>
      rw [hg] at h
      simp only [Bool.and_eq_true, decide_eq_true_eq] at hg
      obtain ⟨rfl, rfl, hs, gs0, gs1⟩ := hg
      refine ⟨(bs.length) + 1, ?_⟩
      have hs_ := big_le hs
      have gs0_ := big_le gs0
      exact (ind15 bs o n q hs k (bs.length) 0 zs (by omega) (by omega) (by omega) (by omega)).trans h
  · cases h
theorem e15 (us : List Nat) (bs : List Nat) (o : Int) : runFn T3 a15 l15 Try.f15 [.vw none ⟨.f32, us⟩, .vw none ⟨.f32, bs⟩, .el (.sc (.int .i64 o))] = (match (!(bins us 1) : Bool) with
  | true => some ⟨[.nil, .el (.sc (.bo false))], none⟩
  | false => (match (!(bins bs 1) : Bool) with
    | true => some ⟨[.nil, .el (.sc (.bo false))], none⟩
    | false => (match (!(within o 1 (minI ((us.length : Int)) ((bs.length : Int)))) : Bool) with
      | true => some ⟨[.nil, .el (.sc (.bo false))], none⟩
      | false => (match (decide ((IntKind.i64.wrap ((IntKind.i64.wrap (((us.length : Int)) + ((bs.length : Int)))) - o) : Int) > 64) : Bool) with
        | true => some ⟨[.nil, .el (.sc (.bo false))], none⟩
        | false => (match (decide (0 ≤ (IntKind.i64.wrap (((us.length : Int)) - o) : Int) ∧ (IntKind.i64.wrap (((us.length : Int)) - o) : Int) ≤ (us.length : Int) ∧ ((us.length : Int) : Int) ≤ (us.length : Int)) && true : Bool) with
          | true => (match (Nat.ble (((us).drop (Int.toNat (IntKind.i64.wrap (((us.length : Int)) - o)))).take (Int.toNat ((us.length : Int)) - Int.toNat (IntKind.i64.wrap (((us.length : Int)) - o)))).length big : Bool) with
            | true => (match (decide (0 ≤ (0 : Int) ∧ (0 : Int) ≤ o ∧ (o : Int) ≤ (bs.length : Int)) && true : Bool) with
              | true => (match (Nat.ble (((bs).drop (Int.toNat 0)).take (Int.toNat o - Int.toNat 0)).length big : Bool) with
                | true => (match (Nat.beq 30 30 && decide (([] : List Nat).length + (us : List Nat).length ≤ 1099511627776) : Bool) with
                  | true => (match ((decide (((bs.length : Int)) = (bs.length : Int)) && (decide (0 = 0) && (Nat.ble bs.length big && (Nat.ble ((([] : List Nat) ++ us : List Nat).length + bs.length) big && decide (0 ≤ o ∧ o ≤ ((us.length : Int)) ∧ ((us.length : Int)) ≤ ((([] : List Nat) ++ us : List Nat).length : Int)))))) : Bool) with
                    | true => (match (Nat.ble (rep (stS bs (fop .quo .f32 (sumF (((us).drop (Int.toNat (IntKind.i64.wrap (((us.length : Int)) - o)))).take (Int.toNat ((us.length : Int)) - Int.toNat (IntKind.i64.wrap (((us.length : Int)) - o))))) (sumF (((bs).drop (Int.toNat 0)).take (Int.toNat o - Int.toNat 0)))) (((us.length : Int)) - o).toNat o.toNat) (bs.length) 0 ((([] : List Nat) ++ us : List Nat) : (List Nat))).length big : Bool) with
                      | true => (match ((rep (stS bs (fop .quo .f32 (sumF (((us).drop (Int.toNat (IntKind.i64.wrap (((us.length : Int)) - o)))).take (Int.toNat ((us.length : Int)) - Int.toNat (IntKind.i64.wrap (((us.length : Int)) - o))))) (sumF (((bs).drop (Int.toNat 0)).take (Int.toNat o - Int.toNat 0)))) (((us.length : Int)) - o).toNat o.toNat) (bs.length) 0 ((([] : List Nat) ++ us : List Nat) : (List Nat))).all fin : Bool) with
                        | true => some ⟨[.fresh 30 ⟨.f32, rep (stS bs (fop .quo .f32 (sumF (((us).drop (Int.toNat (IntKind.i64.wrap (((us.length : Int)) - o)))).take (Int.toNat ((us.length : Int)) - Int.toNat (IntKind.i64.wrap (((us.length : Int)) - o))))) (sumF (((bs).drop (Int.toNat 0)).take (Int.toNat o - Int.toNat 0)))) (((us.length : Int)) - o).toNat o.toNat) (bs.length) 0 ((([] : List Nat) ++ us : List Nat) : (List Nat))⟩, .el (.sc (.bo true))], none⟩
                        | false => some ⟨[.nil, .el (.sc (.bo false))], none⟩)
                      | false => none)
                    | false => none)
                  | false => none)
                | false => none)
              | false => none)
            | false => none)
          | false => none))))) := by kernel_rfl
theorem s15 (us : List Nat) (bs : List Nat) (o : Int) : runFn T3 a15 l15 Try.f15 [.vw none ⟨.f32, us⟩, .vw none ⟨.f32, bs⟩, .el (.sc (.int .i64 o))] = (match (stOk us bs o : Bool) with
  | true => some ⟨[.fresh 30 ⟨.f32, stX us bs o⟩, .el (.sc (.bo true))], none⟩
  | false => some ⟨[.nil, .el (.sc (.bo false))], none⟩) := by
  rw [e15]
  unfold stOk
  cases h1 : bins us 1 with
  | false => simp
  | true =>
    cases h2 : bins bs 1 with
    | false => simp
    | true =>
      have h1b := h1
      unfold bins at h1b
      simp only [Bool.and_eq_true, decide_eq_true_eq] at h1b
      have h2b := h2
      unfold bins at h2b
      simp only [Bool.and_eq_true, decide_eq_true_eq] at h2b
      have w0 : IntKind.i64.wrap ((us.length : Int) + (bs.length : Int)) = (us.length : Int) + (bs.length : Int) := wrap64 (by omega) (by omega)
      cases h3 : stAsk us bs o with
      | false =>
        have h3b : ¬ (1 ≤ o ∧ o ≤ (us.length : Int) ∧ o ≤ (bs.length : Int) ∧ (us.length : Int) + (bs.length : Int) - o ≤ 64) := by
          unfold stAsk at h3
          exact of_decide_eq_false h3
        cases hw : within o 1 (minI (us.length : Int) (bs.length : Int)) with
        | false => simp [hw]
        | true =>
          have hw2 := hw
          unfold within at hw2
          simp only [Bool.and_eq_true, decide_eq_true_eq] at hw2
          have hmin : o ≤ (us.length : Int) ∧ o ≤ (bs.length : Int) := by
            have h := hw2.2
            unfold minI at h
            by_cases hab : (us.length : Int) < (bs.length : Int)
            · rw [decide_eq_true hab, cond_true] at h; omega
            · rw [decide_eq_false hab, cond_false] at h; omega
          have w1 : IntKind.i64.wrap ((us.length : Int) + (bs.length : Int) - o) = (us.length : Int) + (bs.length : Int) - o := wrap64 (by omega) (by omega)
          have n1 : ((us.length : Int) + (bs.length : Int) - o > 64) := by omega
          simp [hw, w0, w1, n1]
      | true =>
        have h3b : 1 ≤ o ∧ o ≤ (us.length : Int) ∧ o ≤ (bs.length : Int) ∧ (us.length : Int) + (bs.length : Int) - o ≤ 64 := by
          unfold stAsk at h3
          exact of_decide_eq_true h3
        have w1 : IntKind.i64.wrap ((us.length : Int) + (bs.length : Int) - o) = (us.length : Int) + (bs.length : Int) - o := wrap64 (by omega) (by omega)
        have w2 : IntKind.i64.wrap ((us.length : Int) - o) = (us.length : Int) - o := wrap64 (by omega) (by omega)
        have n1 : ¬ ((us.length : Int) + (bs.length : Int) - o > 64) := by omega
        have e1 : (us.drop ((us.length : Int) - o).toNat).take (us.length - ((us.length : Int) - o).toNat) = us.drop ((us.length : Int) - o).toNat := List.take_of_length_le (by simp)
        have l1 : Nat.ble (us.drop ((us.length : Int) - o).toNat).length big = true := big_of (by rw [List.length_drop]; omega)
        have l2 : Nat.ble (bs.take o.toNat).length big = true := big_of (by rw [List.length_take]; omega)
        have l3 : Nat.ble (us.length + bs.length) big = true := big_of (by omega)
        have l4 : us.length ≤ 1099511627776 := by omega
        have l5 : Nat.ble bs.length big = true := big_of (by omega)
        have l6 : Nat.ble us.length big = true := big_of (by omega)
        have l7 : Nat.ble 1 us.length = true := Nat.ble_eq_true_of_le (by omega)
        have g1 : (0 : Int) ≤ (us.length : Int) - o ∧ (us.length : Int) - o ≤ (us.length : Int) ∧ (us.length : Int) ≤ (us.length : Int) := by omega
        have g2 : (0 : Int) ≤ 0 ∧ (0 : Int) ≤ o ∧ o ≤ (bs.length : Int) := by omega
        have g3 : (0 : Int) ≤ o ∧ o ≤ (us.length : Int) ∧ (us.length : Int) ≤ (us.length : Int) := by omega
        have g4 : (0 : Int) ≤ o ∧ (0 : Int) ≤ (us.length : Int) - o ∧ (us.length : Int) - o + o = (us.length : Int) ∧ (us.length : Int) ≤ (us.length : Int) := by omega
        have hr : Nat.ble (stX us bs o).length big = true := big_of (by have := stX_len h3; omega)
        have eQ : fop .quo .f32 (sumF (us.drop ((us.length : Int) - o).toNat)) (sumF (bs.take o.toNat)) = stQ us bs o := rfl
        have hw : within o 1 (minI (us.length : Int) (bs.length : Int)) = true := by
          unfold within minI
          by_cases hab : (us.length : Int) < (bs.length : Int)
          · rw [decide_eq_true hab, cond_true]; simp; omega
          · rw [decide_eq_false hab, cond_false]; simp; omega
        have eX : rep (stS bs (stQ us bs o) ((us.length : Int) - o).toNat o.toNat) bs.length 0 us = stX us bs o := rfl
        simp only [hw, w0, w1, w2, n1, Int.toNat_natCast, Int.toNat_zero, List.drop_zero, Nat.sub_zero, List.nil_append, e1, eQ, eX, l1, l2, l3, l4, l5, g1, g2, g3, hr, Nat.beq_refl, and_self, decide_true, decide_false, Bool.not_true, Bool.and_self, Bool.and_true, Bool.true_and]
        try (cases h6 : (stX us bs o).all fin <;> simp [l4])
theorem c15 (us : List Nat) (bs : List Nat) (o : Int) (k : List RV → R) (out : Out) (h : k [.fresh 30 ⟨.f32, orNil (stOk us bs o) (stX us bs o)⟩, .el (.sc (.bo (stOk us bs o)))] = some out) : ∃ rs, Real Try.prog 15 ∧ COK Try.prog 15 [.vw none ⟨.f32, us⟩, .vw none ⟨.f32, bs⟩, .el (.sc (.int .i64 o))] rs ∧ k rs = some out := by
  cases g0 : (stOk us bs o : Bool) with
  | true =>
    rw [g0] at h
    exact ⟨_, real Try.func15 (by kernel_rfl), fn_ok tok3 (A := a15) (L := l15) (r := none) Try.func15 (by kernel_rfl) (by kernel_rfl) (loops1 (by kernel_rfl) lk15) (by rw [s15, g0]; rfl), h⟩
  | false =>
    rw [g0] at h
    exact ⟨_, real Try.func15 (by kernel_rfl), COK.nil (fn_ok tok3 (A := a15) (L := l15) (r := none) Try.func15 (by kernel_rfl) (by kernel_rfl) (loops1 (by kernel_rfl) lk15) (by rw [s15, g0] <;> rfl)), h⟩

/-! spec.l01Phasor -/
def a108 : Ann := ann [(9, [3, 4], [3, 4])] [2] 0
def lp108 : St → (Ex → St → R) → R := fun s k => match s with
  | ⟨[(3, .fv (.el (.sc (.fl .f64 f)))), (4, .fv (.el (.sc (.int .i64 q))))], []⟩ => (match (decide (q = 0) && !fcmp .geq .f64 (qrun 4 f 0).1 4598175219545276416 : Bool) with
    | true => k (.exit 0) ⟨[(3, .fv (.el (.sc (.fl .f64 ((qrun 4 f 0).1))))), (4, .fv (.el (.sc (.int .i64 ((qrun 4 f 0).2)))))], []⟩
    | false => none)
  | _ => none
def l108 : Loops := fun key s k => bif Nat.beq key 9 then lp108 s k else none
theorem st108 (f : Nat) (q : Int) (m : Nat) (k : Ex → St → R) : iterK a108 [3, 4] [3, 4] (codeK T3 a108 l108 Try.f108.ntmps (loopAt Try.f108 0)) (m + 1) ⟨[(3, .fv (.el (.sc (.fl .f64 f)))), (4, .fv (.el (.sc (.int .i64 q))))], []⟩ k = (match (fcmp .geq .f64 f 4598175219545276416 : Bool) with
  | true => iterK a108 [3, 4] [3, 4] (codeK T3 a108 l108 Try.f108.ntmps (loopAt Try.f108 0)) m ⟨[(3, .fv (.el (.sc (.fl .f64 (fop .sub .f64 f 4598175219545276416))))), (4, .fv (.el (.sc (.int .i64 (IntKind.i64.wrap (q + 1))))))], []⟩ k
  | false => k (.exit 0) ⟨[(3, .fv (.el (.sc (.fl .f64 f)))), (4, .fv (.el (.sc (.int .i64 q))))], []⟩) := by kernel_rfl
theorem ind108 (k : Ex → St → R) : ∀ (m f : Nat) (q : Int), 0 ≤ q → q + m ≤ 100 → fcmp .geq .f64 (qrun m f q).1 4598175219545276416 = false → iterK a108 [3, 4] [3, 4] (codeK T3 a108 l108 Try.f108.ntmps (loopAt Try.f108 0)) (m + 1) ⟨[(3, .fv (.el (.sc (.fl .f64 f)))), (4, .fv (.el (.sc (.int .i64 q))))], []⟩ k = k (.exit 0) ⟨[(3, .fv (.el (.sc (.fl .f64 ((qrun m f q).1))))), (4, .fv (.el (.sc (.int .i64 ((qrun m f q).2)))))], []⟩ := by
  intro m
  induction m with
  | zero =>
    intro f q h0 hq hd
    rw [st108]
    have hd2 : fcmp .geq .f64 f 4598175219545276416 = false := hd
    rw [hd2]
    rfl
  | succ m ih =>
    intro f q h0 hq hd
    have hw : IntKind.i64.wrap (q + 1) = q + 1 := wrap64 (by omega) (by omega)
    rw [st108, hw]
    unfold qrun at hd ⊢
    cases hg : fcmp .geq .f64 f 4598175219545276416 with
    | true =>
      rw [hg] at hd
      exact ih _ _ (by omega) (by omega) hd
    | false => rfl

theorem lk108 : LOK T3 a108 l108 Try.f108.ntmps (loopAt Try.f108 0) := by
  intro ins outs hA s k out h
  have hA' : ([3, 4], [3, 4]) = (ins, outs) := Option.some.inj ((show a108.lp (firstRegion (loopAt Try.f108 0)) = some ([3, 4], [3, 4]) by kernel_rfl).symm.trans hA)
  cases hA'
  have hk : firstRegion (loopAt Try.f108 0) = 9 := by kernel_rfl
  rw [hk] at h
  change lp108 s k = some out at h
  unfold lp108 at h
  split at h
  · rename_i f q
    cases hg : (decide (q = 0) && !fcmp .geq .f64 (qrun 4 f 0).1 4598175219545276416) with
    | false => rw [hg] at h; cases h
    | true =>
      rw [hg] at h
      simp only [Bool.and_eq_true, decide_eq_true_eq] at hg
      obtain ⟨rfl, hd⟩ := hg
      refine ⟨5, ?_⟩
      exact (ind108 k 4 f 0 (by omega) (by omega) (by rw [Bool.not_eq_true'] at hd; exact hd)).trans h
  · cases h
theorem e108 (t : Nat) : runFn T3 a108 l108 Try.f108 [.el (.sc (.fl .f64 t))] = (match (fcmp .neq .f64 (fop .sub .f64 t t) 0 : Bool) with
  | true => some ⟨[.el (.sc (.cx .f32 (cn .f32 (Int.toNat (IntKind.u32.wrap 2143289344))) (cn .f32 (Int.toNat (IntKind.u32.wrap 2143289344)))))], none⟩
  | false => (match (fcmp .geq .f64 t 4841369599423283200 : Bool) with
    | true => some ⟨[.el (.sc (.cx .f32 1065353216 0))], none⟩
    | false => (match (fcmp .leq .f64 t 14064741636278059008 : Bool) with
      | true => some ⟨[.el (.sc (.cx .f32 1065353216 0))], none⟩
      | false => (match floatToIntVal .f64 t .i64 with
        | some n1 => (match (fcmp .lss .f64 (fop .sub .f64 t (fint .f64 n1)) 0 : Bool) with
          | true => (match (decide (0 = 0) && !fcmp .geq .f64 (qrun 4 (fop .add .f64 (fop .sub .f64 t (fint .f64 n1)) 4607182418800017408) 0).1 4598175219545276416 : Bool) with
            | true => (match (((qrun 4 (fop .add .f64 (fop .sub .f64 t (fint .f64 n1)) 4607182418800017408) 0).2 : Int) == 1 : Bool) with
              | true => (match fconv .f64 .f32 (fop .sub .f64 0 (sineW ((qrun 4 (fop .add .f64 (fop .sub .f64 t (fint .f64 n1)) 4607182418800017408) 0).1))) with
                | some rn3 => (match fconv .f64 .f32 (sineW (fop .sub .f64 4598175219545276416 ((qrun 4 (fop .add .f64 (fop .sub .f64 t (fint .f64 n1)) 4607182418800017408) 0).1))) with
                  | some rn4 => some ⟨[.el (.sc (.cx .f32 rn3 rn4))], none⟩
                  | none => none)
                | none => none)
              | false => (match (((qrun 4 (fop .add .f64 (fop .sub .f64 t (fint .f64 n1)) 4607182418800017408) 0).2 : Int) == 2 : Bool) with
                | true => (match fconv .f64 .f32 (fop .sub .f64 0 (sineW (fop .sub .f64 4598175219545276416 ((qrun 4 (fop .add .f64 (fop .sub .f64 t (fint .f64 n1)) 4607182418800017408) 0).1)))) with
                  | some rn5 => (match fconv .f64 .f32 (fop .sub .f64 0 (sineW ((qrun 4 (fop .add .f64 (fop .sub .f64 t (fint .f64 n1)) 4607182418800017408) 0).1))) with
                    | some rn6 => some ⟨[.el (.sc (.cx .f32 rn5 rn6))], none⟩
                    | none => none)
                  | none => none)
                | false => (match (((qrun 4 (fop .add .f64 (fop .sub .f64 t (fint .f64 n1)) 4607182418800017408) 0).2 : Int) == 3 : Bool) with
                  | true => (match fconv .f64 .f32 (sineW ((qrun 4 (fop .add .f64 (fop .sub .f64 t (fint .f64 n1)) 4607182418800017408) 0).1)) with
                    | some rn7 => (match fconv .f64 .f32 (fop .sub .f64 0 (sineW (fop .sub .f64 4598175219545276416 ((qrun 4 (fop .add .f64 (fop .sub .f64 t (fint .f64 n1)) 4607182418800017408) 0).1)))) with
                      | some rn8 => some ⟨[.el (.sc (.cx .f32 rn7 rn8))], none⟩
                      | none => none)
                    | none => none)
                  | false => (match fconv .f64 .f32 (sineW (fop .sub .f64 4598175219545276416 ((qrun 4 (fop .add .f64 (fop .sub .f64 t (fint .f64 n1)) 4607182418800017408) 0).1))) with
                    | some rn9 => (match fconv .f64 .f32 (sineW ((qrun 4 (fop .add .f64 (fop .sub .f64 t (fint .f64 n1)) 4607182418800017408) 0).1)) with
                      | some rn10 => some ⟨[.el (.sc (.cx .f32 rn9 rn10))], none⟩
                      | none => none)
                    | none => none))))
            | false => none)
          | false => (match (decide (0 = 0) && !fcmp .geq .f64 (qrun 4 (fop .sub .f64 t (fint .f64 n1)) 0).1 4598175219545276416 : Bool) with
            | true => (match (((qrun 4 (fop .sub .f64 t (fint .f64 n1)) 0).2 : Int) == 1 : Bool) with
              | true => (match fconv .f64 .f32 (fop .sub .f64 0 (sineW ((qrun 4 (fop .sub .f64 t (fint .f64 n1)) 0).1))) with
                | some rn11 => (match fconv .f64 .f32 (sineW (fop .sub .f64 4598175219545276416 ((qrun 4 (fop .sub .f64 t (fint .f64 n1)) 0).1))) with
                  | some rn12 => some ⟨[.el (.sc (.cx .f32 rn11 rn12))], none⟩
                  | none => none)
                | none => none)
              | false => (match (((qrun 4 (fop .sub .f64 t (fint .f64 n1)) 0).2 : Int) == 2 : Bool) with
                | true => (match fconv .f64 .f32 (fop .sub .f64 0 (sineW (fop .sub .f64 4598175219545276416 ((qrun 4 (fop .sub .f64 t (fint .f64 n1)) 0).1)))) with
                  | some rn13 => (match fconv .f64 .f32 (fop .sub .f64 0 (sineW ((qrun 4 (fop .sub .f64 t (fint .f64 n1)) 0).1))) with
                    | some rn14 => some ⟨[.el (.sc (.cx .f32 rn13 rn14))], none⟩
                    | none => none)
                  | none => none)
                | false => (match (((qrun 4 (fop .sub .f64 t (fint .f64 n1)) 0).2 : Int) == 3 : Bool) with
                  | true => (match fconv .f64 .f32 (sineW ((qrun 4 (fop .sub .f64 t (fint .f64 n1)) 0).1)) with
                    | some rn15 => (match fconv .f64 .f32 (fop .sub .f64 0 (sineW (fop .sub .f64 4598175219545276416 ((qrun 4 (fop .sub .f64 t (fint .f64 n1)) 0).1)))) with
                      | some rn16 => some ⟨[.el (.sc (.cx .f32 rn15 rn16))], none⟩
                      | none => none)
                    | none => none)
                  | false => (match fconv .f64 .f32 (sineW (fop .sub .f64 4598175219545276416 ((qrun 4 (fop .sub .f64 t (fint .f64 n1)) 0).1))) with
                    | some rn17 => (match fconv .f64 .f32 (sineW ((qrun 4 (fop .sub .f64 t (fint .f64 n1)) 0).1)) with
                      | some rn18 => some ⟨[.el (.sc (.cx .f32 rn17 rn18))], none⟩
                      | none => none)
                    | none => none))))
            | false => none))
        | none => none)))) := by kernel_rfl
theorem s108 (t : Nat) : runFn T3 a108 l108 Try.f108 [.el (.sc (.fl .f64 t))] = some ⟨[.el (.sc (.cx .f32 (phRe t) (phIm t)))], none⟩ := by
  rw [e108]
  unfold phRe phIm
  have hneq : fcmp .neq .f64 (fop .sub .f64 t t) 0 = !isNum .f64 t := sub_self_fin t
  rw [hneq]
  cases h : isNum .f64 t with
  | false =>
    have hc : cn .f32 (Int.toNat (IntKind.u32.wrap 2143289344)) = nanOf .f32 := by decide +kernel
    simp only [hc]
    rfl
  | true =>
    cases hh : huge t with
    | true =>
      unfold huge big52 neg52 at hh
      cases h1 : fcmp .geq .f64 t 4841369599423283200 with
      | true => rfl
      | false =>
        rw [h1, Bool.false_or] at hh
        simp only [hh]
        rfl
    | false =>
      have hh2 := hh
      unfold huge big52 neg52 at hh2
      rw [Bool.or_eq_false_iff] at hh2
      obtain ⟨n, w1, w2, _⟩ := whole_ok h hh
      obtain ⟨r3, s1, c1, s2, s3, c2, c3⟩ := ph_ok h hh
      have ns := nar_ok s2 s3
      have nc := nar_ok c2 c3
      have eF : (qrun 4 (part t) 0).1 = phF t := rfl
      have eQ : (qrun 4 (part t) 0).2 = phQ t := rfl
      have eC : sinCore (part (fop .sub .f64 4598175219545276416 (phF t))) = phC t := rfl
      have eS : sinCore (part (phF t)) = phS t := rfl
      rw [eF] at r3
      simp only [hh2.1, hh2.2, w1, w2, Bool.not_true, cond_false]
      cases hl : fcmp .lss .f64 (fop .sub .f64 t (whole t)) 0 with
      | true =>
        have hp : fop .add .f64 (fop .sub .f64 t (whole t)) 4607182418800017408 = part t := by
          unfold part
          rw [hl]
          rfl
        simp only [hp, eF, eQ, eC, eS, r3, s1, c1, ns.1, ns.2, nc.1, nc.2, decide_true, Bool.not_false, Bool.and_self, cond_false, cond_true]
        cases h1 : phQ t == 1 <;> cases h2 : phQ t == 2 <;> cases h3 : phQ t == 3 <;> rfl
      | false =>
        have hp : fop .sub .f64 t (whole t) = part t := by
          unfold part
          rw [hl]
          rfl
        simp only [hp, eF, eQ, eC, eS, r3, s1, c1, ns.1, ns.2, nc.1, nc.2, decide_true, Bool.not_false, Bool.and_self, cond_false, cond_true]
        cases h1 : phQ t == 1 <;> cases h2 : phQ t == 2 <;> cases h3 : phQ t == 3 <;> rfl
theorem c108 (t : Nat) (k : List RV → R) (out : Out) (h : k [.el (.sc (.cx .f32 (phRe t) (phIm t)))] = some out) : ∃ rs, Real Try.prog 108 ∧ COK Try.prog 108 [.el (.sc (.fl .f64 t))] rs ∧ k rs = some out := by
  exact ⟨_, real Try.func108 (by kernel_rfl), fn_ok tok3 (A := a108) (L := l108) (r := none) Try.func108 (by kernel_rfl) (by kernel_rfl) (loops1 (by kernel_rfl) lk108) (by rw [s108]), h⟩

/-! slices.ContainsFunc[[]float32,float32] -/
theorem e113 (xs : List Nat) : runFn T3 none0 noL Try.f113 [.vw none ⟨.f32, xs⟩, .fn 114 []] = (match (Nat.ble xs.length big : Bool) with
  | true => some ⟨[.el (.sc (.bo (decide ((firstAt notFin xs : Int) ≥ 0))))], none⟩
  | false => none) := by kernel_rfl
theorem s113 (xs : List Nat) : runFn T3 none0 noL Try.f113 [.vw none ⟨.f32, xs⟩, .fn 114 []] = (match (Nat.ble xs.length big : Bool) with
  | true => some ⟨[.el (.sc (.bo (xs.any notFin)))], none⟩
  | false => none) := by
  rw [e113]
  rw [any_firstAt]
theorem c113 (xs : List Nat) (k : List RV → R) (out : Out) (h : (match (Nat.ble xs.length big : Bool) with
  | true => k [.el (.sc (.bo (xs.any notFin)))]
  | false => none) = some out) : ∃ rs, Real Try.prog 113 ∧ COK Try.prog 113 [.vw none ⟨.f32, xs⟩, .fn 114 []] rs ∧ k rs = some out := by
  cases g0 : (Nat.ble xs.length big : Bool) with
  | true =>
    rw [g0] at h
    exact ⟨_, real Try.func113 (by kernel_rfl), fn_ok tok3 (A := none0) (L := noL) (r := none) Try.func113 (by kernel_rfl) (by kernel_rfl) (loops0 (by kernel_rfl)) (by rw [s113, g0]), h⟩
  | false =>
    rw [g0] at h
    cases h

/-! impl.sine -/
def a134 : Ann := ann [(9, [4, 5, 6, 7, 8], [4, 5, 7])] [2] 0
def lp134 : St → (Ex → St → R) → R := fun s k => match s with
  | ⟨[(4, .fv (.el (.sc (.bo b)))), (5, .fv (.el (.sc (.fl .f64 z)))), (6, .fv (.el (.sc (.fl .f64 u)))), (7, .fv (.el (.sc (.fl .f64 p)))), (8, .fv (.el (.sc (.fl .f64 i))))], []⟩ => (match (Nat.beq i 4620693217682128896 : Bool) with
    | true => k (.exit 0) ⟨[(4, .fv (.el (.sc (.bo b)))), (5, .fv (.el (.sc (.fl .f64 z)))), (7, .fv (.el (.sc (.fl .f64 (sinPoly u p)))))], []⟩
    | false => none)
  | _ => none
def l134 : Loops := fun key s k => bif Nat.beq key 9 then lp134 s k else none
theorem st134 (b : Bool) (z : Nat) (u : Nat) (p : Nat) (i : Nat) (m : Nat) (k : Ex → St → R) : iterK a134 [4, 5, 6, 7, 8] [4, 5, 7] (codeK T3 a134 l134 Try.f134.ntmps (loopAt Try.f134 0)) (m + 1) ⟨[(4, .fv (.el (.sc (.bo b)))), (5, .fv (.el (.sc (.fl .f64 z)))), (6, .fv (.el (.sc (.fl .f64 u)))), (7, .fv (.el (.sc (.fl .f64 p)))), (8, .fv (.el (.sc (.fl .f64 i))))], []⟩ k = (match (fcmp .geq .f64 i 4607182418800017408 : Bool) with
  | true => iterK a134 [4, 5, 6, 7, 8] [4, 5, 7] (codeK T3 a134 l134 Try.f134.ntmps (loopAt Try.f134 0)) m ⟨[(4, .fv (.el (.sc (.bo b)))), (5, .fv (.el (.sc (.fl .f64 z)))), (6, .fv (.el (.sc (.fl .f64 u)))), (7, .fv (.el (.sc (.fl .f64 (fop .sub .f64 4607182418800017408 (fop .quo .f64 (fop .mul .f64 u p) (fop .mul .f64 (fop .mul .f64 4611686018427387904 i) (fop .add .f64 (fop .mul .f64 4611686018427387904 i) 4607182418800017408)))))))), (8, .fv (.el (.sc (.fl .f64 (fop .sub .f64 i 4607182418800017408)))))], []⟩ k
  | false => k (.exit 0) ⟨[(4, .fv (.el (.sc (.bo b)))), (5, .fv (.el (.sc (.fl .f64 z)))), (7, .fv (.el (.sc (.fl .f64 p))))], []⟩) := by kernel_rfl
theorem un134 (b : Bool) (z : Nat) (u : Nat) (p : Nat) (k : Ex → St → R) : iterK a134 [4, 5, 6, 7, 8] [4, 5, 7] (codeK T3 a134 l134 Try.f134.ntmps (loopAt Try.f134 0)) 9 ⟨[(4, .fv (.el (.sc (.bo b)))), (5, .fv (.el (.sc (.fl .f64 z)))), (6, .fv (.el (.sc (.fl .f64 u)))), (7, .fv (.el (.sc (.fl .f64 p)))), (8, .fv (.el (.sc (.fl .f64 4620693217682128896))))], []⟩ k = k (.exit 0) ⟨[(4, .fv (.el (.sc (.bo b)))), (5, .fv (.el (.sc (.fl .f64 z)))), (7, .fv (.el (.sc (.fl .f64 (sinPoly u p)))))], []⟩ := by kernel_rfl

theorem lk134 : LOK T3 a134 l134 Try.f134.ntmps (loopAt Try.f134 0) := by
  intro ins outs hA s k out h
  have hA' : ([4, 5, 6, 7, 8], [4, 5, 7]) = (ins, outs) := Option.some.inj ((show a134.lp (firstRegion (loopAt Try.f134 0)) = some ([4, 5, 6, 7, 8], [4, 5, 7]) by kernel_rfl).symm.trans hA)
  cases hA'
  have hk : firstRegion (loopAt Try.f134 0) = 9 := by kernel_rfl
  rw [hk] at h
  change lp134 s k = some out at h
  unfold lp134 at h
  split at h
  · rename_i b z u p i
    cases hg : Nat.beq i 4620693217682128896 with
    | false => rw [hg] at h; cases h
    | true =>
      rw [hg] at h
      replace hg := Nat.eq_of_beq_eq_true hg
      subst hg
      refine ⟨9, ?_⟩
      exact (un134 b z u p k).trans h
  · cases h
theorem e134 (y : Nat) : runFn T3 a134 l134 Try.f134 [.el (.sc (.fl .f64 y))] = (match (fcmp .geq .f64 (part y) 4602678819172646912 : Bool) with
  | true => (match (fcmp .gtr .f64 (fop .sub .f64 (part y) 4602678819172646912) 4598175219545276416 : Bool) with
    | true => (match (Nat.beq 4620693217682128896 4620693217682128896 : Bool) with
      | true => some ⟨[.el (.sc (.fl .f64 (fneg .f64 (fop .mul .f64 ((fop .mul .f64 (fop .sub .f64 4602678819172646912 (fop .sub .f64 (part y) 4602678819172646912)) 4618760256179416344)) (sinPoly (fop .mul .f64 (fop .mul .f64 (fop .sub .f64 4602678819172646912 (fop .sub .f64 (part y) 4602678819172646912)) 4618760256179416344) (fop .mul .f64 (fop .sub .f64 4602678819172646912 (fop .sub .f64 (part y) 4602678819172646912)) 4618760256179416344)) 4607182418800017408)))))], none⟩
      | false => none)
    | false => (match (Nat.beq 4620693217682128896 4620693217682128896 : Bool) with
      | true => some ⟨[.el (.sc (.fl .f64 (fneg .f64 (fop .mul .f64 ((fop .mul .f64 (fop .sub .f64 (part y) 4602678819172646912) 4618760256179416344)) (sinPoly (fop .mul .f64 (fop .mul .f64 (fop .sub .f64 (part y) 4602678819172646912) 4618760256179416344) (fop .mul .f64 (fop .sub .f64 (part y) 4602678819172646912) 4618760256179416344)) 4607182418800017408)))))], none⟩
      | false => none))
  | false => (match (fcmp .gtr .f64 (part y) 4598175219545276416 : Bool) with
    | true => (match (Nat.beq 4620693217682128896 4620693217682128896 : Bool) with
      | true => some ⟨[.el (.sc (.fl .f64 (fop .mul .f64 ((fop .mul .f64 (fop .sub .f64 4602678819172646912 (part y)) 4618760256179416344)) (sinPoly (fop .mul .f64 (fop .mul .f64 (fop .sub .f64 4602678819172646912 (part y)) 4618760256179416344) (fop .mul .f64 (fop .sub .f64 4602678819172646912 (part y)) 4618760256179416344)) 4607182418800017408))))], none⟩
      | false => none)
    | false => (match (Nat.beq 4620693217682128896 4620693217682128896 : Bool) with
      | true => some ⟨[.el (.sc (.fl .f64 (fop .mul .f64 ((fop .mul .f64 (part y) 4618760256179416344)) (sinPoly (fop .mul .f64 (fop .mul .f64 (part y) 4618760256179416344) (fop .mul .f64 (part y) 4618760256179416344)) 4607182418800017408))))], none⟩
      | false => none))) := by kernel_rfl
theorem s134 (y : Nat) : runFn T3 a134 l134 Try.f134 [.el (.sc (.fl .f64 y))] = some ⟨[.el (.sc (.fl .f64 (sinCore (part y))))], none⟩ := by
  rw [e134]
  generalize part y = f
  unfold sinCore sinVal sinArm low2 low1 half64 quarter64 tau64 one64
  cases fcmp .geq .f64 f 4602678819172646912 <;> simp only [cond_true, cond_false]
  · cases fcmp .gtr .f64 f 4598175219545276416 <;> rfl
  · cases fcmp .gtr .f64 (fop .sub .f64 f 4602678819172646912) 4598175219545276416 <;> rfl
theorem c134 (y : Nat) (k : List RV → R) (out : Out) (h : k [.el (.sc (.fl .f64 (sinCore (part y))))] = some out) : ∃ rs, Real Try.prog 134 ∧ COK Try.prog 134 [.el (.sc (.fl .f64 y))] rs ∧ k rs = some out := by
  exact ⟨_, real Try.func134 (by kernel_rfl), fn_ok tok3 (A := a134) (L := l134) (r := none) Try.func134 (by kernel_rfl) (by kernel_rfl) (loops1 (by kernel_rfl) lk134) (by rw [s134]), h⟩

def S4 : SFn := fun f args k => match f, args with
  | 15, [.vw none ⟨.f32, us⟩, .vw none ⟨.f32, bs⟩, .el (.sc (.int .i64 o))] => k [.fresh 30 ⟨.f32, orNil (stOk us bs o) (stX us bs o)⟩, .el (.sc (.bo (stOk us bs o)))]
  | 108, [.el (.sc (.fl .f64 t))] => k [.el (.sc (.cx .f32 (phRe t) (phIm t)))]
  | 113, [.vw none ⟨.f32, xs⟩, .fn 114 []] => (match (Nat.ble xs.length big : Bool) with
    | true => k [.el (.sc (.bo (xs.any notFin)))]
    | false => none)
  | 134, [.el (.sc (.fl .f64 y))] => k [.el (.sc (.fl .f64 (sinCore (part y))))]
  | _, _ => S3 f args k
abbrev M4 : MFn := M3
def T4 : TT := tab.T S4 muts M4
theorem tok4 : TOK Try.prog T4 := by
  refine (tab_ok tabok).tok (fun f args k out h => ?_) (fun f vec args k out h => ?_)
  · change S4 f args k = some out at h
    unfold S4 at h
    split at h
    · exact (fun k out h => cok_call (c15 _ _ _ k out h)) k out h
    · exact (fun k out h => cok_call (c108 _ k out h)) k out h
    · exact (fun k out h => cok_call (c113 _ k out h)) k out h
    · exact (fun k out h => cok_call (c134 _ k out h)) k out h
    · exact tok3.S f args k out h
  · exact tok3.M f vec args k out h

end Go.Sm.Ytlkphfpkohabeaa
