/- What the functions hand back: level 6. -/
import Derived.Test.YtlkphfpkohabeaaD6
namespace Go.Sm.Ytlkphfpkohabeaa
open Go Go.Sm Go.RowKit Go.Proofs

/-! impl.StitchLists -/
def a17 : Ann := ann [(7, [0, 2, 8, 9, 10, 63, 64, 65], [9, 10])] [6, 7] 0
def lp17 : St → (Ex → St → R) → R := fun s k => match s with
  | ⟨[(0, .fv (.vw (some 0) ⟨.f32, us⟩)), (2, .fv (.el (.sc (.int .i64 o)))), (8, .fv (.el (.sc (.int .i64 f)))), (9, .fv (.el (.sc (.fl .f32 q)))), (10, .fv (.own 0)), (63, .fv (.vw (some 1) ⟨.f32, bs⟩)), (64, .fv (.el (.sc (.int .i64 n)))), (65, .fv (.el (.sc (.int .i64 i))))], [some ⟨30, ⟨.f32, zs⟩⟩]⟩ => (match ((decide (n = (bs.length : Int)) && (decide (i = 0) && (Nat.ble bs.length big && (Nat.ble ((zs : List Nat).length + bs.length) big && decide (0 ≤ o ∧ 0 ≤ f ∧ f + o = (us.length : Int) ∧ (us.length : Int) ≤ ((zs : List Nat).length : Int)))))) : Bool) with
    | true => k (.exit 0) ⟨[(9, .fv (.el (.sc (.fl .f32 q)))), (10, .fv (.own 0))], [some ⟨30, ⟨.f32, rep (stI us bs q f.toNat o.toNat) (bs.length) 0 ((zs : List Nat) : (List Nat))⟩⟩]⟩
    | false => none)
  | _ => none
def l17 : Loops := fun key s k => bif Nat.beq key 7 then lp17 s k else none
theorem st17 (us : List Nat) (o : Int) (f : Int) (q : Nat) (bs : List Nat) (n : Int) (i : Int) (zs : List Nat) (m : Nat) (k : Ex → St → R) : iterK a17 [0, 2, 8, 9, 10, 63, 64, 65] [9, 10] (codeK T6 a17 l17 Try.f17.ntmps (loopAt Try.f17 0)) (m + 1) ⟨[(0, .fv (.vw (some 0) ⟨.f32, us⟩)), (2, .fv (.el (.sc (.int .i64 o)))), (8, .fv (.el (.sc (.int .i64 f)))), (9, .fv (.el (.sc (.fl .f32 q)))), (10, .fv (.own 0)), (63, .fv (.vw (some 1) ⟨.f32, bs⟩)), (64, .fv (.el (.sc (.int .i64 n)))), (65, .fv (.el (.sc (.int .i64 i))))], [some ⟨30, ⟨.f32, zs⟩⟩]⟩ k = (match (decide ((i : Int) < n) : Bool) with
  | true => (match (decide (0 ≤ (i : Int) ∧ (i : Int) < (bs.length : Int)) && true : Bool) with
    | true => (match (bs : List Nat)[Int.toNat i]? with
      | some x1 => (match (decide ((i : Int) < o) : Bool) with
        | true => (match (decide (0 ≤ (IntKind.i64.wrap (f + i) : Int) ∧ (IntKind.i64.wrap (f + i) : Int) < (us.length : Int)) && true : Bool) with
          | true => (match (us : List Nat)[Int.toNat (IntKind.i64.wrap (f + i))]? with
            | some x2 => (match (decide (0 ≤ (IntKind.i64.wrap (f + i) : Int) ∧ (IntKind.i64.wrap (f + i) : Int) < (zs.length : Int)) && true : Bool) with
              | true => (match (zs : List Nat)[Int.toNat (IntKind.i64.wrap (f + i))]? with
                | some x3 => iterK a17 [0, 2, 8, 9, 10, 63, 64, 65] [9, 10] (codeK T6 a17 l17 Try.f17.ntmps (loopAt Try.f17 0)) m ⟨[(0, .fv (.vw (some 0) ⟨.f32, us⟩)), (2, .fv (.el (.sc (.int .i64 o)))), (8, .fv (.el (.sc (.int .i64 f)))), (9, .fv (.el (.sc (.fl .f32 q)))), (10, .fv (.own 0)), (63, .fv (.vw (some 1) ⟨.f32, bs⟩)), (64, .fv (.el (.sc (.int .i64 n)))), (65, .fv (.el (.sc (.int .i64 (IntKind.i64.wrap (i + 1))))))], [some ⟨30, ⟨.f32, (zs : List Nat).set (Int.toNat (IntKind.i64.wrap (f + i))) (fop .mul .f32 1056964608 (fop .add .f32 x2 (fop .mul .f32 x1 q)))⟩⟩]⟩ k
                | none => none)
              | false => none)
            | none => none)
          | false => none)
        | false => (match (Nat.beq 30 30 && decide ((zs : List Nat).length + ([fop .mul .f32 x1 q] : List Nat).length ≤ 1099511627776) : Bool) with
          | true => iterK a17 [0, 2, 8, 9, 10, 63, 64, 65] [9, 10] (codeK T6 a17 l17 Try.f17.ntmps (loopAt Try.f17 0)) m ⟨[(0, .fv (.vw (some 0) ⟨.f32, us⟩)), (2, .fv (.el (.sc (.int .i64 o)))), (8, .fv (.el (.sc (.int .i64 f)))), (9, .fv (.el (.sc (.fl .f32 q)))), (10, .fv (.own 0)), (63, .fv (.vw (some 1) ⟨.f32, bs⟩)), (64, .fv (.el (.sc (.int .i64 n)))), (65, .fv (.el (.sc (.int .i64 (IntKind.i64.wrap (i + 1))))))], [some ⟨30, ⟨.f32, (zs : List Nat) ++ ([fop .mul .f32 x1 q])⟩⟩]⟩ k
          | false => none))
      | none => none)
    | false => none)
  | false => k (.exit 0) ⟨[(9, .fv (.el (.sc (.fl .f32 q)))), (10, .fv (.own 0))], [some ⟨30, ⟨.f32, zs⟩⟩]⟩) := by kernel_rfl
theorem ind17 (us : List Nat) (o : Int) (f : Int) (q : Nat) (bs : List Nat) (hs : (Nat.ble bs.length big) = true) (k : Ex → St → R) : ∀ (m j : Nat) (zs : List Nat), zs.length + m ≤ 1099511627776 → 0 ≤ o ∧ 0 ≤ f ∧ f + o = (us.length : Int) ∧ (us.length : Int) ≤ (zs.length : Int) → 0 ≤ j → j + m = bs.length → iterK a17 [0, 2, 8, 9, 10, 63, 64, 65] [9, 10] (codeK T6 a17 l17 Try.f17.ntmps (loopAt Try.f17 0)) (m + 1) ⟨[(0, .fv (.vw (some 0) ⟨.f32, us⟩)), (2, .fv (.el (.sc (.int .i64 o)))), (8, .fv (.el (.sc (.int .i64 f)))), (9, .fv (.el (.sc (.fl .f32 q)))), (10, .fv (.own 0)), (63, .fv (.vw (some 1) ⟨.f32, bs⟩)), (64, .fv (.el (.sc (.int .i64 (bs.length : Int))))), (65, .fv (.el (.sc (.int .i64 (j : Int)))))], [some ⟨30, ⟨.f32, zs⟩⟩]⟩ k =
    k (.exit 0) ⟨[(9, .fv (.el (.sc (.fl .f32 q)))), (10, .fv (.own 0))], [some ⟨30, ⟨.f32, rep (stI us bs q f.toNat o.toNat) m j (zs : (List Nat))⟩⟩]⟩ := by
  intro m
  induction m with
  | zero =>
    intro j zs hs0 hs1 hlo hj
    have hs_ := big_le hs
    have h1 : ¬ (((j : Int) < (bs.length : Int))) := by omega
    rw [st17]
    simp only [h1, rep, decide_false] <;> rfl
  | succ m ih =>
    intro j zs hs0 hs1 hlo hj
    have hs_ := big_le hs
    have h1 : ((j : Int) < (bs.length : Int)) := by omega
    have hbq : Nat.beq 30 30 = true := rfl
    have hzl : zs.length + 1 ≤ 1099511627776 := by omega
    have bb : (0 : Int) ≤ ((j : Nat) : Int) ∧ ((j : Nat) : Int) < (bs.length : Int) := by omega
    have bq : bs[Int.toNat ((j : Nat) : Int)]? = some (bs.getD (j) 0) := getI (by omega)
    have bp : bs[j]? = some (bs.getD (j) 0) := getI2 (by omega)
    have wn : IntKind.i64.wrap ((j : Int) + 1) = ((j + 1 : Nat) : Int) := wrapN (by omega) (by omega)
    rw [st17]
    simp only [h1, wn, hbq, hzl, bb, bq, bp, and_self, decide_true, Bool.and_true, Int.le_refl]
    have r1 := ih (j + 1) (stI us bs q f.toNat o.toNat j zs) (by unfold stI; cases decide (j < o.toNat) <;> simp <;> omega) (by unfold stI; cases decide (j < o.toNat) <;> simp <;> omega) (by omega) (by omega)
    refine Eq.trans ?_ r1
    by_cases hj : (j : Int) < o
    · have hj2 : j < o.toNat := by omega
      have w2 : IntKind.i64.wrap (f + (j : Int)) = ((f.toNat + j : Nat) : Int) := wrapN (by omega) (by omega)
      have hb2 : (0 : Int) ≤ ((f.toNat + j : Nat) : Int) ∧ ((f.toNat + j : Nat) : Int) < (us.length : Int) := by omega
      have hb3 : (0 : Int) ≤ ((f.toNat + j : Nat) : Int) ∧ ((f.toNat + j : Nat) : Int) < (zs.length : Int) := by omega
      have hg2 : us[Int.toNat ((f.toNat + j : Nat) : Int)]? = some (us.getD (f.toNat + j) 0) := getI (by omega)
      have hg3 : zs[Int.toNat ((f.toNat + j : Nat) : Int)]? = some (zs.getD (f.toNat + j) 0) := getI (by omega)
      have e : stI us bs q f.toNat o.toNat j zs = zs.set (f.toNat + j) (stVal bs q (f.toNat) j (us.getD (f.toNat + j) 0)) := by
        unfold stI
        rw [decide_eq_true hj2]
        rfl
      rw [e]
      simp only [hj, w2, hb2, hb3, hg2, hg3, and_self, decide_true, Bool.and_true]
      rfl
    · have hj2 : ¬ j < o.toNat := by omega
      have e : stI us bs q f.toNat o.toNat j zs = zs ++ [fop .mul .f32 (bs.getD j 0) q] := by
        unfold stI
        rw [decide_eq_false hj2]
        rfl
      rw [e]
      simp only [hj, hzl, List.length_singleton, and_self, decide_true, decide_false, Bool.and_true]
      try rfl

theorem lk17 : LOK T6 a17 l17 Try.f17.ntmps (loopAt Try.f17 0) := by
  intro ins outs hA s k out h
  have hA' : ([0, 2, 8, 9, 10, 63, 64, 65], [9, 10]) = (ins, outs) := Option.some.inj ((show a17.lp (firstRegion (loopAt Try.f17 0)) = some ([0, 2, 8, 9, 10, 63, 64, 65], [9, 10]) by kernel_rfl).symm.trans hA)
  cases hA'
  have hk : firstRegion (loopAt Try.f17 0) = 7 := by kernel_rfl
  rw [hk] at h
  change lp17 s k = some out at h
  unfold lp17 at h
  split at h
  · rename_i us o f q bs n i zs
    cases hg : (decide (n = (bs.length : Int)) && (decide (i = 0) && (Nat.ble bs.length big && (Nat.ble (zs.length + bs.length) big && decide (0 ≤ o ∧ 0 ≤ f ∧ f + o = (us.length : Int) ∧ (us.length : Int) ≤ (zs.length : Int)))))) with
    | false => rw [hg] at h; cases h
    | true =>
      rw [hg] at h
      simp only [Bool.and_eq_true, decide_eq_true_eq] at hg
      obtain ⟨rfl, rfl, hs, gs0, gs1⟩ := hg
      refine ⟨(bs.length) + 1, ?_⟩
      have hs_ := big_le hs
      have gs0_ := big_le gs0
      exact (ind17 us o f q bs hs k (bs.length) 0 zs (by omega) (by omega) (by omega) (by omega)).trans h
  · cases h
theorem e17 (us : List Nat) (bs : List Nat) (o : Int) : runFn T6 a17 l17 Try.f17 [.vw none ⟨.f32, us⟩, .vw none ⟨.f32, bs⟩, .el (.sc (.int .i64 o))] = (match (!(bins us 1) : Bool) with
  | true => some ⟨[.nil, .el (.sc (.bo false))], none⟩
  | false => (match (!(bins bs 1) : Bool) with
    | true => some ⟨[.nil, .el (.sc (.bo false))], none⟩
    | false => (match (decide ((o : Int) < 1) : Bool) with
      | true => some ⟨[.nil, .el (.sc (.bo false))], none⟩
      | false => (match (decide ((o : Int) > (us.length : Int)) : Bool) with
        | true => some ⟨[.nil, .el (.sc (.bo false))], none⟩
        | false => (match (decide ((o : Int) > (bs.length : Int)) : Bool) with
          | true => some ⟨[.nil, .el (.sc (.bo false))], none⟩
          | false => (match (decide ((IntKind.i64.wrap ((IntKind.i64.wrap (((us.length : Int)) + ((bs.length : Int)))) - o) : Int) > 64) : Bool) with
            | true => some ⟨[.nil, .el (.sc (.bo false))], none⟩
            | false => (match (decide (0 ≤ (IntKind.i64.wrap (((us.length : Int)) - o) : Int) ∧ (IntKind.i64.wrap (((us.length : Int)) - o) : Int) ≤ (us.length : Int) ∧ ((us.length : Int) : Int) ≤ (us.length : Int)) && true : Bool) with
              | true => (match (Nat.ble (((us).drop (Int.toNat (IntKind.i64.wrap (((us.length : Int)) - o)))).take (Int.toNat ((us.length : Int)) - Int.toNat (IntKind.i64.wrap (((us.length : Int)) - o)))).length big : Bool) with
                | true => (match (decide (0 ≤ (0 : Int) ∧ (0 : Int) ≤ o ∧ (o : Int) ≤ (bs.length : Int)) && true : Bool) with
                  | true => (match (Nat.ble (((bs).drop (Int.toNat 0)).take (Int.toNat o - Int.toNat 0)).length big : Bool) with
                    | true => (match (Nat.ble 1 us.length && Nat.ble us.length big : Bool) with
                      | true => (match ((decide (((bs.length : Int)) = (bs.length : Int)) && (decide (0 = 0) && (Nat.ble bs.length big && (Nat.ble ((us : List Nat).length + bs.length) big && decide (0 ≤ o ∧ 0 ≤ (IntKind.i64.wrap (((us.length : Int)) - o)) ∧ (IntKind.i64.wrap (((us.length : Int)) - o)) + o = (us.length : Int) ∧ (us.length : Int) ≤ ((us : List Nat).length : Int)))))) : Bool) with
                        | true => (match (!(fin ((fop .quo .f32 (sumF (((us).drop (Int.toNat (IntKind.i64.wrap (((us.length : Int)) - o)))).take (Int.toNat ((us.length : Int)) - Int.toNat (IntKind.i64.wrap (((us.length : Int)) - o))))) (sumF (((bs).drop (Int.toNat 0)).take (Int.toNat o - Int.toNat 0)))))) : Bool) with
                          | true => some ⟨[.nil, .el (.sc (.bo false))], none⟩
                          | false => (match (Nat.ble (rep (stI us bs (fop .quo .f32 (sumF (((us).drop (Int.toNat (IntKind.i64.wrap (((us.length : Int)) - o)))).take (Int.toNat ((us.length : Int)) - Int.toNat (IntKind.i64.wrap (((us.length : Int)) - o))))) (sumF (((bs).drop (Int.toNat 0)).take (Int.toNat o - Int.toNat 0)))) (IntKind.i64.wrap (((us.length : Int)) - o)).toNat o.toNat) (bs.length) 0 ((us : List Nat) : (List Nat))).length big : Bool) with
                            | true => (match ((rep (stI us bs (fop .quo .f32 (sumF (((us).drop (Int.toNat (IntKind.i64.wrap (((us.length : Int)) - o)))).take (Int.toNat ((us.length : Int)) - Int.toNat (IntKind.i64.wrap (((us.length : Int)) - o))))) (sumF (((bs).drop (Int.toNat 0)).take (Int.toNat o - Int.toNat 0)))) (IntKind.i64.wrap (((us.length : Int)) - o)).toNat o.toNat) (bs.length) 0 ((us : List Nat) : (List Nat))).all fin : Bool) with
                              | true => some ⟨[.fresh 30 ⟨.f32, rep (stI us bs (fop .quo .f32 (sumF (((us).drop (Int.toNat (IntKind.i64.wrap (((us.length : Int)) - o)))).take (Int.toNat ((us.length : Int)) - Int.toNat (IntKind.i64.wrap (((us.length : Int)) - o))))) (sumF (((bs).drop (Int.toNat 0)).take (Int.toNat o - Int.toNat 0)))) (IntKind.i64.wrap (((us.length : Int)) - o)).toNat o.toNat) (bs.length) 0 ((us : List Nat) : (List Nat))⟩, .el (.sc (.bo true))], none⟩
                              | false => some ⟨[.nil, .el (.sc (.bo false))], none⟩)
                            | false => none))
                        | false => none)
                      | false => none)
                    | false => none)
                  | false => none)
                | false => none)
              | false => none))))))) := by kernel_rfl
theorem s17 (us : List Nat) (bs : List Nat) (o : Int) : runFn T6 a17 l17 Try.f17 [.vw none ⟨.f32, us⟩, .vw none ⟨.f32, bs⟩, .el (.sc (.int .i64 o))] = (match (stOk us bs o : Bool) with
  | true => some ⟨[.fresh 30 ⟨.f32, stX us bs o⟩, .el (.sc (.bo true))], none⟩
  | false => some ⟨[.nil, .el (.sc (.bo false))], none⟩) := by
  rw [e17]
  unfold stOk
  cases h1 : bins us 1 with
  | false => simp
  | true =>
    cases h2 : bins bs 1 with
    | false => simp
    | true =>
      have h1b := h1
      unfold bins at h1b
      simp only [Bool.and_eq_true, decide_eq_true_eq] at h1b
      have h2b := h2
      unfold bins at h2b
      simp only [Bool.and_eq_true, decide_eq_true_eq] at h2b
      have w0 : IntKind.i64.wrap ((us.length : Int) + (bs.length : Int)) = (us.length : Int) + (bs.length : Int) := wrap64 (by omega) (by omega)
      cases h3 : stAsk us bs o with
      | false =>
        have h3b : ¬ (1 ≤ o ∧ o ≤ (us.length : Int) ∧ o ≤ (bs.length : Int) ∧ (us.length : Int) + (bs.length : Int) - o ≤ 64) := by
          unfold stAsk at h3
          exact of_decide_eq_false h3
        by_cases c1 : o < 1
        · simp [c1]
        · by_cases c2 : o > (us.length : Int)
          · simp [c1, c2]
          · by_cases c3 : o > (bs.length : Int)
            · simp [c1, c2, c3]
            · have w1 : IntKind.i64.wrap ((us.length : Int) + (bs.length : Int) - o) = (us.length : Int) + (bs.length : Int) - o := wrap64 (by omega) (by omega)
              have n1 : ((us.length : Int) + (bs.length : Int) - o > 64) := by omega
              simp only [c1, c2, c3, w0, w1, n1, decide_true, decide_false]
              try rfl
      | true =>
        have h3b : 1 ≤ o ∧ o ≤ (us.length : Int) ∧ o ≤ (bs.length : Int) ∧ (us.length : Int) + (bs.length : Int) - o ≤ 64 := by
          unfold stAsk at h3
          exact of_decide_eq_true h3
        have w1 : IntKind.i64.wrap ((us.length : Int) + (bs.length : Int) - o) = (us.length : Int) + (bs.length : Int) - o := wrap64 (by omega) (by omega)
        have w2 : IntKind.i64.wrap ((us.length : Int) - o) = (us.length : Int) - o := wrap64 (by omega) (by omega)
        have n1 : ¬ ((us.length : Int) + (bs.length : Int) - o > 64) := by omega
        have e1 : (us.drop ((us.length : Int) - o).toNat).take (us.length - ((us.length : Int) - o).toNat) = us.drop ((us.length : Int) - o).toNat := List.take_of_length_le (by simp)
        have l1 : Nat.ble (us.drop ((us.length : Int) - o).toNat).length big = true := big_of (by rw [List.length_drop]; omega)
        have l2 : Nat.ble (bs.take o.toNat).length big = true := big_of (by rw [List.length_take]; omega)
        have l3 : Nat.ble (us.length + bs.length) big = true := big_of (by omega)
        have l4 : us.length ≤ 1099511627776 := by omega
        have l5 : Nat.ble bs.length big = true := big_of (by omega)
        have l6 : Nat.ble us.length big = true := big_of (by omega)
        have l7 : Nat.ble 1 us.length = true := Nat.ble_eq_true_of_le (by omega)
        have g1 : (0 : Int) ≤ (us.length : Int) - o ∧ (us.length : Int) - o ≤ (us.length : Int) ∧ (us.length : Int) ≤ (us.length : Int) := by omega
        have g2 : (0 : Int) ≤ 0 ∧ (0 : Int) ≤ o ∧ o ≤ (bs.length : Int) := by omega
        have g3 : (0 : Int) ≤ o ∧ o ≤ (us.length : Int) ∧ (us.length : Int) ≤ (us.length : Int) := by omega
        have g4 : (0 : Int) ≤ o ∧ (0 : Int) ≤ (us.length : Int) - o ∧ (us.length : Int) - o + o = (us.length : Int) ∧ (us.length : Int) ≤ (us.length : Int) := by omega
        have hr : Nat.ble (stX us bs o).length big = true := big_of (by have := stX_len h3; omega)
        have eQ : fop .quo .f32 (sumF (us.drop ((us.length : Int) - o).toNat)) (sumF (bs.take o.toNat)) = stQ us bs o := rfl
        have c1 : ¬ o < 1 := by omega
        have c2 : ¬ o > (us.length : Int) := by omega
        have c3 : ¬ o > (bs.length : Int) := by omega
        have eX := stX_same h3
        simp only [w0, w1, w2, n1, c1, c2, c3, Int.toNat_natCast, Int.toNat_zero, List.drop_zero, Nat.sub_zero, List.nil_append, e1, eQ, eX, l1, l2, l3, l4, l5, l6, l7, g1, g2, g3, g4, hr, Nat.beq_refl, and_self, decide_true, decide_false, Bool.not_true, Bool.and_self, Bool.and_true, Bool.true_and]
        cases h5 : fin (stQ us bs o) with
        | false =>
          rw [stX_bad h3 h5]
          simp [l4]
        | true => cases h6 : (stX us bs o).all fin <;> simp [l4]
theorem c17 (us : List Nat) (bs : List Nat) (o : Int) (k : List RV → R) (out : Out) (h : k [.fresh 30 ⟨.f32, orNil (stOk us bs o) (stX us bs o)⟩, .el (.sc (.bo (stOk us bs o)))] = some out) : ∃ rs, Real Try.prog 17 ∧ COK Try.prog 17 [.vw none ⟨.f32, us⟩, .vw none ⟨.f32, bs⟩, .el (.sc (.int .i64 o))] rs ∧ k rs = some out := by
  cases g0 : (stOk us bs o : Bool) with
  | true =>
    rw [g0] at h
    exact ⟨_, real Try.func17 (by kernel_rfl), fn_ok tok6 (A := a17) (L := l17) (r := none) Try.func17 (by kernel_rfl) (by kernel_rfl) (loops1 (by kernel_rfl) lk17) (by rw [s17, g0]; rfl), h⟩
  | false =>
    rw [g0] at h
    exact ⟨_, real Try.func17 (by kernel_rfl), COK.nil (fn_ok tok6 (A := a17) (L := l17) (r := none) Try.func17 (by kernel_rfl) (by kernel_rfl) (loops1 (by kernel_rfl) lk17) (by rw [s17, g0] <;> rfl)), h⟩

/-! impl.ScanOf -/
def a56 : Ann := ann [(5, [0, 1, 2, 10, 31, 32], [10]), (9, [0, 1, 2, 10, 11, 12, 31, 32, 35, 36, 37], [0, 1, 2, 10, 12, 31, 32])] [8, 9] 0
def lp56 : St → (Ex → St → R) → R := fun s k => match s with
  | ⟨[(0, .fv (.vw (some 0) ⟨.f32, xs⟩)), (1, .fv (.vw (some 1) ⟨.f32, ys⟩)), (2, .fv (.el (.sc (.fl .f32 b)))), (10, .fv (.own 0)), (31, .fv (.el (.sc (.int .i64 n)))), (32, .fv (.el (.sc (.int .i64 i))))], [some ⟨30, ⟨.f32, zs⟩⟩]⟩ => (match ((decide (i = 0) && (Nat.ble xs.length big && (Nat.ble xs.length ys.length && (Nat.ble ((zs : List Nat).length + n.toNat) big && decide (n ≤ 1099511627776))))) : Bool) with
    | true => k (.exit 0) ⟨[(10, .fv (.own 0))], [some ⟨30, ⟨.f32, rep (fun j zs => zs ++ [scanAt xs ys b j]) (n.toNat) 0 ((zs : List Nat) : (List Nat))⟩⟩]⟩
    | false => none)
  | _ => none
def lp56_1 : St → (Ex → St → R) → R := fun s k => match s with
  | ⟨[(0, .fv (.vw (some 0) ⟨.f32, ps⟩)), (1, .fv (.vw (some 1) ⟨.f32, ys⟩)), (2, .fv (.el (.sc (.fl .f32 b)))), (10, .fv (.own 0)), (11, .fv (.el (.sc (.int .i64 o)))), (12, .fv (.el (.sc (.fl .f32 a)))), (31, .fv (.el (.sc (.int .i64 n)))), (32, .fv (.el (.sc (.int .i64 c)))), (35, .fv (.vw (some 0) ⟨.f32, xs⟩)), (36, .fv (.el (.sc (.int .i64 p)))), (37, .fv (.el (.sc (.int .i64 i))))], [some ⟨30, ⟨.f32, zs⟩⟩]⟩ => (match ((decide (p = (xs.length : Int)) && (decide (i = 0) && (Nat.ble xs.length big && Nat.ble xs.length ys.length))) : Bool) with
    | true => k (.exit 2) ⟨[(0, .fv (.vw (some 0) ⟨.f32, ps⟩)), (1, .fv (.vw (some 1) ⟨.f32, ys⟩)), (2, .fv (.el (.sc (.fl .f32 b)))), (10, .fv (.own 0)), (12, .fv (.el (.sc (.fl .f32 (rep (scanTerm xs ys b o) (xs.length) 0 (a : Nat)))))), (31, .fv (.el (.sc (.int .i64 n)))), (32, .fv (.el (.sc (.int .i64 c))))], [some ⟨30, ⟨.f32, (zs : List Nat)⟩⟩]⟩
    | false => none)
  | _ => none
def l56 : Loops := fun key s k => bif Nat.beq key 5 then lp56 s k else bif Nat.beq key 9 then lp56_1 s k else none
theorem st56 (xs : List Nat) (ys : List Nat) (b : Nat) (n : Int) (i : Int) (zs : List Nat) (m : Nat) (k : Ex → St → R) : iterK a56 [0, 1, 2, 10, 31, 32] [10] (codeK T6 a56 l56 Try.f56.ntmps (loopAt Try.f56 0)) (m + 1) ⟨[(0, .fv (.vw (some 0) ⟨.f32, xs⟩)), (1, .fv (.vw (some 1) ⟨.f32, ys⟩)), (2, .fv (.el (.sc (.fl .f32 b)))), (10, .fv (.own 0)), (31, .fv (.el (.sc (.int .i64 n)))), (32, .fv (.el (.sc (.int .i64 i))))], [some ⟨30, ⟨.f32, zs⟩⟩]⟩ k = (match (decide ((i : Int) < n) : Bool) with
  | true => (match ((decide (((xs.length : Int)) = (xs.length : Int)) && (decide (0 = 0) && (Nat.ble xs.length big && Nat.ble xs.length ys.length))) : Bool) with
    | true => (match (Nat.beq 30 30 && decide (((zs : List Nat) : List Nat).length + ([rep (scanTerm xs ys b i) (xs.length) 0 (0 : Nat)] : List Nat).length ≤ 1099511627776) : Bool) with
      | true => iterK a56 [0, 1, 2, 10, 31, 32] [10] (codeK T6 a56 l56 Try.f56.ntmps (loopAt Try.f56 0)) m ⟨[(0, .fv (.vw (some 0) ⟨.f32, xs⟩)), (1, .fv (.vw (some 1) ⟨.f32, ys⟩)), (2, .fv (.el (.sc (.fl .f32 b)))), (10, .fv (.own 0)), (31, .fv (.el (.sc (.int .i64 n)))), (32, .fv (.el (.sc (.int .i64 (IntKind.i64.wrap (i + 1))))))], [some ⟨30, ⟨.f32, ((zs : List Nat) : List Nat) ++ ([rep (scanTerm xs ys b i) (xs.length) 0 (0 : Nat)])⟩⟩]⟩ k
      | false => none)
    | false => none)
  | false => k (.exit 0) ⟨[(10, .fv (.own 0))], [some ⟨30, ⟨.f32, zs⟩⟩]⟩) := by kernel_rfl
theorem ind56 (xs : List Nat) (ys : List Nat) (b : Nat) (n : Int) (hx : (Nat.ble xs.length big) = true) (hl : (Nat.ble xs.length ys.length) = true) (k : Ex → St → R) : ∀ (m j : Nat) (zs : List Nat), zs.length + m ≤ 1099511627776 → n ≤ 1099511627776 → 0 ≤ j → j + m = n.toNat → iterK a56 [0, 1, 2, 10, 31, 32] [10] (codeK T6 a56 l56 Try.f56.ntmps (loopAt Try.f56 0)) (m + 1) ⟨[(0, .fv (.vw (some 0) ⟨.f32, xs⟩)), (1, .fv (.vw (some 1) ⟨.f32, ys⟩)), (2, .fv (.el (.sc (.fl .f32 b)))), (10, .fv (.own 0)), (31, .fv (.el (.sc (.int .i64 n)))), (32, .fv (.el (.sc (.int .i64 (j : Int)))))], [some ⟨30, ⟨.f32, zs⟩⟩]⟩ k =
    k (.exit 0) ⟨[(10, .fv (.own 0))], [some ⟨30, ⟨.f32, rep (fun j zs => zs ++ [scanAt xs ys b j]) m j (zs : (List Nat))⟩⟩]⟩ := by
  intro m
  induction m with
  | zero =>
    intro j zs hs0 hs1 hlo hj
    have hx_ := big_le hx
    have hl_ := Nat.le_of_ble_eq_true hl
    have h1 : ¬ ((j : Int) < n) := by omega
    rw [st56]
    simp only [h1, rep, decide_false, hx, hl, Bool.true_and, Bool.and_self, List.length_singleton] <;> rfl
  | succ m ih =>
    intro j zs hs0 hs1 hlo hj
    have hx_ := big_le hx
    have hl_ := Nat.le_of_ble_eq_true hl
    have h1 : (j : Int) < n := by omega
    have hbq : Nat.beq 30 30 = true := rfl
    have hzl : zs.length + 1 ≤ 1099511627776 := by omega
    have wn : IntKind.i64.wrap ((j : Int) + 1) = ((j + 1 : Nat) : Int) := wrapN (by omega) (by omega)
    rw [st56]
    simp only [h1, wn, hbq, hzl, and_self, decide_true, Bool.and_true, Int.le_refl, hx, hl, Bool.true_and, Bool.and_self, List.length_singleton]
    exact ih (j + 1) _ (by simp; omega) (hs1) (by omega) (by omega)

theorem lk56 : LOK T6 a56 l56 Try.f56.ntmps (loopAt Try.f56 0) := by
  intro ins outs hA s k out h
  have hA' : ([0, 1, 2, 10, 31, 32], [10]) = (ins, outs) := Option.some.inj ((show a56.lp (firstRegion (loopAt Try.f56 0)) = some ([0, 1, 2, 10, 31, 32], [10]) by kernel_rfl).symm.trans hA)
  cases hA'
  have hk : firstRegion (loopAt Try.f56 0) = 5 := by kernel_rfl
  rw [hk] at h
  change lp56 s k = some out at h
  unfold lp56 at h
  split at h
  · rename_i xs ys b n i zs
    cases hg : (decide (i = 0) && (Nat.ble xs.length big && (Nat.ble xs.length ys.length && (Nat.ble (zs.length + n.toNat) big && decide (n ≤ 1099511627776))))) with
    | false => rw [hg] at h; cases h
    | true =>
      rw [hg] at h
      simp only [Bool.and_eq_true, decide_eq_true_eq] at hg
      obtain ⟨rfl, hx, hl, gs0, gs1⟩ := hg
      refine ⟨(n.toNat) + 1, ?_⟩
      have hx_ := big_le hx
      have hl_ := Nat.le_of_ble_eq_true hl
      have gs0_ := big_le gs0
      exact (ind56 xs ys b n hx hl k (n.toNat) 0 zs (by omega) (by omega) (by omega) (by omega)).trans h
  · cases h
theorem st56_1 (ps : List Nat) (ys : List Nat) (b : Nat) (o : Int) (a : Nat) (n : Int) (c : Int) (xs : List Nat) (p : Int) (i : Int) (zs : List Nat) (m : Nat) (k : Ex → St → R) : iterK a56 [0, 1, 2, 10, 11, 12, 31, 32, 35, 36, 37] [0, 1, 2, 10, 12, 31, 32] (codeK T6 a56 l56 Try.f56.ntmps (loopAt Try.f56 1)) (m + 1) ⟨[(0, .fv (.vw (some 0) ⟨.f32, ps⟩)), (1, .fv (.vw (some 1) ⟨.f32, ys⟩)), (2, .fv (.el (.sc (.fl .f32 b)))), (10, .fv (.own 0)), (11, .fv (.el (.sc (.int .i64 o)))), (12, .fv (.el (.sc (.fl .f32 a)))), (31, .fv (.el (.sc (.int .i64 n)))), (32, .fv (.el (.sc (.int .i64 c)))), (35, .fv (.vw (some 0) ⟨.f32, xs⟩)), (36, .fv (.el (.sc (.int .i64 p)))), (37, .fv (.el (.sc (.int .i64 i))))], [some ⟨30, ⟨.f32, zs⟩⟩]⟩ k = (match (decide ((i : Int) < p) : Bool) with
  | true => (match (decide (0 ≤ (i : Int) ∧ (i : Int) < (xs.length : Int)) && true : Bool) with
    | true => (match (xs : List Nat)[Int.toNat i]? with
      | some x1 => (match (decide (0 ≤ (i : Int) ∧ (i : Int) < (ys.length : Int)) && true : Bool) with
        | true => (match (ys : List Nat)[Int.toNat i]? with
          | some x2 => iterK a56 [0, 1, 2, 10, 11, 12, 31, 32, 35, 36, 37] [0, 1, 2, 10, 12, 31, 32] (codeK T6 a56 l56 Try.f56.ntmps (loopAt Try.f56 1)) m ⟨[(0, .fv (.vw (some 0) ⟨.f32, ps⟩)), (1, .fv (.vw (some 1) ⟨.f32, ys⟩)), (2, .fv (.el (.sc (.fl .f32 b)))), (10, .fv (.own 0)), (11, .fv (.el (.sc (.int .i64 o)))), (12, .fv (.el (.sc (.fl .f32 (fop .add .f32 a (fop .mul .f32 x2 (fop .add .f32 1065353216 (phRe (wid (fop .mul .f32 x1 (fop .mul .f32 (fint .f32 o) b))))))))))), (31, .fv (.el (.sc (.int .i64 n)))), (32, .fv (.el (.sc (.int .i64 c)))), (35, .fv (.vw (some 0) ⟨.f32, xs⟩)), (36, .fv (.el (.sc (.int .i64 p)))), (37, .fv (.el (.sc (.int .i64 (IntKind.i64.wrap (i + 1))))))], [some ⟨30, ⟨.f32, zs⟩⟩]⟩ k
          | none => none)
        | false => none)
      | none => none)
    | false => none)
  | false => k (.exit 2) ⟨[(0, .fv (.vw (some 0) ⟨.f32, ps⟩)), (1, .fv (.vw (some 1) ⟨.f32, ys⟩)), (2, .fv (.el (.sc (.fl .f32 b)))), (10, .fv (.own 0)), (12, .fv (.el (.sc (.fl .f32 a)))), (31, .fv (.el (.sc (.int .i64 n)))), (32, .fv (.el (.sc (.int .i64 c))))], [some ⟨30, ⟨.f32, zs⟩⟩]⟩) := by kernel_rfl
theorem ind56_1 (ps : List Nat) (ys : List Nat) (b : Nat) (o : Int) (n : Int) (c : Int) (xs : List Nat) (zs : List Nat) (hx : (Nat.ble xs.length big) = true) (hl : (Nat.ble xs.length ys.length) = true) (k : Ex → St → R) : ∀ (m j : Nat) (a : Nat), 0 ≤ j → j + m = xs.length → iterK a56 [0, 1, 2, 10, 11, 12, 31, 32, 35, 36, 37] [0, 1, 2, 10, 12, 31, 32] (codeK T6 a56 l56 Try.f56.ntmps (loopAt Try.f56 1)) (m + 1) ⟨[(0, .fv (.vw (some 0) ⟨.f32, ps⟩)), (1, .fv (.vw (some 1) ⟨.f32, ys⟩)), (2, .fv (.el (.sc (.fl .f32 b)))), (10, .fv (.own 0)), (11, .fv (.el (.sc (.int .i64 o)))), (12, .fv (.el (.sc (.fl .f32 a)))), (31, .fv (.el (.sc (.int .i64 n)))), (32, .fv (.el (.sc (.int .i64 c)))), (35, .fv (.vw (some 0) ⟨.f32, xs⟩)), (36, .fv (.el (.sc (.int .i64 (xs.length : Int))))), (37, .fv (.el (.sc (.int .i64 (j : Int)))))], [some ⟨30, ⟨.f32, zs⟩⟩]⟩ k =
    k (.exit 2) ⟨[(0, .fv (.vw (some 0) ⟨.f32, ps⟩)), (1, .fv (.vw (some 1) ⟨.f32, ys⟩)), (2, .fv (.el (.sc (.fl .f32 b)))), (10, .fv (.own 0)), (12, .fv (.el (.sc (.fl .f32 (rep (scanTerm xs ys b o) m j (a : Nat)))))), (31, .fv (.el (.sc (.int .i64 n)))), (32, .fv (.el (.sc (.int .i64 c))))], [some ⟨30, ⟨.f32, zs⟩⟩]⟩ := by
  intro m
  induction m with
  | zero =>
    intro j a hlo hj
    have hx_ := big_le hx
    have hl_ := Nat.le_of_ble_eq_true hl
    have h1 : ¬ (((j : Int) < (xs.length : Int))) := by omega
    rw [st56_1]
    simp only [h1, rep, decide_false] <;> rfl
  | succ m ih =>
    intro j a hlo hj
    have hx_ := big_le hx
    have hl_ := Nat.le_of_ble_eq_true hl
    have h1 : ((j : Int) < (xs.length : Int)) := by omega
    have xb : (0 : Int) ≤ ((j : Nat) : Int) ∧ ((j : Nat) : Int) < (xs.length : Int) := by omega
    have xq : xs[Int.toNat ((j : Nat) : Int)]? = some (xs.getD (j) 0) := getI (by omega)
    have xp : xs[j]? = some (xs.getD (j) 0) := getI2 (by omega)
    have yl : j < ys.length := by omega
    have yb : (0 : Int) ≤ ((j : Nat) : Int) ∧ ((j : Nat) : Int) < (ys.length : Int) := by omega
    have yq : ys[Int.toNat ((j : Nat) : Int)]? = some (ys.getD (j) 0) := getI (by omega)
    have yp : ys[j]? = some (ys.getD (j) 0) := getI2 (by omega)
    have wn : IntKind.i64.wrap ((j : Int) + 1) = ((j + 1 : Nat) : Int) := wrapN (by omega) (by omega)
    rw [st56_1]
    simp only [h1, wn, xb, xq, xp, yl, yb, yq, yp, and_self, decide_true, Bool.and_true, Int.le_refl]
    exact ih (j + 1) _ (by omega) (by omega)

theorem lk56_1 : LOK T6 a56 l56 Try.f56.ntmps (loopAt Try.f56 1) := by
  intro ins outs hA s k out h
  have hA' : ([0, 1, 2, 10, 11, 12, 31, 32, 35, 36, 37], [0, 1, 2, 10, 12, 31, 32]) = (ins, outs) := Option.some.inj ((show a56.lp (firstRegion (loopAt Try.f56 1)) = some ([0, 1, 2, 10, 11, 12, 31, 32, 35, 36, 37], [0, 1, 2, 10, 12, 31, 32]) by kernel_rfl).symm.trans hA)
  cases hA'
  have hk : firstRegion (loopAt Try.f56 1) = 9 := by kernel_rfl
  rw [hk] at h
  change lp56_1 s k = some out at h
  unfold lp56_1 at h
  split at h
  · rename_i ps ys b o a n c xs p i zs
    cases hg : (decide (p = (xs.length : Int)) && (decide (i = 0) && (Nat.ble xs.length big && Nat.ble xs.length ys.length))) with
    | false => rw [hg] at h; cases h
    | true =>
      rw [hg] at h
      simp only [Bool.and_eq_true, decide_eq_true_eq] at hg
      obtain ⟨rfl, rfl, hx, hl⟩ := hg
      refine ⟨(xs.length) + 1, ?_⟩
      have hx_ := big_le hx
      have hl_ := Nat.le_of_ble_eq_true hl
      exact (ind56_1 ps ys b o n c xs zs hx hl k (xs.length) 0 a (by omega) (by omega)).trans h
  · cases h
theorem e56 (xs : List Nat) (ys : List Nat) (b : Nat) (n : Int) : runFn T6 a56 l56 Try.f56 [.vw none ⟨.f32, xs⟩, .vw none ⟨.f32, ys⟩, .el (.sc (.fl .f32 b)), .el (.sc (.int .i64 n))] = (match (!(lamps xs ys 1) : Bool) with
  | true => some ⟨[.nil, .el (.sc (.bo false))], none⟩
  | false => (match (!(fin b) : Bool) with
    | true => some ⟨[.nil, .el (.sc (.bo false))], none⟩
    | false => (match (!(within n 2 64) : Bool) with
      | true => some ⟨[.nil, .el (.sc (.bo false))], none⟩
      | false => (match ((decide (0 = 0) && (Nat.ble xs.length big && (Nat.ble xs.length ys.length && (Nat.ble (([] : List Nat).length + n.toNat) big && decide (n ≤ 1099511627776))))) : Bool) with
        | true => (match (Nat.ble (rep (fun j zs => zs ++ [scanAt xs ys b j]) (n.toNat) 0 (([] : List Nat) : (List Nat))).length big : Bool) with
          | true => (match ((rep (fun j zs => zs ++ [scanAt xs ys b j]) (n.toNat) 0 (([] : List Nat) : (List Nat))).all fin : Bool) with
            | true => some ⟨[.fresh 30 ⟨.f32, rep (fun j zs => zs ++ [scanAt xs ys b j]) (n.toNat) 0 (([] : List Nat) : (List Nat))⟩, .el (.sc (.bo true))], none⟩
            | false => some ⟨[.nil, .el (.sc (.bo false))], none⟩)
          | false => none)
        | false => none)))) := by kernel_rfl
theorem s56 (xs : List Nat) (ys : List Nat) (b : Nat) (n : Int) : runFn T6 a56 l56 Try.f56 [.vw none ⟨.f32, xs⟩, .vw none ⟨.f32, ys⟩, .el (.sc (.fl .f32 b)), .el (.sc (.int .i64 n))] = (match (scanOk xs ys b n : Bool) with
  | true => some ⟨[.fresh 30 ⟨.f32, scanX xs ys b n⟩, .el (.sc (.bo true))], none⟩
  | false => some ⟨[.nil, .el (.sc (.bo false))], none⟩) := by
  rw [e56]
  unfold scanOk
  cases h1 : lamps xs ys 1 with
  | false => simp
  | true =>
    have h1b := h1
    unfold lamps at h1b
    simp only [Bool.and_eq_true, decide_eq_true_eq] at h1b
    have hx : Nat.ble xs.length big = true := big_of (by omega)
    have hl : Nat.ble xs.length ys.length = true := Nat.ble_eq_true_of_le (by omega)
    cases h2 : fin b with
    | false => simp
    | true =>
      cases h3 : within n 2 64 with
      | false => simp
      | true =>
        have h3b : 2 ≤ n ∧ n ≤ 64 := by
          unfold within at h3
          simpa using h3
        have hn : n ≤ 1099511627776 := by omega
        have hz : Nat.ble (0 + n.toNat) big = true := big_of (by omega)
        have hr : Nat.ble (scanX xs ys b n).length big = true := big_of (by rw [scanX_len]; omega)
        have e := rep_map (scanAt xs ys b) n.toNat 0 []
        have e2 : (fromTo 0 n.toNat).map (scanAt xs ys b) = scanX xs ys b n := rfl
        rw [List.nil_append, e2] at e
        simp only [hx, hl, hz, hn, e, hr, List.length_nil, decide_true, Bool.and_self, Bool.not_true, Bool.true_and, Bool.and_true]
        try (cases h6 : (scanX xs ys b n).all fin <;> simp)
theorem c56 (xs : List Nat) (ys : List Nat) (b : Nat) (n : Int) (k : List RV → R) (out : Out) (h : k [.fresh 30 ⟨.f32, orNil (scanOk xs ys b n) (scanX xs ys b n)⟩, .el (.sc (.bo (scanOk xs ys b n)))] = some out) : ∃ rs, Real Try.prog 56 ∧ COK Try.prog 56 [.vw none ⟨.f32, xs⟩, .vw none ⟨.f32, ys⟩, .el (.sc (.fl .f32 b)), .el (.sc (.int .i64 n))] rs ∧ k rs = some out := by
  cases g0 : (scanOk xs ys b n : Bool) with
  | true =>
    rw [g0] at h
    exact ⟨_, real Try.func56 (by kernel_rfl), fn_ok tok6 (A := a56) (L := l56) (r := none) Try.func56 (by kernel_rfl) (by kernel_rfl) (loops2 (by kernel_rfl) lk56 lk56_1) (by rw [s56, g0]; rfl), h⟩
  | false =>
    rw [g0] at h
    exact ⟨_, real Try.func56 (by kernel_rfl), COK.nil (fn_ok tok6 (A := a56) (L := l56) (r := none) Try.func56 (by kernel_rfl) (by kernel_rfl) (loops2 (by kernel_rfl) lk56 lk56_1) (by rw [s56, g0] <;> rfl)), h⟩

def S7 : SFn := fun f args k => match f, args with
  | 17, [.vw none ⟨.f32, us⟩, .vw none ⟨.f32, bs⟩, .el (.sc (.int .i64 o))] => k [.fresh 30 ⟨.f32, orNil (stOk us bs o) (stX us bs o)⟩, .el (.sc (.bo (stOk us bs o)))]
  | 56, [.vw none ⟨.f32, xs⟩, .vw none ⟨.f32, ys⟩, .el (.sc (.fl .f32 b)), .el (.sc (.int .i64 n))] => k [.fresh 30 ⟨.f32, orNil (scanOk xs ys b n) (scanX xs ys b n)⟩, .el (.sc (.bo (scanOk xs ys b n)))]
  | _, _ => S6 f args k
abbrev M7 : MFn := M6
def T7 : TT := tab.T S7 muts M7
theorem tok7 : TOK Try.prog T7 := by
  refine (tab_ok tabok).tok (fun f args k out h => ?_) (fun f vec args k out h => ?_)
  · change S7 f args k = some out at h
    unfold S7 at h
    split at h
    · exact (fun k out h => cok_call (c17 _ _ _ k out h)) k out h
    · exact (fun k out h => cok_call (c56 _ _ _ _ k out h)) k out h
    · exact tok6.S f args k out h
  · exact tok6.M f vec args k out h

end Go.Sm.Ytlkphfpkohabeaa
