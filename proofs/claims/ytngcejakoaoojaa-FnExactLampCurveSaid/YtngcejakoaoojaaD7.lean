/- What the functions hand back: level 6. -/
import Derived.Test.YtngcejakoaoojaaD6
namespace Go.Sm.Ytngcejakoaoojaa
open Go Go.Sm Go.RowKit Go.Proofs

/-! impl.LampCurve -/
def a32 : Ann := ann [(5, [1, 6, 7, 20, 21, 22], [6, 7]), (9, [1, 6, 7, 8, 9, 10, 20, 21, 22, 28, 29], [1, 6, 7, 20, 21, 22])] [4, 5] 0
def lp32 : St → (Ex → St → R) → R := fun s k => match s with
  | ⟨[(1, .fv (.vw (some 1) ⟨.f32, ys⟩)), (6, .fv (.own 0)), (7, .fv (.own 1)), (20, .fv (.vw (some 0) ⟨.f32, xs⟩)), (21, .fv (.el (.sc (.int .i64 n)))), (22, .fv (.el (.sc (.int .i64 i))))], [some ⟨29, ⟨.f32, ss⟩⟩, some ⟨29, ⟨.f32, ts⟩⟩]⟩ => (match ((decide (n = (xs.length : Int)) && (decide (i = 0) && (Nat.ble xs.length big && (Nat.beq xs.length ys.length && (Nat.beq (ss : List Nat).length 5 && Nat.beq (ts : List Nat).length 3))))) : Bool) with
    | true => k (.exit 0) ⟨[(6, .fv (.own 0)), (7, .fv (.own 1))], [some ⟨29, ⟨.f32, [((rep (lampI xs ys) (xs.length) 0 (((ss : List Nat), (ts : List Nat)) : (List Nat) × (List Nat))).1).getD 0 0, ((rep (lampI xs ys) (xs.length) 0 (((ss : List Nat), (ts : List Nat)) : (List Nat) × (List Nat))).1).getD 1 0, ((rep (lampI xs ys) (xs.length) 0 (((ss : List Nat), (ts : List Nat)) : (List Nat) × (List Nat))).1).getD 2 0, ((rep (lampI xs ys) (xs.length) 0 (((ss : List Nat), (ts : List Nat)) : (List Nat) × (List Nat))).1).getD 3 0, ((rep (lampI xs ys) (xs.length) 0 (((ss : List Nat), (ts : List Nat)) : (List Nat) × (List Nat))).1).getD 4 0]⟩⟩, some ⟨29, ⟨.f32, [((rep (lampI xs ys) (xs.length) 0 (((ss : List Nat), (ts : List Nat)) : (List Nat) × (List Nat))).2).getD 0 0, ((rep (lampI xs ys) (xs.length) 0 (((ss : List Nat), (ts : List Nat)) : (List Nat) × (List Nat))).2).getD 1 0, ((rep (lampI xs ys) (xs.length) 0 (((ss : List Nat), (ts : List Nat)) : (List Nat) × (List Nat))).2).getD 2 0]⟩⟩]⟩
    | false => none)
  | _ => none
def lp32_1 : St → (Ex → St → R) → R := fun s k => match s with
  | ⟨[(1, .fv (.vw (some 1) ⟨.f32, ys⟩)), (6, .fv (.own 0)), (7, .fv (.own 1)), (8, .fv (.el (.sc (.int .i64 i)))), (9, .fv (.el (.sc (.fl .f32 x)))), (10, .fv (.el (.sc (.fl .f32 pw)))), (20, .fv (.vw (some 0) ⟨.f32, xs⟩)), (21, .fv (.el (.sc (.int .i64 n)))), (22, .fv (.el (.sc (.int .i64 z)))), (28, .fv (.el (.sc (.int .i64 n5)))), (29, .fv (.el (.sc (.int .i64 q))))], [some ⟨29, ⟨.f32, ss⟩⟩, some ⟨29, ⟨.f32, ts⟩⟩]⟩ => (match ((decide (n5 = (5 : Int)) && (decide (q = 0) && (decide (0 ≤ i ∧ i < (ys.length : Int)) && (Nat.beq (ss : List Nat).length 5 && Nat.beq (ts : List Nat).length 3)))) : Bool) with
    | true => k (.exit 2) ⟨[(1, .fv (.vw (some 1) ⟨.f32, ys⟩)), (6, .fv (.own 0)), (7, .fv (.own 1)), (20, .fv (.vw (some 0) ⟨.f32, xs⟩)), (21, .fv (.el (.sc (.int .i64 n)))), (22, .fv (.el (.sc (.int .i64 z))))], [some ⟨29, ⟨.f32, (rep (lampK (ys.getD i.toNat 0) x) (5) 0 (((ss : List Nat), (ts : List Nat), pw) : (List Nat) × (List Nat) × Nat)).1⟩⟩, some ⟨29, ⟨.f32, (rep (lampK (ys.getD i.toNat 0) x) (5) 0 (((ss : List Nat), (ts : List Nat), pw) : (List Nat) × (List Nat) × Nat)).2.1⟩⟩]⟩
    | false => none)
  | _ => none
def l32 : Loops := fun key s k => bif Nat.beq key 5 then lp32 s k else bif Nat.beq key 9 then lp32_1 s k else none
theorem st32 (ys : List Nat) (xs : List Nat) (n : Int) (i : Int) (ss : List Nat) (ts : List Nat) (m : Nat) (k : Ex → St → R) : iterK a32 [1, 6, 7, 20, 21, 22] [6, 7] (codeK T6 a32 l32 Try.f32.ntmps (loopAt Try.f32 0)) (m + 1) ⟨[(1, .fv (.vw (some 1) ⟨.f32, ys⟩)), (6, .fv (.own 0)), (7, .fv (.own 1)), (20, .fv (.vw (some 0) ⟨.f32, xs⟩)), (21, .fv (.el (.sc (.int .i64 n)))), (22, .fv (.el (.sc (.int .i64 i))))], [some ⟨29, ⟨.f32, ss⟩⟩, some ⟨29, ⟨.f32, ts⟩⟩]⟩ k = (match (decide ((i : Int) < n) : Bool) with
  | true => (match (decide (0 ≤ (i : Int) ∧ (i : Int) < (xs.length : Int)) && true : Bool) with
    | true => (match (xs : List Nat)[Int.toNat i]? with
      | some x1 => (match ((decide (((ss.length : Int)) = (5 : Int)) && (decide (0 = 0) && (decide (0 ≤ i ∧ i < (ys.length : Int)) && (Nat.beq (ss : List Nat).length 5 && Nat.beq (ts : List Nat).length 3)))) : Bool) with
        | true => iterK a32 [1, 6, 7, 20, 21, 22] [6, 7] (codeK T6 a32 l32 Try.f32.ntmps (loopAt Try.f32 0)) m ⟨[(1, .fv (.vw (some 1) ⟨.f32, ys⟩)), (6, .fv (.own 0)), (7, .fv (.own 1)), (20, .fv (.vw (some 0) ⟨.f32, xs⟩)), (21, .fv (.el (.sc (.int .i64 n)))), (22, .fv (.el (.sc (.int .i64 (IntKind.i64.wrap (i + 1))))))], [some ⟨29, ⟨.f32, (rep (lampK (ys.getD i.toNat 0) x1) (5) 0 (((ss : List Nat), (ts : List Nat), 1065353216) : (List Nat) × (List Nat) × Nat)).1⟩⟩, some ⟨29, ⟨.f32, (rep (lampK (ys.getD i.toNat 0) x1) (5) 0 (((ss : List Nat), (ts : List Nat), 1065353216) : (List Nat) × (List Nat) × Nat)).2.1⟩⟩]⟩ k
        | false => none)
      | none => none)
    | false => none)
  | false => k (.exit 0) ⟨[(6, .fv (.own 0)), (7, .fv (.own 1))], [some ⟨29, ⟨.f32, ss⟩⟩, some ⟨29, ⟨.f32, ts⟩⟩]⟩) := by kernel_rfl
theorem ind32 (ys : List Nat) (xs : List Nat) (hx : (Nat.ble xs.length big) = true) (hl : (Nat.beq xs.length ys.length) = true) (k : Ex → St → R) : ∀ (m j : Nat) (ss : List Nat) (ts : List Nat), ss.length = 5 → ts.length = 3 → 0 ≤ j → j + m = xs.length → iterK a32 [1, 6, 7, 20, 21, 22] [6, 7] (codeK T6 a32 l32 Try.f32.ntmps (loopAt Try.f32 0)) (m + 1) ⟨[(1, .fv (.vw (some 1) ⟨.f32, ys⟩)), (6, .fv (.own 0)), (7, .fv (.own 1)), (20, .fv (.vw (some 0) ⟨.f32, xs⟩)), (21, .fv (.el (.sc (.int .i64 (xs.length : Int))))), (22, .fv (.el (.sc (.int .i64 (j : Int)))))], [some ⟨29, ⟨.f32, ss⟩⟩, some ⟨29, ⟨.f32, ts⟩⟩]⟩ k =
    k (.exit 0) ⟨[(6, .fv (.own 0)), (7, .fv (.own 1))], [some ⟨29, ⟨.f32, [((rep (lampI xs ys) m j ((ss, ts) : (List Nat) × (List Nat))).1).getD 0 0, ((rep (lampI xs ys) m j ((ss, ts) : (List Nat) × (List Nat))).1).getD 1 0, ((rep (lampI xs ys) m j ((ss, ts) : (List Nat) × (List Nat))).1).getD 2 0, ((rep (lampI xs ys) m j ((ss, ts) : (List Nat) × (List Nat))).1).getD 3 0, ((rep (lampI xs ys) m j ((ss, ts) : (List Nat) × (List Nat))).1).getD 4 0]⟩⟩, some ⟨29, ⟨.f32, [((rep (lampI xs ys) m j ((ss, ts) : (List Nat) × (List Nat))).2).getD 0 0, ((rep (lampI xs ys) m j ((ss, ts) : (List Nat) × (List Nat))).2).getD 1 0, ((rep (lampI xs ys) m j ((ss, ts) : (List Nat) × (List Nat))).2).getD 2 0]⟩⟩]⟩ := by
  intro m
  induction m with
  | zero =>
    intro j ss ts hs0 hs1 hlo hj
    have hx_ := big_le hx
    have h1 : ¬ (((j : Int) < (xs.length : Int))) := by omega
    rw [st32]
    simp only [h1, rep, decide_false]
    rw [← expl5 hs0, ← expl3 hs1]
  | succ m ih =>
    intro j ss ts hs0 hs1 hlo hj
    have hx_ := big_le hx
    have h1 : ((j : Int) < (xs.length : Int)) := by omega
    have wn : IntKind.i64.wrap ((j : Int) + 1) = ((j + 1 : Nat) : Int) := wrapN (by omega) (by omega)
    rw [st32]
    simp only [h1, wn, and_self, decide_true, Bool.and_true, Int.le_refl]
    have z0 : decide ((0 : Int) = 0) = true := rfl
    have z3 : decide (((xs.length : Nat) : Int) = ((xs.length : Nat) : Int)) = true := decide_eq_true rfl
    have z4 : decide ((((ss.length : Nat)) : Int) = 5) = true := by rw [hs0]; rfl
    have z1 : Nat.beq ss.length 5 = true := by rw [hs0]; rfl
    have z2 : Nat.beq ts.length 3 = true := by rw [hs1]; rfl
    have jb : (0 : Int) ≤ ((j : Nat) : Int) ∧ ((j : Nat) : Int) < (xs.length : Int) := by omega
    have hl2 := Nat.eq_of_beq_eq_true hl
    have jy : ((j : Nat) : Int) < (ys.length : Int) := by omega
    have xe : xs[j]? = some (xs.getD j 0) := getq (by omega)
    simp only [z0, z4, z1, z2, jb, jy, xe, hl, z3, true_and, and_self, decide_true, Bool.and_self, Bool.and_true, Int.toNat_natCast]
    exact ih (j + 1) (lampI xs ys j (ss, ts)).1 (lampI xs ys j (ss, ts)).2 (by rw [show (lampI xs ys j (ss, ts)).1.length = ss.length from (lampK_len _ _ 5 0 _).1]; exact hs0) (by rw [show (lampI xs ys j (ss, ts)).2.length = ts.length from (lampK_len _ _ 5 0 _).2]; exact hs1) (by omega) (by omega)

theorem lk32 : LOK T6 a32 l32 Try.f32.ntmps (loopAt Try.f32 0) := by
  intro ins outs hA s k out h
  have hA' : ([1, 6, 7, 20, 21, 22], [6, 7]) = (ins, outs) := Option.some.inj ((show a32.lp (firstRegion (loopAt Try.f32 0)) = some ([1, 6, 7, 20, 21, 22], [6, 7]) by kernel_rfl).symm.trans hA)
  cases hA'
  have hk : firstRegion (loopAt Try.f32 0) = 5 := by kernel_rfl
  rw [hk] at h
  change lp32 s k = some out at h
  unfold lp32 at h
  split at h
  · rename_i ys xs n i ss ts
    cases hg : (decide (n = (xs.length : Int)) && (decide (i = 0) && (Nat.ble xs.length big && (Nat.beq xs.length ys.length && (Nat.beq ss.length 5 && Nat.beq ts.length 3))))) with
    | false => rw [hg] at h; cases h
    | true =>
      rw [hg] at h
      simp only [Bool.and_eq_true, decide_eq_true_eq] at hg
      obtain ⟨rfl, rfl, hx, hl, gs0, gs1⟩ := hg
      refine ⟨(xs.length) + 1, ?_⟩
      have hx_ := big_le hx
      have gs0_ := Nat.eq_of_beq_eq_true gs0
      have gs1_ := Nat.eq_of_beq_eq_true gs1
      exact (ind32 ys xs hx hl k (xs.length) 0 ss ts (by omega) (by omega) (by omega) (by omega)).trans h
  · cases h
theorem st32_1 (ys : List Nat) (i : Int) (x : Nat) (pw : Nat) (xs : List Nat) (n : Int) (z : Int) (n5 : Int) (q : Int) (ss : List Nat) (ts : List Nat) (m : Nat) (k : Ex → St → R) : iterK a32 [1, 6, 7, 8, 9, 10, 20, 21, 22, 28, 29] [1, 6, 7, 20, 21, 22] (codeK T6 a32 l32 Try.f32.ntmps (loopAt Try.f32 1)) (m + 1) ⟨[(1, .fv (.vw (some 1) ⟨.f32, ys⟩)), (6, .fv (.own 0)), (7, .fv (.own 1)), (8, .fv (.el (.sc (.int .i64 i)))), (9, .fv (.el (.sc (.fl .f32 x)))), (10, .fv (.el (.sc (.fl .f32 pw)))), (20, .fv (.vw (some 0) ⟨.f32, xs⟩)), (21, .fv (.el (.sc (.int .i64 n)))), (22, .fv (.el (.sc (.int .i64 z)))), (28, .fv (.el (.sc (.int .i64 n5)))), (29, .fv (.el (.sc (.int .i64 q))))], [some ⟨29, ⟨.f32, ss⟩⟩, some ⟨29, ⟨.f32, ts⟩⟩]⟩ k = (match (decide ((q : Int) < n5) : Bool) with
  | true => (match (decide (0 ≤ (q : Int) ∧ (q : Int) < (ss.length : Int)) && true : Bool) with
    | true => (match (ss : List Nat)[Int.toNat q]? with
      | some x1 => (match (decide (0 ≤ (q : Int) ∧ (q : Int) < (ss.length : Int)) && true : Bool) with
        | true => (match (ss : List Nat)[Int.toNat q]? with
          | some x2 => (match (decide ((q : Int) < 3) : Bool) with
            | true => (match (decide (0 ≤ (q : Int) ∧ (q : Int) < (ts.length : Int)) && true : Bool) with
              | true => (match (ts : List Nat)[Int.toNat q]? with
                | some x3 => (match (decide (0 ≤ (i : Int) ∧ (i : Int) < (ys.length : Int)) && true : Bool) with
                  | true => (match (ys : List Nat)[Int.toNat i]? with
                    | some x4 => (match (decide (0 ≤ (q : Int) ∧ (q : Int) < (ts.length : Int)) && true : Bool) with
                      | true => (match (ts : List Nat)[Int.toNat q]? with
                        | some x5 => iterK a32 [1, 6, 7, 8, 9, 10, 20, 21, 22, 28, 29] [1, 6, 7, 20, 21, 22] (codeK T6 a32 l32 Try.f32.ntmps (loopAt Try.f32 1)) m ⟨[(1, .fv (.vw (some 1) ⟨.f32, ys⟩)), (6, .fv (.own 0)), (7, .fv (.own 1)), (8, .fv (.el (.sc (.int .i64 i)))), (9, .fv (.el (.sc (.fl .f32 x)))), (10, .fv (.el (.sc (.fl .f32 (fop .mul .f32 pw x))))), (20, .fv (.vw (some 0) ⟨.f32, xs⟩)), (21, .fv (.el (.sc (.int .i64 n)))), (22, .fv (.el (.sc (.int .i64 z)))), (28, .fv (.el (.sc (.int .i64 n5)))), (29, .fv (.el (.sc (.int .i64 (IntKind.i64.wrap (q + 1))))))], [some ⟨29, ⟨.f32, (ss : List Nat).set (Int.toNat q) (fop .add .f32 x1 pw)⟩⟩, some ⟨29, ⟨.f32, (ts : List Nat).set (Int.toNat q) (fop .add .f32 x3 (fop .mul .f32 pw x4))⟩⟩]⟩ k
                        | none => none)
                      | false => none)
                    | none => none)
                  | false => none)
                | none => none)
              | false => none)
            | false => iterK a32 [1, 6, 7, 8, 9, 10, 20, 21, 22, 28, 29] [1, 6, 7, 20, 21, 22] (codeK T6 a32 l32 Try.f32.ntmps (loopAt Try.f32 1)) m ⟨[(1, .fv (.vw (some 1) ⟨.f32, ys⟩)), (6, .fv (.own 0)), (7, .fv (.own 1)), (8, .fv (.el (.sc (.int .i64 i)))), (9, .fv (.el (.sc (.fl .f32 x)))), (10, .fv (.el (.sc (.fl .f32 (fop .mul .f32 pw x))))), (20, .fv (.vw (some 0) ⟨.f32, xs⟩)), (21, .fv (.el (.sc (.int .i64 n)))), (22, .fv (.el (.sc (.int .i64 z)))), (28, .fv (.el (.sc (.int .i64 n5)))), (29, .fv (.el (.sc (.int .i64 (IntKind.i64.wrap (q + 1))))))], [some ⟨29, ⟨.f32, (ss : List Nat).set (Int.toNat q) (fop .add .f32 x1 pw)⟩⟩, some ⟨29, ⟨.f32, ts⟩⟩]⟩ k)
          | none => none)
        | false => none)
      | none => none)
    | false => none)
  | false => k (.exit 2) ⟨[(1, .fv (.vw (some 1) ⟨.f32, ys⟩)), (6, .fv (.own 0)), (7, .fv (.own 1)), (20, .fv (.vw (some 0) ⟨.f32, xs⟩)), (21, .fv (.el (.sc (.int .i64 n)))), (22, .fv (.el (.sc (.int .i64 z))))], [some ⟨29, ⟨.f32, ss⟩⟩, some ⟨29, ⟨.f32, ts⟩⟩]⟩) := by kernel_rfl
theorem ind32_1 (ys : List Nat) (i : Int) (x : Nat) (xs : List Nat) (n : Int) (z : Int) (hi : (decide (0 ≤ i ∧ i < (ys.length : Int))) = true) (k : Ex → St → R) : ∀ (m j : Nat) (ss : List Nat) (ts : List Nat) (pw : Nat), ss.length = 5 → ts.length = 3 → 0 ≤ j → j + m = 5 → iterK a32 [1, 6, 7, 8, 9, 10, 20, 21, 22, 28, 29] [1, 6, 7, 20, 21, 22] (codeK T6 a32 l32 Try.f32.ntmps (loopAt Try.f32 1)) (m + 1) ⟨[(1, .fv (.vw (some 1) ⟨.f32, ys⟩)), (6, .fv (.own 0)), (7, .fv (.own 1)), (8, .fv (.el (.sc (.int .i64 i)))), (9, .fv (.el (.sc (.fl .f32 x)))), (10, .fv (.el (.sc (.fl .f32 pw)))), (20, .fv (.vw (some 0) ⟨.f32, xs⟩)), (21, .fv (.el (.sc (.int .i64 n)))), (22, .fv (.el (.sc (.int .i64 z)))), (28, .fv (.el (.sc (.int .i64 (5 : Int))))), (29, .fv (.el (.sc (.int .i64 (j : Int)))))], [some ⟨29, ⟨.f32, ss⟩⟩, some ⟨29, ⟨.f32, ts⟩⟩]⟩ k =
    k (.exit 2) ⟨[(1, .fv (.vw (some 1) ⟨.f32, ys⟩)), (6, .fv (.own 0)), (7, .fv (.own 1)), (20, .fv (.vw (some 0) ⟨.f32, xs⟩)), (21, .fv (.el (.sc (.int .i64 n)))), (22, .fv (.el (.sc (.int .i64 z))))], [some ⟨29, ⟨.f32, (rep (lampK (ys.getD i.toNat 0) x) m j ((ss, ts, pw) : (List Nat) × (List Nat) × Nat)).1⟩⟩, some ⟨29, ⟨.f32, (rep (lampK (ys.getD i.toNat 0) x) m j ((ss, ts, pw) : (List Nat) × (List Nat) × Nat)).2.1⟩⟩]⟩ := by
  intro m
  induction m with
  | zero =>
    intro j ss ts pw hs0 hs1 hlo hj
    have h1 : ¬ (((j : Int) < (5 : Int))) := by omega
    rw [st32_1]
    simp only [h1, rep, decide_false, Int.toNat_natCast] <;> rfl
  | succ m ih =>
    intro j ss ts pw hs0 hs1 hlo hj
    have h1 : ((j : Int) < (5 : Int)) := by omega
    have kb : (0 : Int) ≤ ((j : Nat) : Int) ∧ ((j : Nat) : Int) < (ss.length : Int) := by omega
    have ke : ss[j]? = some (ss.getD j 0) := getq (by omega)
    have iby : 0 ≤ i ∧ i < (ys.length : Int) := of_decide_eq_true hi
    have ye : ys[Int.toNat i]? = some (ys.getD i.toNat 0) := getq (by omega)
    have wn : IntKind.i64.wrap ((j : Int) + 1) = ((j + 1 : Nat) : Int) := wrapN (by omega) (by omega)
    rw [st32_1]
    simp only [h1, wn, kb, ke, iby, ye, and_self, decide_true, Bool.and_true, Int.le_refl, Int.toNat_natCast]
    rw [rep_succ]
    cases h3 : decide ((j : Int) < 3) with
    | true =>
      have h4 := of_decide_eq_true h3
      have tb : (0 : Int) ≤ (j : Int) ∧ (j : Int) < (ts.length : Int) := by omega
      have te : ts[j]? = some (ts.getD j 0) := getq (by omega)
      have hK : lampK (ys.getD i.toNat 0) x j (ss, ts, pw) = (ss.set j (fop .add .f32 (ss.getD j 0) pw), ts.set j (fop .add .f32 (ts.getD j 0) (fop .mul .f32 pw (ys.getD i.toNat 0))), fop .mul .f32 pw x) := by
        unfold lampK
        dsimp only
        rw [h3]
        rfl
      rw [hK]
      simp only [tb, te, iby, ye, and_self, decide_true, Bool.and_true]
      exact ih (j + 1) _ _ _ (by simpa using hs0) (by simpa using hs1) (by omega) (by omega)
    | false =>
      have hK : lampK (ys.getD i.toNat 0) x j (ss, ts, pw) = (ss.set j (fop .add .f32 (ss.getD j 0) pw), ts, fop .mul .f32 pw x) := by
        unfold lampK
        dsimp only
        rw [h3]
        rfl
      rw [hK]
      exact ih (j + 1) _ _ _ (by simpa using hs0) (by simpa using hs1) (by omega) (by omega)

theorem lk32_1 : LOK T6 a32 l32 Try.f32.ntmps (loopAt Try.f32 1) := by
  intro ins outs hA s k out h
  have hA' : ([1, 6, 7, 8, 9, 10, 20, 21, 22, 28, 29], [1, 6, 7, 20, 21, 22]) = (ins, outs) := Option.some.inj ((show a32.lp (firstRegion (loopAt Try.f32 1)) = some ([1, 6, 7, 8, 9, 10, 20, 21, 22, 28, 29], [1, 6, 7, 20, 21, 22]) by kernel_rfl).symm.trans hA)
  cases hA'
  have hk : firstRegion (loopAt Try.f32 1) = 9 := by kernel_rfl
  rw [hk] at h
  change lp32_1 s k = some out at h
  unfold lp32_1 at h
  split at h
  · rename_i ys i x pw xs n z n5 q ss ts
    cases hg : (decide (n5 = (5 : Int)) && (decide (q = 0) && (decide (0 ≤ i ∧ i < (ys.length : Int)) && (Nat.beq ss.length 5 && Nat.beq ts.length 3)))) with
    | false => rw [hg] at h; cases h
    | true =>
      rw [hg] at h
      simp only [Bool.and_eq_true, decide_eq_true_eq] at hg
      obtain ⟨rfl, rfl, hi, gs0, gs1⟩ := hg
      refine ⟨(5) + 1, ?_⟩
      have gs0_ := Nat.eq_of_beq_eq_true gs0
      have gs1_ := Nat.eq_of_beq_eq_true gs1
      exact (ind32_1 ys i x xs n z (decide_eq_true hi) k (5) 0 ss ts pw (by omega) (by omega) (by omega) (by omega)).trans h
  · cases h
theorem e32 (xs : List Nat) (ys : List Nat) : runFnU T6 a32 l32 (oneG 59 (gfOf T6 none0 noL noG 12 Try.f59)) 12 Try.f32 [.vw none ⟨.f32, xs⟩, .vw none ⟨.f32, ys⟩] = (match (!(lamps xs ys 3) : Bool) with
  | true => some ⟨[.nil, .el (.sc (.bo false))], none⟩
  | false => (match ((decide (((xs.length : Int)) = (xs.length : Int)) && (decide (0 = 0) && (Nat.ble xs.length big && (Nat.beq xs.length ys.length && (Nat.beq (List.replicate (Int.toNat 5) ((0 : Nat)) : List Nat).length 5 && Nat.beq (List.replicate (Int.toNat 3) ((0 : Nat)) : List Nat).length 3))))) : Bool) with
    | true => (sol0 gtM (((rep (lampI xs ys) (xs.length) 0 (((List.replicate (Int.toNat 5) ((0 : Nat)) : List Nat), (List.replicate (Int.toNat 3) ((0 : Nat)) : List Nat)) : (List Nat) × (List Nat))).1).getD 0 0, ((rep (lampI xs ys) (xs.length) 0 (((List.replicate (Int.toNat 5) ((0 : Nat)) : List Nat), (List.replicate (Int.toNat 3) ((0 : Nat)) : List Nat)) : (List Nat) × (List Nat))).1).getD 1 0, ((rep (lampI xs ys) (xs.length) 0 (((List.replicate (Int.toNat 5) ((0 : Nat)) : List Nat), (List.replicate (Int.toNat 3) ((0 : Nat)) : List Nat)) : (List Nat) × (List Nat))).1).getD 2 0, ((rep (lampI xs ys) (xs.length) 0 (((List.replicate (Int.toNat 5) ((0 : Nat)) : List Nat), (List.replicate (Int.toNat 3) ((0 : Nat)) : List Nat)) : (List Nat) × (List Nat))).2).getD 0 0) (((rep (lampI xs ys) (xs.length) 0 (((List.replicate (Int.toNat 5) ((0 : Nat)) : List Nat), (List.replicate (Int.toNat 3) ((0 : Nat)) : List Nat)) : (List Nat) × (List Nat))).1).getD 1 0, ((rep (lampI xs ys) (xs.length) 0 (((List.replicate (Int.toNat 5) ((0 : Nat)) : List Nat), (List.replicate (Int.toNat 3) ((0 : Nat)) : List Nat)) : (List Nat) × (List Nat))).1).getD 2 0, ((rep (lampI xs ys) (xs.length) 0 (((List.replicate (Int.toNat 5) ((0 : Nat)) : List Nat), (List.replicate (Int.toNat 3) ((0 : Nat)) : List Nat)) : (List Nat) × (List Nat))).1).getD 3 0, ((rep (lampI xs ys) (xs.length) 0 (((List.replicate (Int.toNat 5) ((0 : Nat)) : List Nat), (List.replicate (Int.toNat 3) ((0 : Nat)) : List Nat)) : (List Nat) × (List Nat))).2).getD 1 0) (((rep (lampI xs ys) (xs.length) 0 (((List.replicate (Int.toNat 5) ((0 : Nat)) : List Nat), (List.replicate (Int.toNat 3) ((0 : Nat)) : List Nat)) : (List Nat) × (List Nat))).1).getD 2 0, ((rep (lampI xs ys) (xs.length) 0 (((List.replicate (Int.toNat 5) ((0 : Nat)) : List Nat), (List.replicate (Int.toNat 3) ((0 : Nat)) : List Nat)) : (List Nat) × (List Nat))).1).getD 3 0, ((rep (lampI xs ys) (xs.length) 0 (((List.replicate (Int.toNat 5) ((0 : Nat)) : List Nat), (List.replicate (Int.toNat 3) ((0 : Nat)) : List Nat)) : (List Nat) × (List Nat))).1).getD 4 0, ((rep (lampI xs ys) (xs.length) 0 (((List.replicate (Int.toNat 5) ((0 : Nat)) : List Nat), (List.replicate (Int.toNat 3) ((0 : Nat)) : List Nat)) : (List Nat) × (List Nat))).2).getD 2 0) (fun l => (match (Nat.ble l.length big : Bool) with
        | true => (match (l.all fin : Bool) with
          | true => some ⟨[.fresh 29 ⟨.f32, l⟩, .el (.sc (.bo true))], none⟩
          | false => some ⟨[.nil, .el (.sc (.bo false))], none⟩)
        | false => none)) (some ⟨[.nil, .el (.sc (.bo false))], none⟩))
    | false => none)) := by kernel_rfl
theorem s32 (xs : List Nat) (ys : List Nat) : runFnU T6 a32 l32 (oneG 59 (gfOf T6 none0 noL noG 12 Try.f59)) 12 Try.f32 [.vw none ⟨.f32, xs⟩, .vw none ⟨.f32, ys⟩] = (match (lmpOk xs ys : Bool) with
  | true => some ⟨[.fresh 29 ⟨.f32, lmpX xs ys⟩, .el (.sc (.bo true))], none⟩
  | false => some ⟨[.nil, .el (.sc (.bo false))], none⟩) := by
  rw [e32]
  cases hb : lamps xs ys 3 with
  | false =>
    unfold lmpOk
    rw [hb]
    rfl
  | true =>
  have hlen : xs.length ≤ 16 ∧ ys.length = xs.length := by
    have h1 := hb
    unfold lamps at h1
    simp only [Bool.and_eq_true, decide_eq_true_eq] at h1
    exact ⟨h1.2.1, h1.2.2.1⟩
  have hx : Nat.ble xs.length big = true := big_of (by omega)
  have hy : Nat.ble ys.length big = true := big_of (by omega)
  have hl : Nat.beq xs.length ys.length = true := by rw [hlen.2]; exact Nat.beq_refl _
  have d1 : decide (0 ≤ (5 : Int) ∧ (5 : Int) = 5 ∧ (5 : Int) ≤ 1099511627776) = true := rfl
  have d2 : decide (0 ≤ (3 : Int) ∧ (3 : Int) = 3 ∧ (3 : Int) ≤ 1099511627776) = true := rfl
  have d3 : Nat.beq (List.replicate (Int.toNat 5) (0 : Nat)).length 5 = true := rfl
  have d4 : Nat.beq (List.replicate (Int.toNat 3) (0 : Nat)).length 3 = true := rfl
  have d5 : decide ((0 : Int) = 0) = true := rfl
  have d6 : decide ((xs.length : Int) = (xs.length : Int)) = true := decide_eq_true rfl
  simp only [d1, d2, d3, d4, d5, d6, hx, hy, hl, Bool.not_true, Bool.and_self]
  refine Eq.trans (lampE_nat gtM (lmpS xs ys) _ _) ?_
  unfold lmpOk lmpX
  rw [hb]
  cases hs : lampE gtM (lmpS xs ys) some none with
  | none => rfl
  | some l =>
    have hll : l.length = 3 := sol0_len hs
    have hbl : Nat.ble l.length big = true := big_of (by omega)
    dsimp only
    simp only [hbl, Bool.true_and]
    all_goals (cases l.all fin <;> rfl)
theorem c32 (xs : List Nat) (ys : List Nat) (k : List RV → R) (out : Out) (h : k [.fresh 29 ⟨.f32, orNil (lmpOk xs ys) (lmpX xs ys)⟩, .el (.sc (.bo (lmpOk xs ys)))] = some out) : ∃ rs, Real Try.prog 32 ∧ COK Try.prog 32 [.vw none ⟨.f32, xs⟩, .vw none ⟨.f32, ys⟩] rs ∧ k rs = some out := by
  cases g0 : (lmpOk xs ys : Bool) with
  | true =>
    rw [g0] at h
    exact ⟨_, real Try.func32 (by kernel_rfl), fnU_ok tok6 (G := oneG 59 (gfOf T6 none0 noL noG 12 Try.f59)) (fuel := 12) (oneG_ok ⟨real Try.func59 (by kernel_rfl), gfOf_ok tok6 noG_ok Try.func59 (by kernel_rfl) loopsU0⟩) (A := a32) (L := l32) (r := none) Try.func32 (by kernel_rfl) (by kernel_rfl) (loopsU_of (loops2 (by kernel_rfl) lk32 lk32_1)) (by rw [s32, g0]; rfl), h⟩
  | false =>
    rw [g0] at h
    exact ⟨_, real Try.func32 (by kernel_rfl), COK.nil (fnU_ok tok6 (G := oneG 59 (gfOf T6 none0 noL noG 12 Try.f59)) (fuel := 12) (oneG_ok ⟨real Try.func59 (by kernel_rfl), gfOf_ok tok6 noG_ok Try.func59 (by kernel_rfl) loopsU0⟩) (A := a32) (L := l32) (r := none) Try.func32 (by kernel_rfl) (by kernel_rfl) (loopsU_of (loops2 (by kernel_rfl) lk32 lk32_1)) (by rw [s32, g0] <;> rfl)), h⟩

def S7 : SFn := fun f args k => match f, args with
  | 32, [.vw none ⟨.f32, xs⟩, .vw none ⟨.f32, ys⟩] => k [.fresh 29 ⟨.f32, orNil (lmpOk xs ys) (lmpX xs ys)⟩, .el (.sc (.bo (lmpOk xs ys)))]
  | _, _ => S6 f args k
abbrev M7 : MFn := M6
def T7 : TT := tab.T S7 muts M7
theorem tok7 : TOK Try.prog T7 := by
  refine (tab_ok tabok).tok (fun f args k out h => ?_) (fun f vec args k out h => ?_)
  · change S7 f args k = some out at h
    unfold S7 at h
    split at h
    · exact (fun k out h => cok_call (c32 _ _ k out h)) k out h
    · exact tok6.S f args k out h
  · exact tok6.M f vec args k out h

end Go.Sm.Ytngcejakoaoojaa
