/- What the functions hand back: level 3. -/
import Derived.Test.YtngcejakoaoojaaD3
namespace Go.Sm.Ytngcejakoaoojaa
open Go Go.Sm Go.RowKit Go.Proofs

/-! spec.LampCurve -/
def a31 : Ann := ann [(6, [0, 1, 6, 7, 8], [6, 7]), (10, [0, 1, 6, 7, 8, 9, 10], [0, 1, 6, 7, 8])] [4, 5] 0
def lp31 : St → (Ex → St → R) → R := fun s k => match s with
  | ⟨[(0, .fv (.vw (some 0) ⟨.f32, xs⟩)), (1, .fv (.vw (some 1) ⟨.f32, ys⟩)), (6, .fv (.own 0)), (7, .fv (.own 1)), (8, .fv (.el (.sc (.int .i64 i))))], [some ⟨29, ⟨.f32, ss⟩⟩, some ⟨29, ⟨.f32, ts⟩⟩]⟩ => (match ((decide (i = 0) && (Nat.ble xs.length big && (Nat.beq xs.length ys.length && (Nat.beq (ss : List Nat).length 5 && Nat.beq (ts : List Nat).length 3)))) : Bool) with
    | true => k (.exit 0) ⟨[(6, .fv (.own 0)), (7, .fv (.own 1))], [some ⟨29, ⟨.f32, [((rep (lampI xs ys) (xs.length) 0 (((ss : List Nat), (ts : List Nat)) : (List Nat) × (List Nat))).1).getD 0 0, ((rep (lampI xs ys) (xs.length) 0 (((ss : List Nat), (ts : List Nat)) : (List Nat) × (List Nat))).1).getD 1 0, ((rep (lampI xs ys) (xs.length) 0 (((ss : List Nat), (ts : List Nat)) : (List Nat) × (List Nat))).1).getD 2 0, ((rep (lampI xs ys) (xs.length) 0 (((ss : List Nat), (ts : List Nat)) : (List Nat) × (List Nat))).1).getD 3 0, ((rep (lampI xs ys) (xs.length) 0 (((ss : List Nat), (ts : List Nat)) : (List Nat) × (List Nat))).1).getD 4 0]⟩⟩, some ⟨29, ⟨.f32, [((rep (lampI xs ys) (xs.length) 0 (((ss : List Nat), (ts : List Nat)) : (List Nat) × (List Nat))).2).getD 0 0, ((rep (lampI xs ys) (xs.length) 0 (((ss : List Nat), (ts : List Nat)) : (List Nat) × (List Nat))).2).getD 1 0, ((rep (lampI xs ys) (xs.length) 0 (((ss : List Nat), (ts : List Nat)) : (List Nat) × (List Nat))).2).getD 2 0]⟩⟩]⟩
    | false => none)
  | _ => none
def lp31_1 : St → (Ex → St → R) → R := fun s k => match s with
  | ⟨[(0, .fv (.vw (some 0) ⟨.f32, xs⟩)), (1, .fv (.vw (some 1) ⟨.f32, ys⟩)), (6, .fv (.own 0)), (7, .fv (.own 1)), (8, .fv (.el (.sc (.int .i64 i)))), (9, .fv (.el (.sc (.fl .f32 pw)))), (10, .fv (.el (.sc (.int .i64 q))))], [some ⟨29, ⟨.f32, ss⟩⟩, some ⟨29, ⟨.f32, ts⟩⟩]⟩ => (match ((decide (q = 0) && (decide (0 ≤ i ∧ i < (xs.length : Int)) && (Nat.beq xs.length ys.length && (Nat.beq (ss : List Nat).length 5 && Nat.beq (ts : List Nat).length 3)))) : Bool) with
    | true => k (.exit 2) ⟨[(0, .fv (.vw (some 0) ⟨.f32, xs⟩)), (1, .fv (.vw (some 1) ⟨.f32, ys⟩)), (6, .fv (.own 0)), (7, .fv (.own 1)), (8, .fv (.el (.sc (.int .i64 i))))], [some ⟨29, ⟨.f32, (rep (lampK (ys.getD i.toNat 0) (xs.getD i.toNat 0)) (5) 0 (((ss : List Nat), (ts : List Nat), pw) : (List Nat) × (List Nat) × Nat)).1⟩⟩, some ⟨29, ⟨.f32, (rep (lampK (ys.getD i.toNat 0) (xs.getD i.toNat 0)) (5) 0 (((ss : List Nat), (ts : List Nat), pw) : (List Nat) × (List Nat) × Nat)).2.1⟩⟩]⟩
    | false => none)
  | _ => none
def l31 : Loops := fun key s k => bif Nat.beq key 6 then lp31 s k else bif Nat.beq key 10 then lp31_1 s k else none
theorem st31 (xs : List Nat) (ys : List Nat) (i : Int) (ss : List Nat) (ts : List Nat) (m : Nat) (k : Ex → St → R) : iterK a31 [0, 1, 6, 7, 8] [6, 7] (codeK T3 a31 l31 Try.f31.ntmps (loopAt Try.f31 0)) (m + 1) ⟨[(0, .fv (.vw (some 0) ⟨.f32, xs⟩)), (1, .fv (.vw (some 1) ⟨.f32, ys⟩)), (6, .fv (.own 0)), (7, .fv (.own 1)), (8, .fv (.el (.sc (.int .i64 i))))], [some ⟨29, ⟨.f32, ss⟩⟩, some ⟨29, ⟨.f32, ts⟩⟩]⟩ k = (match (decide ((i : Int) < (xs.length : Int)) : Bool) with
  | true => (match ((decide (0 = 0) && (decide (0 ≤ i ∧ i < (xs.length : Int)) && (Nat.beq xs.length ys.length && (Nat.beq (ss : List Nat).length 5 && Nat.beq (ts : List Nat).length 3)))) : Bool) with
    | true => iterK a31 [0, 1, 6, 7, 8] [6, 7] (codeK T3 a31 l31 Try.f31.ntmps (loopAt Try.f31 0)) m ⟨[(0, .fv (.vw (some 0) ⟨.f32, xs⟩)), (1, .fv (.vw (some 1) ⟨.f32, ys⟩)), (6, .fv (.own 0)), (7, .fv (.own 1)), (8, .fv (.el (.sc (.int .i64 (IntKind.i64.wrap (i + 1))))))], [some ⟨29, ⟨.f32, (rep (lampK (ys.getD i.toNat 0) (xs.getD i.toNat 0)) (5) 0 (((ss : List Nat), (ts : List Nat), 1065353216) : (List Nat) × (List Nat) × Nat)).1⟩⟩, some ⟨29, ⟨.f32, (rep (lampK (ys.getD i.toNat 0) (xs.getD i.toNat 0)) (5) 0 (((ss : List Nat), (ts : List Nat), 1065353216) : (List Nat) × (List Nat) × Nat)).2.1⟩⟩]⟩ k
    | false => none)
  | false => k (.exit 0) ⟨[(6, .fv (.own 0)), (7, .fv (.own 1))], [some ⟨29, ⟨.f32, ss⟩⟩, some ⟨29, ⟨.f32, ts⟩⟩]⟩) := by kernel_rfl
theorem ind31 (xs : List Nat) (ys : List Nat) (hx : (Nat.ble xs.length big) = true) (hl : (Nat.beq xs.length ys.length) = true) (k : Ex → St → R) : ∀ (m j : Nat) (ss : List Nat) (ts : List Nat), ss.length = 5 → ts.length = 3 → 0 ≤ j → j + m = xs.length → iterK a31 [0, 1, 6, 7, 8] [6, 7] (codeK T3 a31 l31 Try.f31.ntmps (loopAt Try.f31 0)) (m + 1) ⟨[(0, .fv (.vw (some 0) ⟨.f32, xs⟩)), (1, .fv (.vw (some 1) ⟨.f32, ys⟩)), (6, .fv (.own 0)), (7, .fv (.own 1)), (8, .fv (.el (.sc (.int .i64 (j : Int)))))], [some ⟨29, ⟨.f32, ss⟩⟩, some ⟨29, ⟨.f32, ts⟩⟩]⟩ k =
    k (.exit 0) ⟨[(6, .fv (.own 0)), (7, .fv (.own 1))], [some ⟨29, ⟨.f32, [((rep (lampI xs ys) m j ((ss, ts) : (List Nat) × (List Nat))).1).getD 0 0, ((rep (lampI xs ys) m j ((ss, ts) : (List Nat) × (List Nat))).1).getD 1 0, ((rep (lampI xs ys) m j ((ss, ts) : (List Nat) × (List Nat))).1).getD 2 0, ((rep (lampI xs ys) m j ((ss, ts) : (List Nat) × (List Nat))).1).getD 3 0, ((rep (lampI xs ys) m j ((ss, ts) : (List Nat) × (List Nat))).1).getD 4 0]⟩⟩, some ⟨29, ⟨.f32, [((rep (lampI xs ys) m j ((ss, ts) : (List Nat) × (List Nat))).2).getD 0 0, ((rep (lampI xs ys) m j ((ss, ts) : (List Nat) × (List Nat))).2).getD 1 0, ((rep (lampI xs ys) m j ((ss, ts) : (List Nat) × (List Nat))).2).getD 2 0]⟩⟩]⟩ := by
  intro m
  induction m with
  | zero =>
    intro j ss ts hs0 hs1 hlo hj
    have hx_ := big_le hx
    have h1 : ¬ (((j : Int) < (xs.length : Int))) := by omega
    rw [st31]
    simp only [h1, rep, decide_false]
    rw [← expl5 hs0, ← expl3 hs1]
  | succ m ih =>
    intro j ss ts hs0 hs1 hlo hj
    have hx_ := big_le hx
    have h1 : ((j : Int) < (xs.length : Int)) := by omega
    have wn : IntKind.i64.wrap ((j : Int) + 1) = ((j + 1 : Nat) : Int) := wrapN (by omega) (by omega)
    rw [st31]
    simp only [h1, wn, and_self, decide_true, Bool.and_true, Int.le_refl]
    have z0 : decide ((0 : Int) = 0) = true := rfl
    have z1 : Nat.beq ss.length 5 = true := by rw [hs0]; rfl
    have z2 : Nat.beq ts.length 3 = true := by rw [hs1]; rfl
    have jb : (0 : Int) ≤ ((j : Nat) : Int) ∧ ((j : Nat) : Int) < (xs.length : Int) := by omega
    have xe : xs[j]? = some (xs.getD j 0) := getq (by omega)
    simp only [z0, z1, z2, jb, xe, hl, and_self, decide_true, Bool.and_self, Bool.and_true, Int.toNat_natCast]
    exact ih (j + 1) (lampI xs ys j (ss, ts)).1 (lampI xs ys j (ss, ts)).2 (by rw [show (lampI xs ys j (ss, ts)).1.length = ss.length from (lampK_len _ _ 5 0 _).1]; exact hs0) (by rw [show (lampI xs ys j (ss, ts)).2.length = ts.length from (lampK_len _ _ 5 0 _).2]; exact hs1) (by omega) (by omega)

theorem lk31 : LOK T3 a31 l31 Try.f31.ntmps (loopAt Try.f31 0) := by
  intro ins outs hA s k out h
  have hA' : ([0, 1, 6, 7, 8], [6, 7]) = (ins, outs) := Option.some.inj ((show a31.lp (firstRegion (loopAt Try.f31 0)) = some ([0, 1, 6, 7, 8], [6, 7]) by kernel_rfl).symm.trans hA)
  cases hA'
  have hk : firstRegion (loopAt Try.f31 0) = 6 := by kernel_rfl
  rw [hk] at h
  change lp31 s k = some out at h
  unfold lp31 at h
  split at h
  · rename_i xs ys i ss ts
    cases hg : (decide (i = 0) && (Nat.ble xs.length big && (Nat.beq xs.length ys.length && (Nat.beq ss.length 5 && Nat.beq ts.length 3)))) with
    | false => rw [hg] at h; cases h
    | true =>
      rw [hg] at h
      simp only [Bool.and_eq_true, decide_eq_true_eq] at hg
      obtain ⟨rfl, hx, hl, gs0, gs1⟩ := hg
      refine ⟨(xs.length) + 1, ?_⟩
      have hx_ := big_le hx
      have gs0_ := Nat.eq_of_beq_eq_true gs0
      have gs1_ := Nat.eq_of_beq_eq_true gs1
      exact (ind31 xs ys hx hl k (xs.length) 0 ss ts (by omega) (by omega) (by omega) (by omega)).trans h
  · cases h
theorem st31_1 (xs : List Nat) (ys : List Nat) (i : Int) (pw : Nat) (q : Int) (ss : List Nat) (ts : List Nat) (m : Nat) (k : Ex → St → R) : iterK a31 [0, 1, 6, 7, 8, 9, 10] [0, 1, 6, 7, 8] (codeK T3 a31 l31 Try.f31.ntmps (loopAt Try.f31 1)) (m + 1) ⟨[(0, .fv (.vw (some 0) ⟨.f32, xs⟩)), (1, .fv (.vw (some 1) ⟨.f32, ys⟩)), (6, .fv (.own 0)), (7, .fv (.own 1)), (8, .fv (.el (.sc (.int .i64 i)))), (9, .fv (.el (.sc (.fl .f32 pw)))), (10, .fv (.el (.sc (.int .i64 q))))], [some ⟨29, ⟨.f32, ss⟩⟩, some ⟨29, ⟨.f32, ts⟩⟩]⟩ k = (match (decide ((q : Int) < 5) : Bool) with
  | true => (match (decide (0 ≤ (q : Int) ∧ (q : Int) < (ss.length : Int)) && true : Bool) with
    | true => (match (ss : List Nat)[Int.toNat q]? with
      | some x1 => (match (decide (0 ≤ (q : Int) ∧ (q : Int) < (ss.length : Int)) && true : Bool) with
        | true => (match (ss : List Nat)[Int.toNat q]? with
          | some x2 => (match (decide ((q : Int) < 3) : Bool) with
            | true => (match (decide (0 ≤ (q : Int) ∧ (q : Int) < (ts.length : Int)) && true : Bool) with
              | true => (match (ts : List Nat)[Int.toNat q]? with
                | some x3 => (match (decide (0 ≤ (i : Int) ∧ (i : Int) < (ys.length : Int)) && true : Bool) with
                  | true => (match (ys : List Nat)[Int.toNat i]? with
                    | some x4 => (match (decide (0 ≤ (q : Int) ∧ (q : Int) < (ts.length : Int)) && true : Bool) with
                      | true => (match (ts : List Nat)[Int.toNat q]? with
                        | some x5 => (match (decide (0 ≤ (i : Int) ∧ (i : Int) < (xs.length : Int)) && true : Bool) with
                          | true => (match (xs : List Nat)[Int.toNat i]? with
                            | some x6 => iterK a31 [0, 1, 6, 7, 8, 9, 10] [0, 1, 6, 7, 8] (codeK T3 a31 l31 Try.f31.ntmps (loopAt Try.f31 1)) m ⟨[(0, .fv (.vw (some 0) ⟨.f32, xs⟩)), (1, .fv (.vw (some 1) ⟨.f32, ys⟩)), (6, .fv (.own 0)), (7, .fv (.own 1)), (8, .fv (.el (.sc (.int .i64 i)))), (9, .fv (.el (.sc (.fl .f32 (fop .mul .f32 pw x6))))), (10, .fv (.el (.sc (.int .i64 (IntKind.i64.wrap (q + 1))))))], [some ⟨29, ⟨.f32, (ss : List Nat).set (Int.toNat q) (fop .add .f32 x1 pw)⟩⟩, some ⟨29, ⟨.f32, (ts : List Nat).set (Int.toNat q) (fop .add .f32 x3 (fop .mul .f32 pw x4))⟩⟩]⟩ k
                            | none => none)
                          | false => none)
                        | none => none)
                      | false => none)
                    | none => none)
                  | false => none)
                | none => none)
              | false => none)
            | false => (match (decide (0 ≤ (i : Int) ∧ (i : Int) < (xs.length : Int)) && true : Bool) with
              | true => (match (xs : List Nat)[Int.toNat i]? with
                | some x7 => iterK a31 [0, 1, 6, 7, 8, 9, 10] [0, 1, 6, 7, 8] (codeK T3 a31 l31 Try.f31.ntmps (loopAt Try.f31 1)) m ⟨[(0, .fv (.vw (some 0) ⟨.f32, xs⟩)), (1, .fv (.vw (some 1) ⟨.f32, ys⟩)), (6, .fv (.own 0)), (7, .fv (.own 1)), (8, .fv (.el (.sc (.int .i64 i)))), (9, .fv (.el (.sc (.fl .f32 (fop .mul .f32 pw x7))))), (10, .fv (.el (.sc (.int .i64 (IntKind.i64.wrap (q + 1))))))], [some ⟨29, ⟨.f32, (ss : List Nat).set (Int.toNat q) (fop .add .f32 x1 pw)⟩⟩, some ⟨29, ⟨.f32, ts⟩⟩]⟩ k
                | none => none)
              | false => none))
          | none => none)
        | false => none)
      | none => none)
    | false => none)
  | false => k (.exit 2) ⟨[(0, .fv (.vw (some 0) ⟨.f32, xs⟩)), (1, .fv (.vw (some 1) ⟨.f32, ys⟩)), (6, .fv (.own 0)), (7, .fv (.own 1)), (8, .fv (.el (.sc (.int .i64 i))))], [some ⟨29, ⟨.f32, ss⟩⟩, some ⟨29, ⟨.f32, ts⟩⟩]⟩) := by kernel_rfl
theorem ind31_1 (xs : List Nat) (ys : List Nat) (i : Int) (hi : (decide (0 ≤ i ∧ i < (xs.length : Int))) = true) (hl : (Nat.beq xs.length ys.length) = true) (k : Ex → St → R) : ∀ (m j : Nat) (ss : List Nat) (ts : List Nat) (pw : Nat), ss.length = 5 → ts.length = 3 → 0 ≤ j → j + m = 5 → iterK a31 [0, 1, 6, 7, 8, 9, 10] [0, 1, 6, 7, 8] (codeK T3 a31 l31 Try.f31.ntmps (loopAt Try.f31 1)) (m + 1) ⟨[(0, .fv (.vw (some 0) ⟨.f32, xs⟩)), (1, .fv (.vw (some 1) ⟨.f32, ys⟩)), (6, .fv (.own 0)), (7, .fv (.own 1)), (8, .fv (.el (.sc (.int .i64 i)))), (9, .fv (.el (.sc (.fl .f32 pw)))), (10, .fv (.el (.sc (.int .i64 (j : Int)))))], [some ⟨29, ⟨.f32, ss⟩⟩, some ⟨29, ⟨.f32, ts⟩⟩]⟩ k =
    k (.exit 2) ⟨[(0, .fv (.vw (some 0) ⟨.f32, xs⟩)), (1, .fv (.vw (some 1) ⟨.f32, ys⟩)), (6, .fv (.own 0)), (7, .fv (.own 1)), (8, .fv (.el (.sc (.int .i64 i))))], [some ⟨29, ⟨.f32, (rep (lampK (ys.getD i.toNat 0) (xs.getD i.toNat 0)) m j ((ss, ts, pw) : (List Nat) × (List Nat) × Nat)).1⟩⟩, some ⟨29, ⟨.f32, (rep (lampK (ys.getD i.toNat 0) (xs.getD i.toNat 0)) m j ((ss, ts, pw) : (List Nat) × (List Nat) × Nat)).2.1⟩⟩]⟩ := by
  intro m
  induction m with
  | zero =>
    intro j ss ts pw hs0 hs1 hlo hj
    have h1 : ¬ (((j : Int) < (5 : Int))) := by omega
    rw [st31_1]
    simp only [h1, rep, decide_false, Int.toNat_natCast] <;> rfl
  | succ m ih =>
    intro j ss ts pw hs0 hs1 hlo hj
    have h1 : ((j : Int) < (5 : Int)) := by omega
    have kb : (0 : Int) ≤ ((j : Nat) : Int) ∧ ((j : Nat) : Int) < (ss.length : Int) := by omega
    have ke : ss[j]? = some (ss.getD j 0) := getq (by omega)
    have ib : 0 ≤ i ∧ i < (xs.length : Int) := of_decide_eq_true hi
    have hl2 : xs.length = ys.length := Nat.eq_of_beq_eq_true hl
    have iby : 0 ≤ i ∧ i < (ys.length : Int) := by omega
    have xe : xs[Int.toNat i]? = some (xs.getD i.toNat 0) := getq (by omega)
    have ye : ys[Int.toNat i]? = some (ys.getD i.toNat 0) := getq (by omega)
    have wn : IntKind.i64.wrap ((j : Int) + 1) = ((j + 1 : Nat) : Int) := wrapN (by omega) (by omega)
    rw [st31_1]
    simp only [h1, wn, kb, ke, ib, hl2, iby, xe, ye, and_self, decide_true, Bool.and_true, Int.le_refl, Int.toNat_natCast]
    rw [rep_succ]
    cases h3 : decide ((j : Int) < 3) with
    | true =>
      have h4 := of_decide_eq_true h3
      have tb : (0 : Int) ≤ (j : Int) ∧ (j : Int) < (ts.length : Int) := by omega
      have te : ts[j]? = some (ts.getD j 0) := getq (by omega)
      have hK : lampK (ys.getD i.toNat 0) (xs.getD i.toNat 0) j (ss, ts, pw) = (ss.set j (fop .add .f32 (ss.getD j 0) pw), ts.set j (fop .add .f32 (ts.getD j 0) (fop .mul .f32 pw (ys.getD i.toNat 0))), fop .mul .f32 pw (xs.getD i.toNat 0)) := by
        unfold lampK
        dsimp only
        rw [h3]
        rfl
      rw [hK]
      simp only [tb, te, iby, ye, ib, xe, and_self, decide_true, Bool.and_true]
      exact ih (j + 1) _ _ _ (by simpa using hs0) (by simpa using hs1) (by omega) (by omega)
    | false =>
      have hK : lampK (ys.getD i.toNat 0) (xs.getD i.toNat 0) j (ss, ts, pw) = (ss.set j (fop .add .f32 (ss.getD j 0) pw), ts, fop .mul .f32 pw (xs.getD i.toNat 0)) := by
        unfold lampK
        dsimp only
        rw [h3]
        rfl
      rw [hK]
      simp only [ib, xe, and_self, decide_true, Bool.and_true]
      exact ih (j + 1) _ _ _ (by simpa using hs0) (by simpa using hs1) (by omega) (by omega)

theorem lk31_1 : LOK T3 a31 l31 Try.f31.ntmps (loopAt Try.f31 1) := by
  intro ins outs hA s k out h
  have hA' : ([0, 1, 6, 7, 8, 9, 10], [0, 1, 6, 7, 8]) = (ins, outs) := Option.some.inj ((show a31.lp (firstRegion (loopAt Try.f31 1)) = some ([0, 1, 6, 7, 8, 9, 10], [0, 1, 6, 7, 8]) by kernel_rfl).symm.trans hA)
  cases hA'
  have hk : firstRegion (loopAt Try.f31 1) = 10 := by kernel_rfl
  rw [hk] at h
  change lp31_1 s k = some out at h
  unfold lp31_1 at h
  split at h
  · rename_i xs ys i pw q ss ts
    cases hg : (decide (q = 0) && (decide (0 ≤ i ∧ i < (xs.length : Int)) && (Nat.beq xs.length ys.length && (Nat.beq ss.length 5 && Nat.beq ts.length 3)))) with
    | false => rw [hg] at h; cases h
    | true =>
      rw [hg] at h
      simp only [Bool.and_eq_true, decide_eq_true_eq] at hg
      obtain ⟨rfl, hi, hl, gs0, gs1⟩ := hg
      refine ⟨(5) + 1, ?_⟩
      have gs0_ := Nat.eq_of_beq_eq_true gs0
      have gs1_ := Nat.eq_of_beq_eq_true gs1
      exact (ind31_1 xs ys i (decide_eq_true hi) hl k (5) 0 ss ts pw (by omega) (by omega) (by omega) (by omega)).trans h
  · cases h
theorem e31 (xs : List Nat) (ys : List Nat) : runFnU T3 a31 l31 (oneG 56 (gfOf T3 none0 noL noG 12 Try.f56)) 12 Try.f31 [.vw none ⟨.f32, xs⟩, .vw none ⟨.f32, ys⟩] = (match (!(lamps xs ys 3) : Bool) with
  | true => some ⟨[.nil, .el (.sc (.bo false))], none⟩
  | false => (match (decide (0 ≤ (5 : Int) ∧ (5 : Int) = 5 ∧ (5 : Int) ≤ 1099511627776) : Bool) with
    | true => (match (decide (0 ≤ (3 : Int) ∧ (3 : Int) = 3 ∧ (3 : Int) ≤ 1099511627776) : Bool) with
      | true => (match ((decide (0 = 0) && (Nat.ble xs.length big && (Nat.beq xs.length ys.length && (Nat.beq (List.replicate (Int.toNat 5) ((0 : Nat)) : List Nat).length 5 && Nat.beq (List.replicate (Int.toNat 3) ((0 : Nat)) : List Nat).length 3)))) : Bool) with
        | true => (sol0 gtS (((rep (lampI xs ys) (xs.length) 0 (((List.replicate (Int.toNat 5) ((0 : Nat)) : List Nat), (List.replicate (Int.toNat 3) ((0 : Nat)) : List Nat)) : (List Nat) × (List Nat))).1).getD 0 0, ((rep (lampI xs ys) (xs.length) 0 (((List.replicate (Int.toNat 5) ((0 : Nat)) : List Nat), (List.replicate (Int.toNat 3) ((0 : Nat)) : List Nat)) : (List Nat) × (List Nat))).1).getD 1 0, ((rep (lampI xs ys) (xs.length) 0 (((List.replicate (Int.toNat 5) ((0 : Nat)) : List Nat), (List.replicate (Int.toNat 3) ((0 : Nat)) : List Nat)) : (List Nat) × (List Nat))).1).getD 2 0, ((rep (lampI xs ys) (xs.length) 0 (((List.replicate (Int.toNat 5) ((0 : Nat)) : List Nat), (List.replicate (Int.toNat 3) ((0 : Nat)) : List Nat)) : (List Nat) × (List Nat))).2).getD 0 0) (((rep (lampI xs ys) (xs.length) 0 (((List.replicate (Int.toNat 5) ((0 : Nat)) : List Nat), (List.replicate (Int.toNat 3) ((0 : Nat)) : List Nat)) : (List Nat) × (List Nat))).1).getD 1 0, ((rep (lampI xs ys) (xs.length) 0 (((List.replicate (Int.toNat 5) ((0 : Nat)) : List Nat), (List.replicate (Int.toNat 3) ((0 : Nat)) : List Nat)) : (List Nat) × (List Nat))).1).getD 2 0, ((rep (lampI xs ys) (xs.length) 0 (((List.replicate (Int.toNat 5) ((0 : Nat)) : List Nat), (List.replicate (Int.toNat 3) ((0 : Nat)) : List Nat)) : (List Nat) × (List Nat))).1).getD 3 0, ((rep (lampI xs ys) (xs.length) 0 (((List.replicate (Int.toNat 5) ((0 : Nat)) : List Nat), (List.replicate (Int.toNat 3) ((0 : Nat)) : List Nat)) : (List Nat) × (List Nat))).2).getD 1 0) (((rep (lampI xs ys) (xs.length) 0 (((List.replicate (Int.toNat 5) ((0 : Nat)) : List Nat), (List.replicate (Int.toNat 3) ((0 : Nat)) : List Nat)) : (List Nat) × (List Nat))).1).getD 2 0, ((rep (lampI xs ys) (xs.length) 0 (((List.replicate (Int.toNat 5) ((0 : Nat)) : List Nat), (List.replicate (Int.toNat 3) ((0 : Nat)) : List Nat)) : (List Nat) × (List Nat))).1).getD 3 0, ((rep (lampI xs ys) (xs.length) 0 (((List.replicate (Int.toNat 5) ((0 : Nat)) : List Nat), (List.replicate (Int.toNat 3) ((0 : Nat)) : List Nat)) : (List Nat) × (List Nat))).1).getD 4 0, ((rep (lampI xs ys) (xs.length) 0 (((List.replicate (Int.toNat 5) ((0 : Nat)) : List Nat), (List.replicate (Int.toNat 3) ((0 : Nat)) : List Nat)) : (List Nat) × (List Nat))).2).getD 2 0) (fun l => (match (Nat.ble l.length big : Bool) with
            | true => (match (l.all fin : Bool) with
              | true => some ⟨[.fresh 29 ⟨.f32, l⟩, .el (.sc (.bo true))], none⟩
              | false => some ⟨[.nil, .el (.sc (.bo false))], none⟩)
            | false => none)) (some ⟨[.nil, .el (.sc (.bo false))], none⟩))
        | false => none)
      | false => none)
    | false => none)) := by kernel_rfl
theorem s31 (xs : List Nat) (ys : List Nat) : runFnU T3 a31 l31 (oneG 56 (gfOf T3 none0 noL noG 12 Try.f56)) 12 Try.f31 [.vw none ⟨.f32, xs⟩, .vw none ⟨.f32, ys⟩] = (match (lmpOk xs ys : Bool) with
  | true => some ⟨[.fresh 29 ⟨.f32, lmpX xs ys⟩, .el (.sc (.bo true))], none⟩
  | false => some ⟨[.nil, .el (.sc (.bo false))], none⟩) := by
  rw [e31]
  cases hb : lamps xs ys 3 with
  | false =>
    unfold lmpOk
    rw [hb]
    rfl
  | true =>
  have hlen : xs.length ≤ 16 ∧ ys.length = xs.length := by
    have h1 := hb
    unfold lamps at h1
    simp only [Bool.and_eq_true, decide_eq_true_eq] at h1
    exact ⟨h1.2.1, h1.2.2.1⟩
  have hx : Nat.ble xs.length big = true := big_of (by omega)
  have hy : Nat.ble ys.length big = true := big_of (by omega)
  have hl : Nat.beq xs.length ys.length = true := by rw [hlen.2]; exact Nat.beq_refl _
  have d1 : decide (0 ≤ (5 : Int) ∧ (5 : Int) = 5 ∧ (5 : Int) ≤ 1099511627776) = true := rfl
  have d2 : decide (0 ≤ (3 : Int) ∧ (3 : Int) = 3 ∧ (3 : Int) ≤ 1099511627776) = true := rfl
  have d3 : Nat.beq (List.replicate (Int.toNat 5) (0 : Nat)).length 5 = true := rfl
  have d4 : Nat.beq (List.replicate (Int.toNat 3) (0 : Nat)).length 3 = true := rfl
  have d5 : decide ((0 : Int) = 0) = true := rfl
  have d6 : decide ((xs.length : Int) = (xs.length : Int)) = true := decide_eq_true rfl
  simp only [d1, d2, d3, d4, d5, d6, hx, hy, hl, Bool.not_true, Bool.and_self]
  refine Eq.trans (lampE_nat gtS (lmpS xs ys) _ _) ?_
  rw [gtS_eq]
  unfold lmpOk lmpX
  rw [hb]
  cases hs : lampE gtM (lmpS xs ys) some none with
  | none => rfl
  | some l =>
    have hll : l.length = 3 := sol0_len hs
    have hbl : Nat.ble l.length big = true := big_of (by omega)
    dsimp only
    simp only [hbl, Bool.true_and]
    all_goals (cases l.all fin <;> rfl)
theorem c31 (xs : List Nat) (ys : List Nat) (k : List RV → R) (out : Out) (h : k [.fresh 29 ⟨.f32, orNil (lmpOk xs ys) (lmpX xs ys)⟩, .el (.sc (.bo (lmpOk xs ys)))] = some out) : ∃ rs, Real Try.prog 31 ∧ COK Try.prog 31 [.vw none ⟨.f32, xs⟩, .vw none ⟨.f32, ys⟩] rs ∧ k rs = some out := by
  cases g0 : (lmpOk xs ys : Bool) with
  | true =>
    rw [g0] at h
    exact ⟨_, real Try.func31 (by kernel_rfl), fnU_ok tok3 (G := oneG 56 (gfOf T3 none0 noL noG 12 Try.f56)) (fuel := 12) (oneG_ok ⟨real Try.func56 (by kernel_rfl), gfOf_ok tok3 noG_ok Try.func56 (by kernel_rfl) loopsU0⟩) (A := a31) (L := l31) (r := none) Try.func31 (by kernel_rfl) (by kernel_rfl) (loopsU_of (loops2 (by kernel_rfl) lk31 lk31_1)) (by rw [s31, g0]; rfl), h⟩
  | false =>
    rw [g0] at h
    exact ⟨_, real Try.func31 (by kernel_rfl), COK.nil (fnU_ok tok3 (G := oneG 56 (gfOf T3 none0 noL noG 12 Try.f56)) (fuel := 12) (oneG_ok ⟨real Try.func56 (by kernel_rfl), gfOf_ok tok3 noG_ok Try.func56 (by kernel_rfl) loopsU0⟩) (A := a31) (L := l31) (r := none) Try.func31 (by kernel_rfl) (by kernel_rfl) (loopsU_of (loops2 (by kernel_rfl) lk31 lk31_1)) (by rw [s31, g0] <;> rfl)), h⟩

/-! slices.ContainsFunc[[]float32,float32] -/
theorem e72 (xs : List Nat) : runFn T3 none0 noL Try.f72 [.vw none ⟨.f32, xs⟩, .fn 73 []] = (match (Nat.ble xs.length big : Bool) with
  | true => some ⟨[.el (.sc (.bo (decide ((firstAt notFin xs : Int) ≥ 0))))], none⟩
  | false => none) := by kernel_rfl
theorem s72 (xs : List Nat) : runFn T3 none0 noL Try.f72 [.vw none ⟨.f32, xs⟩, .fn 73 []] = (match (Nat.ble xs.length big : Bool) with
  | true => some ⟨[.el (.sc (.bo (xs.any notFin)))], none⟩
  | false => none) := by
  rw [e72]
  rw [any_firstAt]
theorem c72 (xs : List Nat) (k : List RV → R) (out : Out) (h : (match (Nat.ble xs.length big : Bool) with
  | true => k [.el (.sc (.bo (xs.any notFin)))]
  | false => none) = some out) : ∃ rs, Real Try.prog 72 ∧ COK Try.prog 72 [.vw none ⟨.f32, xs⟩, .fn 73 []] rs ∧ k rs = some out := by
  cases g0 : (Nat.ble xs.length big : Bool) with
  | true =>
    rw [g0] at h
    exact ⟨_, real Try.func72 (by kernel_rfl), fn_ok tok3 (A := none0) (L := noL) (r := none) Try.func72 (by kernel_rfl) (by kernel_rfl) (loops0 (by kernel_rfl)) (by rw [s72, g0]), h⟩
  | false =>
    rw [g0] at h
    cases h

def S4 : SFn := fun f args k => match f, args with
  | 31, [.vw none ⟨.f32, xs⟩, .vw none ⟨.f32, ys⟩] => k [.fresh 29 ⟨.f32, orNil (lmpOk xs ys) (lmpX xs ys)⟩, .el (.sc (.bo (lmpOk xs ys)))]
  | 72, [.vw none ⟨.f32, xs⟩, .fn 73 []] => (match (Nat.ble xs.length big : Bool) with
    | true => k [.el (.sc (.bo (xs.any notFin)))]
    | false => none)
  | _, _ => S3 f args k
abbrev M4 : MFn := M3
def T4 : TT := tab.T S4 muts M4
theorem tok4 : TOK Try.prog T4 := by
  refine (tab_ok tabok).tok (fun f args k out h => ?_) (fun f vec args k out h => ?_)
  · change S4 f args k = some out at h
    unfold S4 at h
    split at h
    · exact (fun k out h => cok_call (c31 _ _ k out h)) k out h
    · exact (fun k out h => cok_call (c72 _ k out h)) k out h
    · exact tok3.S f args k out h
  · exact tok3.M f vec args k out h

end Go.Sm.Ytngcejakoaoojaa
