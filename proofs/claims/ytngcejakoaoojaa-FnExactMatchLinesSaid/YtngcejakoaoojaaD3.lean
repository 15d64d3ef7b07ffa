/- What the functions hand back: level 2. -/
import Derived.Test.YtngcejakoaoojaaD2
namespace Go.Sm.Ytngcejakoaoojaa
open Go Go.Sm Go.RowKit Go.Proofs

/-! spec.MatchLines -/
def a13 : Ann := ann [(4, [0, 1, 2, 35, 36], [0, 1, 2]), (10, [0, 1, 2, 47, 48], [0, 1, 2]), (17, [0, 1, 2, 10, 60, 61], [10]), (21, [0, 1, 2, 10, 11, 12, 13, 60, 61, 75, 76], [0, 1, 2, 10, 12, 60, 61])] [6, 7] 0
def lp13 : St → (Ex → St → R) → R := fun s k => match s with
  | ⟨[(0, .fv (.vw (some 0) ⟨.f32, xs⟩)), (1, .fv (.vw (some 1) ⟨.f32, ys⟩)), (2, .fv (.el (.sc (.fl .f32 w)))), (35, .fv (.el (.sc (.int .i64 n)))), (36, .fv (.el (.sc (.int .i64 i))))], []⟩ => (match ((decide (n = (xs.length : Int)) && (decide (i = 0) && Nat.ble xs.length big)) : Bool) with
    | true => (match (xs.all fin : Bool) with
      | true => k (.exit 0) ⟨[(0, .fv (.vw (some 0) ⟨.f32, xs⟩)), (1, .fv (.vw (some 1) ⟨.f32, ys⟩)), (2, .fv (.el (.sc (.fl .f32 w))))], []⟩
      | false => k .ret ⟨[(6, .fv (.nil)), (7, .fv (.el (.sc (.bo false))))], []⟩)
    | false => none)
  | _ => none
def lp13_1 : St → (Ex → St → R) → R := fun s k => match s with
  | ⟨[(0, .fv (.vw (some 0) ⟨.f32, xs⟩)), (1, .fv (.vw (some 1) ⟨.f32, ys⟩)), (2, .fv (.el (.sc (.fl .f32 w)))), (47, .fv (.el (.sc (.int .i64 n)))), (48, .fv (.el (.sc (.int .i64 i))))], []⟩ => (match ((decide (n = (ys.length : Int)) && (decide (i = 0) && Nat.ble ys.length big)) : Bool) with
    | true => (match (ys.all fin : Bool) with
      | true => k (.exit 2) ⟨[(0, .fv (.vw (some 0) ⟨.f32, xs⟩)), (1, .fv (.vw (some 1) ⟨.f32, ys⟩)), (2, .fv (.el (.sc (.fl .f32 w))))], []⟩
      | false => k .ret ⟨[(6, .fv (.nil)), (7, .fv (.el (.sc (.bo false))))], []⟩)
    | false => none)
  | _ => none
def lp13_2 : St → (Ex → St → R) → R := fun s k => match s with
  | ⟨[(0, .fv (.vw (some 0) ⟨.f32, xs⟩)), (1, .fv (.vw (some 1) ⟨.f32, ys⟩)), (2, .fv (.el (.sc (.fl .f32 w)))), (10, .fv (.own 0)), (60, .fv (.el (.sc (.int .i64 n)))), (61, .fv (.el (.sc (.int .i64 i))))], [some ⟨2, ⟨.i64, zs⟩⟩]⟩ => (match ((decide (n = (xs.length : Int)) && (decide (i = 0) && (Nat.ble xs.length big && (Nat.ble ys.length big && Nat.ble ((zs : List Int).length + xs.length) big)))) : Bool) with
    | true => k (.exit 4) ⟨[(10, .fv (.own 0))], [some ⟨2, ⟨.i64, rep (fun j zs => zs ++ [matchAt xs ys w j]) (xs.length) 0 ((zs : List Int) : (List Int))⟩⟩]⟩
    | false => none)
  | _ => none
def lp13_3 : St → (Ex → St → R) → R := fun s k => match s with
  | ⟨[(0, .fv (.vw (some 0) ⟨.f32, xs⟩)), (1, .fv (.vw (some 1) ⟨.f32, ys⟩)), (2, .fv (.el (.sc (.fl .f32 w)))), (10, .fv (.own 0)), (11, .fv (.el (.sc (.int .i64 q)))), (12, .fv (.el (.sc (.int .i64 a)))), (13, .fv (.el (.sc (.fl .f32 f)))), (60, .fv (.el (.sc (.int .i64 n)))), (61, .fv (.el (.sc (.int .i64 c)))), (75, .fv (.el (.sc (.int .i64 p)))), (76, .fv (.el (.sc (.int .i64 i))))], [some ⟨2, ⟨.i64, zs⟩⟩]⟩ => (match ((decide (p = (xs.length : Int)) && (decide (i = 0) && (Nat.ble xs.length big && (Nat.ble ys.length big && (decide (0 ≤ q ∧ q < (xs.length : Int)) && (f == (nearF xs ys w).getD (Int.toNat q) 0)))))) : Bool) with
    | true => k (.exit 6) ⟨[(0, .fv (.vw (some 0) ⟨.f32, xs⟩)), (1, .fv (.vw (some 1) ⟨.f32, ys⟩)), (2, .fv (.el (.sc (.fl .f32 w)))), (10, .fv (.own 0)), (12, .fv (.el (.sc (.int .i64 (rep (fun k a => bif takesB (nearN xs ys w) (nearF xs ys w) (Int.toNat q) k a then -1 else a) (xs.length) 0 (a : Int)))))), (60, .fv (.el (.sc (.int .i64 n)))), (61, .fv (.el (.sc (.int .i64 c))))], [some ⟨2, ⟨.i64, (zs : List Int)⟩⟩]⟩
    | false => none)
  | _ => none
def l13 : Loops := fun key s k => bif Nat.beq key 4 then lp13 s k else bif Nat.beq key 10 then lp13_1 s k else bif Nat.beq key 17 then lp13_2 s k else bif Nat.beq key 21 then lp13_3 s k else none
theorem st13 (xs : List Nat) (ys : List Nat) (w : Nat) (n : Int) (i : Int) (m : Nat) (k : Ex → St → R) : iterK a13 [0, 1, 2, 35, 36] [0, 1, 2] (codeK T2 a13 l13 Try.f13.ntmps (loopAt Try.f13 0)) (m + 1) ⟨[(0, .fv (.vw (some 0) ⟨.f32, xs⟩)), (1, .fv (.vw (some 1) ⟨.f32, ys⟩)), (2, .fv (.el (.sc (.fl .f32 w)))), (35, .fv (.el (.sc (.int .i64 n)))), (36, .fv (.el (.sc (.int .i64 i))))], []⟩ k = (match (decide ((i : Int) < n) : Bool) with
  | true => (match (decide (0 ≤ (i : Int) ∧ (i : Int) < (xs.length : Int)) && true : Bool) with
    | true => (match (xs : List Nat)[Int.toNat i]? with
      | some x1 => (match (!(fin x1) : Bool) with
        | true => k .ret ⟨[(6, .fv (.nil)), (7, .fv (.el (.sc (.bo false))))], []⟩
        | false => iterK a13 [0, 1, 2, 35, 36] [0, 1, 2] (codeK T2 a13 l13 Try.f13.ntmps (loopAt Try.f13 0)) m ⟨[(0, .fv (.vw (some 0) ⟨.f32, xs⟩)), (1, .fv (.vw (some 1) ⟨.f32, ys⟩)), (2, .fv (.el (.sc (.fl .f32 w)))), (35, .fv (.el (.sc (.int .i64 n)))), (36, .fv (.el (.sc (.int .i64 (IntKind.i64.wrap (i + 1))))))], []⟩ k)
      | none => none)
    | false => none)
  | false => k (.exit 0) ⟨[(0, .fv (.vw (some 0) ⟨.f32, xs⟩)), (1, .fv (.vw (some 1) ⟨.f32, ys⟩)), (2, .fv (.el (.sc (.fl .f32 w))))], []⟩) := by kernel_rfl
theorem ind13 (xs : List Nat) (ys : List Nat) (w : Nat) (hx : Nat.ble xs.length big = true) (k : Ex → St → R) : ∀ (m j : Nat), j + m = xs.length → iterK a13 [0, 1, 2, 35, 36] [0, 1, 2] (codeK T2 a13 l13 Try.f13.ntmps (loopAt Try.f13 0)) (m + 1) ⟨[(0, .fv (.vw (some 0) ⟨.f32, xs⟩)), (1, .fv (.vw (some 1) ⟨.f32, ys⟩)), (2, .fv (.el (.sc (.fl .f32 w)))), (35, .fv (.el (.sc (.int .i64 (xs.length : Int))))), (36, .fv (.el (.sc (.int .i64 (j : Int)))))], []⟩ k =
    (match (xs.drop j).all fin with
    | true => k (.exit 0) ⟨[(0, .fv (.vw (some 0) ⟨.f32, xs⟩)), (1, .fv (.vw (some 1) ⟨.f32, ys⟩)), (2, .fv (.el (.sc (.fl .f32 w))))], []⟩
    | false => k .ret ⟨[(6, .fv (.nil)), (7, .fv (.el (.sc (.bo false))))], []⟩) := by
  intro m
  induction m with
  | zero =>
    intro j hj
    have h1 : ¬ ((j : Int) < (xs.length : Int)) := by omega
    rw [st13, List.drop_of_length_le (by omega)]
    simp [h1]
  | succ m ih =>
    intro j hj
    have hlt : j < xs.length := by omega
    have h1 : ((j : Int) < (xs.length : Int)) := by omega
    have h2 : (0 : Int) ≤ (j : Int) := by omega
    rw [st13, wrap_succ hlt hx]
    have h3 : xs[Int.toNat (j : Int)]? = some xs[j] := by simp [hlt]
    rw [List.drop_eq_getElem_cons hlt, List.all_cons, ih (j + 1) (by omega)]
    simp only [h1, h2, h3, and_self, decide_true, Bool.and_true]
    cases hp : fin xs[j] <;> simp [hp]

theorem lk13 : LOK T2 a13 l13 Try.f13.ntmps (loopAt Try.f13 0) := by
  intro ins outs hA s k out h
  have hA' : ([0, 1, 2, 35, 36], [0, 1, 2]) = (ins, outs) := Option.some.inj ((show a13.lp (firstRegion (loopAt Try.f13 0)) = some ([0, 1, 2, 35, 36], [0, 1, 2]) by kernel_rfl).symm.trans hA)
  cases hA'
  have hk : firstRegion (loopAt Try.f13 0) = 4 := by kernel_rfl
  rw [hk] at h
  change lp13 s k = some out at h
  unfold lp13 at h
  split at h
  · rename_i xs ys w n i
    cases hg : (decide (n = (xs.length : Int)) && (decide (i = 0) && Nat.ble xs.length big)) with
    | false => rw [hg] at h; cases h
    | true =>
      rw [hg] at h
      simp only [Bool.and_eq_true, decide_eq_true_eq] at hg
      obtain ⟨rfl, rfl, hx⟩ := hg
      refine ⟨xs.length + 1, ?_⟩
      exact (ind13 xs ys w hx k xs.length 0 (by omega)).trans h
  · cases h
theorem st13_1 (xs : List Nat) (ys : List Nat) (w : Nat) (n : Int) (i : Int) (m : Nat) (k : Ex → St → R) : iterK a13 [0, 1, 2, 47, 48] [0, 1, 2] (codeK T2 a13 l13 Try.f13.ntmps (loopAt Try.f13 1)) (m + 1) ⟨[(0, .fv (.vw (some 0) ⟨.f32, xs⟩)), (1, .fv (.vw (some 1) ⟨.f32, ys⟩)), (2, .fv (.el (.sc (.fl .f32 w)))), (47, .fv (.el (.sc (.int .i64 n)))), (48, .fv (.el (.sc (.int .i64 i))))], []⟩ k = (match (decide ((i : Int) < n) : Bool) with
  | true => (match (decide (0 ≤ (i : Int) ∧ (i : Int) < (ys.length : Int)) && true : Bool) with
    | true => (match (ys : List Nat)[Int.toNat i]? with
      | some x1 => (match (!(fin x1) : Bool) with
        | true => k .ret ⟨[(6, .fv (.nil)), (7, .fv (.el (.sc (.bo false))))], []⟩
        | false => iterK a13 [0, 1, 2, 47, 48] [0, 1, 2] (codeK T2 a13 l13 Try.f13.ntmps (loopAt Try.f13 1)) m ⟨[(0, .fv (.vw (some 0) ⟨.f32, xs⟩)), (1, .fv (.vw (some 1) ⟨.f32, ys⟩)), (2, .fv (.el (.sc (.fl .f32 w)))), (47, .fv (.el (.sc (.int .i64 n)))), (48, .fv (.el (.sc (.int .i64 (IntKind.i64.wrap (i + 1))))))], []⟩ k)
      | none => none)
    | false => none)
  | false => k (.exit 2) ⟨[(0, .fv (.vw (some 0) ⟨.f32, xs⟩)), (1, .fv (.vw (some 1) ⟨.f32, ys⟩)), (2, .fv (.el (.sc (.fl .f32 w))))], []⟩) := by kernel_rfl
theorem ind13_1 (ys : List Nat) (xs : List Nat) (w : Nat) (hx : Nat.ble ys.length big = true) (k : Ex → St → R) : ∀ (m j : Nat), j + m = ys.length → iterK a13 [0, 1, 2, 47, 48] [0, 1, 2] (codeK T2 a13 l13 Try.f13.ntmps (loopAt Try.f13 1)) (m + 1) ⟨[(0, .fv (.vw (some 0) ⟨.f32, xs⟩)), (1, .fv (.vw (some 1) ⟨.f32, ys⟩)), (2, .fv (.el (.sc (.fl .f32 w)))), (47, .fv (.el (.sc (.int .i64 (ys.length : Int))))), (48, .fv (.el (.sc (.int .i64 (j : Int)))))], []⟩ k =
    (match (ys.drop j).all fin with
    | true => k (.exit 2) ⟨[(0, .fv (.vw (some 0) ⟨.f32, xs⟩)), (1, .fv (.vw (some 1) ⟨.f32, ys⟩)), (2, .fv (.el (.sc (.fl .f32 w))))], []⟩
    | false => k .ret ⟨[(6, .fv (.nil)), (7, .fv (.el (.sc (.bo false))))], []⟩) := by
  intro m
  induction m with
  | zero =>
    intro j hj
    have h1 : ¬ ((j : Int) < (ys.length : Int)) := by omega
    rw [st13_1, List.drop_of_length_le (by omega)]
    simp [h1]
  | succ m ih =>
    intro j hj
    have hlt : j < ys.length := by omega
    have h1 : ((j : Int) < (ys.length : Int)) := by omega
    have h2 : (0 : Int) ≤ (j : Int) := by omega
    rw [st13_1, wrap_succ hlt hx]
    have h3 : ys[Int.toNat (j : Int)]? = some ys[j] := by simp [hlt]
    rw [List.drop_eq_getElem_cons hlt, List.all_cons, ih (j + 1) (by omega)]
    simp only [h1, h2, h3, and_self, decide_true, Bool.and_true]
    cases hp : fin ys[j] <;> simp [hp]

theorem lk13_1 : LOK T2 a13 l13 Try.f13.ntmps (loopAt Try.f13 1) := by
  intro ins outs hA s k out h
  have hA' : ([0, 1, 2, 47, 48], [0, 1, 2]) = (ins, outs) := Option.some.inj ((show a13.lp (firstRegion (loopAt Try.f13 1)) = some ([0, 1, 2, 47, 48], [0, 1, 2]) by kernel_rfl).symm.trans hA)
  cases hA'
  have hk : firstRegion (loopAt Try.f13 1) = 10 := by kernel_rfl
  rw [hk] at h
  change lp13_1 s k = some out at h
  unfold lp13_1 at h
  split at h
  · rename_i xs ys w n i
    cases hg : (decide (n = (ys.length : Int)) && (decide (i = 0) && Nat.ble ys.length big)) with
    | false => rw [hg] at h; cases h
    | true =>
      rw [hg] at h
      simp only [Bool.and_eq_true, decide_eq_true_eq] at hg
      obtain ⟨rfl, rfl, hx⟩ := hg
      refine ⟨ys.length + 1, ?_⟩
      exact (ind13_1 ys xs w hx k ys.length 0 (by omega)).trans h
  · cases h
theorem st13_2 (xs : List Nat) (ys : List Nat) (w : Nat) (n : Int) (i : Int) (zs : List Int) (m : Nat) (k : Ex → St → R) : iterK a13 [0, 1, 2, 10, 60, 61] [10] (codeK T2 a13 l13 Try.f13.ntmps (loopAt Try.f13 2)) (m + 1) ⟨[(0, .fv (.vw (some 0) ⟨.f32, xs⟩)), (1, .fv (.vw (some 1) ⟨.f32, ys⟩)), (2, .fv (.el (.sc (.fl .f32 w)))), (10, .fv (.own 0)), (60, .fv (.el (.sc (.int .i64 n)))), (61, .fv (.el (.sc (.int .i64 i))))], [some ⟨2, ⟨.i64, zs⟩⟩]⟩ k = (match (decide ((i : Int) < n) : Bool) with
  | true => (match (decide (0 ≤ (i : Int) ∧ (i : Int) < (xs.length : Int)) && true : Bool) with
    | true => (match (xs : List Nat)[Int.toNat i]? with
      | some x1 => (match (Nat.ble ys.length big : Bool) with
        | true => (match ((decide (((xs.length : Int)) = (xs.length : Int)) && (decide (0 = 0) && (Nat.ble xs.length big && (Nat.ble ys.length big && (decide (0 ≤ i ∧ i < (xs.length : Int)) && (((nearOf ys w x1).2) == (nearF xs ys w).getD (Int.toNat i) 0)))))) : Bool) with
          | true => (match (Nat.beq 2 2 && decide (((zs : List Int) : List Int).length + ([rep (fun k a => bif takesB (nearN xs ys w) (nearF xs ys w) (Int.toNat i) k a then -1 else a) (xs.length) 0 (((nearOf ys w x1).1) : Int)] : List Int).length ≤ 1099511627776) : Bool) with
            | true => iterK a13 [0, 1, 2, 10, 60, 61] [10] (codeK T2 a13 l13 Try.f13.ntmps (loopAt Try.f13 2)) m ⟨[(0, .fv (.vw (some 0) ⟨.f32, xs⟩)), (1, .fv (.vw (some 1) ⟨.f32, ys⟩)), (2, .fv (.el (.sc (.fl .f32 w)))), (10, .fv (.own 0)), (60, .fv (.el (.sc (.int .i64 n)))), (61, .fv (.el (.sc (.int .i64 (IntKind.i64.wrap (i + 1))))))], [some ⟨2, ⟨.i64, ((zs : List Int) : List Int) ++ ([rep (fun k a => bif takesB (nearN xs ys w) (nearF xs ys w) (Int.toNat i) k a then -1 else a) (xs.length) 0 (((nearOf ys w x1).1) : Int)])⟩⟩]⟩ k
            | false => none)
          | false => none)
        | false => none)
      | none => none)
    | false => none)
  | false => k (.exit 4) ⟨[(10, .fv (.own 0))], [some ⟨2, ⟨.i64, zs⟩⟩]⟩) := by kernel_rfl
theorem ind13_2 (xs : List Nat) (ys : List Nat) (w : Nat) (hx : (Nat.ble xs.length big) = true) (hy : (Nat.ble ys.length big) = true) (k : Ex → St → R) : ∀ (m j : Nat) (zs : List Int), zs.length + m ≤ 1099511627776 → 0 ≤ j → j + m = xs.length → iterK a13 [0, 1, 2, 10, 60, 61] [10] (codeK T2 a13 l13 Try.f13.ntmps (loopAt Try.f13 2)) (m + 1) ⟨[(0, .fv (.vw (some 0) ⟨.f32, xs⟩)), (1, .fv (.vw (some 1) ⟨.f32, ys⟩)), (2, .fv (.el (.sc (.fl .f32 w)))), (10, .fv (.own 0)), (60, .fv (.el (.sc (.int .i64 (xs.length : Int))))), (61, .fv (.el (.sc (.int .i64 (j : Int)))))], [some ⟨2, ⟨.i64, zs⟩⟩]⟩ k =
    k (.exit 4) ⟨[(10, .fv (.own 0))], [some ⟨2, ⟨.i64, rep (fun j zs => zs ++ [matchAt xs ys w j]) m j (zs : (List Int))⟩⟩]⟩ := by
  intro m
  induction m with
  | zero =>
    intro j zs hs0 hlo hj
    have hx_ := big_le hx
    have hy_ := big_le hy
    have h1 : ¬ (((j : Int) < (xs.length : Int))) := by omega
    rw [st13_2]
    simp only [h1, rep, decide_false, hx, hy, List.length_singleton] <;> rfl
  | succ m ih =>
    intro j zs hs0 hlo hj
    have hx_ := big_le hx
    have hy_ := big_le hy
    have h1 : ((j : Int) < (xs.length : Int)) := by omega
    have bq : Nat.beq 2 2 = true := rfl
    have zl : zs.length + 1 ≤ 1099511627776 := by omega
    have xb : (0 : Int) ≤ ((j : Nat) : Int) ∧ ((j : Nat) : Int) < (xs.length : Int) := by omega
    have xq : xs[Int.toNat ((j : Nat) : Int)]? = some (xs.getD (j) 0) := getI (by omega)
    have xp : xs[j]? = some (xs.getD (j) 0) := getI2 (by omega)
    have q1 : decide (0 ≤ (j : Int) ∧ (j : Int) < (xs.length : Int)) = true := decide_eq_true (by omega)
    have q2 : ((nearOf ys w (xs.getD j 0)).2 == (nearF xs ys w).getD (Int.toNat (j : Int)) 0) = true := by rw [Int.toNat_natCast, nearF_get ys w (by omega)]; exact beq_self_eq_true _
    have q3 : rep (fun k a => bif takesB (nearN xs ys w) (nearF xs ys w) (Int.toNat (j : Int)) k a then -1 else a) xs.length 0 (nearOf ys w (xs.getD j 0)).1 = matchAt xs ys w j := by rw [Int.toNat_natCast]; unfold matchAt; rw [nearN_get ys w (by omega)]
    have wn : IntKind.i64.wrap ((j : Int) + 1) = ((j + 1 : Nat) : Int) := wrapN (by omega) (by omega)
    rw [st13_2]
    simp only [h1, wn, bq, zl, xb, xq, xp, q1, q2, q3, and_self, decide_true, Bool.and_true, Int.le_refl, hx, hy, List.length_singleton]
    try simp only [q1, q2, q3, Bool.and_self, Bool.and_true, Bool.true_and, decide_true, List.length_singleton]
    exact ih (j + 1) _ (by simp; omega) (by omega) (by omega)

theorem lk13_2 : LOK T2 a13 l13 Try.f13.ntmps (loopAt Try.f13 2) := by
  intro ins outs hA s k out h
  have hA' : ([0, 1, 2, 10, 60, 61], [10]) = (ins, outs) := Option.some.inj ((show a13.lp (firstRegion (loopAt Try.f13 2)) = some ([0, 1, 2, 10, 60, 61], [10]) by kernel_rfl).symm.trans hA)
  cases hA'
  have hk : firstRegion (loopAt Try.f13 2) = 17 := by kernel_rfl
  rw [hk] at h
  change lp13_2 s k = some out at h
  unfold lp13_2 at h
  split at h
  · rename_i xs ys w n i zs
    cases hg : (decide (n = (xs.length : Int)) && (decide (i = 0) && (Nat.ble xs.length big && (Nat.ble ys.length big && Nat.ble (zs.length + xs.length) big)))) with
    | false => rw [hg] at h; cases h
    | true =>
      rw [hg] at h
      simp only [Bool.and_eq_true, decide_eq_true_eq] at hg
      obtain ⟨rfl, rfl, hx, hy, gs0⟩ := hg
      refine ⟨(xs.length) + 1, ?_⟩
      have hx_ := big_le hx
      have hy_ := big_le hy
      have gs0_ := big_le gs0
      exact (ind13_2 xs ys w hx hy k (xs.length) 0 zs (by omega) (by omega) (by omega)).trans h
  · cases h
theorem st13_3 (xs : List Nat) (ys : List Nat) (w : Nat) (q : Int) (a : Int) (f : Nat) (n : Int) (c : Int) (p : Int) (i : Int) (zs : List Int) (m : Nat) (k : Ex → St → R) : iterK a13 [0, 1, 2, 10, 11, 12, 13, 60, 61, 75, 76] [0, 1, 2, 10, 12, 60, 61] (codeK T2 a13 l13 Try.f13.ntmps (loopAt Try.f13 3)) (m + 1) ⟨[(0, .fv (.vw (some 0) ⟨.f32, xs⟩)), (1, .fv (.vw (some 1) ⟨.f32, ys⟩)), (2, .fv (.el (.sc (.fl .f32 w)))), (10, .fv (.own 0)), (11, .fv (.el (.sc (.int .i64 q)))), (12, .fv (.el (.sc (.int .i64 a)))), (13, .fv (.el (.sc (.fl .f32 f)))), (60, .fv (.el (.sc (.int .i64 n)))), (61, .fv (.el (.sc (.int .i64 c)))), (75, .fv (.el (.sc (.int .i64 p)))), (76, .fv (.el (.sc (.int .i64 i))))], [some ⟨2, ⟨.i64, zs⟩⟩]⟩ k = (match (decide ((i : Int) < p) : Bool) with
  | true => (match (decide (0 ≤ (i : Int) ∧ (i : Int) < (xs.length : Int)) && true : Bool) with
    | true => (match (xs : List Nat)[Int.toNat i]? with
      | some x1 => (match (Nat.ble ys.length big : Bool) with
        | true => (match (!((i : Int) == q) : Bool) with
          | true => (match (decide (((nearOf ys w x1).1 : Int) ≥ 0) : Bool) with
            | true => (match (((nearOf ys w x1).1 : Int) == a : Bool) with
              | true => (match (fcmp .lss .f32 ((nearOf ys w x1).2) f : Bool) with
                | true => iterK a13 [0, 1, 2, 10, 11, 12, 13, 60, 61, 75, 76] [0, 1, 2, 10, 12, 60, 61] (codeK T2 a13 l13 Try.f13.ntmps (loopAt Try.f13 3)) m ⟨[(0, .fv (.vw (some 0) ⟨.f32, xs⟩)), (1, .fv (.vw (some 1) ⟨.f32, ys⟩)), (2, .fv (.el (.sc (.fl .f32 w)))), (10, .fv (.own 0)), (11, .fv (.el (.sc (.int .i64 q)))), (12, .fv (.el (.sc (.int .i64 ((-1)))))), (13, .fv (.el (.sc (.fl .f32 f)))), (60, .fv (.el (.sc (.int .i64 n)))), (61, .fv (.el (.sc (.int .i64 c)))), (75, .fv (.el (.sc (.int .i64 p)))), (76, .fv (.el (.sc (.int .i64 (IntKind.i64.wrap (i + 1))))))], [some ⟨2, ⟨.i64, zs⟩⟩]⟩ k
                | false => (match (fcmp .eql .f32 ((nearOf ys w x1).2) f : Bool) with
                  | true => (match (decide ((i : Int) < q) : Bool) with
                    | true => iterK a13 [0, 1, 2, 10, 11, 12, 13, 60, 61, 75, 76] [0, 1, 2, 10, 12, 60, 61] (codeK T2 a13 l13 Try.f13.ntmps (loopAt Try.f13 3)) m ⟨[(0, .fv (.vw (some 0) ⟨.f32, xs⟩)), (1, .fv (.vw (some 1) ⟨.f32, ys⟩)), (2, .fv (.el (.sc (.fl .f32 w)))), (10, .fv (.own 0)), (11, .fv (.el (.sc (.int .i64 q)))), (12, .fv (.el (.sc (.int .i64 ((-1)))))), (13, .fv (.el (.sc (.fl .f32 f)))), (60, .fv (.el (.sc (.int .i64 n)))), (61, .fv (.el (.sc (.int .i64 c)))), (75, .fv (.el (.sc (.int .i64 p)))), (76, .fv (.el (.sc (.int .i64 (IntKind.i64.wrap (i + 1))))))], [some ⟨2, ⟨.i64, zs⟩⟩]⟩ k
                    | false => iterK a13 [0, 1, 2, 10, 11, 12, 13, 60, 61, 75, 76] [0, 1, 2, 10, 12, 60, 61] (codeK T2 a13 l13 Try.f13.ntmps (loopAt Try.f13 3)) m ⟨[(0, .fv (.vw (some 0) ⟨.f32, xs⟩)), (1, .fv (.vw (some 1) ⟨.f32, ys⟩)), (2, .fv (.el (.sc (.fl .f32 w)))), (10, .fv (.own 0)), (11, .fv (.el (.sc (.int .i64 q)))), (12, .fv (.el (.sc (.int .i64 a)))), (13, .fv (.el (.sc (.fl .f32 f)))), (60, .fv (.el (.sc (.int .i64 n)))), (61, .fv (.el (.sc (.int .i64 c)))), (75, .fv (.el (.sc (.int .i64 p)))), (76, .fv (.el (.sc (.int .i64 (IntKind.i64.wrap (i + 1))))))], [some ⟨2, ⟨.i64, zs⟩⟩]⟩ k)
                  | false => iterK a13 [0, 1, 2, 10, 11, 12, 13, 60, 61, 75, 76] [0, 1, 2, 10, 12, 60, 61] (codeK T2 a13 l13 Try.f13.ntmps (loopAt Try.f13 3)) m ⟨[(0, .fv (.vw (some 0) ⟨.f32, xs⟩)), (1, .fv (.vw (some 1) ⟨.f32, ys⟩)), (2, .fv (.el (.sc (.fl .f32 w)))), (10, .fv (.own 0)), (11, .fv (.el (.sc (.int .i64 q)))), (12, .fv (.el (.sc (.int .i64 a)))), (13, .fv (.el (.sc (.fl .f32 f)))), (60, .fv (.el (.sc (.int .i64 n)))), (61, .fv (.el (.sc (.int .i64 c)))), (75, .fv (.el (.sc (.int .i64 p)))), (76, .fv (.el (.sc (.int .i64 (IntKind.i64.wrap (i + 1))))))], [some ⟨2, ⟨.i64, zs⟩⟩]⟩ k))
              | false => iterK a13 [0, 1, 2, 10, 11, 12, 13, 60, 61, 75, 76] [0, 1, 2, 10, 12, 60, 61] (codeK T2 a13 l13 Try.f13.ntmps (loopAt Try.f13 3)) m ⟨[(0, .fv (.vw (some 0) ⟨.f32, xs⟩)), (1, .fv (.vw (some 1) ⟨.f32, ys⟩)), (2, .fv (.el (.sc (.fl .f32 w)))), (10, .fv (.own 0)), (11, .fv (.el (.sc (.int .i64 q)))), (12, .fv (.el (.sc (.int .i64 a)))), (13, .fv (.el (.sc (.fl .f32 f)))), (60, .fv (.el (.sc (.int .i64 n)))), (61, .fv (.el (.sc (.int .i64 c)))), (75, .fv (.el (.sc (.int .i64 p)))), (76, .fv (.el (.sc (.int .i64 (IntKind.i64.wrap (i + 1))))))], [some ⟨2, ⟨.i64, zs⟩⟩]⟩ k)
            | false => iterK a13 [0, 1, 2, 10, 11, 12, 13, 60, 61, 75, 76] [0, 1, 2, 10, 12, 60, 61] (codeK T2 a13 l13 Try.f13.ntmps (loopAt Try.f13 3)) m ⟨[(0, .fv (.vw (some 0) ⟨.f32, xs⟩)), (1, .fv (.vw (some 1) ⟨.f32, ys⟩)), (2, .fv (.el (.sc (.fl .f32 w)))), (10, .fv (.own 0)), (11, .fv (.el (.sc (.int .i64 q)))), (12, .fv (.el (.sc (.int .i64 a)))), (13, .fv (.el (.sc (.fl .f32 f)))), (60, .fv (.el (.sc (.int .i64 n)))), (61, .fv (.el (.sc (.int .i64 c)))), (75, .fv (.el (.sc (.int .i64 p)))), (76, .fv (.el (.sc (.int .i64 (IntKind.i64.wrap (i + 1))))))], [some ⟨2, ⟨.i64, zs⟩⟩]⟩ k)
          | false => iterK a13 [0, 1, 2, 10, 11, 12, 13, 60, 61, 75, 76] [0, 1, 2, 10, 12, 60, 61] (codeK T2 a13 l13 Try.f13.ntmps (loopAt Try.f13 3)) m ⟨[(0, .fv (.vw (some 0) ⟨.f32, xs⟩)), (1, .fv (.vw (some 1) ⟨.f32, ys⟩)), (2, .fv (.el (.sc (.fl .f32 w)))), (10, .fv (.own 0)), (11, .fv (.el (.sc (.int .i64 q)))), (12, .fv (.el (.sc (.int .i64 a)))), (13, .fv (.el (.sc (.fl .f32 f)))), (60, .fv (.el (.sc (.int .i64 n)))), (61, .fv (.el (.sc (.int .i64 c)))), (75, .fv (.el (.sc (.int .i64 p)))), (76, .fv (.el (.sc (.int .i64 (IntKind.i64.wrap (i + 1))))))], [some ⟨2, ⟨.i64, zs⟩⟩]⟩ k)
        | false => none)
      | none => none)
    | false => none)
  | false => k (.exit 6) ⟨[(0, .fv (.vw (some 0) ⟨.f32, xs⟩)), (1, .fv (.vw (some 1) ⟨.f32, ys⟩)), (2, .fv (.el (.sc (.fl .f32 w)))), (10, .fv (.own 0)), (12, .fv (.el (.sc (.int .i64 a)))), (60, .fv (.el (.sc (.int .i64 n)))), (61, .fv (.el (.sc (.int .i64 c))))], [some ⟨2, ⟨.i64, zs⟩⟩]⟩) := by kernel_rfl
theorem ind13_3 (xs : List Nat) (ys : List Nat) (w : Nat) (q : Int) (f : Nat) (n : Int) (c : Int) (zs : List Int) (hx : (Nat.ble xs.length big) = true) (hy : (Nat.ble ys.length big) = true) (hq : (decide (0 ≤ q ∧ q < (xs.length : Int))) = true) (hf : ((f == (nearF xs ys w).getD (Int.toNat q) 0)) = true) (k : Ex → St → R) : ∀ (m j : Nat) (a : Int), 0 ≤ j → j + m = xs.length → iterK a13 [0, 1, 2, 10, 11, 12, 13, 60, 61, 75, 76] [0, 1, 2, 10, 12, 60, 61] (codeK T2 a13 l13 Try.f13.ntmps (loopAt Try.f13 3)) (m + 1) ⟨[(0, .fv (.vw (some 0) ⟨.f32, xs⟩)), (1, .fv (.vw (some 1) ⟨.f32, ys⟩)), (2, .fv (.el (.sc (.fl .f32 w)))), (10, .fv (.own 0)), (11, .fv (.el (.sc (.int .i64 q)))), (12, .fv (.el (.sc (.int .i64 a)))), (13, .fv (.el (.sc (.fl .f32 f)))), (60, .fv (.el (.sc (.int .i64 n)))), (61, .fv (.el (.sc (.int .i64 c)))), (75, .fv (.el (.sc (.int .i64 (xs.length : Int))))), (76, .fv (.el (.sc (.int .i64 (j : Int)))))], [some ⟨2, ⟨.i64, zs⟩⟩]⟩ k =
    k (.exit 6) ⟨[(0, .fv (.vw (some 0) ⟨.f32, xs⟩)), (1, .fv (.vw (some 1) ⟨.f32, ys⟩)), (2, .fv (.el (.sc (.fl .f32 w)))), (10, .fv (.own 0)), (12, .fv (.el (.sc (.int .i64 (rep (fun k a => bif takesB (nearN xs ys w) (nearF xs ys w) (Int.toNat q) k a then -1 else a) m j (a : Int)))))), (60, .fv (.el (.sc (.int .i64 n)))), (61, .fv (.el (.sc (.int .i64 c))))], [some ⟨2, ⟨.i64, zs⟩⟩]⟩ := by
  intro m
  induction m with
  | zero =>
    intro j a hlo hj
    have hx_ := big_le hx
    have hy_ := big_le hy
    have h1 : ¬ (((j : Int) < (xs.length : Int))) := by omega
    rw [st13_3]
    simp only [h1, rep, decide_false, hx, hy] <;> rfl
  | succ m ih =>
    intro j a hlo hj
    have hx_ := big_le hx
    have hy_ := big_le hy
    have h1 : ((j : Int) < (xs.length : Int)) := by omega
    have xb : (0 : Int) ≤ ((j : Nat) : Int) ∧ ((j : Nat) : Int) < (xs.length : Int) := by omega
    have xq : xs[Int.toNat ((j : Nat) : Int)]? = some (xs.getD (j) 0) := getI (by omega)
    have xp : xs[j]? = some (xs.getD (j) 0) := getI2 (by omega)
    have wn : IntKind.i64.wrap ((j : Int) + 1) = ((j + 1 : Nat) : Int) := wrapN (by omega) (by omega)
    rw [st13_3]
    simp only [h1, wn, xb, xq, xp, and_self, decide_true, Bool.and_true, Int.le_refl, hx, hy]
    have hq2 := of_decide_eq_true hq
    have hf2 : f = (nearF xs ys w).getD (Int.toNat q) 0 := eq_of_beq hf
    have hqn : ((Int.toNat q : Nat) : Int) = q := by omega
    rw [rep_succ]
    have ht : takesB (nearN xs ys w) (nearF xs ys w) (Int.toNat q) j a = (!((j : Int) == q) && (decide ((nearOf ys w (xs.getD j 0)).1 ≥ 0) && ((nearOf ys w (xs.getD j 0)).1 == a && (fcmp .lss .f32 (nearOf ys w (xs.getD j 0)).2 f || (fcmp .eql .f32 (nearOf ys w (xs.getD j 0)).2 f && decide ((j : Int) < q)))))) := by
      unfold takesB
      rw [nearN_get ys w (by omega), nearF_get ys w (by omega), hqn, ← hf2]
    rw [ht]
    cases ((j : Int) == q) <;> cases decide ((nearOf ys w (xs.getD j 0)).1 ≥ 0) <;> cases ((nearOf ys w (xs.getD j 0)).1 == a) <;> cases fcmp .lss .f32 (nearOf ys w (xs.getD j 0)).2 f <;> cases fcmp .eql .f32 (nearOf ys w (xs.getD j 0)).2 f <;> cases decide ((j : Int) < q) <;> exact ih (j + 1) _ (by omega) (by omega)

theorem lk13_3 : LOK T2 a13 l13 Try.f13.ntmps (loopAt Try.f13 3) := by
  intro ins outs hA s k out h
  have hA' : ([0, 1, 2, 10, 11, 12, 13, 60, 61, 75, 76], [0, 1, 2, 10, 12, 60, 61]) = (ins, outs) := Option.some.inj ((show a13.lp (firstRegion (loopAt Try.f13 3)) = some ([0, 1, 2, 10, 11, 12, 13, 60, 61, 75, 76], [0, 1, 2, 10, 12, 60, 61]) by kernel_rfl).symm.trans hA)
  cases hA'
  have hk : firstRegion (loopAt Try.f13 3) = 21 := by kernel_rfl
  rw [hk] at h
  change lp13_3 s k = some out at h
  unfold lp13_3 at h
  split at h
  · rename_i xs ys w q a f n c p i zs
    cases hg : (decide (p = (xs.length : Int)) && (decide (i = 0) && (Nat.ble xs.length big && (Nat.ble ys.length big && (decide (0 ≤ q ∧ q < (xs.length : Int)) && (f == (nearF xs ys w).getD (Int.toNat q) 0)))))) with
    | false => rw [hg] at h; cases h
    | true =>
      rw [hg] at h
      simp only [Bool.and_eq_true, decide_eq_true_eq] at hg
      obtain ⟨rfl, rfl, hx, hy, hq, hf⟩ := hg
      refine ⟨(xs.length) + 1, ?_⟩
      have hx_ := big_le hx
      have hy_ := big_le hy
      exact (ind13_3 xs ys w q f n c zs hx hy (decide_eq_true hq) hf k (xs.length) 0 a (by omega) (by omega)).trans h
  · cases h
theorem e13 (xs : List Nat) (ys : List Nat) (w : Nat) : runFn T2 a13 l13 Try.f13 [.vw none ⟨.f32, xs⟩, .vw none ⟨.f32, ys⟩, .el (.sc (.fl .f32 w))] = (match (decide (((xs.length : Int) : Int) > 128) : Bool) with
  | true => some ⟨[.nil, .el (.sc (.bo false))], none⟩
  | false => (match (decide (((ys.length : Int) : Int) > 128) : Bool) with
    | true => some ⟨[.nil, .el (.sc (.bo false))], none⟩
    | false => (match (!(fin w) : Bool) with
      | true => some ⟨[.nil, .el (.sc (.bo false))], none⟩
      | false => (match (fcmp .lss .f32 w 0 : Bool) with
        | true => some ⟨[.nil, .el (.sc (.bo false))], none⟩
        | false => (match ((decide (((xs.length : Int)) = (xs.length : Int)) && (decide (0 = 0) && Nat.ble xs.length big)) : Bool) with
          | true => (match (xs.all fin : Bool) with
            | true => (match ((decide (((ys.length : Int)) = (ys.length : Int)) && (decide (0 = 0) && Nat.ble ys.length big)) : Bool) with
              | true => (match (ys.all fin : Bool) with
                | true => (match ((decide (((xs.length : Int)) = (xs.length : Int)) && (decide (0 = 0) && (Nat.ble xs.length big && (Nat.ble ys.length big && Nat.ble (([] : List Int).length + xs.length) big)))) : Bool) with
                  | true => some ⟨[.fresh 2 ⟨.i64, rep (fun j zs => zs ++ [matchAt xs ys w j]) (xs.length) 0 (([] : List Int) : (List Int))⟩, .el (.sc (.bo true))], none⟩
                  | false => none)
                | false => some ⟨[.nil, .el (.sc (.bo false))], none⟩)
              | false => none)
            | false => some ⟨[.nil, .el (.sc (.bo false))], none⟩)
          | false => none))))) := by kernel_rfl
theorem s13 (xs : List Nat) (ys : List Nat) (w : Nat) : runFn T2 a13 l13 Try.f13 [.vw none ⟨.f32, xs⟩, .vw none ⟨.f32, ys⟩, .el (.sc (.fl .f32 w))] = (match (matchOk xs ys w : Bool) with
  | true => some ⟨[.fresh 2 ⟨.i64, matchX xs ys w⟩, .el (.sc (.bo true))], none⟩
  | false => some ⟨[.nil, .el (.sc (.bo false))], none⟩) := by
  rw [e13]
  unfold matchOk
  by_cases c1 : xs.length ≤ 128
  · by_cases c2 : ys.length ≤ 128
    · have hx : Nat.ble xs.length big = true := big_of (by omega)
      have hy : Nat.ble ys.length big = true := big_of (by omega)
      have hr : Nat.ble (matchX xs ys w).length big = true := big_of (by rw [matchX_len]; omega)
      have hz : Nat.ble (0 + xs.length) big = true := big_of (by omega)
      have d1 : ¬ ((xs.length : Int) > 128) := by omega
      have d2 : ¬ ((ys.length : Int) > 128) := by omega
      have e := rep_map (matchAt xs ys w) xs.length 0 []
      rw [matchAt_eq, List.nil_append] at e
      cases h1 : fin w <;> cases h2 : fcmp .lss .f32 w 0 <;> cases h3 : xs.all fin <;> cases h4 : ys.all fin <;> simp [hx, hy, hz, hr, c1, c2, d1, d2, e]
    · have d1 : ¬ ((xs.length : Int) > 128) := by omega
      have d2 : ((ys.length : Int) > 128) := by omega
      simp [c1, c2, d1, d2]
  · have d1 : ((xs.length : Int) > 128) := by omega
    simp [c1, d1]
theorem c13 (xs : List Nat) (ys : List Nat) (w : Nat) (k : List RV → R) (out : Out) (h : k [.fresh 2 ⟨.i64, orNil (matchOk xs ys w) (matchX xs ys w)⟩, .el (.sc (.bo (matchOk xs ys w)))] = some out) : ∃ rs, Real Try.prog 13 ∧ COK Try.prog 13 [.vw none ⟨.f32, xs⟩, .vw none ⟨.f32, ys⟩, .el (.sc (.fl .f32 w))] rs ∧ k rs = some out := by
  cases g0 : (matchOk xs ys w : Bool) with
  | true =>
    rw [g0] at h
    exact ⟨_, real Try.func13 (by kernel_rfl), fn_ok tok2 (A := a13) (L := l13) (r := none) Try.func13 (by kernel_rfl) (by kernel_rfl) (loops4 (by kernel_rfl) lk13 lk13_1 lk13_2 lk13_3) (by rw [s13, g0]; rfl), h⟩
  | false =>
    rw [g0] at h
    exact ⟨_, real Try.func13 (by kernel_rfl), COK.nil (fn_ok tok2 (A := a13) (L := l13) (r := none) Try.func13 (by kernel_rfl) (by kernel_rfl) (loops4 (by kernel_rfl) lk13 lk13_1 lk13_2 lk13_3) (by rw [s13, g0] <;> rfl)), h⟩

/-! slices.IndexFunc[[]float32,float32] -/
def a74 : Ann := ann [(2, [0, 1, 7, 8], [])] [4] 0
def lp74 : St → (Ex → St → R) → R := fun s k => match s with
  | ⟨[(0, .fv (.vw (some 0) ⟨.f32, xs⟩)), (1, .fv (.fn 73 [])), (7, .fv (.el (.sc (.int .i64 n)))), (8, .fv (.el (.sc (.int .i64 i))))], []⟩ => (match (decide (n = (xs.length : Int)) && (decide (i = 0) && Nat.ble xs.length big) : Bool) with
    | true => (match xs.findIdx? notFin with
      | some q => k .ret ⟨[(4, .fv (.el (.sc (.int .i64 ((q : Int))))))], []⟩
      | none => k (.exit 0) ⟨[], []⟩)
    | false => none)
  | _ => none
def l74 : Loops := fun key s k => bif Nat.beq key 2 then lp74 s k else none
theorem st74 (xs : List Nat) (n : Int) (i : Int) (m : Nat) (k : Ex → St → R) : iterK a74 [0, 1, 7, 8] [] (codeK T2 a74 l74 Try.f74.ntmps (loopAt Try.f74 0)) (m + 1) ⟨[(0, .fv (.vw (some 0) ⟨.f32, xs⟩)), (1, .fv (.fn 73 [])), (7, .fv (.el (.sc (.int .i64 n)))), (8, .fv (.el (.sc (.int .i64 i))))], []⟩ k = (match (decide ((i : Int) < n) : Bool) with
  | true => (match (decide (0 ≤ (i : Int) ∧ (i : Int) < (xs.length : Int)) && true : Bool) with
    | true => (match (xs : List Nat)[Int.toNat i]? with
      | some x1 => (match (notFin x1 : Bool) with
        | true => k .ret ⟨[(4, .fv (.el (.sc (.int .i64 i))))], []⟩
        | false => iterK a74 [0, 1, 7, 8] [] (codeK T2 a74 l74 Try.f74.ntmps (loopAt Try.f74 0)) m ⟨[(0, .fv (.vw (some 0) ⟨.f32, xs⟩)), (1, .fv (.fn 73 [])), (7, .fv (.el (.sc (.int .i64 n)))), (8, .fv (.el (.sc (.int .i64 (IntKind.i64.wrap (i + 1))))))], []⟩ k)
      | none => none)
    | false => none)
  | false => k (.exit 0) ⟨[], []⟩) := by kernel_rfl
theorem ind74 (xs : List Nat) (hx : Nat.ble xs.length big = true) (k : Ex → St → R) : ∀ (m j : Nat), j + m = xs.length → iterK a74 [0, 1, 7, 8] [] (codeK T2 a74 l74 Try.f74.ntmps (loopAt Try.f74 0)) (m + 1) ⟨[(0, .fv (.vw (some 0) ⟨.f32, xs⟩)), (1, .fv (.fn 73 [])), (7, .fv (.el (.sc (.int .i64 (xs.length : Int))))), (8, .fv (.el (.sc (.int .i64 (j : Int)))))], []⟩ k =
    (match (xs.drop j).findIdx? notFin with
    | some q => k .ret ⟨[(4, .fv (.el (.sc (.int .i64 ((j + q : Nat) : Int)))))], []⟩
    | none => k (.exit 0) ⟨[], []⟩) := by
  intro m
  induction m with
  | zero =>
    intro j hj
    have h1 : ¬ ((j : Int) < (xs.length : Int)) := by omega
    rw [st74]
    have h2 : xs.drop j = [] := List.drop_of_length_le (by omega)
    simp [h1, h2]
  | succ m ih =>
    intro j hj
    have hlt : j < xs.length := by omega
    have h1 : ((j : Int) < (xs.length : Int)) := by omega
    have h2 : (0 : Int) ≤ (j : Int) := by omega
    rw [st74, wrap_succ hlt hx]
    have h3 : xs[Int.toNat (j : Int)]? = some xs[j] := by simp [hlt]
    rw [List.drop_eq_getElem_cons hlt, List.findIdx?_cons]
    simp only [h1, h2, h3, and_self, decide_true, Bool.and_true]
    cases hp : notFin xs[j] with
    | true => simp
    | false =>
      rw [ih (j + 1) (by omega)]
      cases (xs.drop (j + 1)).findIdx? notFin with
      | none => rfl
      | some q => simp only [Bool.false_eq_true, if_false, Option.map_some]; rw [show j + 1 + q = j + (q + 1) by omega]
theorem lk74 : LOK T2 a74 l74 Try.f74.ntmps (loopAt Try.f74 0) := by
  intro ins outs hA s k out h
  have hA' : ([0, 1, 7, 8], []) = (ins, outs) := Option.some.inj ((show a74.lp (firstRegion (loopAt Try.f74 0)) = some ([0, 1, 7, 8], []) by kernel_rfl).symm.trans hA)
  cases hA'
  have hk : firstRegion (loopAt Try.f74 0) = 2 := by kernel_rfl
  rw [hk] at h
  change lp74 s k = some out at h
  unfold lp74 at h
  split at h
  · rename_i xs n i
    cases hg : (decide (n = (xs.length : Int)) && (decide (i = 0) && Nat.ble xs.length big)) with
    | false => rw [hg] at h; cases h
    | true =>
      rw [hg] at h
      simp only [Bool.and_eq_true, decide_eq_true_eq] at hg
      obtain ⟨rfl, rfl, hx⟩ := hg
      refine ⟨xs.length + 1, ?_⟩
      have := ind74 xs hx k xs.length 0 (by omega)
      simp only [List.drop_zero, Nat.zero_add] at this
      exact this.trans h
  · cases h
theorem e74 (xs : List Nat) : runFn T2 a74 l74 Try.f74 [.vw none ⟨.f32, xs⟩, .fn 73 []] = (match (decide ((xs.length : Int) = (xs.length : Int)) && (decide (0 = 0) && Nat.ble xs.length big) : Bool) with
  | true => (match xs.findIdx? notFin with
    | some q => some ⟨[.el (.sc (.int .i64 ((q : Int))))], none⟩
    | none => some ⟨[.el (.sc (.int .i64 ((-1))))], none⟩)
  | false => none) := by kernel_rfl
theorem s74 (xs : List Nat) : runFn T2 a74 l74 Try.f74 [.vw none ⟨.f32, xs⟩, .fn 73 []] = (match (Nat.ble xs.length big : Bool) with
  | true => some ⟨[.el (.sc (.int .i64 (firstAt notFin xs)))], none⟩
  | false => none) := by
  rw [e74]
  unfold firstAt
  cases h : Nat.ble xs.length big with
  | false => simp [h]
  | true =>
    cases h2 : xs.findIdx? notFin with
    | some q => simp [h, h2]
    | none => simp [h, h2]
theorem c74 (xs : List Nat) (k : List RV → R) (out : Out) (h : (match (Nat.ble xs.length big : Bool) with
  | true => k [.el (.sc (.int .i64 (firstAt notFin xs)))]
  | false => none) = some out) : ∃ rs, Real Try.prog 74 ∧ COK Try.prog 74 [.vw none ⟨.f32, xs⟩, .fn 73 []] rs ∧ k rs = some out := by
  cases g0 : (Nat.ble xs.length big : Bool) with
  | true =>
    rw [g0] at h
    exact ⟨_, real Try.func74 (by kernel_rfl), fn_ok tok2 (A := a74) (L := l74) (r := none) Try.func74 (by kernel_rfl) (by kernel_rfl) (loops1 (by kernel_rfl) lk74) (by rw [s74, g0]), h⟩
  | false =>
    rw [g0] at h
    cases h

def S3 : SFn := fun f args k => match f, args with
  | 13, [.vw none ⟨.f32, xs⟩, .vw none ⟨.f32, ys⟩, .el (.sc (.fl .f32 w))] => k [.fresh 2 ⟨.i64, orNil (matchOk xs ys w) (matchX xs ys w)⟩, .el (.sc (.bo (matchOk xs ys w)))]
  | 74, [.vw none ⟨.f32, xs⟩, .fn 73 []] => (match (Nat.ble xs.length big : Bool) with
    | true => k [.el (.sc (.int .i64 (firstAt notFin xs)))]
    | false => none)
  | _, _ => S2 f args k
abbrev M3 : MFn := M2
def T3 : TT := tab.T S3 muts M3
theorem tok3 : TOK Try.prog T3 := by
  refine (tab_ok tabok).tok (fun f args k out h => ?_) (fun f vec args k out h => ?_)
  · change S3 f args k = some out at h
    unfold S3 at h
    split at h
    · exact (fun k out h => cok_call (c13 _ _ _ k out h)) k out h
    · exact (fun k out h => cok_call (c74 _ k out h)) k out h
    · exact tok2.S f args k out h
  · exact tok2.M f vec args k out h

end Go.Sm.Ytngcejakoaoojaa
