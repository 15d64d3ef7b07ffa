/- What the functions hand back: level 6. -/
import Derived.Test.YtngcejakoaoojaaD6
namespace Go.Sm.Ytngcejakoaoojaa
open Go Go.Sm Go.RowKit Go.Proofs

/-! impl.MatchLines -/
def a15 : Ann := ann [(5, [1, 2, 8, 9, 41, 42, 43], [8, 9]), (9, [1, 2, 8, 9, 11, 12, 13, 41, 42, 43, 47, 48, 49], [1, 2, 8, 9, 12, 13, 41, 42, 43]), (19, [8, 9, 17, 84, 85, 86], [17]), (22, [8, 9, 17, 18, 19, 84, 85, 86, 91, 92, 93], [8, 9, 17, 84, 85, 86])] [6, 7] 0
def lp15 : St → (Ex → St → R) → R := fun s k => match s with
  | ⟨[(1, .fv (.vw (some 1) ⟨.f32, ys⟩)), (2, .fv (.el (.sc (.fl .f32 w)))), (8, .fv (.own 0)), (9, .fv (.own 1)), (41, .fv (.vw (some 0) ⟨.f32, xs⟩)), (42, .fv (.el (.sc (.int .i64 n)))), (43, .fv (.el (.sc (.int .i64 i))))], [some ⟨2, ⟨.i64, us⟩⟩, some ⟨29, ⟨.f32, fs⟩⟩]⟩ => (match ((decide (n = (xs.length : Int)) && (decide (i = 0) && (Nat.ble xs.length big && (Nat.ble ys.length big && (Nat.ble ((us : List Int).length + xs.length) big && Nat.ble ((fs : List Nat).length + xs.length) big))))) : Bool) with
    | true => k (.exit 0) ⟨[(8, .fv (.own 0)), (9, .fv (.own 1))], [some ⟨2, ⟨.i64, (rep (fun j s => (s.1 ++ [(nearOf ys w (xs.getD j 0)).1], s.2 ++ [(nearOf ys w (xs.getD j 0)).2])) (xs.length) 0 (((us : List Int), (fs : List Nat)) : (List Int) × (List Nat))).1⟩⟩, some ⟨29, ⟨.f32, (rep (fun j s => (s.1 ++ [(nearOf ys w (xs.getD j 0)).1], s.2 ++ [(nearOf ys w (xs.getD j 0)).2])) (xs.length) 0 (((us : List Int), (fs : List Nat)) : (List Int) × (List Nat))).2⟩⟩]⟩
    | false => none)
  | _ => none
def lp15_1 : St → (Ex → St → R) → R := fun s k => match s with
  | ⟨[(1, .fv (.vw (some 1) ⟨.f32, ys⟩)), (2, .fv (.el (.sc (.fl .f32 w)))), (8, .fv (.own 0)), (9, .fv (.own 1)), (11, .fv (.el (.sc (.fl .f32 x)))), (12, .fv (.el (.sc (.int .i64 b)))), (13, .fv (.el (.sc (.fl .f32 l)))), (41, .fv (.vw (some 0) ⟨.f32, xs⟩)), (42, .fv (.el (.sc (.int .i64 p)))), (43, .fv (.el (.sc (.int .i64 c)))), (47, .fv (.vw (some 1) ⟨.f32, qs⟩)), (48, .fv (.el (.sc (.int .i64 n)))), (49, .fv (.el (.sc (.int .i64 i))))], [some ⟨2, ⟨.i64, us⟩⟩, some ⟨29, ⟨.f32, fs⟩⟩]⟩ => (match ((decide (n = (qs.length : Int)) && (decide (i = 0) && Nat.ble qs.length big)) : Bool) with
    | true => k (.exit 2) ⟨[(1, .fv (.vw (some 1) ⟨.f32, ys⟩)), (2, .fv (.el (.sc (.fl .f32 w)))), (8, .fv (.own 0)), (9, .fv (.own 1)), (12, .fv (.el (.sc (.int .i64 ((rep (nearStep qs w x) (qs.length) 0 ((b, l) : Int × Nat)).1))))), (13, .fv (.el (.sc (.fl .f32 ((rep (nearStep qs w x) (qs.length) 0 ((b, l) : Int × Nat)).2))))), (41, .fv (.vw (some 0) ⟨.f32, xs⟩)), (42, .fv (.el (.sc (.int .i64 p)))), (43, .fv (.el (.sc (.int .i64 c))))], [some ⟨2, ⟨.i64, (us : List Int)⟩⟩, some ⟨29, ⟨.f32, (fs : List Nat)⟩⟩]⟩
    | false => none)
  | _ => none
def lp15_2 : St → (Ex → St → R) → R := fun s k => match s with
  | ⟨[(8, .fv (.own 2)), (9, .fv (.own 0)), (17, .fv (.own 1)), (84, .fv (.own 2)), (85, .fv (.el (.sc (.int .i64 n)))), (86, .fv (.el (.sc (.int .i64 i))))], [some ⟨29, ⟨.f32, fs⟩⟩, some ⟨2, ⟨.i64, os⟩⟩, some ⟨2, ⟨.i64, us⟩⟩]⟩ => (match ((decide (n = ((us : List Int).length : Int)) && (decide (i = 0) && (Nat.ble (us : List Int).length big && (Nat.beq (fs : List Nat).length (us : List Int).length && Nat.beq (os : List Int).length (us : List Int).length)))) : Bool) with
    | true => k (.exit 4) ⟨[(17, .fv (.own 0))], [some ⟨2, ⟨.i64, rep (fun i os => rep (fun j s => bif loseB (us : List Int) (fs : List Nat) i j then s.set i (-1) else s) (us : List Int).length 0 os) ((us : List Int).length) 0 ((os : List Int) : (List Int))⟩⟩]⟩
    | false => none)
  | _ => none
def lp15_3 : St → (Ex → St → R) → R := fun s k => match s with
  | ⟨[(8, .fv (.own 2)), (9, .fv (.own 0)), (17, .fv (.own 1)), (18, .fv (.el (.sc (.int .i64 q)))), (19, .fv (.el (.sc (.int .i64 v)))), (84, .fv (.own 2)), (85, .fv (.el (.sc (.int .i64 n)))), (86, .fv (.el (.sc (.int .i64 c)))), (91, .fv (.own 2)), (92, .fv (.el (.sc (.int .i64 p)))), (93, .fv (.el (.sc (.int .i64 i))))], [some ⟨29, ⟨.f32, fs⟩⟩, some ⟨2, ⟨.i64, os⟩⟩, some ⟨2, ⟨.i64, us⟩⟩]⟩ => (match ((decide (p = ((us : List Int).length : Int)) && (decide (i = 0) && (Nat.ble (us : List Int).length big && (Nat.beq (fs : List Nat).length (us : List Int).length && (decide (0 ≤ q ∧ q < ((us : List Int).length : Int)) && ((v == (us : List Int).getD (Int.toNat q) 0) && Nat.beq (os : List Int).length (us : List Int).length)))))) : Bool) with
    | true => k (.exit 6) ⟨[(8, .fv (.own 2)), (9, .fv (.own 0)), (17, .fv (.own 1)), (84, .fv (.own 2)), (85, .fv (.el (.sc (.int .i64 n)))), (86, .fv (.el (.sc (.int .i64 c))))], [some ⟨29, ⟨.f32, (fs : List Nat)⟩⟩, some ⟨2, ⟨.i64, rep (fun j s => bif loseB (us : List Int) (fs : List Nat) (Int.toNat q) j then s.set (Int.toNat q) (-1) else s) ((us : List Int).length) 0 ((os : List Int) : (List Int))⟩⟩, some ⟨2, ⟨.i64, (us : List Int)⟩⟩]⟩
    | false => none)
  | _ => none
def l15 : Loops := fun key s k => bif Nat.beq key 5 then lp15 s k else bif Nat.beq key 9 then lp15_1 s k else bif Nat.beq key 19 then lp15_2 s k else bif Nat.beq key 22 then lp15_3 s k else none
theorem st15 (ys : List Nat) (w : Nat) (xs : List Nat) (n : Int) (i : Int) (us : List Int) (fs : List Nat) (m : Nat) (k : Ex → St → R) : iterK a15 [1, 2, 8, 9, 41, 42, 43] [8, 9] (codeK T6 a15 l15 Try.f15.ntmps (loopAt Try.f15 0)) (m + 1) ⟨[(1, .fv (.vw (some 1) ⟨.f32, ys⟩)), (2, .fv (.el (.sc (.fl .f32 w)))), (8, .fv (.own 0)), (9, .fv (.own 1)), (41, .fv (.vw (some 0) ⟨.f32, xs⟩)), (42, .fv (.el (.sc (.int .i64 n)))), (43, .fv (.el (.sc (.int .i64 i))))], [some ⟨2, ⟨.i64, us⟩⟩, some ⟨29, ⟨.f32, fs⟩⟩]⟩ k = (match (decide ((i : Int) < n) : Bool) with
  | true => (match (decide (0 ≤ (i : Int) ∧ (i : Int) < (xs.length : Int)) && true : Bool) with
    | true => (match (xs : List Nat)[Int.toNat i]? with
      | some x1 => (match ((decide (((ys.length : Int)) = (ys.length : Int)) && (decide (0 = 0) && Nat.ble ys.length big)) : Bool) with
        | true => (match (Nat.beq 2 2 && decide (((us : List Int) : List Int).length + ([(rep (nearStep ys w x1) (ys.length) 0 ((((-1)), 0) : Int × Nat)).1] : List Int).length ≤ 1099511627776) : Bool) with
          | true => (match (Nat.beq 29 29 && decide (((fs : List Nat) : List Nat).length + ([(rep (nearStep ys w x1) (ys.length) 0 ((((-1)), 0) : Int × Nat)).2] : List Nat).length ≤ 1099511627776) : Bool) with
            | true => iterK a15 [1, 2, 8, 9, 41, 42, 43] [8, 9] (codeK T6 a15 l15 Try.f15.ntmps (loopAt Try.f15 0)) m ⟨[(1, .fv (.vw (some 1) ⟨.f32, ys⟩)), (2, .fv (.el (.sc (.fl .f32 w)))), (8, .fv (.own 0)), (9, .fv (.own 1)), (41, .fv (.vw (some 0) ⟨.f32, xs⟩)), (42, .fv (.el (.sc (.int .i64 n)))), (43, .fv (.el (.sc (.int .i64 (IntKind.i64.wrap (i + 1))))))], [some ⟨2, ⟨.i64, ((us : List Int) : List Int) ++ ([(rep (nearStep ys w x1) (ys.length) 0 ((((-1)), 0) : Int × Nat)).1])⟩⟩, some ⟨29, ⟨.f32, ((fs : List Nat) : List Nat) ++ ([(rep (nearStep ys w x1) (ys.length) 0 ((((-1)), 0) : Int × Nat)).2])⟩⟩]⟩ k
            | false => none)
          | false => none)
        | false => none)
      | none => none)
    | false => none)
  | false => k (.exit 0) ⟨[(8, .fv (.own 0)), (9, .fv (.own 1))], [some ⟨2, ⟨.i64, us⟩⟩, some ⟨29, ⟨.f32, fs⟩⟩]⟩) := by kernel_rfl
theorem ind15 (ys : List Nat) (w : Nat) (xs : List Nat) (hx : (Nat.ble xs.length big) = true) (hy : (Nat.ble ys.length big) = true) (k : Ex → St → R) : ∀ (m j : Nat) (us : List Int) (fs : List Nat), us.length + m ≤ 1099511627776 → fs.length + m ≤ 1099511627776 → 0 ≤ j → j + m = xs.length → iterK a15 [1, 2, 8, 9, 41, 42, 43] [8, 9] (codeK T6 a15 l15 Try.f15.ntmps (loopAt Try.f15 0)) (m + 1) ⟨[(1, .fv (.vw (some 1) ⟨.f32, ys⟩)), (2, .fv (.el (.sc (.fl .f32 w)))), (8, .fv (.own 0)), (9, .fv (.own 1)), (41, .fv (.vw (some 0) ⟨.f32, xs⟩)), (42, .fv (.el (.sc (.int .i64 (xs.length : Int))))), (43, .fv (.el (.sc (.int .i64 (j : Int)))))], [some ⟨2, ⟨.i64, us⟩⟩, some ⟨29, ⟨.f32, fs⟩⟩]⟩ k =
    k (.exit 0) ⟨[(8, .fv (.own 0)), (9, .fv (.own 1))], [some ⟨2, ⟨.i64, (rep (fun j s => (s.1 ++ [(nearOf ys w (xs.getD j 0)).1], s.2 ++ [(nearOf ys w (xs.getD j 0)).2])) m j ((us, fs) : (List Int) × (List Nat))).1⟩⟩, some ⟨29, ⟨.f32, (rep (fun j s => (s.1 ++ [(nearOf ys w (xs.getD j 0)).1], s.2 ++ [(nearOf ys w (xs.getD j 0)).2])) m j ((us, fs) : (List Int) × (List Nat))).2⟩⟩]⟩ := by
  intro m
  induction m with
  | zero =>
    intro j us fs hs0 hs1 hlo hj
    have hx_ := big_le hx
    have hy_ := big_le hy
    have h1 : ¬ (((j : Int) < (xs.length : Int))) := by omega
    rw [st15]
    simp only [h1, rep, decide_false, hx, hy, List.length_singleton] <;> rfl
  | succ m ih =>
    intro j us fs hs0 hs1 hlo hj
    have hx_ := big_le hx
    have hy_ := big_le hy
    have h1 : ((j : Int) < (xs.length : Int)) := by omega
    have bq1 : Nat.beq 2 2 = true := rfl
    have zl1 : us.length + 1 ≤ 1099511627776 := by omega
    have bq2 : Nat.beq 29 29 = true := rfl
    have zl2 : fs.length + 1 ≤ 1099511627776 := by omega
    have xb : (0 : Int) ≤ ((j : Nat) : Int) ∧ ((j : Nat) : Int) < (xs.length : Int) := by omega
    have xq : xs[Int.toNat ((j : Nat) : Int)]? = some (xs.getD (j) 0) := getI (by omega)
    have xp : xs[j]? = some (xs.getD (j) 0) := getI2 (by omega)
    have q3 : ∀ x, rep (nearStep ys w x) ys.length 0 (-1, 0) = nearOf ys w x := fun _ => rfl
    have wn : IntKind.i64.wrap ((j : Int) + 1) = ((j + 1 : Nat) : Int) := wrapN (by omega) (by omega)
    rw [st15]
    simp only [h1, wn, bq1, zl1, bq2, zl2, xb, xq, xp, q3, and_self, decide_true, Bool.and_true, Int.le_refl, hx, hy, List.length_singleton]
    try simp only [q3, Nat.ble, List.length_singleton]
    exact ih (j + 1) _ _ (by simp; omega) (by simp; omega) (by omega) (by omega)

theorem lk15 : LOK T6 a15 l15 Try.f15.ntmps (loopAt Try.f15 0) := by
  intro ins outs hA s k out h
  have hA' : ([1, 2, 8, 9, 41, 42, 43], [8, 9]) = (ins, outs) := Option.some.inj ((show a15.lp (firstRegion (loopAt Try.f15 0)) = some ([1, 2, 8, 9, 41, 42, 43], [8, 9]) by kernel_rfl).symm.trans hA)
  cases hA'
  have hk : firstRegion (loopAt Try.f15 0) = 5 := by kernel_rfl
  rw [hk] at h
  change lp15 s k = some out at h
  unfold lp15 at h
  split at h
  · rename_i ys w xs n i us fs
    cases hg : (decide (n = (xs.length : Int)) && (decide (i = 0) && (Nat.ble xs.length big && (Nat.ble ys.length big && (Nat.ble (us.length + xs.length) big && Nat.ble (fs.length + xs.length) big))))) with
    | false => rw [hg] at h; cases h
    | true =>
      rw [hg] at h
      simp only [Bool.and_eq_true, decide_eq_true_eq] at hg
      obtain ⟨rfl, rfl, hx, hy, gs0, gs1⟩ := hg
      refine ⟨(xs.length) + 1, ?_⟩
      have hx_ := big_le hx
      have hy_ := big_le hy
      have gs0_ := big_le gs0
      have gs1_ := big_le gs1
      exact (ind15 ys w xs hx hy k (xs.length) 0 us fs (by omega) (by omega) (by omega) (by omega)).trans h
  · cases h
theorem st15_1 (ys : List Nat) (w : Nat) (x : Nat) (b : Int) (l : Nat) (xs : List Nat) (p : Int) (c : Int) (qs : List Nat) (n : Int) (i : Int) (us : List Int) (fs : List Nat) (m : Nat) (k : Ex → St → R) : iterK a15 [1, 2, 8, 9, 11, 12, 13, 41, 42, 43, 47, 48, 49] [1, 2, 8, 9, 12, 13, 41, 42, 43] (codeK T6 a15 l15 Try.f15.ntmps (loopAt Try.f15 1)) (m + 1) ⟨[(1, .fv (.vw (some 1) ⟨.f32, ys⟩)), (2, .fv (.el (.sc (.fl .f32 w)))), (8, .fv (.own 0)), (9, .fv (.own 1)), (11, .fv (.el (.sc (.fl .f32 x)))), (12, .fv (.el (.sc (.int .i64 b)))), (13, .fv (.el (.sc (.fl .f32 l)))), (41, .fv (.vw (some 0) ⟨.f32, xs⟩)), (42, .fv (.el (.sc (.int .i64 p)))), (43, .fv (.el (.sc (.int .i64 c)))), (47, .fv (.vw (some 1) ⟨.f32, qs⟩)), (48, .fv (.el (.sc (.int .i64 n)))), (49, .fv (.el (.sc (.int .i64 i))))], [some ⟨2, ⟨.i64, us⟩⟩, some ⟨29, ⟨.f32, fs⟩⟩]⟩ k = (match (decide ((i : Int) < n) : Bool) with
  | true => (match (decide (0 ≤ (i : Int) ∧ (i : Int) < (qs.length : Int)) && true : Bool) with
    | true => (match (qs : List Nat)[Int.toNat i]? with
      | some x1 => (match (fcmp .leq .f32 (mag (fop .sub .f32 x x1)) w : Bool) with
        | true => (match (decide ((b : Int) < 0) : Bool) with
          | true => iterK a15 [1, 2, 8, 9, 11, 12, 13, 41, 42, 43, 47, 48, 49] [1, 2, 8, 9, 12, 13, 41, 42, 43] (codeK T6 a15 l15 Try.f15.ntmps (loopAt Try.f15 1)) m ⟨[(1, .fv (.vw (some 1) ⟨.f32, ys⟩)), (2, .fv (.el (.sc (.fl .f32 w)))), (8, .fv (.own 0)), (9, .fv (.own 1)), (11, .fv (.el (.sc (.fl .f32 x)))), (12, .fv (.el (.sc (.int .i64 i)))), (13, .fv (.el (.sc (.fl .f32 (mag (fop .sub .f32 x x1)))))), (41, .fv (.vw (some 0) ⟨.f32, xs⟩)), (42, .fv (.el (.sc (.int .i64 p)))), (43, .fv (.el (.sc (.int .i64 c)))), (47, .fv (.vw (some 1) ⟨.f32, qs⟩)), (48, .fv (.el (.sc (.int .i64 n)))), (49, .fv (.el (.sc (.int .i64 (IntKind.i64.wrap (i + 1))))))], [some ⟨2, ⟨.i64, us⟩⟩, some ⟨29, ⟨.f32, fs⟩⟩]⟩ k
          | false => (match (fcmp .lss .f32 (mag (fop .sub .f32 x x1)) l : Bool) with
            | true => iterK a15 [1, 2, 8, 9, 11, 12, 13, 41, 42, 43, 47, 48, 49] [1, 2, 8, 9, 12, 13, 41, 42, 43] (codeK T6 a15 l15 Try.f15.ntmps (loopAt Try.f15 1)) m ⟨[(1, .fv (.vw (some 1) ⟨.f32, ys⟩)), (2, .fv (.el (.sc (.fl .f32 w)))), (8, .fv (.own 0)), (9, .fv (.own 1)), (11, .fv (.el (.sc (.fl .f32 x)))), (12, .fv (.el (.sc (.int .i64 i)))), (13, .fv (.el (.sc (.fl .f32 (mag (fop .sub .f32 x x1)))))), (41, .fv (.vw (some 0) ⟨.f32, xs⟩)), (42, .fv (.el (.sc (.int .i64 p)))), (43, .fv (.el (.sc (.int .i64 c)))), (47, .fv (.vw (some 1) ⟨.f32, qs⟩)), (48, .fv (.el (.sc (.int .i64 n)))), (49, .fv (.el (.sc (.int .i64 (IntKind.i64.wrap (i + 1))))))], [some ⟨2, ⟨.i64, us⟩⟩, some ⟨29, ⟨.f32, fs⟩⟩]⟩ k
            | false => iterK a15 [1, 2, 8, 9, 11, 12, 13, 41, 42, 43, 47, 48, 49] [1, 2, 8, 9, 12, 13, 41, 42, 43] (codeK T6 a15 l15 Try.f15.ntmps (loopAt Try.f15 1)) m ⟨[(1, .fv (.vw (some 1) ⟨.f32, ys⟩)), (2, .fv (.el (.sc (.fl .f32 w)))), (8, .fv (.own 0)), (9, .fv (.own 1)), (11, .fv (.el (.sc (.fl .f32 x)))), (12, .fv (.el (.sc (.int .i64 b)))), (13, .fv (.el (.sc (.fl .f32 l)))), (41, .fv (.vw (some 0) ⟨.f32, xs⟩)), (42, .fv (.el (.sc (.int .i64 p)))), (43, .fv (.el (.sc (.int .i64 c)))), (47, .fv (.vw (some 1) ⟨.f32, qs⟩)), (48, .fv (.el (.sc (.int .i64 n)))), (49, .fv (.el (.sc (.int .i64 (IntKind.i64.wrap (i + 1))))))], [some ⟨2, ⟨.i64, us⟩⟩, some ⟨29, ⟨.f32, fs⟩⟩]⟩ k))
        | false => iterK a15 [1, 2, 8, 9, 11, 12, 13, 41, 42, 43, 47, 48, 49] [1, 2, 8, 9, 12, 13, 41, 42, 43] (codeK T6 a15 l15 Try.f15.ntmps (loopAt Try.f15 1)) m ⟨[(1, .fv (.vw (some 1) ⟨.f32, ys⟩)), (2, .fv (.el (.sc (.fl .f32 w)))), (8, .fv (.own 0)), (9, .fv (.own 1)), (11, .fv (.el (.sc (.fl .f32 x)))), (12, .fv (.el (.sc (.int .i64 b)))), (13, .fv (.el (.sc (.fl .f32 l)))), (41, .fv (.vw (some 0) ⟨.f32, xs⟩)), (42, .fv (.el (.sc (.int .i64 p)))), (43, .fv (.el (.sc (.int .i64 c)))), (47, .fv (.vw (some 1) ⟨.f32, qs⟩)), (48, .fv (.el (.sc (.int .i64 n)))), (49, .fv (.el (.sc (.int .i64 (IntKind.i64.wrap (i + 1))))))], [some ⟨2, ⟨.i64, us⟩⟩, some ⟨29, ⟨.f32, fs⟩⟩]⟩ k)
      | none => none)
    | false => none)
  | false => k (.exit 2) ⟨[(1, .fv (.vw (some 1) ⟨.f32, ys⟩)), (2, .fv (.el (.sc (.fl .f32 w)))), (8, .fv (.own 0)), (9, .fv (.own 1)), (12, .fv (.el (.sc (.int .i64 b)))), (13, .fv (.el (.sc (.fl .f32 l)))), (41, .fv (.vw (some 0) ⟨.f32, xs⟩)), (42, .fv (.el (.sc (.int .i64 p)))), (43, .fv (.el (.sc (.int .i64 c))))], [some ⟨2, ⟨.i64, us⟩⟩, some ⟨29, ⟨.f32, fs⟩⟩]⟩) := by kernel_rfl
theorem ind15_1 (ys : List Nat) (w : Nat) (x : Nat) (xs : List Nat) (p : Int) (c : Int) (qs : List Nat) (us : List Int) (fs : List Nat) (hy : (Nat.ble qs.length big) = true) (k : Ex → St → R) : ∀ (m j : Nat) (b : Int) (l : Nat), 0 ≤ j → j + m = qs.length → iterK a15 [1, 2, 8, 9, 11, 12, 13, 41, 42, 43, 47, 48, 49] [1, 2, 8, 9, 12, 13, 41, 42, 43] (codeK T6 a15 l15 Try.f15.ntmps (loopAt Try.f15 1)) (m + 1) ⟨[(1, .fv (.vw (some 1) ⟨.f32, ys⟩)), (2, .fv (.el (.sc (.fl .f32 w)))), (8, .fv (.own 0)), (9, .fv (.own 1)), (11, .fv (.el (.sc (.fl .f32 x)))), (12, .fv (.el (.sc (.int .i64 b)))), (13, .fv (.el (.sc (.fl .f32 l)))), (41, .fv (.vw (some 0) ⟨.f32, xs⟩)), (42, .fv (.el (.sc (.int .i64 p)))), (43, .fv (.el (.sc (.int .i64 c)))), (47, .fv (.vw (some 1) ⟨.f32, qs⟩)), (48, .fv (.el (.sc (.int .i64 (qs.length : Int))))), (49, .fv (.el (.sc (.int .i64 (j : Int)))))], [some ⟨2, ⟨.i64, us⟩⟩, some ⟨29, ⟨.f32, fs⟩⟩]⟩ k =
    k (.exit 2) ⟨[(1, .fv (.vw (some 1) ⟨.f32, ys⟩)), (2, .fv (.el (.sc (.fl .f32 w)))), (8, .fv (.own 0)), (9, .fv (.own 1)), (12, .fv (.el (.sc (.int .i64 ((rep (nearStep qs w x) m j ((b, l) : Int × Nat)).1))))), (13, .fv (.el (.sc (.fl .f32 ((rep (nearStep qs w x) m j ((b, l) : Int × Nat)).2))))), (41, .fv (.vw (some 0) ⟨.f32, xs⟩)), (42, .fv (.el (.sc (.int .i64 p)))), (43, .fv (.el (.sc (.int .i64 c))))], [some ⟨2, ⟨.i64, us⟩⟩, some ⟨29, ⟨.f32, fs⟩⟩]⟩ := by
  intro m
  induction m with
  | zero =>
    intro j b l hlo hj
    have hy_ := big_le hy
    have h1 : ¬ (((j : Int) < (qs.length : Int))) := by omega
    rw [st15_1]
    simp only [h1, rep, decide_false] <;> rfl
  | succ m ih =>
    intro j b l hlo hj
    have hy_ := big_le hy
    have h1 : ((j : Int) < (qs.length : Int)) := by omega
    have yb : (0 : Int) ≤ ((j : Nat) : Int) ∧ ((j : Nat) : Int) < (qs.length : Int) := by omega
    have yq : qs[Int.toNat ((j : Nat) : Int)]? = some (qs.getD (j) 0) := getI (by omega)
    have yp : qs[j]? = some (qs.getD (j) 0) := getI2 (by omega)
    have wn : IntKind.i64.wrap ((j : Int) + 1) = ((j + 1 : Nat) : Int) := wrapN (by omega) (by omega)
    rw [st15_1]
    simp only [h1, wn, yb, yq, yp, and_self, decide_true, Bool.and_true, Int.le_refl]
    rw [rep_succ]
    have hs : nearStep qs w x j (b, l) = bif fcmp .leq .f32 (mag (fop .sub .f32 x (qs.getD j 0))) w && (decide (b < 0) || fcmp .lss .f32 (mag (fop .sub .f32 x (qs.getD j 0))) l) then ((j : Int), mag (fop .sub .f32 x (qs.getD j 0))) else (b, l) := rfl
    rw [hs]
    cases fcmp .leq .f32 (mag (fop .sub .f32 x (qs.getD j 0))) w <;> cases decide (b < 0) <;> cases fcmp .lss .f32 (mag (fop .sub .f32 x (qs.getD j 0))) l <;> exact ih (j + 1) _ _ (by omega) (by omega)

theorem lk15_1 : LOK T6 a15 l15 Try.f15.ntmps (loopAt Try.f15 1) := by
  intro ins outs hA s k out h
  have hA' : ([1, 2, 8, 9, 11, 12, 13, 41, 42, 43, 47, 48, 49], [1, 2, 8, 9, 12, 13, 41, 42, 43]) = (ins, outs) := Option.some.inj ((show a15.lp (firstRegion (loopAt Try.f15 1)) = some ([1, 2, 8, 9, 11, 12, 13, 41, 42, 43, 47, 48, 49], [1, 2, 8, 9, 12, 13, 41, 42, 43]) by kernel_rfl).symm.trans hA)
  cases hA'
  have hk : firstRegion (loopAt Try.f15 1) = 9 := by kernel_rfl
  rw [hk] at h
  change lp15_1 s k = some out at h
  unfold lp15_1 at h
  split at h
  · rename_i ys w x b l xs p c qs n i us fs
    cases hg : (decide (n = (qs.length : Int)) && (decide (i = 0) && Nat.ble qs.length big)) with
    | false => rw [hg] at h; cases h
    | true =>
      rw [hg] at h
      simp only [Bool.and_eq_true, decide_eq_true_eq] at hg
      obtain ⟨rfl, rfl, hy⟩ := hg
      refine ⟨(qs.length) + 1, ?_⟩
      have hy_ := big_le hy
      exact (ind15_1 ys w x xs p c qs us fs hy k (qs.length) 0 b l (by omega) (by omega)).trans h
  · cases h
theorem st15_2 (n : Int) (i : Int) (fs : List Nat) (os : List Int) (us : List Int) (m : Nat) (k : Ex → St → R) : iterK a15 [8, 9, 17, 84, 85, 86] [17] (codeK T6 a15 l15 Try.f15.ntmps (loopAt Try.f15 2)) (m + 1) ⟨[(8, .fv (.own 2)), (9, .fv (.own 0)), (17, .fv (.own 1)), (84, .fv (.own 2)), (85, .fv (.el (.sc (.int .i64 n)))), (86, .fv (.el (.sc (.int .i64 i))))], [some ⟨29, ⟨.f32, fs⟩⟩, some ⟨2, ⟨.i64, os⟩⟩, some ⟨2, ⟨.i64, us⟩⟩]⟩ k = (match (decide ((i : Int) < n) : Bool) with
  | true => (match (decide (0 ≤ (i : Int) ∧ (i : Int) < (us.length : Int)) && true : Bool) with
    | true => (match (us : List Int)[Int.toNat i]? with
      | some x1 => (match ((decide (((us.length : Int)) = ((us : List Int).length : Int)) && (decide (0 = 0) && (Nat.ble (us : List Int).length big && (Nat.beq (fs : List Nat).length (us : List Int).length && (decide (0 ≤ i ∧ i < ((us : List Int).length : Int)) && ((x1 == (us : List Int).getD (Int.toNat i) 0) && Nat.beq (os : List Int).length (us : List Int).length)))))) : Bool) with
        | true => iterK a15 [8, 9, 17, 84, 85, 86] [17] (codeK T6 a15 l15 Try.f15.ntmps (loopAt Try.f15 2)) m ⟨[(8, .fv (.own 2)), (9, .fv (.own 0)), (17, .fv (.own 1)), (84, .fv (.own 2)), (85, .fv (.el (.sc (.int .i64 n)))), (86, .fv (.el (.sc (.int .i64 (IntKind.i64.wrap (i + 1))))))], [some ⟨29, ⟨.f32, (fs : List Nat)⟩⟩, some ⟨2, ⟨.i64, rep (fun j s => bif loseB (us : List Int) (fs : List Nat) (Int.toNat i) j then s.set (Int.toNat i) (-1) else s) ((us : List Int).length) 0 ((os : List Int) : (List Int))⟩⟩, some ⟨2, ⟨.i64, (us : List Int)⟩⟩]⟩ k
        | false => none)
      | none => none)
    | false => none)
  | false => k (.exit 4) ⟨[(17, .fv (.own 0))], [some ⟨2, ⟨.i64, os⟩⟩]⟩) := by kernel_rfl
theorem ind15_2 (fs : List Nat) (us : List Int) (hu : (Nat.ble us.length big) = true) (hfl : (Nat.beq fs.length us.length) = true) (k : Ex → St → R) : ∀ (m j : Nat) (os : List Int), os.length = us.length → 0 ≤ j → j + m = us.length → iterK a15 [8, 9, 17, 84, 85, 86] [17] (codeK T6 a15 l15 Try.f15.ntmps (loopAt Try.f15 2)) (m + 1) ⟨[(8, .fv (.own 2)), (9, .fv (.own 0)), (17, .fv (.own 1)), (84, .fv (.own 2)), (85, .fv (.el (.sc (.int .i64 (us.length : Int))))), (86, .fv (.el (.sc (.int .i64 (j : Int)))))], [some ⟨29, ⟨.f32, fs⟩⟩, some ⟨2, ⟨.i64, os⟩⟩, some ⟨2, ⟨.i64, us⟩⟩]⟩ k =
    k (.exit 4) ⟨[(17, .fv (.own 0))], [some ⟨2, ⟨.i64, rep (fun i os => rep (fun j s => bif loseB us fs i j then s.set i (-1) else s) us.length 0 os) m j (os : (List Int))⟩⟩]⟩ := by
  intro m
  induction m with
  | zero =>
    intro j os hs0 hlo hj
    have hu_ := big_le hu
    have h1 : ¬ (((j : Int) < (us.length : Int))) := by omega
    rw [st15_2]
    simp only [h1, rep, decide_false, hu, hfl] <;> rfl
  | succ m ih =>
    intro j os hs0 hlo hj
    have hu_ := big_le hu
    have h1 : ((j : Int) < (us.length : Int)) := by omega
    have ub : (0 : Int) ≤ ((j : Nat) : Int) ∧ ((j : Nat) : Int) < (us.length : Int) := by omega
    have uq : us[Int.toNat ((j : Nat) : Int)]? = some (us.getD (j) 0) := getI (by omega)
    have up : us[j]? = some (us.getD (j) 0) := getI2 (by omega)
    have q1 : decide (0 ≤ (j : Int) ∧ (j : Int) < (us.length : Int)) = true := decide_eq_true (by omega)
    have q2 : (us.getD j 0 == us.getD (Int.toNat (j : Int)) 0) = true := by rw [Int.toNat_natCast]; exact beq_self_eq_true _
    have q4 : Nat.beq os.length us.length = true := by rw [hs0]; exact Nat.beq_refl _
    have wn : IntKind.i64.wrap ((j : Int) + 1) = ((j + 1 : Nat) : Int) := wrapN (by omega) (by omega)
    rw [st15_2]
    simp only [h1, wn, ub, uq, up, q1, q2, q4, and_self, decide_true, Bool.and_true, Int.le_refl, hu, hfl]
    try simp only [q1, q2, q4, Int.toNat_natCast, Bool.and_self, Bool.and_true, Bool.true_and, decide_true]
    exact ih (j + 1) _ (by rw [lose_set]; cases losesB us fs j us.length 0 <;> simpa using hs0) (by omega) (by omega)

theorem lk15_2 : LOK T6 a15 l15 Try.f15.ntmps (loopAt Try.f15 2) := by
  intro ins outs hA s k out h
  have hA' : ([8, 9, 17, 84, 85, 86], [17]) = (ins, outs) := Option.some.inj ((show a15.lp (firstRegion (loopAt Try.f15 2)) = some ([8, 9, 17, 84, 85, 86], [17]) by kernel_rfl).symm.trans hA)
  cases hA'
  have hk : firstRegion (loopAt Try.f15 2) = 19 := by kernel_rfl
  rw [hk] at h
  change lp15_2 s k = some out at h
  unfold lp15_2 at h
  split at h
  · rename_i n i fs os us
    cases hg : (decide (n = (us.length : Int)) && (decide (i = 0) && (Nat.ble us.length big && (Nat.beq fs.length us.length && Nat.beq os.length us.length)))) with
    | false => rw [hg] at h; cases h
    | true =>
      rw [hg] at h
      simp only [Bool.and_eq_true, decide_eq_true_eq] at hg
      obtain ⟨rfl, rfl, hu, hfl, gs0⟩ := hg
      refine ⟨(us.length) + 1, ?_⟩
      have hu_ := big_le hu
      have gs0_ := Nat.eq_of_beq_eq_true gs0
      exact (ind15_2 fs us hu hfl k (us.length) 0 os (by omega) (by omega) (by omega)).trans h
  · cases h
theorem st15_3 (q : Int) (v : Int) (n : Int) (c : Int) (p : Int) (i : Int) (fs : List Nat) (os : List Int) (us : List Int) (m : Nat) (k : Ex → St → R) : iterK a15 [8, 9, 17, 18, 19, 84, 85, 86, 91, 92, 93] [8, 9, 17, 84, 85, 86] (codeK T6 a15 l15 Try.f15.ntmps (loopAt Try.f15 3)) (m + 1) ⟨[(8, .fv (.own 2)), (9, .fv (.own 0)), (17, .fv (.own 1)), (18, .fv (.el (.sc (.int .i64 q)))), (19, .fv (.el (.sc (.int .i64 v)))), (84, .fv (.own 2)), (85, .fv (.el (.sc (.int .i64 n)))), (86, .fv (.el (.sc (.int .i64 c)))), (91, .fv (.own 2)), (92, .fv (.el (.sc (.int .i64 p)))), (93, .fv (.el (.sc (.int .i64 i))))], [some ⟨29, ⟨.f32, fs⟩⟩, some ⟨2, ⟨.i64, os⟩⟩, some ⟨2, ⟨.i64, us⟩⟩]⟩ k = (match (decide ((i : Int) < p) : Bool) with
  | true => (match (decide (0 ≤ (i : Int) ∧ (i : Int) < (us.length : Int)) && true : Bool) with
    | true => (match (us : List Int)[Int.toNat i]? with
      | some x1 => (match (decide ((v : Int) ≥ 0) : Bool) with
        | true => (match (!((i : Int) == q) : Bool) with
          | true => (match ((x1 : Int) == v : Bool) with
            | true => (match (decide (0 ≤ (i : Int) ∧ (i : Int) < (fs.length : Int)) && true : Bool) with
              | true => (match (fs : List Nat)[Int.toNat i]? with
                | some x2 => (match (decide (0 ≤ (q : Int) ∧ (q : Int) < (fs.length : Int)) && true : Bool) with
                  | true => (match (fs : List Nat)[Int.toNat q]? with
                    | some x3 => (match (fcmp .lss .f32 x2 x3 : Bool) with
                      | true => (match (decide (0 ≤ (q : Int) ∧ (q : Int) < (os.length : Int)) && true : Bool) with
                        | true => (match (os : List Int)[Int.toNat q]? with
                          | some x4 => iterK a15 [8, 9, 17, 18, 19, 84, 85, 86, 91, 92, 93] [8, 9, 17, 84, 85, 86] (codeK T6 a15 l15 Try.f15.ntmps (loopAt Try.f15 3)) m ⟨[(8, .fv (.own 2)), (9, .fv (.own 0)), (17, .fv (.own 1)), (18, .fv (.el (.sc (.int .i64 q)))), (19, .fv (.el (.sc (.int .i64 v)))), (84, .fv (.own 2)), (85, .fv (.el (.sc (.int .i64 n)))), (86, .fv (.el (.sc (.int .i64 c)))), (91, .fv (.own 2)), (92, .fv (.el (.sc (.int .i64 p)))), (93, .fv (.el (.sc (.int .i64 (IntKind.i64.wrap (i + 1))))))], [some ⟨29, ⟨.f32, fs⟩⟩, some ⟨2, ⟨.i64, (os : List Int).set (Int.toNat q) ((-1))⟩⟩, some ⟨2, ⟨.i64, us⟩⟩]⟩ k
                          | none => none)
                        | false => none)
                      | false => (match (decide (0 ≤ (i : Int) ∧ (i : Int) < (fs.length : Int)) && true : Bool) with
                        | true => (match (fs : List Nat)[Int.toNat i]? with
                          | some x5 => (match (decide (0 ≤ (q : Int) ∧ (q : Int) < (fs.length : Int)) && true : Bool) with
                            | true => (match (fs : List Nat)[Int.toNat q]? with
                              | some x6 => (match (fcmp .eql .f32 x5 x6 : Bool) with
                                | true => (match (decide ((i : Int) < q) : Bool) with
                                  | true => (match (decide (0 ≤ (q : Int) ∧ (q : Int) < (os.length : Int)) && true : Bool) with
                                    | true => (match (os : List Int)[Int.toNat q]? with
                                      | some x7 => iterK a15 [8, 9, 17, 18, 19, 84, 85, 86, 91, 92, 93] [8, 9, 17, 84, 85, 86] (codeK T6 a15 l15 Try.f15.ntmps (loopAt Try.f15 3)) m ⟨[(8, .fv (.own 2)), (9, .fv (.own 0)), (17, .fv (.own 1)), (18, .fv (.el (.sc (.int .i64 q)))), (19, .fv (.el (.sc (.int .i64 v)))), (84, .fv (.own 2)), (85, .fv (.el (.sc (.int .i64 n)))), (86, .fv (.el (.sc (.int .i64 c)))), (91, .fv (.own 2)), (92, .fv (.el (.sc (.int .i64 p)))), (93, .fv (.el (.sc (.int .i64 (IntKind.i64.wrap (i + 1))))))], [some ⟨29, ⟨.f32, fs⟩⟩, some ⟨2, ⟨.i64, (os : List Int).set (Int.toNat q) ((-1))⟩⟩, some ⟨2, ⟨.i64, us⟩⟩]⟩ k
                                      | none => none)
                                    | false => none)
                                  | false => iterK a15 [8, 9, 17, 18, 19, 84, 85, 86, 91, 92, 93] [8, 9, 17, 84, 85, 86] (codeK T6 a15 l15 Try.f15.ntmps (loopAt Try.f15 3)) m ⟨[(8, .fv (.own 2)), (9, .fv (.own 0)), (17, .fv (.own 1)), (18, .fv (.el (.sc (.int .i64 q)))), (19, .fv (.el (.sc (.int .i64 v)))), (84, .fv (.own 2)), (85, .fv (.el (.sc (.int .i64 n)))), (86, .fv (.el (.sc (.int .i64 c)))), (91, .fv (.own 2)), (92, .fv (.el (.sc (.int .i64 p)))), (93, .fv (.el (.sc (.int .i64 (IntKind.i64.wrap (i + 1))))))], [some ⟨29, ⟨.f32, fs⟩⟩, some ⟨2, ⟨.i64, os⟩⟩, some ⟨2, ⟨.i64, us⟩⟩]⟩ k)
                                | false => iterK a15 [8, 9, 17, 18, 19, 84, 85, 86, 91, 92, 93] [8, 9, 17, 84, 85, 86] (codeK T6 a15 l15 Try.f15.ntmps (loopAt Try.f15 3)) m ⟨[(8, .fv (.own 2)), (9, .fv (.own 0)), (17, .fv (.own 1)), (18, .fv (.el (.sc (.int .i64 q)))), (19, .fv (.el (.sc (.int .i64 v)))), (84, .fv (.own 2)), (85, .fv (.el (.sc (.int .i64 n)))), (86, .fv (.el (.sc (.int .i64 c)))), (91, .fv (.own 2)), (92, .fv (.el (.sc (.int .i64 p)))), (93, .fv (.el (.sc (.int .i64 (IntKind.i64.wrap (i + 1))))))], [some ⟨29, ⟨.f32, fs⟩⟩, some ⟨2, ⟨.i64, os⟩⟩, some ⟨2, ⟨.i64, us⟩⟩]⟩ k)
                              | none => none)
                            | false => none)
                          | none => none)
                        | false => none))
                    | none => none)
                  | false => none)
                | none => none)
              | false => none)
            | false => iterK a15 [8, 9, 17, 18, 19, 84, 85, 86, 91, 92, 93] [8, 9, 17, 84, 85, 86] (codeK T6 a15 l15 Try.f15.ntmps (loopAt Try.f15 3)) m ⟨[(8, .fv (.own 2)), (9, .fv (.own 0)), (17, .fv (.own 1)), (18, .fv (.el (.sc (.int .i64 q)))), (19, .fv (.el (.sc (.int .i64 v)))), (84, .fv (.own 2)), (85, .fv (.el (.sc (.int .i64 n)))), (86, .fv (.el (.sc (.int .i64 c)))), (91, .fv (.own 2)), (92, .fv (.el (.sc (.int .i64 p)))), (93, .fv (.el (.sc (.int .i64 (IntKind.i64.wrap (i + 1))))))], [some ⟨29, ⟨.f32, fs⟩⟩, some ⟨2, ⟨.i64, os⟩⟩, some ⟨2, ⟨.i64, us⟩⟩]⟩ k)
          | false => iterK a15 [8, 9, 17, 18, 19, 84, 85, 86, 91, 92, 93] [8, 9, 17, 84, 85, 86] (codeK T6 a15 l15 Try.f15.ntmps (loopAt Try.f15 3)) m ⟨[(8, .fv (.own 2)), (9, .fv (.own 0)), (17, .fv (.own 1)), (18, .fv (.el (.sc (.int .i64 q)))), (19, .fv (.el (.sc (.int .i64 v)))), (84, .fv (.own 2)), (85, .fv (.el (.sc (.int .i64 n)))), (86, .fv (.el (.sc (.int .i64 c)))), (91, .fv (.own 2)), (92, .fv (.el (.sc (.int .i64 p)))), (93, .fv (.el (.sc (.int .i64 (IntKind.i64.wrap (i + 1))))))], [some ⟨29, ⟨.f32, fs⟩⟩, some ⟨2, ⟨.i64, os⟩⟩, some ⟨2, ⟨.i64, us⟩⟩]⟩ k)
        | false => iterK a15 [8, 9, 17, 18, 19, 84, 85, 86, 91, 92, 93] [8, 9, 17, 84, 85, 86] (codeK T6 a15 l15 Try.f15.ntmps (loopAt Try.f15 3)) m ⟨[(8, .fv (.own 2)), (9, .fv (.own 0)), (17, .fv (.own 1)), (18, .fv (.el (.sc (.int .i64 q)))), (19, .fv (.el (.sc (.int .i64 v)))), (84, .fv (.own 2)), (85, .fv (.el (.sc (.int .i64 n)))), (86, .fv (.el (.sc (.int .i64 c)))), (91, .fv (.own 2)), (92, .fv (.el (.sc (.int .i64 p)))), (93, .fv (.el (.sc (.int .i64 (IntKind.i64.wrap (i + 1))))))], [some ⟨29, ⟨.f32, fs⟩⟩, some ⟨2, ⟨.i64, os⟩⟩, some ⟨2, ⟨.i64, us⟩⟩]⟩ k)
      | none => none)
    | false => none)
  | false => k (.exit 6) ⟨[(8, .fv (.own 2)), (9, .fv (.own 0)), (17, .fv (.own 1)), (84, .fv (.own 2)), (85, .fv (.el (.sc (.int .i64 n)))), (86, .fv (.el (.sc (.int .i64 c))))], [some ⟨29, ⟨.f32, fs⟩⟩, some ⟨2, ⟨.i64, os⟩⟩, some ⟨2, ⟨.i64, us⟩⟩]⟩) := by kernel_rfl
theorem ind15_3 (q : Int) (v : Int) (n : Int) (c : Int) (fs : List Nat) (us : List Int) (hu : (Nat.ble us.length big) = true) (hfl : (Nat.beq fs.length us.length) = true) (hq : (decide (0 ≤ q ∧ q < (us.length : Int))) = true) (hv : ((v == us.getD (Int.toNat q) 0)) = true) (k : Ex → St → R) : ∀ (m j : Nat) (os : List Int), os.length = us.length → 0 ≤ j → j + m = us.length → iterK a15 [8, 9, 17, 18, 19, 84, 85, 86, 91, 92, 93] [8, 9, 17, 84, 85, 86] (codeK T6 a15 l15 Try.f15.ntmps (loopAt Try.f15 3)) (m + 1) ⟨[(8, .fv (.own 2)), (9, .fv (.own 0)), (17, .fv (.own 1)), (18, .fv (.el (.sc (.int .i64 q)))), (19, .fv (.el (.sc (.int .i64 v)))), (84, .fv (.own 2)), (85, .fv (.el (.sc (.int .i64 n)))), (86, .fv (.el (.sc (.int .i64 c)))), (91, .fv (.own 2)), (92, .fv (.el (.sc (.int .i64 (us.length : Int))))), (93, .fv (.el (.sc (.int .i64 (j : Int)))))], [some ⟨29, ⟨.f32, fs⟩⟩, some ⟨2, ⟨.i64, os⟩⟩, some ⟨2, ⟨.i64, us⟩⟩]⟩ k =
    k (.exit 6) ⟨[(8, .fv (.own 2)), (9, .fv (.own 0)), (17, .fv (.own 1)), (84, .fv (.own 2)), (85, .fv (.el (.sc (.int .i64 n)))), (86, .fv (.el (.sc (.int .i64 c))))], [some ⟨29, ⟨.f32, fs⟩⟩, some ⟨2, ⟨.i64, rep (fun j s => bif loseB us fs (Int.toNat q) j then s.set (Int.toNat q) (-1) else s) m j (os : (List Int))⟩⟩, some ⟨2, ⟨.i64, us⟩⟩]⟩ := by
  intro m
  induction m with
  | zero =>
    intro j os hs0 hlo hj
    have hu_ := big_le hu
    have hq2 : 0 ≤ q ∧ q < (us.length : Int) := of_decide_eq_true hq
    have hv2 : v = us.getD (Int.toNat q) 0 := eq_of_beq hv
    have hf2 : fs.length = us.length := Nat.eq_of_beq_eq_true hfl
    have h1 : ¬ (((j : Int) < (us.length : Int))) := by omega
    rw [st15_3]
    simp only [h1, hq2, hv2, hf2, rep, decide_false, hu, hfl] <;> rfl
  | succ m ih =>
    intro j os hs0 hlo hj
    have hu_ := big_le hu
    have hq2 : 0 ≤ q ∧ q < (us.length : Int) := of_decide_eq_true hq
    have hv2 : v = us.getD (Int.toNat q) 0 := eq_of_beq hv
    have hf2 : fs.length = us.length := Nat.eq_of_beq_eq_true hfl
    have h1 : ((j : Int) < (us.length : Int)) := by omega
    have ub : (0 : Int) ≤ ((j : Nat) : Int) ∧ ((j : Nat) : Int) < (us.length : Int) := by omega
    have uq : us[Int.toNat ((j : Nat) : Int)]? = some (us.getD (j) 0) := getI (by omega)
    have up : us[j]? = some (us.getD (j) 0) := getI2 (by omega)
    have fb : (0 : Int) ≤ ((j : Nat) : Int) ∧ ((j : Nat) : Int) < (fs.length : Int) := by omega
    have fq : fs[Int.toNat ((j : Nat) : Int)]? = some (fs.getD (j) 0) := getI (by omega)
    have fp : fs[j]? = some (fs.getD (j) 0) := getI2 (by omega)
    have gq : fs[Int.toNat q]? = some (fs.getD (Int.toNat q) 0) := getI2 (by omega)
    have gqb : (0 : Int) ≤ q ∧ q < (fs.length : Int) := by omega
    have oq : os[Int.toNat q]? = some (os.getD (Int.toNat q) 0) := getI2 (by omega)
    have oqb : (0 : Int) ≤ q ∧ q < (os.length : Int) := by omega
    have wn : IntKind.i64.wrap ((j : Int) + 1) = ((j + 1 : Nat) : Int) := wrapN (by omega) (by omega)
    rw [st15_3]
    simp only [h1, wn, hq2, hv2, hf2, ub, uq, up, fb, fq, fp, gq, gqb, oq, oqb, and_self, decide_true, Bool.and_true, Int.le_refl, hu, hfl]
    have hqn : ((Int.toNat q : Nat) : Int) = q := by omega
    subst hv2
    have r1 := ih (j + 1) (os.set (Int.toNat q) (-1)) (by simpa using hs0) (by omega) (by omega)
    have r2 := ih (j + 1) os hs0 (by omega) (by omega)
    have ht : loseB us fs (Int.toNat q) j = (decide (us.getD (Int.toNat q) 0 ≥ 0) && (!((j : Int) == q) && (us.getD j 0 == us.getD (Int.toNat q) 0 && (fcmp .lss .f32 (fs.getD j 0) (fs.getD (Int.toNat q) 0) || (fcmp .eql .f32 (fs.getD j 0) (fs.getD (Int.toNat q) 0) && decide ((j : Int) < q)))))) := by
      unfold loseB
      rw [hqn]
    simp only [r1, r2]
    rw [rep_succ, ht]
    cases ((j : Int) == q) <;> cases decide (us.getD (Int.toNat q) 0 ≥ 0) <;> cases (us.getD j 0 == us.getD (Int.toNat q) 0) <;> cases fcmp .lss .f32 (fs.getD j 0) (fs.getD (Int.toNat q) 0) <;> cases fcmp .eql .f32 (fs.getD j 0) (fs.getD (Int.toNat q) 0) <;> cases decide ((j : Int) < q) <;> rfl

theorem lk15_3 : LOK T6 a15 l15 Try.f15.ntmps (loopAt Try.f15 3) := by
  intro ins outs hA s k out h
  have hA' : ([8, 9, 17, 18, 19, 84, 85, 86, 91, 92, 93], [8, 9, 17, 84, 85, 86]) = (ins, outs) := Option.some.inj ((show a15.lp (firstRegion (loopAt Try.f15 3)) = some ([8, 9, 17, 18, 19, 84, 85, 86, 91, 92, 93], [8, 9, 17, 84, 85, 86]) by kernel_rfl).symm.trans hA)
  cases hA'
  have hk : firstRegion (loopAt Try.f15 3) = 22 := by kernel_rfl
  rw [hk] at h
  change lp15_3 s k = some out at h
  unfold lp15_3 at h
  split at h
  · rename_i q v n c p i fs os us
    cases hg : (decide (p = (us.length : Int)) && (decide (i = 0) && (Nat.ble us.length big && (Nat.beq fs.length us.length && (decide (0 ≤ q ∧ q < (us.length : Int)) && ((v == us.getD (Int.toNat q) 0) && Nat.beq os.length us.length)))))) with
    | false => rw [hg] at h; cases h
    | true =>
      rw [hg] at h
      simp only [Bool.and_eq_true, decide_eq_true_eq] at hg
      obtain ⟨rfl, rfl, hu, hfl, hq, hv, gs0⟩ := hg
      refine ⟨(us.length) + 1, ?_⟩
      have hu_ := big_le hu
      have gs0_ := Nat.eq_of_beq_eq_true gs0
      exact (ind15_3 q v n c fs us hu hfl (decide_eq_true hq) hv k (us.length) 0 os (by omega) (by omega) (by omega)).trans h
  · cases h
theorem e15 (xs : List Nat) (ys : List Nat) (w : Nat) : runFn T6 a15 l15 Try.f15 [.vw none ⟨.f32, xs⟩, .vw none ⟨.f32, ys⟩, .el (.sc (.fl .f32 w))] = (match (!(listOk xs 0) : Bool) with
  | true => some ⟨[.nil, .el (.sc (.bo false))], none⟩
  | false => (match (!(listOk ys 0) : Bool) with
    | true => some ⟨[.nil, .el (.sc (.bo false))], none⟩
    | false => (match (!(fin w) : Bool) with
      | true => some ⟨[.nil, .el (.sc (.bo false))], none⟩
      | false => (match (fcmp .lss .f32 w 0 : Bool) with
        | true => some ⟨[.nil, .el (.sc (.bo false))], none⟩
        | false => (match ((decide (((xs.length : Int)) = (xs.length : Int)) && (decide (0 = 0) && (Nat.ble xs.length big && (Nat.ble ys.length big && (Nat.ble (([] : List Int).length + xs.length) big && Nat.ble (([] : List Nat).length + xs.length) big))))) : Bool) with
          | true => (match (Nat.ble ((rep (fun j s => (s.1 ++ [(nearOf ys w (xs.getD j 0)).1], s.2 ++ [(nearOf ys w (xs.getD j 0)).2])) (xs.length) 0 ((([] : List Int), ([] : List Nat)) : (List Int) × (List Nat))).1).length big : Bool) with
            | true => (match ((decide (((((rep (fun j s => (s.1 ++ [(nearOf ys w (xs.getD j 0)).1], s.2 ++ [(nearOf ys w (xs.getD j 0)).2])) (xs.length) 0 ((([] : List Int), ([] : List Nat)) : (List Int) × (List Nat))).1).length : Int)) = (((rep (fun j s => (s.1 ++ [(nearOf ys w (xs.getD j 0)).1], s.2 ++ [(nearOf ys w (xs.getD j 0)).2])) (xs.length) 0 ((([] : List Int), ([] : List Nat)) : (List Int) × (List Nat))).1 : List Int).length : Int)) && (decide (0 = 0) && (Nat.ble ((rep (fun j s => (s.1 ++ [(nearOf ys w (xs.getD j 0)).1], s.2 ++ [(nearOf ys w (xs.getD j 0)).2])) (xs.length) 0 ((([] : List Int), ([] : List Nat)) : (List Int) × (List Nat))).1 : List Int).length big && (Nat.beq ((rep (fun j s => (s.1 ++ [(nearOf ys w (xs.getD j 0)).1], s.2 ++ [(nearOf ys w (xs.getD j 0)).2])) (xs.length) 0 ((([] : List Int), ([] : List Nat)) : (List Int) × (List Nat))).2 : List Nat).length ((rep (fun j s => (s.1 ++ [(nearOf ys w (xs.getD j 0)).1], s.2 ++ [(nearOf ys w (xs.getD j 0)).2])) (xs.length) 0 ((([] : List Int), ([] : List Nat)) : (List Int) × (List Nat))).1 : List Int).length && Nat.beq ((rep (fun j s => (s.1 ++ [(nearOf ys w (xs.getD j 0)).1], s.2 ++ [(nearOf ys w (xs.getD j 0)).2])) (xs.length) 0 ((([] : List Int), ([] : List Nat)) : (List Int) × (List Nat))).1 : List Int).length ((rep (fun j s => (s.1 ++ [(nearOf ys w (xs.getD j 0)).1], s.2 ++ [(nearOf ys w (xs.getD j 0)).2])) (xs.length) 0 ((([] : List Int), ([] : List Nat)) : (List Int) × (List Nat))).1 : List Int).length)))) : Bool) with
              | true => some ⟨[.fresh 2 ⟨.i64, rep (fun i os => rep (fun j s => bif loseB ((rep (fun j s => (s.1 ++ [(nearOf ys w (xs.getD j 0)).1], s.2 ++ [(nearOf ys w (xs.getD j 0)).2])) (xs.length) 0 ((([] : List Int), ([] : List Nat)) : (List Int) × (List Nat))).1 : List Int) ((rep (fun j s => (s.1 ++ [(nearOf ys w (xs.getD j 0)).1], s.2 ++ [(nearOf ys w (xs.getD j 0)).2])) (xs.length) 0 ((([] : List Int), ([] : List Nat)) : (List Int) × (List Nat))).2 : List Nat) i j then s.set i (-1) else s) ((rep (fun j s => (s.1 ++ [(nearOf ys w (xs.getD j 0)).1], s.2 ++ [(nearOf ys w (xs.getD j 0)).2])) (xs.length) 0 ((([] : List Int), ([] : List Nat)) : (List Int) × (List Nat))).1 : List Int).length 0 os) (((rep (fun j s => (s.1 ++ [(nearOf ys w (xs.getD j 0)).1], s.2 ++ [(nearOf ys w (xs.getD j 0)).2])) (xs.length) 0 ((([] : List Int), ([] : List Nat)) : (List Int) × (List Nat))).1 : List Int).length) 0 (((rep (fun j s => (s.1 ++ [(nearOf ys w (xs.getD j 0)).1], s.2 ++ [(nearOf ys w (xs.getD j 0)).2])) (xs.length) 0 ((([] : List Int), ([] : List Nat)) : (List Int) × (List Nat))).1 : List Int) : (List Int))⟩, .el (.sc (.bo true))], none⟩
              | false => none)
            | false => none)
          | false => none))))) := by kernel_rfl
theorem s15 (xs : List Nat) (ys : List Nat) (w : Nat) : runFn T6 a15 l15 Try.f15 [.vw none ⟨.f32, xs⟩, .vw none ⟨.f32, ys⟩, .el (.sc (.fl .f32 w))] = (match (matchOk xs ys w : Bool) with
  | true => some ⟨[.fresh 2 ⟨.i64, matchX xs ys w⟩, .el (.sc (.bo true))], none⟩
  | false => some ⟨[.nil, .el (.sc (.bo false))], none⟩) := by
  rw [e15]
  unfold matchOk
  by_cases c1 : xs.length ≤ 128
  · by_cases c2 : ys.length ≤ 128
    · have hx : Nat.ble xs.length big = true := big_of (by omega)
      have hy : Nat.ble ys.length big = true := big_of (by omega)
      have hr : Nat.ble (matchX xs ys w).length big = true := big_of (by rw [matchX_len]; omega)
      have hz : Nat.ble (0 + xs.length) big = true := big_of (by omega)
      have d3 : (0 : Int) ≤ 0 := Int.le_refl 0
      have e := near_run xs ys w
      have e2 := match_sets2 xs ys w
      have hn : Nat.ble (nearN xs ys w).length big = true := big_of (by rw [nearN_len]; omega)
      have hfl : Nat.beq (nearF xs ys w).length (nearN xs ys w).length = true := by rw [nearF_len, nearN_len]; exact Nat.beq_refl _
      unfold listOk
      have d1 : ((xs.length : Int) ≥ 0) := by omega
      have d2 : ((ys.length : Int) ≥ 0) := by omega
      cases h1 : fin w <;> cases h2 : fcmp .lss .f32 w 0 <;> cases h3 : xs.all fin <;> cases h4 : ys.all fin <;> simp [-List.getD_eq_getElem?_getD, hx, hy, hz, hr, c1, c2, d1, d2, e, e2, hn, hfl, Nat.beq_refl]
    · unfold listOk
      cases xs.all fin <;> simp [c1, c2]
  · unfold listOk
    simp [c1]
theorem c15 (xs : List Nat) (ys : List Nat) (w : Nat) (k : List RV → R) (out : Out) (h : k [.fresh 2 ⟨.i64, orNil (matchOk xs ys w) (matchX xs ys w)⟩, .el (.sc (.bo (matchOk xs ys w)))] = some out) : ∃ rs, Real Try.prog 15 ∧ COK Try.prog 15 [.vw none ⟨.f32, xs⟩, .vw none ⟨.f32, ys⟩, .el (.sc (.fl .f32 w))] rs ∧ k rs = some out := by
  cases g0 : (matchOk xs ys w : Bool) with
  | true =>
    rw [g0] at h
    exact ⟨_, real Try.func15 (by kernel_rfl), fn_ok tok6 (A := a15) (L := l15) (r := none) Try.func15 (by kernel_rfl) (by kernel_rfl) (loops4 (by kernel_rfl) lk15 lk15_1 lk15_2 lk15_3) (by rw [s15, g0]; rfl), h⟩
  | false =>
    rw [g0] at h
    exact ⟨_, real Try.func15 (by kernel_rfl), COK.nil (fn_ok tok6 (A := a15) (L := l15) (r := none) Try.func15 (by kernel_rfl) (by kernel_rfl) (loops4 (by kernel_rfl) lk15 lk15_1 lk15_2 lk15_3) (by rw [s15, g0] <;> rfl)), h⟩

def S7 : SFn := fun f args k => match f, args with
  | 15, [.vw none ⟨.f32, xs⟩, .vw none ⟨.f32, ys⟩, .el (.sc (.fl .f32 w))] => k [.fresh 2 ⟨.i64, orNil (matchOk xs ys w) (matchX xs ys w)⟩, .el (.sc (.bo (matchOk xs ys w)))]
  | _, _ => S6 f args k
abbrev M7 : MFn := M6
def T7 : TT := tab.T S7 muts M7
theorem tok7 : TOK Try.prog T7 := by
  refine (tab_ok tabok).tok (fun f args k out h => ?_) (fun f vec args k out h => ?_)
  · change S7 f args k = some out at h
    unfold S7 at h
    split at h
    · exact (fun k out h => cok_call (c15 _ _ _ k out h)) k out h
    · exact tok6.S f args k out h
  · exact tok6.M f vec args k out h

end Go.Sm.Ytngcejakoaoojaa
