/- A machine on plain data, its laws: part 8. -/
import Derived.Test.YtngcejakoaoojaaK7
/- Rounds with a state, by a counter; what they come to. -/
namespace Go.Sm
open Go

section
variable {T : TT} {A : Ann} {L : Loops} {nt : Nat}

theorem loops_of {fn : Func} {n : Nat} (h : nLoops fn = n) (hl : ∀ i, i < n → LOK T A L nt (loopAt fn i)) : LoopsOk T A L nt (bodyOf fn) := loops_all fun b hb => by
  obtain ⟨i, hi⟩ := List.getElem?_of_mem hb
  have hlt : i < (loopBodies (bodyOf fn)).length := by
    rcases Nat.lt_or_ge i (loopBodies (bodyOf fn)).length with h' | h'
    · exact h'
    · rw [List.getElem?_eq_none h'] at hi; cases hi
  have := hl i (by unfold nLoops at h; omega)
  unfold loopAt at this
  rw [List.getD_eq_getElem?_getD, hi] at this
  exact this

theorem loops3 {fn : Func} (h : nLoops fn = 3) (h0 : LOK T A L nt (loopAt fn 0)) (h1 : LOK T A L nt (loopAt fn 1)) (h2 : LOK T A L nt (loopAt fn 2)) : LoopsOk T A L nt (bodyOf fn) := loops_of h fun i hi => by
  match i, hi with
  | 0, _ => exact h0
  | 1, _ => exact h1
  | 2, _ => exact h2
theorem loops4 {fn : Func} (h : nLoops fn = 4) (h0 : LOK T A L nt (loopAt fn 0)) (h1 : LOK T A L nt (loopAt fn 1)) (h2 : LOK T A L nt (loopAt fn 2)) (h3 : LOK T A L nt (loopAt fn 3)) : LoopsOk T A L nt (bodyOf fn) := loops_of h fun i hi => by
  match i, hi with
  | 0, _ => exact h0
  | 1, _ => exact h1
  | 2, _ => exact h2
  | 3, _ => exact h3
theorem loops5 {fn : Func} (h : nLoops fn = 5) (h0 : LOK T A L nt (loopAt fn 0)) (h1 : LOK T A L nt (loopAt fn 1)) (h2 : LOK T A L nt (loopAt fn 2)) (h3 : LOK T A L nt (loopAt fn 3)) (h4 : LOK T A L nt (loopAt fn 4)) : LoopsOk T A L nt (bodyOf fn) := loops_of h fun i hi => by
  match i, hi with
  | 0, _ => exact h0
  | 1, _ => exact h1
  | 2, _ => exact h2
  | 3, _ => exact h3
  | 4, _ => exact h4
end

/-- 'm' rounds from 'j' on, a state carried. -/
def rep {σ : Type} (f : Nat → σ → σ) : Nat → Nat → σ → σ
  | 0, _, s => s
  | m + 1, j, s => rep f m (j + 1) (f j s)

/-- The same; 'none': broken off. -/
def repE {σ : Type} (f : Nat → σ → Option σ) : Nat → Nat → σ → Option σ
  | 0, _, s => some s
  | m + 1, j, s => match f j s with
    | some t => repE f m (j + 1) t
    | none => none

theorem rep_succ {σ : Type} (f : Nat → σ → σ) (m j : Nat) (s : σ) : rep f (m + 1) j s = rep f m (j + 1) (f j s) := rfl
theorem repE_succ {σ : Type} (f : Nat → σ → Option σ) (m j : Nat) (s : σ) : repE f (m + 1) j s = match f j s with
    | some t => repE f m (j + 1) t
    | none => none := rfl

theorem rep_congr {σ : Type} {f g : Nat → σ → σ} {lo hi : Nat} (h : ∀ j s, lo ≤ j → j < hi → f j s = g j s) : ∀ (m j : Nat) (s : σ), lo ≤ j → j + m ≤ hi → rep f m j s = rep g m j s
  | 0, _, _, _, _ => rfl
  | m + 1, j, s, h1, h2 => by
    unfold rep
    rw [h j s h1 (by omega), rep_congr h m (j + 1) _ (by omega) (by omega)]

theorem repE_congr {σ : Type} {f g : Nat → σ → Option σ} {lo hi : Nat} (h : ∀ j s, lo ≤ j → j < hi → f j s = g j s) : ∀ (m j : Nat) (s : σ), lo ≤ j → j + m ≤ hi → repE f m j s = repE g m j s
  | 0, _, _, _, _ => rfl
  | m + 1, j, s, h1, h2 => by
    unfold repE
    rw [h j s h1 (by omega)]
    cases g j s with
    | none => rfl
    | some t => exact repE_congr h m (j + 1) t (by omega) (by omega)

/-- The numbers from 'j' on. -/
def fromTo (j m : Nat) : List Nat := List.range' j m

theorem fromTo_succ (j m : Nat) : fromTo j (m + 1) = j :: fromTo (j + 1) m := rfl
theorem fromTo_len (j m : Nat) : (fromTo j m).length = m := List.length_range'
theorem fromTo_mem {j m x : Nat} (h : x ∈ fromTo j m) : j ≤ x ∧ x < j + m := by
  unfold fromTo at h
  rw [List.mem_range'] at h
  omega

theorem rep_map {α : Type} (g : Nat → α) : ∀ (m j : Nat) (zs : List α), rep (fun j zs => zs ++ [g j]) m j zs = zs ++ (fromTo j m).map g
  | 0, _, zs => by simp [rep, fromTo]
  | m + 1, j, zs => by
    unfold rep
    rw [rep_map g m, fromTo_succ]
    simp

theorem rep_filter {α : Type} (p : Nat → Bool) (g : Nat → α) : ∀ (m j : Nat) (zs : List α), rep (fun j zs => bif p j then zs ++ [g j] else zs) m j zs = zs ++ ((fromTo j m).filter p).map g
  | 0, _, zs => by simp [rep, fromTo]
  | m + 1, j, zs => by
    unfold rep
    rw [rep_filter p g m, fromTo_succ, List.filter_cons]
    cases p j <;> simp

theorem repE_map {α : Type} (p : α → Bool) (g : Nat → α) : ∀ (m j : Nat) (zs : List α), repE (fun j zs => bif p (g j) then some (zs ++ [g j]) else none) m j zs = bif ((fromTo j m).map g).all p then some (zs ++ (fromTo j m).map g) else none
  | 0, _, zs => by simp [repE, fromTo]
  | m + 1, j, zs => by
    unfold repE
    rw [fromTo_succ, List.map_cons, List.all_cons]
    cases h : p (g j) with
    | false => simp
    | true =>
      simp only [cond_true]
      rw [repE_map p g m]
      simp

theorem rep_list {α σ : Type} (d : α) (f : σ → α → σ) (xs : List α) : ∀ (m j : Nat) (s : σ), j + m = xs.length → rep (fun j s => f s (xs.getD j d)) m j s = (xs.drop j).foldl f s
  | 0, j, s, h => by rw [List.drop_of_length_le (by omega)]; rfl
  | m + 1, j, s, h => by
    have hlt : j < xs.length := by omega
    unfold rep
    rw [rep_list d f xs m (j + 1) _ (by omega), List.drop_eq_getElem_cons hlt, List.foldl_cons]
    have e : xs.getD j d = xs[j] := by simp [List.getD, hlt]
    rw [e]

theorem getI {α : Type} {d : α} {n : Nat} {xs : List α} (h : n < xs.length) : xs[Int.toNat (n : Int)]? = some (xs.getD n d) := by simp [List.getD, h]
theorem getI2 {α : Type} {d : α} {n : Nat} {xs : List α} (h : n < xs.length) : xs[n]? = some (xs.getD n d) := by simp [List.getD, h]
theorem big_le {n : Nat} (h : Nat.ble n big = true) : n ≤ 1099511627776 := Nat.le_of_ble_eq_true h
theorem big_of {n : Nat} (h : n ≤ 1099511627776) : Nat.ble n big = true := Nat.ble_eq_true_of_le h
theorem wrapN {n : Int} {m : Nat} (h : n = (m : Int)) (hm : m ≤ 2199023255552) : IntKind.i64.wrap n = (m : Int) := by
  subst h
  exact wrap64 (by omega) (by omega)

/-! ### Lists of numbers, as the program asks for them -/
def sumF (xs : List Nat) : Nat := xs.foldl (fop .add .f32) 0
def meanF (xs : List Nat) : Nat := fop .quo .f32 (sumF xs) (fint .f32 (xs.length : Int))
def bins (xs : List Nat) (n : Int) : Bool := decide ((xs.length : Int) ≥ n) && (decide (xs.length ≤ 64) && xs.all fin)
def listOk (xs : List Nat) (n : Int) : Bool := decide ((xs.length : Int) ≥ n) && (decide (xs.length ≤ 128) && xs.all fin)
def lamps (xs ys : List Nat) (n : Int) : Bool := decide ((xs.length : Int) ≥ n) && (decide (xs.length ≤ 16) && (decide (ys.length = xs.length) && (xs.all fin && ys.all fin)))
def notRot (c : Nat) : Bool := !fin c || fcmp .lss .f32 c 0

theorem notRot_eq (c : Nat) : notRot c = !atLeast0 c := by
  unfold notRot atLeast0
  cases h : fin c with
  | false => rfl
  | true =>
    have hn := fin_notNaN h
    simp only [Bool.not_true, Bool.false_or, Bool.true_and]
    unfold fcmp
    cases ho : FloatKind.f32.format.order c 0 with
    | none => rcases order_none ho with h1 | h1
              · rw [hn] at h1; cases h1
              · exact absurd h1 (by decide)
    | some o => cases o <;> rfl
theorem notRot_fun : notRot = fun c => !atLeast0 c := funext notRot_eq

/-- How a list bends at an index. -/
def bendAt (xs : List Nat) (j : Nat) : Nat := fop .sub .f32 (fop .sub .f32 (fop .mul .f32 1073741824 (xs.getD j 0)) (xs.getD (j - 1) 0)) (xs.getD (j + 1) 0)
def bends (xs : List Nat) : List Nat := (fromTo 1 (xs.length - 2)).map (bendAt xs)
def bendOk (xs : List Nat) : Bool := listOk xs 3 && (bends xs).all fin
theorem bends_len (xs : List Nat) : (bends xs).length = xs.length - 2 := by simp [bends, fromTo_len]

/-- Zeros behind a list, up to so many. -/
def padX (xs : List Nat) (n : Int) : List Nat := xs ++ List.replicate (n.toNat - xs.length) 0
def padOk (xs : List Nat) (n : Int) : Bool := bins xs 2 && within n (xs.length : Int) 64
theorem padX_len {xs : List Nat} {n : Int} (h : padOk xs n = true) : (padX xs n).length ≤ 1048576 := by
  unfold padOk within at h
  simp only [Bool.and_eq_true, decide_eq_true_eq] at h
  simp [padX]
  omega

/-- A line through lamps. -/
def lampF (xs ys : List Nat) (x y : Nat) : Nat → Nat × Nat → Nat × Nat := fun j s =>
  (fop .add .f32 s.1 (fop .mul .f32 (fop .sub .f32 (xs.getD j 0) x) (fop .sub .f32 (ys.getD j 0) y)), fop .add .f32 s.2 (fop .mul .f32 (fop .sub .f32 (xs.getD j 0) x) (fop .sub .f32 (xs.getD j 0) x)))
def lampS (xs ys : List Nat) : Nat × Nat := rep (lampF xs ys (meanF xs) (meanF ys)) xs.length 0 (0, 0)
def lampSlope (xs ys : List Nat) : Nat := fop .quo .f32 (lampS xs ys).1 (lampS xs ys).2
def lampBase (xs ys : List Nat) : Nat := fop .sub .f32 (meanF ys) (fop .mul .f32 (lampSlope xs ys) (meanF xs))
def lampOk (xs ys : List Nat) : Bool := lamps xs ys 2 && (!fcmp .eql .f32 (lampS xs ys).2 0 && (fin (lampBase xs ys) && fin (lampSlope xs ys)))

/-- The first place from 'i' on, upwards or downwards, where it is not above 'h'. -/
def runUp (xs : List Nat) (h : Nat) (i : Int) : Int := i + (((xs.drop i.toNat).takeWhile fun x => fcmp .gtr .f32 x h).length : Int)
def runDown (xs : List Nat) (h : Nat) (i : Int) : Int := i - ((((xs.take (i + 1).toNat).reverse).takeWhile fun x => fcmp .gtr .f32 x h).length : Int)

theorem runUp_step {xs : List Nat} (h : Nat) {j : Nat} (hj : j < xs.length) : runUp xs h (j : Int) = bif fcmp .gtr .f32 (xs.getD j 0) h then runUp xs h ((j + 1 : Nat) : Int) else (j : Int) := by
  have e : xs.getD j 0 = xs[j] := by simp [List.getD, hj]
  unfold runUp
  rw [Int.toNat_natCast, Int.toNat_natCast, List.drop_eq_getElem_cons hj, List.takeWhile_cons, e]
  cases fcmp .gtr .f32 xs[j] h with
  | true => simp; omega
  | false => simp

theorem runDown_zero (xs : List Nat) (h : Nat) : runDown xs h (((0 : Nat) : Int) - 1) = ((0 : Nat) : Int) - 1 := by
  unfold runDown
  have e : (((0 : Nat) : Int) - 1 + 1).toNat = 0 := by omega
  rw [e]
  simp

theorem runDown_step {xs : List Nat} (h : Nat) {j : Nat} (hj : j < xs.length) : runDown xs h (j : Int) = bif fcmp .gtr .f32 (xs.getD j 0) h then runDown xs h ((j : Int) - 1) else (j : Int) := by
  have e : xs.getD j 0 = xs[j] := by simp [List.getD, hj]
  unfold runDown
  have e1 : ((j : Int) + 1).toNat = j + 1 := by omega
  have e2 : ((j : Int) - 1 + 1).toNat = j := by omega
  rw [e1, e2, List.take_succ_eq_append_getElem hj, List.reverse_append, e]
  simp only [List.reverse_singleton, List.singleton_append, List.takeWhile_cons]
  cases fcmp .gtr .f32 xs[j] h with
  | true => simp; omega
  | false => simp

theorem takeWhile_le {α : Type} (p : α → Bool) : ∀ l : List α, (l.takeWhile p).length ≤ l.length
  | [] => Nat.le_refl _
  | a :: l => by
    rw [List.takeWhile_cons]
    cases p a with
    | true => have := takeWhile_le p l; simp; exact this
    | false => simp

theorem runUp_bound {xs : List Nat} {h : Nat} {i : Int} (h0 : 0 ≤ i) (h1 : i ≤ (xs.length : Int)) : i ≤ runUp xs h i ∧ runUp xs h i ≤ (xs.length : Int) := by
  unfold runUp
  have := takeWhile_le (fun x => fcmp .gtr .f32 x h) (xs.drop i.toNat)
  rw [List.length_drop] at this
  omega

theorem runDown_bound {xs : List Nat} {h : Nat} {i : Int} (h0 : -1 ≤ i) (h1 : i < (xs.length : Int)) : -1 ≤ runDown xs h i ∧ runDown xs h i ≤ i := by
  unfold runDown
  have := takeWhile_le (fun x => fcmp .gtr .f32 x h) (xs.take (i + 1).toNat).reverse
  rw [List.length_reverse, List.length_take] at this
  omega

/-- The width of a peak at half its height. -/
def halfX (xs : List Nat) (i : Int) : Nat :=
  let h := fop .mul .f32 1056964608 (xs.getD i.toNat 0)
  let r := runUp xs h (i + 1)
  let l := runDown xs h (i - 1)
  fop .sub .f32 (fop .sub .f32 (fint .f32 r) (fop .quo .f32 (fop .sub .f32 h (xs.getD r.toNat 0)) (fop .sub .f32 (xs.getD (r.toNat - 1) 0) (xs.getD r.toNat 0))))
    (fop .add .f32 (fint .f32 l) (fop .quo .f32 (fop .sub .f32 h (xs.getD l.toNat 0)) (fop .sub .f32 (xs.getD (l.toNat + 1) 0) (xs.getD l.toNat 0))))
def halfOk (xs : List Nat) (i : Int) : Bool :=
  listOk xs 1 && (within i 0 ((xs.length : Int) - 1) && (fcmp .gtr .f32 (xs.getD i.toNat 0) 0 &&
    (!(runUp xs (fop .mul .f32 1056964608 (xs.getD i.toNat 0)) (i + 1) == (xs.length : Int)) && (!decide (runDown xs (fop .mul .f32 1056964608 (xs.getD i.toNat 0)) (i - 1) < 0) && fin (halfX xs i)))))

/-- Marks: what is above its neighbours by more than a bar. -/
def marked (xs : List Nat) (bar : Nat) (j : Nat) : Bool := fcmp .gtr .f32 (fop .sub .f32 (xs.getD j 0) (fmax .f32 (xs.getD (j - 1) 0) (xs.getD (j + 1) 0))) bar
def inner (xs : List Nat) (j : Nat) : Bool := decide (1 ≤ j) && decide (j + 1 < xs.length)
def markedS (xs : List Nat) (bar : Nat) (j : Nat) : Bool := inner xs j && fcmp .gtr .f32 (fop .sub .f32 (xs.getD j 0) (bif fcmp .gtr .f32 (xs.getD (j + 1) 0) (xs.getD (j - 1) 0) then xs.getD (j + 1) 0 else xs.getD (j - 1) 0)) bar
def markOk (xs : List Nat) (bar : Nat) : Bool := bins xs 3 && atLeast0 bar
def marksOf (xs : List Nat) (bar : Nat) : List Int := ((fromTo 1 (xs.length - 2)).filter (marked xs bar)).map fun j : Nat => (j : Int)

theorem all_getD {xs : List Nat} (h : xs.all fin = true) {j : Nat} (hj : j < xs.length) : fin (xs.getD j 0) = true := by
  have e : xs.getD j 0 = xs[j] := by simp [List.getD, hj]
  rw [e]
  exact List.all_eq_true.1 h _ (List.getElem_mem hj)

theorem marked_eq {xs : List Nat} {bar : Nat} (h : markOk xs bar = true) {j : Nat} (hj : inner xs j = true) : marked xs bar j = markedS xs bar j := by
  unfold markOk bins at h
  unfold markedS
  rw [hj]
  unfold inner at hj
  simp only [Bool.and_eq_true, decide_eq_true_eq] at h hj
  rw [Bool.true_and]
  unfold marked
  exact sub_max (all_getD h.1.2.2 (by omega)) (all_getD h.1.2.2 (by omega)) (all_getD h.1.2.2 (by omega)) h.2

theorem fromTo_append (j m n : Nat) : fromTo j (m + n) = fromTo j m ++ fromTo (j + m) n := by
  unfold fromTo
  rw [List.range'_append_1]

theorem marksOf_eq {xs : List Nat} {bar : Nat} (h : markOk xs bar = true) : ((fromTo 0 xs.length).filter (markedS xs bar)).map (fun j : Nat => (j : Int)) = marksOf xs bar := by
  have h3 : 3 ≤ xs.length := by
    unfold markOk bins at h
    simp only [Bool.and_eq_true, decide_eq_true_eq] at h
    omega
  unfold marksOf
  have e1 : fromTo 0 xs.length = 0 :: (fromTo 1 (xs.length - 2) ++ [xs.length - 1]) := by
    rw [show xs.length = (xs.length - 2 + 1) + 1 by omega, fromTo_succ, fromTo_append]
    have : fromTo (0 + 1 + (xs.length - 2)) 1 = [xs.length - 2 + 1 + 1 - 1] := by
      rw [fromTo_succ]
      show [0 + 1 + (xs.length - 2)] = _
      congr 1
      omega
    rw [this]
    rfl
  have m0 : markedS xs bar 0 = false := by simp [markedS, inner]
  have m1 : markedS xs bar (xs.length - 1) = false := by
    have : ¬ (xs.length - 1 + 1 < xs.length) := by omega
    simp [markedS, inner, this]
  rw [e1, List.filter_cons, m0, List.filter_append, List.filter_cons, m1]
  simp only [Bool.false_eq_true, if_false, List.filter_nil, List.append_nil]
  congr 1
  refine List.filter_congr fun j hj => ?_
  have := fromTo_mem hj
  refine (marked_eq h ?_).symm
  unfold inner
  simp only [Bool.and_eq_true, decide_eq_true_eq]
  omega

theorem marksOf_len (xs : List Nat) (bar : Nat) : (marksOf xs bar).length ≤ xs.length := by
  unfold marksOf
  rw [List.length_map]
  refine Nat.le_trans (List.length_filter_le _ _) ?_
  rw [fromTo_len]
  omega

/-- The marks taken out. -/
def midOf (xs : List Nat) (j : Nat) : Nat := fop .mul .f32 1056964608 (fop .add .f32 (xs.getD (j - 1) 0) (xs.getD (j + 1) 0))
def removed (xs : List Nat) (bar : Nat) : List Nat := (fromTo 0 xs.length).map fun j => bif markedS xs bar j then midOf xs j else xs.getD j 0
def removeOk (xs : List Nat) (bar : Nat) : Bool := markOk xs bar && (removed xs bar).all fin
theorem removed_len (xs : List Nat) (bar : Nat) : (removed xs bar).length = xs.length := by simp [removed, fromTo_len]

theorem sets_get {α : Type} (d : α) (g : Nat → α) (is : List Nat) : ∀ (m j : Nat) (zs : List α), j + m = is.length → (∀ i ∈ is, i < zs.length) → ∀ q, q < zs.length →
    (rep (fun j zs => zs.set (is.getD j 0) (g (is.getD j 0))) m j zs).getD q d = bif (is.drop j).contains q then g q else zs.getD q d
  | 0, j, zs, hj, _, q, _ => by rw [List.drop_of_length_le (by omega)]; simp [rep]
  | m + 1, j, zs, hj, hm, q, hq => by
    have hlt : j < is.length := by omega
    have e : is.getD j 0 = is[j] := by simp [List.getD, hlt]
    unfold rep
    rw [sets_get d g is m (j + 1) _ (by omega) (fun i hi => by rw [List.length_set]; exact hm i hi) q (by rw [List.length_set]; exact hq), List.drop_eq_getElem_cons hlt, List.contains_cons, e]
    cases h1 : (is.drop (j + 1)).contains q with
    | true => simp
    | false =>
      simp only [cond_false, Bool.or_false]
      have hs : (zs.set is[j] (g is[j])).getD q d = if is[j] = q then g is[j] else zs.getD q d := by
        simp only [List.getD_eq_getElem?_getD, List.getElem?_set]
        by_cases h2 : is[j] = q
        · have : is[j] < zs.length := hm _ (List.getElem_mem hlt)
          simp [h2, hq]
        · simp [h2]
      rw [hs]
      by_cases h2 : is[j] = q
      · subst h2
        simp
      · have : (q == is[j]) = false := beq_false_of_ne (Ne.symm h2)
        rw [this, if_neg h2]
        rfl

theorem sets_len {α : Type} (g : Nat → α) (is : List Nat) : ∀ (m j : Nat) (zs : List α), (rep (fun j zs => zs.set (is.getD j 0) (g (is.getD j 0))) m j zs).length = zs.length
  | 0, _, _ => rfl
  | m + 1, j, zs => by
    unfold rep
    rw [sets_len g is m, List.length_set]

theorem marksOf_in (xs : List Nat) (bar : Nat) : (marksOf xs bar).all (fun i => decide (1 ≤ i) && decide (i + 1 < (xs.length : Int))) = true := by
  rw [List.all_eq_true]
  intro i hi
  unfold marksOf at hi
  rw [List.mem_map] at hi
  obtain ⟨j, hj, rfl⟩ := hi
  have := fromTo_mem (List.mem_filter.1 hj).1
  rw [Bool.and_eq_true, decide_eq_true_eq, decide_eq_true_eq]
  omega

theorem allIn {xs : List Nat} {is : List Int} (h : is.all (fun i => decide (1 ≤ i) && decide (i + 1 < (xs.length : Int))) = true) {j : Nat} (hj : j < is.length) : ∃ q : Nat, is.getD j 0 = (q : Int) ∧ 1 ≤ q ∧ q + 1 < xs.length := by
  have e : is.getD j 0 = is[j] := by simp [List.getD, hj]
  have h1 := List.all_eq_true.1 h _ (List.getElem_mem hj)
  rw [Bool.and_eq_true, decide_eq_true_eq, decide_eq_true_eq] at h1
  exact ⟨is[j].toNat, by rw [e]; omega, by omega, by omega⟩

theorem list_ext {α : Type} (d : α) {xs ys : List α} (hl : xs.length = ys.length) (h : ∀ q, q < xs.length → xs.getD q d = ys.getD q d) : xs = ys := by
  refine List.ext_getElem hl fun q h1 h2 => ?_
  have := h q h1
  simpa [List.getD, h1, h2] using this

theorem fromTo_getD {α : Type} (d : α) (g : Nat → α) {j m q : Nat} (h : q < m) : ((fromTo j m).map g).getD q d = g (j + q) := by
  simp [List.getD, fromTo, h]

theorem removed_eq {xs : List Nat} {bar : Nat} (h : markOk xs bar = true) :
    rep (fun j zs => zs.set ((marksOf xs bar).getD j 0).toNat (midOf xs ((marksOf xs bar).getD j 0).toNat)) (marksOf xs bar).length 0 xs = removed xs bar := by
  generalize hns : (fromTo 1 (xs.length - 2)).filter (marked xs bar) = ns
  have hms : marksOf xs bar = ns.map fun j : Nat => (j : Int) := by rw [← hns]; rfl
  have hmem : ∀ i, i ∈ ns ↔ markedS xs bar i = true := by
    intro i
    rw [← hns, List.mem_filter]
    constructor
    · rintro ⟨h1, h2⟩
      have := fromTo_mem h1
      rw [← marked_eq h (by unfold inner; simp only [Bool.and_eq_true, decide_eq_true_eq]; omega)]
      exact h2
    · intro h1
      have hi : inner xs i = true := by unfold markedS at h1; rw [Bool.and_eq_true] at h1; exact h1.1
      refine ⟨?_, by rw [marked_eq h hi]; exact h1⟩
      unfold inner at hi
      simp only [Bool.and_eq_true, decide_eq_true_eq] at hi
      unfold fromTo
      rw [List.mem_range']
      exact ⟨i - 1, by omega, by omega⟩
  have hlt : ∀ i ∈ ns, i < xs.length := by
    intro i hi
    have := (hmem i).1 hi
    unfold markedS inner at this
    simp only [Bool.and_eq_true, decide_eq_true_eq] at this
    omega
  have e : rep (fun j zs => zs.set ((marksOf xs bar).getD j 0).toNat (midOf xs ((marksOf xs bar).getD j 0).toNat)) (marksOf xs bar).length 0 xs = rep (fun j zs => zs.set (ns.getD j 0) (midOf xs (ns.getD j 0))) ns.length 0 xs := by
    rw [hms, List.length_map]
    refine rep_congr (lo := 0) (hi := ns.length) (fun j s _ hj => ?_) _ _ _ (Nat.le_refl _) (by omega)
    have h2 : (ns.map fun j : Nat => (j : Int)).getD j 0 = ((ns.getD j 0 : Nat) : Int) := by simp [List.getD, hj]
    rw [h2, Int.toNat_natCast]
  rw [e]
  refine list_ext 0 (by rw [sets_len, removed_len]) fun q hq => ?_
  rw [sets_len] at hq
  rw [sets_get 0 (midOf xs) ns ns.length 0 xs (by omega) hlt q hq, List.drop_zero]
  unfold removed
  rw [fromTo_getD 0 _ hq, Nat.zero_add]
  have : ns.contains q = markedS xs bar q := by
    rw [Bool.eq_iff_iff, ← hmem q]
    simp
  rw [this]

/-- Whether a bend is a peak. -/
def bent (bs : List Nat) (least : Nat) (j : Nat) : Bool :=
  fcmp .gtr .f32 (bs.getD j 0) least && ((decide (j = 0) || fcmp .gtr .f32 (bs.getD j 0) (bs.getD (j - 1) 0)) && (decide (j + 1 = bs.length) || fcmp .geq .f32 (bs.getD j 0) (bs.getD (j + 1) 0)))
def bentOf (bs : List Nat) (least : Nat) : List Int := ((fromTo 0 bs.length).filter (bent bs least)).map fun j : Nat => ((j + 1 : Nat) : Int)
def bentOk (xs : List Nat) (least : Nat) : Bool := bendOk xs && fin least
theorem bentOf_len (bs : List Nat) (least : Nat) : (bentOf bs least).length ≤ bs.length := by
  unfold bentOf
  rw [List.length_map]
  refine Nat.le_trans (List.length_filter_le _ _) ?_
  rw [fromTo_len]
  exact Nat.le_refl _

/-- The place of a wave, by halves. -/
def placeStep (xs : List Nat) (w : Nat) : Nat → Nat × Nat → Option (Nat × Nat) := fun _ s =>
  bif fin (horner (fop .mul .f32 1056964608 (fop .add .f32 s.1 s.2)) 0 xs) then
    some (bif fcmp .lss .f32 (horner (fop .mul .f32 1056964608 (fop .add .f32 s.1 s.2)) 0 xs) w then (fop .mul .f32 1056964608 (fop .add .f32 s.1 s.2), s.2) else (s.1, fop .mul .f32 1056964608 (fop .add .f32 s.1 s.2)))
  else none
def curveOk (xs : List Nat) : Bool := xs.all fin && (decide (xs.length ≥ 1) && decide (xs.length ≤ 3))
def placeAsk (xs : List Nat) (w lo hi : Nat) (n : Int) : Bool :=
  curveOk xs && (fin w && (fin lo && (fin hi && (!fcmp .geq .f32 lo hi && (within n 1 32 && (fin (horner lo 0 xs) && (fin (horner hi 0 xs) && !(fcmp .lss .f32 (horner lo 0 xs) w == fcmp .lss .f32 (horner hi 0 xs) w))))))))
def placeRun (xs : List Nat) (w lo hi : Nat) (n : Int) : Option (Nat × Nat) := repE (placeStep xs w) n.toNat 0 (bif fcmp .lss .f32 (horner hi 0 xs) w then (hi, lo) else (lo, hi))
def placeX (o : Option (Nat × Nat)) : Nat := match o with
  | some s => fop .mul .f32 1056964608 (fop .add .f32 s.1 s.2)
  | none => 0
def placeOk (xs : List Nat) (w lo hi : Nat) (n : Int) : Bool := placeAsk xs w lo hi n && ((placeRun xs w lo hi n).isSome && fin (placeX (placeRun xs w lo hi n)))

theorem big_small {n m : Nat} (h : n ≤ m) (hm : m ≤ 1099511627776) : Nat.ble n big = true := big_of (by omega)
theorem orNil_len {α : Type} (b : Bool) (xs : List α) {n : Nat} (h : b = true → xs.length ≤ n) : (orNil b xs).length ≤ n := by
  cases b with
  | true => exact h rfl
  | false => exact Nat.zero_le _

end Go.Sm

/- Floats: sums, products and quotients between bounds. -/
namespace Go.Sm
open Go Ieee

/-- So many places below one. -/
def lp (k : FloatKind) : Nat := (-k.format.leastPlace).toNat
theorem lp_eq (k : FloatKind) : k.format.leastPlace = -(lp k : Int) := by cases k <;> decide

theorem signed_natAbs (s : Bool) (m e : Nat) : (signed s m e).natAbs = m * 2 ^ e := by
  unfold signed
  rw [Nat.shiftLeft_eq]
  cases s
  · rfl
  · show (-((m * 2 ^ e : Nat) : Int)).natAbs = _
    rw [Int.natAbs_neg]
    rfl

/-- A number, spelled out. -/
theorem isNum_spell {k : FloatKind} {x : Nat} (h : isNum k x = true) : ∃ m e : Nat, k.format.read x = .number (sgn k x) m (k.format.leastPlace + (e : Int)) ∧ (fv k x).natAbs = m * 2 ^ e := by
  obtain ⟨m, e, h1, h2⟩ := isNum_read h
  refine ⟨m, e, h1, ?_⟩
  rw [fv_read h1, signed_natAbs]
  congr 2
  omega

theorem fop_some {op : BinOp} {k : FloatKind} {x y r : Nat} (h : floatBits op k x y = some r) : fop op k x y = r := by unfold fop; rw [h]; rfl

theorem fop_mul {k : FloatKind} {x y : Nat} (hx : isNum k x = true) (hy : isNum k y = true) : ∃ q, fop .mul k x y = k.format.word (sgn k x ^^ sgn k y) q ∧ q ≤ k.format.infRung ∧
    (∀ z, (fv k x).natAbs * (fv k y).natAbs ≤ rv k.format z * 2 ^ lp k → q ≤ z) ∧ (∀ z, z ≤ k.format.infRung → rv k.format z * 2 ^ lp k ≤ (fv k x).natAbs * (fv k y).natAbs → z ≤ q) := by
  obtain ⟨m, e, h1, h2⟩ := isNum_spell hx
  obtain ⟨n, e', h3, h4⟩ := isNum_spell hy
  have hl := lp_eq k
  have hr : floatBits .mul k x y = some (k.format.nearest (sgn k x ^^ sgn k y) (m * n) (k.format.leastPlace + (e : Int) + (k.format.leastPlace + (e' : Int)))) := by
    show k.format.mul x y = _
    unfold Format.mul
    rw [h1, h3]
    rfl
  rw [fop_some hr, nearest_eq]
  have hv : (fv k x).natAbs * (fv k y).natAbs = m * n * 2 ^ (e + e') := by rw [h2, h4, Nat.pow_add]; ac_rfl
  refine ⟨_, rfl, nrung_inf _ _ _, fun z hz => nrung_le (k1 := e + e') (k2 := lp k) (by omega) (by rw [← hv]; exact hz), fun z hzi hz => nrung_ge (k1 := e + e') (k2 := lp k) (by omega) (by rw [← hv]; exact hz) hzi⟩

theorem fop_add {k : FloatKind} {x y : Nat} (hx : isNum k x = true) (hy : isNum k y = true) : ∃ s q, fop .add k x y = k.format.word s q ∧ q ≤ k.format.infRung ∧ (fv k x + fv k y < 0 → s = true) ∧ (0 < fv k x + fv k y → s = false) ∧
    (∀ z, (fv k x + fv k y).natAbs ≤ rv k.format z → q ≤ z) ∧ (∀ z, z ≤ k.format.infRung → rv k.format z ≤ (fv k x + fv k y).natAbs → z ≤ q) := by
  obtain ⟨m, e, h1, _⟩ := isNum_spell hx
  obtain ⟨n, e', h3, _⟩ := isNum_spell hy
  have hb : ∃ b : Nat, min (k.format.leastPlace + (e : Int)) (k.format.leastPlace + (e' : Int)) = k.format.leastPlace + (b : Int) ∧ b ≤ e ∧ b ≤ e' := ⟨min e e', by omega, Nat.min_le_left _ _, Nat.min_le_right _ _⟩
  obtain ⟨b, hb1, hb2, hb3⟩ := hb
  have q1 : (k.format.leastPlace + (e : Int) - (k.format.leastPlace + (b : Int))).toNat = e - b := by omega
  have q2 : (k.format.leastPlace + (e' : Int) - (k.format.leastPlace + (b : Int))).toNat = e' - b := by omega
  have v1 : fv k x = signed (sgn k x) m (e - b) * 2 ^ b := by
    rw [fv_read h1, ← signed_mul]
    congr 1
    omega
  have v2 : fv k y = signed (sgn k y) n (e' - b) * 2 ^ b := by
    rw [fv_read h3, ← signed_mul]
    congr 1
    omega
  have hr : floatBits .add k x y = some (k.format.nearest (if signed (sgn k x) m (e - b) + signed (sgn k y) n (e' - b) = 0 then sgn k x && sgn k y else decide (signed (sgn k x) m (e - b) + signed (sgn k y) n (e' - b) < 0)) (signed (sgn k x) m (e - b) + signed (sgn k y) n (e' - b)).natAbs (k.format.leastPlace + (b : Int))) := by
    show k.format.add x y = _
    unfold Format.add
    rw [h1, h3]
    simp only [Datum.sum, hb1, q1, q2, Option.map_some, Format.write]
  rw [fop_some hr, nearest_eq]
  have hsum : fv k x + fv k y = (signed (sgn k x) m (e - b) + signed (sgn k y) n (e' - b)) * 2 ^ b := by rw [v1, v2, Int.add_mul]
  generalize signed (sgn k x) m (e - b) + signed (sgn k y) n (e' - b) = S at hsum ⊢
  have hp : (0 : Int) < 2 ^ b := Int.pow_pos (by decide)
  have hna : (fv k x + fv k y).natAbs = S.natAbs * 2 ^ b := by
    rw [hsum, Int.natAbs_mul, Int.natAbs_pow]
    rfl
  refine ⟨_, _, rfl, nrung_inf _ _ _, fun h => ?_, fun h => ?_, fun z hz => nrung_le (k1 := b) (k2 := 0) (by omega) (by rw [← hna, Nat.pow_zero, Nat.mul_one]; exact hz), fun z hzi hz => nrung_ge (k1 := b) (k2 := 0) (by omega) (by rw [← hna, Nat.pow_zero, Nat.mul_one]; exact hz) hzi⟩
  · rw [hsum] at h
    have : S < 0 := by
      rcases Int.lt_or_le S 0 with h1 | h1
      · exact h1
      · have := Int.mul_nonneg h1 (Int.le_of_lt hp); omega
    rw [if_neg (by omega)]
    exact decide_eq_true this
  · rw [hsum] at h
    have : 0 < S := by
      rcases Int.lt_or_le 0 S with h1 | h1
      · exact h1
      · have := Int.mul_nonneg (show 0 ≤ -S by omega) (Int.le_of_lt hp)
        rw [Int.neg_mul] at this
        omega
    rw [if_neg (by omega)]
    exact decide_eq_false (by omega)

theorem isNum_neg_read {k : FloatKind} {x : Nat} {s : Bool} {m : Nat} {i : Int} (h : k.format.read x = .number s m i) : (k.format.read x).opposite = .number (!s) m i := by rw [h]; rfl

/-- A difference is a sum with the opposite. -/
theorem fop_sub {k : FloatKind} {x y : Nat} (hx : isNum k x = true) (hy : isNum k y = true) : ∃ s q, fop .sub k x y = k.format.word s q ∧ q ≤ k.format.infRung ∧ (fv k x - fv k y < 0 → s = true) ∧ (0 < fv k x - fv k y → s = false) ∧
    (∀ z, (fv k x - fv k y).natAbs ≤ rv k.format z → q ≤ z) ∧ (∀ z, z ≤ k.format.infRung → rv k.format z ≤ (fv k x - fv k y).natAbs → z ≤ q) := by
  -- the word with the other sign
  have hp : 0 < k.format.signWeight := Nat.two_pow_pos _
  have hlt := isNum_lt hy
  have hlt2 : y % k.format.signWeight < k.format.signWeight := Nat.mod_lt _ hp
  let y' := k.format.word (!sgn k y) (y % k.format.signWeight)
  have hy' : isNum k y' = true := word_isNum _ hlt
  have hf : fv k y' = -fv k y := by
    show fv k (k.format.word (!sgn k y) (y % k.format.signWeight)) = _
    rw [fv_word _ hlt2]
    unfold fv
    cases sgn k y <;> simp
  have hs : sgn k y' = !sgn k y := word_sign _ _ hlt2
  have hm : y' % k.format.signWeight = y % k.format.signWeight := word_mod _ _ hlt2
  have hread : k.format.read y' = (k.format.read y).opposite := by
    have hs' : (y' / k.format.signWeight % 2 == 1) = !(y / k.format.signWeight % 2 == 1) := hs
    unfold Format.read
    dsimp only
    rw [hm, hs']
    by_cases c1 : y % k.format.signWeight < k.format.binade
    · rw [if_pos c1, if_pos c1]
      rfl
    · rw [if_neg c1, if_neg c1, if_pos hlt, if_pos hlt]
      rfl
  have he : fop .sub k x y = fop .add k x y' := by
    unfold fop
    have : floatBits .sub k x y = floatBits .add k x y' := by
      show k.format.sub x y = k.format.add x y'
      unfold Format.sub Format.add
      rw [hread]
    rw [this]
  rw [he]
  have := fop_add hx hy'
  rw [hf] at this
  exact this

theorem fop_quo {k : FloatKind} {x y : Nat} (hx : isNum k x = true) (hy : isNum k y = true) (h0 : fv k y ≠ 0) : ∃ q, fop .quo k x y = k.format.word (sgn k x ^^ sgn k y) q ∧ q ≤ k.format.infRung ∧
    (∀ z, (fv k x).natAbs * 2 ^ lp k ≤ rv k.format z * (fv k y).natAbs → q ≤ z) ∧ (∀ z, z ≤ k.format.infRung → rv k.format z * (fv k y).natAbs ≤ (fv k x).natAbs * 2 ^ lp k → z ≤ q) := by
  obtain ⟨m, e, h1, h2⟩ := isNum_spell hx
  obtain ⟨n, e', h3, h4⟩ := isNum_spell hy
  have hl := lp_eq k
  have hn : n ≠ 0 := by
    intro h
    subst h
    rw [Nat.zero_mul] at h4
    omega
  generalize hmore : k.format.fractionBits + 2 + n.log2 - m.log2 = more
  have hr : floatBits .quo k x y = some (k.format.nearest (sgn k x ^^ sgn k y) (2 * (m <<< more / n) + (m <<< more % n != 0).toNat) (k.format.leastPlace + (e : Int) - (k.format.leastPlace + (e' : Int)) - (more : Int) - 1)) := by
    show k.format.div x y = _
    unfold Format.div
    rw [h1, h3]
    simp only [Datum.quotient, if_neg hn, hmore, Option.map_some, Format.write]
  rw [fop_some hr, nearest_eq]
  rw [Nat.shiftLeft_eq]
  generalize hD : m * 2 ^ more = D
  have hdm := Nat.div_add_mod D n
  have hml := Nat.mod_lt D (Nat.pos_of_ne_zero hn)
  -- the magnitude: twice the quotient, one more where something is left
  have hnp := Nat.pos_of_ne_zero hn
  generalize hq : D / n = Q at hdm ⊢
  generalize hrm : D % n = R at hdm hml ⊢
  have hup : ∀ B, 2 * D ≤ B * n → 2 * Q + (R != 0).toNat ≤ B := by
    intro B hB
    by_cases hz : R = 0
    · have h5 : 2 * Q * n ≤ B * n := by
        have e1 : 2 * Q * n = 2 * (n * Q) := by rw [Nat.mul_assoc, Nat.mul_comm Q]
        omega
      have := Nat.le_of_mul_le_mul_right h5 hnp
      simpa [hz] using this
    · have hb : (R != 0) = true := by simp [hz]
      rw [hb]
      have h5 : 2 * Q * n < B * n := by
        have e1 : 2 * Q * n = 2 * (n * Q) := by rw [Nat.mul_assoc, Nat.mul_comm Q]
        omega
      have := Nat.lt_of_mul_lt_mul_right h5
      simp only [Bool.toNat_true]
      omega
  have hdown : ∀ B, B * n ≤ 2 * D → B ≤ 2 * Q + (R != 0).toNat := by
    intro B hB
    by_cases hz : R = 0
    · have h5 : B * n ≤ 2 * Q * n := by
        have e1 : 2 * Q * n = 2 * (n * Q) := by rw [Nat.mul_assoc, Nat.mul_comm Q]
        omega
      have := Nat.le_of_mul_le_mul_right h5 hnp
      simpa [hz] using this
    · have hb : (R != 0) = true := by simp [hz]
      rw [hb]
      have h5 : B * n < (2 * Q + 2) * n := by
        have e1 : (2 * Q + 2) * n = 2 * (n * Q) + 2 * n := by rw [Nat.add_mul, Nat.mul_assoc, Nat.mul_comm Q]
        omega
      have := Nat.lt_of_mul_lt_mul_right h5
      simp only [Bool.toNat_true]
      omega
  -- so many digits
  have hdig : m ≠ 0 → 2 ^ (k.format.fractionBits + 1) * n < D := by
    intro hm
    have a1 : n < 2 ^ (n.log2 + 1) := Nat.lt_log2_self
    have a2 : 2 ^ m.log2 ≤ m := Nat.log2_self_le hm
    have a3 : 2 ^ (k.format.fractionBits + 1) * n < 2 ^ (k.format.fractionBits + 1) * 2 ^ (n.log2 + 1) := Nat.mul_lt_mul_of_pos_left a1 (Nat.two_pow_pos _)
    have a4 : 2 ^ m.log2 * 2 ^ more ≤ m * 2 ^ more := Nat.mul_le_mul_right _ a2
    rw [← Nat.pow_add] at a3 a4
    have a5 : 2 ^ (k.format.fractionBits + 1 + (n.log2 + 1)) ≤ 2 ^ (m.log2 + more) := Nat.pow_le_pow_right (by decide) (by omega)
    omega
  have hQ : m ≠ 0 → 2 ^ (k.format.fractionBits + 1) ≤ Q := by
    intro hm
    have h5 := hdig hm
    have h6 : 2 ^ (k.format.fractionBits + 1) * n < (Q + 1) * n := by
      have e1 : (Q + 1) * n = n * Q + n := by rw [Nat.add_mul, Nat.one_mul, Nat.mul_comm]
      omega
    have := Nat.lt_of_mul_lt_mul_right h6
    omega
  have hbin : k.format.binade = 2 ^ k.format.fractionBits := rfl
  have hva : (fv k x).natAbs * 2 ^ lp k * 2 ^ (more + 1) = 2 * D * 2 ^ (e + lp k) := by
    rw [h2, ← hD, Nat.pow_succ, Nat.pow_add]
    ac_rfl
  refine ⟨_, rfl, nrung_inf _ _ _, fun z hz => ?_, fun z hzi hz => ?_⟩
  · refine nrung_le (k1 := e + lp k) (k2 := e' + more + 1) (by omega) ?_
    obtain ⟨mz, ez, _, z2, _, z4⟩ := rung_split k.format z
    have h5 : 2 * D * 2 ^ (e + lp k) ≤ mz * 2 ^ (ez + (e' + more + 1)) * n := by
      rw [← hva]
      have := Nat.mul_le_mul_right (2 ^ (more + 1)) hz
      refine Nat.le_trans this (Nat.le_of_eq ?_)
      rw [z4, h4, show ez + (e' + more + 1) = ez + e' + (more + 1) by omega, Nat.pow_add 2 (ez + e') (more + 1), Nat.pow_add 2 ez e']
      ac_rfl
    rw [z4, Nat.mul_assoc, ← Nat.pow_add]
    rcases Nat.lt_or_ge (ez + (e' + more + 1)) (e + lp k) with h6 | h6
    · by_cases hm : m = 0
      · have hD0 : D = 0 := by rw [← hD, hm, Nat.zero_mul]
        have h7 := hup 0 (by omega)
        have : 2 * Q + (R != 0).toNat = 0 := by omega
        rw [this, Nat.zero_mul]
        exact Nat.zero_le _
      · exfalso
        obtain ⟨d, hd⟩ : ∃ d, e + lp k = ez + (e' + more + 1) + d := ⟨e + lp k - (ez + (e' + more + 1)), by omega⟩
        rw [hd, Nat.pow_add 2 (ez + (e' + more + 1)) d] at h5
        have h7 : 2 * D * 2 ^ d * 2 ^ (ez + (e' + more + 1)) ≤ mz * n * 2 ^ (ez + (e' + more + 1)) := by
          refine Nat.le_trans (Nat.le_of_eq ?_) (Nat.le_trans h5 (Nat.le_of_eq ?_)) <;> ac_rfl
        have h8 := Nat.le_of_mul_le_mul_right h7 (Nat.two_pow_pos _)
        have h9 : 2 * D ≤ 2 * D * 2 ^ d := Nat.le_mul_of_pos_right _ (Nat.two_pow_pos _)
        have h10 : mz * n ≤ 2 * k.format.binade * n := Nat.mul_le_mul_right _ (Nat.le_of_lt z2)
        have h11 := hdig hm
        rw [Nat.pow_succ', ← hbin] at h11
        omega
    · obtain ⟨d, hd⟩ : ∃ d, ez + (e' + more + 1) = e + lp k + d := ⟨ez + (e' + more + 1) - (e + lp k), by omega⟩
      rw [hd, Nat.pow_add 2 (e + lp k) d] at h5 ⊢
      have h7 : 2 * D * 2 ^ (e + lp k) ≤ mz * 2 ^ d * n * 2 ^ (e + lp k) := by
        refine Nat.le_trans h5 (Nat.le_of_eq ?_)
        ac_rfl
      have h8 := hup _ (Nat.le_of_mul_le_mul_right h7 (Nat.two_pow_pos _))
      have h9 := Nat.mul_le_mul_right (2 ^ (e + lp k)) h8
      refine Nat.le_trans h9 (Nat.le_of_eq ?_)
      ac_rfl
  · refine nrung_ge (k1 := e + lp k) (k2 := e' + more + 1) (by omega) ?_ hzi
    obtain ⟨mz, ez, _, z2, _, z4⟩ := rung_split k.format z
    have h5 : mz * 2 ^ (ez + (e' + more + 1)) * n ≤ 2 * D * 2 ^ (e + lp k) := by
      rw [← hva]
      have := Nat.mul_le_mul_right (2 ^ (more + 1)) hz
      refine Nat.le_trans (Nat.le_of_eq ?_) this
      rw [z4, h4, show ez + (e' + more + 1) = ez + e' + (more + 1) by omega, Nat.pow_add 2 (ez + e') (more + 1), Nat.pow_add 2 ez e']
      ac_rfl
    rw [z4, Nat.mul_assoc, ← Nat.pow_add]
    rcases Nat.lt_or_ge (ez + (e' + more + 1)) (e + lp k) with h6 | h6
    · by_cases hm : m = 0
      · have hD0 : D = 0 := by rw [← hD, hm, Nat.zero_mul]
        rw [hD0, Nat.mul_zero, Nat.zero_mul] at h5
        have h7 : mz * 2 ^ (ez + (e' + more + 1)) * n = 0 := by omega
        rcases Nat.mul_eq_zero.1 h7 with h8 | h8
        · rw [h8]; exact Nat.zero_le _
        · exact absurd h8 hn
      · have h7 := hQ hm
        rw [Nat.pow_succ', ← hbin] at h7
        have h8 : mz ≤ 2 * Q + (R != 0).toNat := by omega
        exact Nat.mul_le_mul h8 (Nat.pow_le_pow_right (by decide) (by omega))
    · obtain ⟨d, hd⟩ : ∃ d, ez + (e' + more + 1) = e + lp k + d := ⟨ez + (e' + more + 1) - (e + lp k), by omega⟩
      rw [hd, Nat.pow_add 2 (e + lp k) d] at h5 ⊢
      have h7 : mz * 2 ^ d * n * 2 ^ (e + lp k) ≤ 2 * D * 2 ^ (e + lp k) := by
        refine Nat.le_trans (Nat.le_of_eq ?_) h5
        ac_rfl
      have h8 := hdown _ (Nat.le_of_mul_le_mul_right h7 (Nat.two_pow_pos _))
      have h9 := Nat.mul_le_mul_right (2 ^ (e + lp k)) h8
      refine Nat.le_trans (Nat.le_of_eq ?_) h9
      ac_rfl

end Go.Sm

/- Floats between bounds; narrowing what is not too great; the exponential. -/
namespace Go.Sm
open Go Ieee

theorem rv_mono_nat {f : Format} {q z : Nat} (h : q ≤ z) : rv f q ≤ rv f z := rv_le h

theorem fv_word_abs {k : FloatKind} (s : Bool) {q : Nat} (h : q < k.format.infRung) : (fv k (k.format.word s q)).natAbs = rv k.format q := by
  rw [fv_word s (Nat.lt_trans h k.format.infRung_lt)]
  cases s <;> simp

/-- A product between bounds. -/
theorem mulB {k : FloatKind} {x y z X Y : Nat} (hx : isNum k x = true) (hy : isNum k y = true) (h1 : (fv k x).natAbs ≤ X) (h2 : (fv k y).natAbs ≤ Y) (hz : X * Y ≤ rv k.format z * 2 ^ lp k) (hi : z < k.format.infRung) :
    isNum k (fop .mul k x y) = true ∧ (fv k (fop .mul k x y)).natAbs ≤ rv k.format z ∧ (0 ≤ fv k x → 0 ≤ fv k y → 0 ≤ fv k (fop .mul k x y)) ∧ (fv k x ≤ 0 → 0 ≤ fv k y → fv k (fop .mul k x y) ≤ 0) := by
  obtain ⟨q, e, _, hle, _⟩ := fop_mul hx hy
  have hq : q ≤ z := hle z (Nat.le_trans (Nat.mul_le_mul h1 h2) hz)
  have hqi : q < k.format.infRung := Nat.lt_of_le_of_lt hq hi
  have hqs : q < k.format.signWeight := Nat.lt_trans hqi k.format.infRung_lt
  have h0 : fv k x = 0 ∨ fv k y = 0 → q = 0 := by
    intro h
    have : q ≤ 0 := hle 0 (by rcases h with h | h <;> simp [h])
    omega
  have sgnp : ∀ {w : Nat}, 0 < fv k w → sgn k w = false := by
    intro w h
    unfold fv at h
    cases hs : sgn k w with
    | false => rfl
    | true => rw [hs] at h; simp only [if_true] at h; omega
  have sgnn : ∀ {w : Nat}, fv k w < 0 → sgn k w = true := by
    intro w h
    unfold fv at h
    cases hs : sgn k w with
    | true => rfl
    | false => rw [hs] at h; simp only [Bool.false_eq_true, if_false] at h; omega
  rw [e]
  refine ⟨word_isNum _ hqi, by rw [fv_word_abs _ hqi]; exact rv_le hq, fun a b => ?_, fun a b => ?_⟩
  · rw [fv_word _ hqs]
    by_cases c : fv k x = 0 ∨ fv k y = 0
    · rw [h0 c, rv_zero]; simp
    · rw [sgnp (w := x) (by omega), sgnp (w := y) (by omega)]
      simp
  · rw [fv_word _ hqs]
    by_cases c : fv k x = 0 ∨ fv k y = 0
    · rw [h0 c, rv_zero]; simp
    · rw [sgnn (w := x) (by omega), sgnp (w := y) (by omega)]
      simp

theorem sgn_pos {k : FloatKind} {w : Nat} (h : 0 < fv k w) : sgn k w = false := by
  unfold fv at h
  cases hs : sgn k w with
  | false => rfl
  | true => rw [hs] at h; simp only [if_true] at h; omega
theorem sgn_neg {k : FloatKind} {w : Nat} (h : fv k w < 0) : sgn k w = true := by
  unfold fv at h
  cases hs : sgn k w with
  | true => rfl
  | false => rw [hs] at h; simp only [Bool.false_eq_true, if_false] at h; omega

/-- A quotient by what is greater than zero. -/
theorem quoB {k : FloatKind} {x y z : Nat} (hx : isNum k x = true) (hy : isNum k y = true) (hp : 0 < fv k y) (hz : (fv k x).natAbs * 2 ^ lp k ≤ rv k.format z * (fv k y).natAbs) (hi : z < k.format.infRung) :
    isNum k (fop .quo k x y) = true ∧ (fv k (fop .quo k x y)).natAbs ≤ rv k.format z ∧ (0 ≤ fv k x → 0 ≤ fv k (fop .quo k x y)) ∧ (fv k x ≤ 0 → fv k (fop .quo k x y) ≤ 0) := by
  obtain ⟨q, e, _, hle, _⟩ := fop_quo hx hy (by omega)
  have hq : q ≤ z := hle z hz
  have hqi : q < k.format.infRung := Nat.lt_of_le_of_lt hq hi
  have hqs : q < k.format.signWeight := Nat.lt_trans hqi k.format.infRung_lt
  have h0 : fv k x = 0 → q = 0 := by
    intro h
    have : q ≤ 0 := hle 0 (by simp [h])
    omega
  rw [e]
  refine ⟨word_isNum _ hqi, by rw [fv_word_abs _ hqi]; exact rv_le hq, fun a => ?_, fun a => ?_⟩
  · rw [fv_word _ hqs]
    by_cases c : fv k x = 0
    · rw [h0 c, rv_zero]; simp
    · rw [sgn_pos (w := x) (by omega), sgn_pos hp]
      simp
  · rw [fv_word _ hqs]
    by_cases c : fv k x = 0
    · rw [h0 c, rv_zero]; simp
    · rw [sgn_neg (w := x) (by omega), sgn_pos hp]
      simp

/-- A sum between bounds. -/
def SumB (k : FloatKind) (r : Nat) (S : Int) (z : Nat) : Prop :=
  isNum k r = true ∧ (fv k r).natAbs ≤ rv k.format z ∧ (0 ≤ S → 0 ≤ fv k r) ∧ (S ≤ 0 → fv k r ≤ 0) ∧ (∀ b : Nat, b < k.format.infRung → (rv k.format b : Int) ≤ S → (rv k.format b : Int) ≤ fv k r) ∧ (∀ b : Nat, b < k.format.infRung → 0 ≤ S → S ≤ (rv k.format b : Int) → fv k r ≤ (rv k.format b : Int))

theorem addsub {k : FloatKind} {r : Nat} {S : Int} (h : ∃ s q, r = k.format.word s q ∧ q ≤ k.format.infRung ∧ (S < 0 → s = true) ∧ (0 < S → s = false) ∧ (∀ z, S.natAbs ≤ rv k.format z → q ≤ z) ∧ (∀ z, z ≤ k.format.infRung → rv k.format z ≤ S.natAbs → z ≤ q))
    {z : Nat} (hz : S.natAbs ≤ rv k.format z) (hi : z < k.format.infRung) : SumB k r S z := by
  obtain ⟨s, q, rfl, _, hneg, hpos, hle, hge⟩ := h
  have hq : q ≤ z := hle z hz
  have hqi : q < k.format.infRung := Nat.lt_of_le_of_lt hq hi
  have hqs : q < k.format.signWeight := Nat.lt_trans hqi k.format.infRung_lt
  have h0 : S = 0 → q = 0 := by
    intro h
    have : q ≤ 0 := hle 0 (by simp [h])
    omega
  refine ⟨word_isNum _ hqi, by rw [fv_word_abs _ hqi]; exact rv_le hq, fun a => ?_, fun a => ?_, fun b hb hs => ?_, fun b hb h1 h2 => ?_⟩
  · rw [fv_word _ hqs]
    by_cases c : S = 0
    · rw [h0 c, rv_zero]; simp
    · rw [hpos (by omega)]; simp
  · rw [fv_word _ hqs]
    by_cases c : S = 0
    · rw [h0 c, rv_zero]; simp
    · rw [hneg (by omega)]; simp
  · have h3 : b ≤ q := hge b (Nat.le_of_lt hb) (by omega)
    have h4 := rv_le (f := k.format) h3
    rw [fv_word _ hqs]
    by_cases c : S = 0
    · have := h0 c
      subst this
      rw [rv_zero] at h4 ⊢
      simp
      omega
    · rw [hpos (by omega)]
      simp only [Bool.false_eq_true, if_false]
      omega
  · have h3 : q ≤ b := hle b (by omega)
    have h4 := rv_le (f := k.format) h3
    rw [fv_word _ hqs]
    by_cases c : S = 0
    · rw [h0 c, rv_zero]
      cases s <;> simp
    · rw [hpos (by omega)]
      simp only [Bool.false_eq_true, if_false]
      omega

theorem addB {k : FloatKind} {x y z : Nat} (hx : isNum k x = true) (hy : isNum k y = true) (hz : (fv k x + fv k y).natAbs ≤ rv k.format z) (hi : z < k.format.infRung) : SumB k (fop .add k x y) (fv k x + fv k y) z := addsub (fop_add hx hy) hz hi
theorem subB {k : FloatKind} {x y z : Nat} (hx : isNum k x = true) (hy : isNum k y = true) (hz : (fv k x - fv k y).natAbs ≤ rv k.format z) (hi : z < k.format.infRung) : SumB k (fop .sub k x y) (fv k x - fv k y) z := addsub (fop_sub hx hy) hz hi

/-! ### 64-bit floats -/

/-- One, in least places. -/
def U : Nat := 2 ^ lp .f64
theorem U_eq : 2 ^ lp .f64 = U := rfl
theorem U_pos : 0 < U := Nat.two_pow_pos _
def one64 : Nat := 4607182418800017408
theorem rv_one : rv FloatKind.f64.format one64 = U := by decide +kernel
theorem fv_one : fv .f64 one64 = (U : Int) := by decide +kernel
theorem one_num : isNum .f64 one64 = true := by decide +kernel
theorem one_inf : one64 < FloatKind.f64.format.infRung := by decide +kernel

/-- What is not too great for a 32-bit float can be narrowed. -/
theorem narrow_some {c : Nat} (h : isNum .f64 c = true) (hb : (fv .f64 c).natAbs ≤ rv FloatKind.f64.format 5179139571476070400) : ∃ r, fconv .f64 .f32 c = some r := by
  obtain ⟨m, e, h1, h2⟩ := isNum_spell h
  have hn : isN .f64 c = false := by
    show (FloatKind.f64.format.read c).isNaN = false
    rw [h1]
    rfl
  have hr : nrung FloatKind.f32.format m (FloatKind.f64.format.leastPlace + (e : Int)) ≤ 2130706432 := by
    refine nrung_le (k1 := e) (k2 := 925) (by have a1 := lp_eq .f64; have a2 := lp_eq .f32; have a3 : lp .f64 = 1074 := by decide
                                              have a4 : lp .f32 = 149 := by decide
                                              omega) ?_
    have e1 : rv FloatKind.f32.format 2130706432 * 2 ^ 925 = rv FloatKind.f64.format 5179139571476070400 := by decide +kernel
    rw [e1, ← h2]
    exact hb
  have hlt : nrung FloatKind.f32.format m (FloatKind.f64.format.leastPlace + (e : Int)) < FloatKind.f32.format.infRung := Nat.lt_of_le_of_lt hr (by decide)
  have hnum : isNum .f32 (FloatKind.f32.format.nearest (sgn .f64 c) m (FloatKind.f64.format.leastPlace + (e : Int))) = true := by
    rw [nearest_eq]
    exact word_isNum _ hlt
  refine ⟨FloatKind.f32.format.nearest (sgn .f64 c) m (FloatKind.f64.format.leastPlace + (e : Int)), ?_⟩
  unfold fconv
  rw [hn]
  show floatToFloatBits .f64 c .f32 = _
  unfold floatToFloatBits
  rw [if_neg (by decide)]
  have hd : FloatKind.f64.decode c = .number (sgn .f64 c) m (FloatKind.f64.format.leastPlace + (e : Int)) := h1
  rw [hd]
  have hinf : (FloatKind.f32.decode (FloatKind.f32.encode (.number (sgn .f64 c) m (FloatKind.f64.format.leastPlace + (e : Int))))).isInfinity = false := by
    obtain ⟨m', e', h3, _⟩ := isNum_read hnum
    show (FloatKind.f32.format.read (FloatKind.f32.format.nearest (sgn .f64 c) m (FloatKind.f64.format.leastPlace + (e : Int)))).isInfinity = false
    rw [h3]
    rfl
  simp only [hinf, Bool.false_eq_true, if_false]
  rfl

/-- A word's kind: a number, an infinity, or a NaN. -/
theorem word_kind (k : FloatKind) (c : Nat) : isNum k c = true ∨ (∃ s, k.format.read c = .infinity s) ∨ isN k c = true := by
  unfold isNum isN FloatKind.decode
  cases k.format.read c with
  | number s m e => exact .inl rfl
  | infinity s => exact .inr (.inl ⟨s, rfl⟩)
  | nan s t => exact .inr (.inr rfl)

theorem narrow_nan {c : Nat} (h : isN .f64 c = true) : fconv .f64 .f32 c = some (nanOf .f32) := by unfold fconv; rw [h]; rfl

/-! ### The exponential -/
def expStep (t : Nat) (p kk : Nat) : Nat := fop .add .f64 one64 (fop .quo .f64 (fop .mul .f64 t p) kk)
def expKs : List Nat := [4622945017495814144, 4622382067542392832, 4621819117588971520, 4621256167635550208, 4620693217682128896, 4619567317775286272, 4618441417868443648, 4617315517961601024, 4616189618054758400, 4613937818241073152, 4611686018427387904, 4607182418800017408]
def expPoly (t p : Nat) : Nat := expKs.foldl (expStep t) p
def sqn : Nat → Nat → Nat
  | 0, p => p
  | n + 1, p => sqn n (fop .mul .f64 p p)
def inf64 : Nat := 9218868437227405312
def expI (y : Nat) : Nat := bif fcmp .gtr .f64 y 4641240890982006784 then inf64 else bif fcmp .lss .f64 y 13864612927836782592 then 0 else sqn 8 (expPoly (fop .quo .f64 y 4643211215818981376) one64)
def expS (y : Nat) : Nat := bif fcmp .neq .f64 y y then y else expI y
def expF (z : Nat) : Nat := (fconv .f64 .f32 (expI (wid z))).getD 0
def expOk (z : Nat) : Bool := isN .f32 z || fcmp .leq .f32 z 0

theorem expStep_in {t p kk : Nat} (ht : isNum .f64 t = true) (ht1 : -(U : Int) ≤ fv .f64 t) (ht2 : fv .f64 t ≤ 0) (hp : isNum .f64 p = true) (hp1 : 0 ≤ fv .f64 p) (hp2 : fv .f64 p ≤ (U : Int)) (hk : isNum .f64 kk = true) (hk1 : (U : Int) ≤ fv .f64 kk) :
    isNum .f64 (expStep t p kk) = true ∧ 0 ≤ fv .f64 (expStep t p kk) ∧ fv .f64 (expStep t p kk) ≤ (U : Int) := by
  have hU : 0 < U := U_pos
  obtain ⟨m1, m2, _, m4⟩ := mulB (z := one64) (X := U) (Y := U) ht hp (by omega) (by omega) (by rw [rv_one, U_eq]; exact Nat.le_refl _) one_inf
  have m4 := m4 ht2 hp1
  rw [rv_one] at m2
  obtain ⟨q1, q2, _, q4⟩ := quoB (z := one64) m1 hk (by omega) (by
    rw [rv_one, U_eq, Nat.mul_comm]
    exact Nat.mul_le_mul_left _ (by omega)) one_inf
  have q4 := q4 m4
  rw [rv_one] at q2
  have a := addB (z := one64) one_num q1 (by rw [rv_one, fv_one]; omega) one_inf
  obtain ⟨a1, a2, a3, _⟩ := a
  rw [rv_one] at a2
  rw [fv_one] at a3
  have a3 := a3 (by omega)
  exact ⟨a1, a3, by unfold expStep; omega⟩

theorem expKs_ok : expKs.all (fun kk => isNum .f64 kk && decide ((U : Int) ≤ fv .f64 kk)) = true := by decide +kernel

theorem expFold_in {t : Nat} (ht : isNum .f64 t = true) (ht1 : -(U : Int) ≤ fv .f64 t) (ht2 : fv .f64 t ≤ 0) : ∀ (l : List Nat), l.all (fun kk => isNum .f64 kk && decide ((U : Int) ≤ fv .f64 kk)) = true → ∀ p, isNum .f64 p = true → 0 ≤ fv .f64 p → fv .f64 p ≤ (U : Int) →
    isNum .f64 (l.foldl (expStep t) p) = true ∧ 0 ≤ fv .f64 (l.foldl (expStep t) p) ∧ fv .f64 (l.foldl (expStep t) p) ≤ (U : Int)
  | [], _, p, h1, h2, h3 => ⟨h1, h2, h3⟩
  | kk :: l, h, p, h1, h2, h3 => by
    rw [List.all_cons, Bool.and_eq_true, Bool.and_eq_true, decide_eq_true_eq] at h
    obtain ⟨a, b, c⟩ := expStep_in ht ht1 ht2 h1 h2 h3 h.1.1 h.1.2
    exact expFold_in ht ht1 ht2 l h.2 _ a b c

theorem sqn_in : ∀ (n p : Nat), isNum .f64 p = true → 0 ≤ fv .f64 p → fv .f64 p ≤ (U : Int) → isNum .f64 (sqn n p) = true ∧ 0 ≤ fv .f64 (sqn n p) ∧ fv .f64 (sqn n p) ≤ (U : Int)
  | 0, p, h1, h2, h3 => ⟨h1, h2, h3⟩
  | n + 1, p, h1, h2, h3 => by
    obtain ⟨m1, m2, m3, _⟩ := mulB (z := one64) (X := U) (Y := U) h1 h1 (by omega) (by omega) (by rw [rv_one, U_eq]; exact Nat.le_refl _) one_inf
    rw [rv_one] at m2
    have m3 := m3 h2 h2
    exact sqn_in n _ m1 m3 (by omega)

theorem fcmp_num_lss {k : FloatKind} {x y : Nat} (hx : isNum k x = true) (hy : isNum k y = true) : fcmp .lss k x y = decide (fv k x < fv k y) := by
  unfold fcmp
  rw [order_fv hx hy]
  exact cmp_lss _ _
theorem fcmp_num_leq {k : FloatKind} {x y : Nat} (hx : isNum k x = true) (hy : isNum k y = true) : fcmp .leq k x y = decide (fv k x ≤ fv k y) := by
  unfold fcmp
  rw [order_fv hx hy]
  exact cmp_leq _ _
theorem fcmp_num_geq {k : FloatKind} {x y : Nat} (hx : isNum k x = true) (hy : isNum k y = true) : fcmp .geq k x y = decide (fv k y ≤ fv k x) := by
  unfold fcmp
  rw [order_fv hx hy]
  exact cmp_geq _ _

/-- The exponential of what is not above zero is from 0 to 1. -/
theorem expI_in {y : Nat} (hy : isNum .f64 y = true) (h0 : fv .f64 y ≤ 0) : isNum .f64 (expI y) = true ∧ 0 ≤ fv .f64 (expI y) ∧ fv .f64 (expI y) ≤ (U : Int) := by
  have hU : 0 < U := U_pos
  have c1 : isNum .f64 4641240890982006784 = true := by decide +kernel
  have c2 : isNum .f64 13864612927836782592 = true := by decide +kernel
  have v1 : fv .f64 4641240890982006784 = 200 * (U : Int) := by decide +kernel
  have v2 : fv .f64 13864612927836782592 = -(200 * (U : Int)) := by decide +kernel
  have g1 : fcmp .gtr .f64 y 4641240890982006784 = false := by rw [gtr_fv hy c1, v1]; exact decide_eq_false (by omega)
  unfold expI
  rw [g1, cond_false, fcmp_num_lss hy c2, v2]
  by_cases h : fv .f64 y < -(200 * (U : Int))
  · rw [decide_eq_true h]
    have z1 : isNum .f64 0 = true := by decide +kernel
    have z2 : fv .f64 0 = 0 := by decide +kernel
    simp only [cond_true]
    exact ⟨z1, by rw [z2]; exact Int.le_refl _, by rw [z2]; omega⟩
  · rw [decide_eq_false h]
    simp only [cond_false]
    have c3 : isNum .f64 4643211215818981376 = true := by decide +kernel
    have v3 : fv .f64 4643211215818981376 = 256 * (U : Int) := by decide +kernel
    obtain ⟨q1, q2, _, q4⟩ := quoB (z := one64) hy c3 (by rw [v3]; omega) (by
      rw [rv_one, v3, U_eq, Nat.mul_comm]
      exact Nat.mul_le_mul_left _ (by omega)) one_inf
    rw [rv_one] at q2
    have q4 := q4 h0
    obtain ⟨p1, p2, p3⟩ := expFold_in q1 (by omega) q4 expKs expKs_ok one64 one_num (by rw [fv_one]; omega) (by rw [fv_one]; omega)
    exact sqn_in 8 _ p1 p2 p3

theorem wid_num {z : Nat} (h : isNum .f32 z = true) : isNum .f64 (wid z) = true ∧ (fv .f32 z ≤ 0 → fv .f64 (wid z) ≤ 0) ∧ (0 ≤ fv .f32 z → 0 ≤ fv .f64 (wid z)) ∧ (fv .f64 (wid z)).natAbs ≤ rv FloatKind.f64.format (5179139571476070400 + 4503599627370496) := by
  obtain ⟨m, e, h1, h2⟩ := isNum_spell h
  have hn : isN .f32 z = false := by
    show (FloatKind.f32.format.read z).isNaN = false
    rw [h1]
    rfl
  have hb := isNum_lt h
  have hr : nrung FloatKind.f64.format m (FloatKind.f32.format.leastPlace + (e : Int)) ≤ 5179139571476070400 + 4503599627370496 := by
    refine nrung_le (k1 := e + 925) (k2 := 0) (by have a1 := lp_eq .f64; have a2 := lp_eq .f32; have a3 : lp .f64 = 1074 := by decide
                                                  have a4 : lp .f32 = 149 := by decide
                                                  omega) ?_
    have e1 : rv FloatKind.f32.format 2139095040 * 2 ^ 925 = rv FloatKind.f64.format (5179139571476070400 + 4503599627370496) := by decide +kernel
    rw [Nat.pow_zero, Nat.mul_one, ← e1, Nat.pow_add, ← Nat.mul_assoc, ← h2]
    refine Nat.mul_le_mul_right _ ?_
    have e2 : (fv .f32 z).natAbs = rv FloatKind.f32.format (z % FloatKind.f32.format.signWeight) := by unfold fv; cases sgn .f32 z <;> simp
    rw [e2]
    exact rv_le (Nat.le_of_lt hb)
  have hlt : nrung FloatKind.f64.format m (FloatKind.f32.format.leastPlace + (e : Int)) < FloatKind.f64.format.infRung := Nat.lt_of_le_of_lt hr (by decide)
  have hw : wid z = FloatKind.f64.format.word (sgn .f32 z) (nrung FloatKind.f64.format m (FloatKind.f32.format.leastPlace + (e : Int))) := by
    rw [← nearest_eq]
    unfold wid fconv
    rw [hn]
    show (floatToFloatBits .f32 z .f64).getD 0 = _
    unfold floatToFloatBits
    rw [if_neg (by decide)]
    have hd : FloatKind.f32.decode z = .number (sgn .f32 z) m (FloatKind.f32.format.leastPlace + (e : Int)) := h1
    rw [hd]
    have hinf : (FloatKind.f64.decode (FloatKind.f64.encode (.number (sgn .f32 z) m (FloatKind.f32.format.leastPlace + (e : Int))))).isInfinity = false := by
      have hnum : isNum .f64 (FloatKind.f64.format.nearest (sgn .f32 z) m (FloatKind.f32.format.leastPlace + (e : Int))) = true := by
        rw [nearest_eq]
        exact word_isNum _ hlt
      obtain ⟨m', e', h3, _⟩ := isNum_read hnum
      show (FloatKind.f64.format.read (FloatKind.f64.format.nearest (sgn .f32 z) m (FloatKind.f32.format.leastPlace + (e : Int)))).isInfinity = false
      rw [h3]
      rfl
    simp only [hinf, Bool.false_eq_true, if_false]
    rfl
  have hs := Nat.lt_trans hlt FloatKind.f64.format.infRung_lt
  have h0 : fv .f32 z = 0 → nrung FloatKind.f64.format m (FloatKind.f32.format.leastPlace + (e : Int)) = 0 := by
    intro h
    rw [h] at h2
    have : m = 0 := by
      rcases Nat.mul_eq_zero.1 h2.symm with h3 | h3
      · exact h3
      · have := Nat.two_pow_pos e; omega
    subst this
    rfl
  rw [hw]
  refine ⟨word_isNum _ hlt, fun a => ?_, fun a => ?_, by rw [fv_word_abs _ hlt]; exact rv_le hr⟩
  · rw [fv_word _ hs]
    by_cases c : fv .f32 z = 0
    · rw [h0 c, rv_zero]; simp
    · rw [sgn_neg (w := z) (by omega)]; simp
  · rw [fv_word _ hs]
    by_cases c : fv .f32 z = 0
    · rw [h0 c, rv_zero]; simp
    · rw [sgn_pos (w := z) (by omega)]; simp

theorem wid_nan {z : Nat} (h : isN .f32 z = true) : wid z = nanOf .f64 := by unfold wid fconv; rw [h]; rfl

theorem wid_inf {z : Nat} {s : Bool} (h : FloatKind.f32.format.read z = .infinity s) : FloatKind.f64.format.read (wid z) = .infinity s := by
  have hn : isN .f32 z = false := by
    show (FloatKind.f32.format.read z).isNaN = false
    rw [h]
    rfl
  have hw : wid z = FloatKind.f64.format.word s FloatKind.f64.format.infRung := by
    unfold wid fconv
    rw [hn]
    show (floatToFloatBits .f32 z .f64).getD 0 = _
    unfold floatToFloatBits
    rw [if_neg (by decide)]
    have hd : FloatKind.f32.decode z = .infinity s := h
    rw [hd]
    rfl
  rw [hw]
  cases s <;> decide +kernel

theorem fcmp_nan_l {op : BinOp} {k : FloatKind} {x y : Nat} (h : isN k x = true) : fcmp op k x y = (match op with
    | .neq => true
    | _ => false) := by
  unfold fcmp Format.order
  rw [order_nan_left (show (k.format.read x).isNaN = true from h)]
  cases op <;> rfl

theorem expPoly_nan {t : Nat} (h : isN .f64 t = true) (p : Nat) : isN .f64 (expPoly t p) = true := by
  have key : ∀ (l : List Nat) (q : Nat), (l ≠ [] ∨ isN .f64 q = true) → isN .f64 (l.foldl (expStep t) q) = true := by
    intro l
    induction l with
    | nil => intro q hq; rcases hq with hq | hq
             · exact absurd rfl hq
             · exact hq
    | cons kk l ih =>
      intro q _
      refine ih _ (.inr ?_)
      unfold expStep
      rw [fop_nan_l (op := .mul) h, fop_nan_l (op := .quo) (isN_nanOf .f64), fop_nan_r (op := .add) (isN_nanOf .f64)]
      exact isN_nanOf .f64
  exact key expKs p (.inl (by decide))
theorem sqn_nan : ∀ (n p : Nat), isN .f64 p = true → isN .f64 (sqn n p) = true
  | 0, _, h => h
  | n + 1, p, h => sqn_nan n _ (by rw [fop_nan_l h]; exact isN_nanOf .f64)

theorem expI_nan {y : Nat} (h : isN .f64 y = true) : isN .f64 (expI y) = true := by
  have h1 : fcmp .gtr .f64 y 4641240890982006784 = false := fcmp_nan_l h
  have h2 : fcmp .lss .f64 y 13864612927836782592 = false := fcmp_nan_l h
  unfold expI
  rw [h1, h2]
  simp only [cond_false]
  refine sqn_nan 8 _ (expPoly_nan ?_ _)
  rw [fop_nan_l h]
  exact isN_nanOf .f64

theorem fcmp_neq_self {k : FloatKind} (x : Nat) : fcmp .neq k x x = isN k x := by
  cases h : isN k x with
  | true => exact fcmp_nan_l h
  | false =>
    rcases order_self k x with h1 | h1
    · rcases order_none h1 with h2 | h2 <;> (rw [h] at h2; cases h2)
    · simp [fcmp, h1]

/-- **THE EXPONENTIAL CAN BE NARROWED**, both ways to write it. -/
theorem exp_narrow {z : Nat} (h : expOk z = true) : fconv .f64 .f32 (expI (wid z)) = some (expF z) ∧ fconv .f64 .f32 (expS (wid z)) = some (expF z) := by
  have key : fconv .f64 .f32 (expI (wid z)) = some (expF z) := by
    have hsome : ∃ r, fconv .f64 .f32 (expI (wid z)) = some r := by
      rcases word_kind .f32 z with h1 | ⟨s, h1⟩ | h1
      · obtain ⟨w1, w2, _⟩ := wid_num h1
        have hz : fv .f32 z ≤ 0 := by
          have z1 : isNum .f32 0 = true := by decide
          have z2 : fv .f32 0 = 0 := by decide
          unfold expOk at h
          rw [Bool.or_eq_true] at h
          rcases h with h | h
          · exfalso
            obtain ⟨m, e, h3, _⟩ := isNum_read h1
            have : (FloatKind.f32.format.read z).isNaN = true := h
            rw [h3] at this
            cases this
          · rw [fcmp_num_leq h1 z1, z2] at h
            exact of_decide_eq_true h
        obtain ⟨e1, e2, e3⟩ := expI_in w1 (w2 hz)
        refine narrow_some e1 ?_
        have : U ≤ rv FloatKind.f64.format 5179139571476070400 := by decide +kernel
        omega
      · have hw := wid_inf h1
        have hs : s = true := by
          cases s with
          | true => rfl
          | false =>
            exfalso
            unfold expOk at h
            have a1 : isN .f32 z = false := by
              show (FloatKind.f32.format.read z).isNaN = false
              rw [h1]
              rfl
            have a2 : fcmp .leq .f32 z 0 = false := by
              unfold fcmp Format.order
              rw [h1]
              rfl
            rw [a1, a2] at h
            cases h
        subst hs
        have b1 : fcmp .gtr .f64 (wid z) 4641240890982006784 = false := by
          unfold fcmp Format.order
          rw [hw]
          rfl
        have b2 : fcmp .lss .f64 (wid z) 13864612927836782592 = true := by
          unfold fcmp Format.order
          rw [hw]
          rfl
        unfold expI
        rw [b1, b2]
        simp only [cond_false, cond_true]
        exact ⟨0, by decide +kernel⟩
      · rw [wid_nan h1]
        exact ⟨_, narrow_nan (expI_nan (isN_nanOf .f64))⟩
    obtain ⟨r, hr⟩ := hsome
    unfold expF
    rw [hr]
    rfl
  refine ⟨key, ?_⟩
  unfold expS
  rw [fcmp_neq_self]
  cases hn : isN .f64 (wid z) with
  | false => exact key
  | true =>
    rw [narrow_nan (expI_nan hn)] at key
    rw [cond_true, narrow_nan hn]
    exact key

end Go.Sm

/- Floats: whole parts, the part of a turn, the sine, the phasor. -/
namespace Go.Sm
open Go Ieee

theorem rv_mk (f : Format) {e K : Nat} (h1 : 0 < e → f.binade ≤ K) (h2 : K < 2 * f.binade) : rv f (e * f.binade + K) = K * 2 ^ e := by
  have hp := binade_pos f
  by_cases hK : f.binade ≤ K
  · have q1 : (e * f.binade + K) / f.binade = e + 1 := by
      rw [Nat.add_comm, Nat.add_mul_div_right _ _ hp]
      have : K / f.binade = 1 := by
        rw [Nat.div_eq_iff hp]
        omega
      omega
    have q2 : (e * f.binade + K) % f.binade = K - f.binade := by
      rw [Nat.add_comm, Nat.add_mul_mod_self_right, Nat.mod_eq_sub_mod hK]
      exact Nat.mod_eq_of_lt (by omega)
    unfold rv
    rw [if_neg (by omega), q1, q2]
    congr 1
    omega
  · have : e = 0 := by omega
    subst this
    unfold rv
    rw [if_pos (by omega)]
    simp

/-- What fits a significand is not rounded. -/
theorem nrung_fits {f : Format} {mag : Nat} {place : Int} (h1 : mag < 2 ^ (f.fractionBits + 1)) (h2 : f.leastPlace ≤ place) {b : Nat} (hb : b < f.infRung) (h3 : mag * 2 ^ (place - f.leastPlace).toNat ≤ rv f b) :
    rv f (nrung f mag place) = mag * 2 ^ (place - f.leastPlace).toNat ∧ nrung f mag place ≤ b := by
  have hle : nrung f mag place ≤ b := nrung_le (k1 := (place - f.leastPlace).toNat) (k2 := 0) (by omega) (by simpa using h3)
  refine ⟨?_, hle⟩
  by_cases hm : mag = 0
  · subst hm
    have : nrung f 0 place = 0 := rfl
    rw [this, rv_zero]
    simp
  have hB : f.binade = 2 ^ f.fractionBits := rfl
  have hL : 2 ^ mag.log2 ≤ mag := Nat.log2_self_le hm
  have hL2 : mag < 2 ^ (mag.log2 + 1) := Nat.lt_log2_self
  have hlog : mag.log2 ≤ f.fractionBits := by
    rcases Nat.lt_or_ge f.fractionBits mag.log2 with h | h
    · have : 2 ^ (f.fractionBits + 1) ≤ 2 ^ mag.log2 := Nat.pow_le_pow_right (by decide) h
      omega
    · exact h
  -- a rung with this value
  obtain ⟨d, hd⟩ : ∃ d : Nat, (place - f.leastPlace).toNat = d := ⟨_, rfl⟩
  rw [hd] at h3 ⊢
  have hex : ∃ q, rv f q = mag * 2 ^ d := by
    rcases Nat.lt_or_ge (f.fractionBits - mag.log2) d with h | h
    · -- a normal one
      obtain ⟨e, he⟩ : ∃ e, d = e + (f.fractionBits - mag.log2) := ⟨d - (f.fractionBits - mag.log2), by omega⟩
      refine ⟨e * f.binade + mag * 2 ^ (f.fractionBits - mag.log2), ?_⟩
      have k1 : f.binade ≤ mag * 2 ^ (f.fractionBits - mag.log2) := by
        have : 2 ^ mag.log2 * 2 ^ (f.fractionBits - mag.log2) ≤ mag * 2 ^ (f.fractionBits - mag.log2) := Nat.mul_le_mul_right _ hL
        rw [← Nat.pow_add, show mag.log2 + (f.fractionBits - mag.log2) = f.fractionBits by omega] at this
        exact this
      have k2 : mag * 2 ^ (f.fractionBits - mag.log2) < 2 * f.binade := by
        have : mag * 2 ^ (f.fractionBits - mag.log2) < 2 ^ (mag.log2 + 1) * 2 ^ (f.fractionBits - mag.log2) := Nat.mul_lt_mul_of_pos_right hL2 (Nat.two_pow_pos _)
        rw [← Nat.pow_add, show mag.log2 + 1 + (f.fractionBits - mag.log2) = f.fractionBits + 1 by omega, Nat.pow_succ'] at this
        exact this
      rw [rv_mk f (fun _ => k1) k2, he, Nat.mul_assoc, ← Nat.pow_add, Nat.add_comm e]
    · refine ⟨0 * f.binade + mag * 2 ^ d, ?_⟩
      have k2 : mag * 2 ^ d < 2 * f.binade := by
        have : mag * 2 ^ d < 2 ^ (mag.log2 + 1) * 2 ^ d := Nat.mul_lt_mul_of_pos_right hL2 (Nat.two_pow_pos _)
        rw [← Nat.pow_add] at this
        have h5 : 2 ^ (mag.log2 + 1 + d) ≤ 2 ^ (f.fractionBits + 1) := Nat.pow_le_pow_right (by decide) (by omega)
        have h6 : 2 ^ (f.fractionBits + 1) = 2 * f.binade := Nat.pow_succ'
        omega
      rw [rv_mk f (fun h => absurd h (by decide)) k2]
      simp
  obtain ⟨q, hq⟩ := hex
  have hqb : q ≤ b := by
    rcases Nat.lt_or_ge b q with h | h
    · have := rv_lt (f := f) h; omega
    · exact h
  have := nrung_exact (f := f) (mag := mag) (place := place) (b := q) (k1 := d) (k2 := 0) (by omega) (by rw [Nat.pow_zero, Nat.mul_one]; exact hq) (by omega)
  rw [this, hq]

/-- The rung of two to so many, 64 bits wide. -/
theorem fits52 {n : Nat} (h : n < 2 ^ 53) : rv FloatKind.f64.format (nrung FloatKind.f64.format n 0) = n * U ∧ nrung FloatKind.f64.format n 0 < FloatKind.f64.format.infRung := by
  have hl := lp_eq .f64
  have e1 : ((0 : Int) - FloatKind.f64.format.leastPlace).toNat = lp .f64 := by omega
  have e2 : FloatKind.f64.format.fractionBits + 1 = 53 := by decide
  have hb : (2 ^ 53) * U ≤ rv FloatKind.f64.format 4845873199050653696 := by decide +kernel
  have := nrung_fits (f := FloatKind.f64.format) (mag := n) (place := 0) (b := 4845873199050653696) (by rw [e2]; exact h) (by omega) (by decide) (by
    rw [e1, U_eq]
    exact Nat.le_trans (Nat.mul_le_mul_right _ (Nat.le_of_lt h)) hb)
  rw [e1, U_eq] at this
  exact ⟨this.1, Nat.lt_of_le_of_lt this.2 (by decide)⟩

/-- A whole number as a 64-bit float. -/
theorem fint_fv {n : Int} (h : n.natAbs < 2 ^ 53) : isNum .f64 (fint .f64 n) = true ∧ fv .f64 (fint .f64 n) = n * (U : Int) := by
  obtain ⟨h1, h2⟩ := fits52 h
  have e : fint .f64 n = FloatKind.f64.format.word (decide (n < 0)) (nrung FloatKind.f64.format n.natAbs 0) := by
    show FloatKind.f64.format.nearest (decide (n < 0)) n.natAbs 0 = _
    rw [nearest_eq]
  rw [e]
  refine ⟨word_isNum _ h2, ?_⟩
  rw [fv_word _ (Nat.lt_trans h2 FloatKind.f64.format.infRung_lt), h1]
  have hU := U_pos
  by_cases hn : n < 0
  · have : (n.natAbs : Int) = -n := by omega
    rw [if_pos (decide_eq_true hn), Int.natCast_mul, this, Int.neg_mul, Int.neg_neg]
  · have : (n.natAbs : Int) = n := by omega
    rw [if_neg (by simp; omega), Int.natCast_mul, this]

/-! ### Whole parts -/

def big52 : Nat := 4841369599423283200
def neg52 : Nat := 14064741636278059008
def huge (y : Nat) : Bool := fcmp .geq .f64 y big52 || fcmp .leq .f64 y neg52
def whole (y : Nat) : Nat := bif fcmp .eql .f64 (fround .zero y) 0 then 0 else fround .zero y
def part (y : Nat) : Nat := bif fcmp .lss .f64 (fop .sub .f64 y (whole y)) 0 then fop .add .f64 (fop .sub .f64 y (whole y)) one64 else fop .sub .f64 y (whole y)

theorem big52_num : isNum .f64 big52 = true ∧ fv .f64 big52 = 2 ^ 52 * (U : Int) := by decide +kernel
theorem neg52_num : isNum .f64 neg52 = true ∧ fv .f64 neg52 = -(2 ^ 52 * (U : Int)) := by decide +kernel
theorem zero64_num : isNum .f64 0 = true ∧ fv .f64 0 = 0 := by decide +kernel

theorem fcmp_num_eql {k : FloatKind} {x y : Nat} (hx : isNum k x = true) (hy : isNum k y = true) : fcmp .eql k x y = decide (fv k x = fv k y) := by
  unfold fcmp
  rw [order_fv hx hy]
  show (some (compareOfLessAndEq (fv k x) (fv k y)) == some Ordering.eq) = _
  unfold compareOfLessAndEq
  rcases Int.lt_trichotomy (fv k x) (fv k y) with h | h | h
  · have h2 : ¬ fv k x = fv k y := by omega
    simp [h, h2]
  · simp [h]
  · have h2 : ¬ fv k x < fv k y := by omega
    have h3 : ¬ fv k x = fv k y := by omega
    simp [h2, h3]

theorem huge_num {y : Nat} (h : isNum .f64 y = true) : huge y = decide (2 ^ 52 * (U : Int) ≤ fv .f64 y ∨ fv .f64 y ≤ -(2 ^ 52 * (U : Int))) := by
  unfold huge
  rw [fcmp_num_geq h big52_num.1, fcmp_num_leq h neg52_num.1, big52_num.2, neg52_num.2]
  rw [Bool.eq_iff_iff]
  simp

/-- **THE WHOLE PART**, both ways to write it. -/
theorem whole_ok {y : Nat} (h : isNum .f64 y = true) (hh : huge y = false) : ∃ n : Int, floatToIntVal .f64 y .i64 = some n ∧ fint .f64 n = whole y ∧ n.natAbs < 2 ^ 52 ∧ fv .f64 (whole y) = n * (U : Int) ∧ isNum .f64 (whole y) = true ∧
    (0 ≤ fv .f64 y → 0 ≤ fv .f64 y - fv .f64 (whole y) ∧ fv .f64 y - fv .f64 (whole y) < (U : Int)) ∧ (fv .f64 y ≤ 0 → -(U : Int) < fv .f64 y - fv .f64 (whole y) ∧ fv .f64 y - fv .f64 (whole y) ≤ 0) := by
  have hU := U_pos
  rw [huge_num h, decide_eq_false_iff_not] at hh
  obtain ⟨m, e, h1, h2⟩ := isNum_spell h
  have hl := lp_eq .f64
  have hfv := fv_read h1
  have he : (FloatKind.f64.format.leastPlace + (e : Int) - FloatKind.f64.format.leastPlace).toNat = e := by omega
  rw [he] at hfv
  -- the whole magnitude
  obtain ⟨W, hW⟩ : ∃ W, W = Toward.zero.cut (sgn .f64 y) (m <<< (FloatKind.f64.format.leastPlace + (e : Int)).toNat) (-(FloatKind.f64.format.leastPlace + (e : Int))).toNat := ⟨_, rfl⟩
  have hcut : ∀ (n drop : Nat), Toward.zero.cut (sgn .f64 y) n drop = n / 2 ^ drop := by
    intro n drop
    unfold Toward.cut
    dsimp only
    rw [Nat.one_shiftLeft]
    simp only [Bool.toNat_false, Nat.add_zero]
    rcases Nat.le_total drop (n.log2 + 2) with hd | hd
    · rw [Nat.min_eq_left hd]
    · rw [Nat.min_eq_right hd]
      have a1 : n < 2 ^ (n.log2 + 1) := Nat.lt_log2_self
      have a2 : 2 ^ (n.log2 + 1) ≤ 2 ^ (n.log2 + 2) := Nat.pow_le_pow_right (by decide) (by omega)
      have a3 : 2 ^ (n.log2 + 2) ≤ 2 ^ drop := Nat.pow_le_pow_right (by decide) hd
      rw [Nat.div_eq_of_lt (by omega), Nat.div_eq_of_lt (by omega)]
  rw [hcut, Nat.shiftLeft_eq] at hW
  have hWd : W * U ≤ m * 2 ^ e ∧ m * 2 ^ e < (W + 1) * U := by
    rw [← U_eq]
    rcases Nat.le_total e (lp .f64) with h3 | h3
    · have a1 : (FloatKind.f64.format.leastPlace + (e : Int)).toNat = 0 := by omega
      have a2 : (-(FloatKind.f64.format.leastPlace + (e : Int))).toNat = lp .f64 - e := by omega
      rw [a1, a2, Nat.pow_zero, Nat.mul_one] at hW
      have hp := Nat.two_pow_pos (lp .f64 - e)
      have b1 := Nat.div_mul_le_self m (2 ^ (lp .f64 - e))
      have b2 := Nat.lt_div_mul_add hp (a := m)
      rw [← hW] at b1 b2
      have b3 : 2 ^ lp .f64 = 2 ^ (lp .f64 - e) * 2 ^ e := by rw [← Nat.pow_add]; congr 1; omega
      rw [b3, ← Nat.mul_assoc, ← Nat.mul_assoc]
      refine ⟨Nat.mul_le_mul_right _ b1, Nat.mul_lt_mul_of_pos_right ?_ (Nat.two_pow_pos _)⟩
      rw [Nat.add_mul, Nat.one_mul]
      exact b2
    · have a1 : (FloatKind.f64.format.leastPlace + (e : Int)).toNat = e - lp .f64 := by omega
      have a2 : (-(FloatKind.f64.format.leastPlace + (e : Int))).toNat = 0 := by omega
      rw [a1, a2, Nat.pow_zero, Nat.div_one] at hW
      have b3 : 2 ^ e = 2 ^ (e - lp .f64) * 2 ^ lp .f64 := by rw [← Nat.pow_add]; congr 1; omega
      rw [b3, ← Nat.mul_assoc, ← hW]
      refine ⟨Nat.le_refl _, ?_⟩
      rw [Nat.add_mul, Nat.one_mul]
      exact Nat.lt_add_of_pos_right (Nat.two_pow_pos _)
  have hW52 : W < 2 ^ 52 := by
    have b1 : (m * 2 ^ e : Nat) < 2 ^ 52 * U := by
      have : (fv .f64 y).natAbs < 2 ^ 52 * U := by
        have c : ((2 ^ 52 * U : Nat) : Int) = 2 ^ 52 * (U : Int) := by rw [Int.natCast_mul]; rfl
        omega
      rw [h2] at this
      exact this
    have b2 : W * U < 2 ^ 52 * U := Nat.lt_of_le_of_lt hWd.1 b1
    exact Nat.lt_of_mul_lt_mul_right b2
  have hr1 : fround .zero y = FloatKind.f64.format.word (sgn .f64 y) (nrung FloatKind.f64.format W 0) := by
    have hn : isN .f64 y = false := by
      show (FloatKind.f64.format.read y).isNaN = false
      rw [h1]
      rfl
    unfold fround
    rw [hn]
    have hd : FloatKind.f64.decode y = .number (sgn .f64 y) m (FloatKind.f64.format.leastPlace + (e : Int)) := h1
    rw [hd, cond_false]
    show FloatKind.f64.format.nearest (sgn .f64 y) (Toward.zero.cut (sgn .f64 y) (m <<< (FloatKind.f64.format.leastPlace + (e : Int)).toNat) (-(FloatKind.f64.format.leastPlace + (e : Int))).toNat) 0 = _
    rw [nearest_eq, hcut, Nat.shiftLeft_eq, ← hW]
  obtain ⟨hv, hi⟩ := fits52 (show W < 2 ^ 53 by omega)
  have hs := Nat.lt_trans hi FloatKind.f64.format.infRung_lt
  have hnum : isNum .f64 (fround .zero y) = true := by rw [hr1]; exact word_isNum _ hi
  have hfr : fv .f64 (fround .zero y) = if sgn .f64 y then -((W * U : Nat) : Int) else ((W * U : Nat) : Int) := by rw [hr1, fv_word _ hs, hv]
  -- the whole number
  have hn : floatToIntVal .f64 y .i64 = some (if sgn .f64 y then -(W : Int) else (W : Int)) := by
    unfold floatToIntVal
    have hd : FloatKind.f64.decode y = .number (sgn .f64 y) m (FloatKind.f64.format.leastPlace + (e : Int)) := h1
    have ht : (FloatKind.f64.decode y).toInt .zero = some (if sgn .f64 y then -(W : Int) else (W : Int)) := by
      rw [hd]
      show some (signed (sgn .f64 y) (Toward.zero.cut (sgn .f64 y) (m <<< (FloatKind.f64.format.leastPlace + (e : Int)).toNat) (-(FloatKind.f64.format.leastPlace + (e : Int))).toNat) 0) = _
      rw [hcut, Nat.shiftLeft_eq, ← hW]
      unfold signed
      rw [Nat.shiftLeft_zero]
    rw [ht]
    have hmin : IntKind.i64.min = -9223372036854775808 := by decide
    have hmax : IntKind.i64.max = 9223372036854775807 := by decide
    simp only [hmin, hmax]
    rw [if_pos (by cases sgn .f64 y <;> simp <;> omega)]
  have hcast : ((W * U : Nat) : Int) = (W : Int) * (U : Int) := Int.natCast_mul _ _
  have hwhole : fint .f64 (if sgn .f64 y then -(W : Int) else (W : Int)) = whole y ∧ fv .f64 (whole y) = (if sgn .f64 y then -(W : Int) else (W : Int)) * (U : Int) ∧ isNum .f64 (whole y) = true := by
    unfold whole
    rw [fcmp_num_eql hnum zero64_num.1, zero64_num.2, hfr, hcast]
    by_cases hw0 : W = 0
    · subst hw0
      have c1 : (if sgn .f64 y then -(((0 : Nat) : Int) * (U : Int)) else ((0 : Nat) : Int) * (U : Int)) = 0 := by cases sgn .f64 y <;> simp
      have c2 : (if sgn .f64 y then -((0 : Nat) : Int) else ((0 : Nat) : Int)) = 0 := by cases sgn .f64 y <;> simp
      rw [c1, c2]
      simp only [decide_true, cond_true]
      exact ⟨by decide +kernel, by rw [zero64_num.2]; simp, zero64_num.1⟩
    · have hpos : 0 < (W : Int) * (U : Int) := Int.mul_pos (by omega) (by omega)
      have c1 : ¬ (if sgn .f64 y then -((W : Int) * (U : Int)) else (W : Int) * (U : Int)) = 0 := by cases sgn .f64 y <;> simp <;> omega
      rw [decide_eq_false c1, cond_false, hfr, hcast]
      refine ⟨?_, ?_, hnum⟩
      · rw [hr1]
        have : ∀ n : Int, fint .f64 n = FloatKind.f64.format.word (decide (n < 0)) (nrung FloatKind.f64.format n.natAbs 0) := by
          intro n
          show FloatKind.f64.format.nearest (decide (n < 0)) n.natAbs 0 = _
          rw [nearest_eq]
        rw [this]
        cases sgn .f64 y with
        | false =>
          have d1 : decide ((W : Int) < 0) = false := decide_eq_false (by omega)
          simp [d1]
        | true =>
          have d1 : decide (-(W : Int) < 0) = true := decide_eq_true (by omega)
          simp only [if_true]
          rw [d1, Int.natAbs_neg]
          rfl
      · cases sgn .f64 y <;> simp [Int.neg_mul]
  refine ⟨_, hn, hwhole.1, ?_, hwhole.2.1, hwhole.2.2, fun hp => ?_, fun hp => ?_⟩
  · cases sgn .f64 y <;> simp <;> omega
  · rw [hwhole.2.1]
    have hsv : fv .f64 y = signed (sgn .f64 y) m e := hfv
    unfold signed at hsv
    rw [Nat.shiftLeft_eq] at hsv
    cases hsg : sgn .f64 y with
    | false =>
      rw [hsg] at hsv
      simp only [Bool.false_eq_true, if_false] at hsv ⊢
      rw [hsv, ← hcast]
      have := hWd.2
      rw [Nat.add_mul, Nat.one_mul] at this
      omega
    | true =>
      rw [hsg] at hsv
      simp only [if_true] at hsv ⊢
      have hm0 : m * 2 ^ e = 0 := by omega
      have hw0 : W * U = 0 := by omega
      rw [Int.neg_mul, ← hcast, hw0, hsv, hm0]
      simp
      omega
  · rw [hwhole.2.1]
    have hsv : fv .f64 y = signed (sgn .f64 y) m e := hfv
    unfold signed at hsv
    rw [Nat.shiftLeft_eq] at hsv
    cases hsg : sgn .f64 y with
    | true =>
      rw [hsg] at hsv
      simp only [if_true] at hsv ⊢
      rw [hsv, Int.neg_mul, ← hcast]
      have := hWd.2
      rw [Nat.add_mul, Nat.one_mul] at this
      omega
    | false =>
      rw [hsg] at hsv
      simp only [Bool.false_eq_true, if_false] at hsv ⊢
      have hm0 : m * 2 ^ e = 0 := by omega
      have hw0 : W * U = 0 := by omega
      rw [← hcast, hw0, hsv, hm0]
      simp
      omega

/-- The part of a turn is from 0 to 1. -/
theorem part_in {y : Nat} (h : isNum .f64 y = true) (hh : huge y = false) : isNum .f64 (part y) = true ∧ 0 ≤ fv .f64 (part y) ∧ fv .f64 (part y) ≤ (U : Int) := by
  have hU := U_pos
  obtain ⟨n, _, _, _, _, w1, w2, w3⟩ := whole_ok h hh
  have hd : (fv .f64 y - fv .f64 (whole y)).natAbs ≤ U := by
    rcases Int.le_total 0 (fv .f64 y) with hp | hp
    · have := w2 hp; omega
    · have := w3 hp; omega
  obtain ⟨s1, s2, s3, s4, _⟩ := subB (z := one64) h w1 (by rw [rv_one]; exact hd) one_inf
  rw [rv_one] at s2
  unfold part
  rw [fcmp_num_lss s1 zero64_num.1, zero64_num.2]
  generalize fop .sub .f64 y (whole y) = D at s1 s2 s3 s4 ⊢
  by_cases hneg : fv .f64 D < 0
  · rw [decide_eq_true hneg, cond_true]
    obtain ⟨a1, a2, a3, _⟩ := addB (z := one64) s1 one_num (by rw [rv_one, fv_one]; omega) one_inf
    rw [rv_one] at a2
    rw [fv_one] at a3
    have a3 := a3 (by omega)
    exact ⟨a1, a3, by omega⟩
  · rw [decide_eq_false hneg, cond_false]
    exact ⟨s1, by omega, by omega⟩

/-! ### The sine -/
def half64 : Nat := 4602678819172646912
def quarter64 : Nat := 4598175219545276416
def two64 : Nat := 4611686018427387904
def four64 : Nat := 4616189618054758400
def tau64 : Nat := 4618760256179416344
def sinStep (u : Nat) (p kk : Nat) : Nat := fop .sub .f64 one64 (fop .quo .f64 (fop .mul .f64 u p) kk)
def sinKs : List Nat := [4643492690795692032, 4641592734702895104, 4639692778610098176, 4637440978796412928, 4634766966517661696, 4631107791820423168, 4626322717216342016, 4618441417868443648]
def sinPoly (u p : Nat) : Nat := sinKs.foldl (sinStep u) p
def low1 (f : Nat) : Nat := bif fcmp .geq .f64 f half64 then fop .sub .f64 f half64 else f
def low2 (f : Nat) : Nat := bif fcmp .gtr .f64 (low1 f) quarter64 then fop .sub .f64 half64 (low1 f) else low1 f
def sinArm (f : Nat) : Nat := fop .mul .f64 (low2 f) tau64
def sinVal (f : Nat) : Nat := fop .mul .f64 (sinArm f) (sinPoly (fop .mul .f64 (sinArm f) (sinArm f)) one64)
def sinCore (f : Nat) : Nat := bif fcmp .geq .f64 f half64 then fneg .f64 (sinVal f) else sinVal f
def sineW (y : Nat) : Nat := bif fcmp .neq .f64 (fop .sub .f64 y y) 0 then nanOf .f64 else bif huge y then 0 else sinCore (part y)

theorem sinKs_ok : sinKs.all (fun kk => isNum .f64 kk && decide (4 * (U : Int) ≤ fv .f64 kk)) = true := by decide +kernel
theorem rv_four : rv FloatKind.f64.format four64 = 4 * U := by decide +kernel
theorem rv_two : rv FloatKind.f64.format two64 = 2 * U := by decide +kernel
theorem four_inf : four64 < FloatKind.f64.format.infRung := by decide +kernel
theorem two_inf : two64 < FloatKind.f64.format.infRung := by decide +kernel

theorem sinStep_in {u p kk : Nat} (hu : isNum .f64 u = true) (hu1 : 0 ≤ fv .f64 u) (hu2 : fv .f64 u ≤ 4 * (U : Int)) (hp : isNum .f64 p = true) (hp1 : 0 ≤ fv .f64 p) (hp2 : fv .f64 p ≤ (U : Int)) (hk : isNum .f64 kk = true) (hk1 : 4 * (U : Int) ≤ fv .f64 kk) :
    isNum .f64 (sinStep u p kk) = true ∧ 0 ≤ fv .f64 (sinStep u p kk) ∧ fv .f64 (sinStep u p kk) ≤ (U : Int) := by
  have hU := U_pos
  obtain ⟨m1, m2, m3, _⟩ := mulB (z := four64) (X := 4 * U) (Y := U) hu hp (by omega) (by omega) (by rw [rv_four, U_eq]; exact Nat.le_refl _) four_inf
  have m3 := m3 hu1 hp1
  rw [rv_four] at m2
  obtain ⟨q1, q2, q3, _⟩ := quoB (z := one64) m1 hk (by omega) (by
    rw [rv_one, U_eq, Nat.mul_comm]
    exact Nat.mul_le_mul_left _ (by omega)) one_inf
  have q3 := q3 m3
  rw [rv_one] at q2
  obtain ⟨a1, a2, a3, _⟩ := subB (z := one64) one_num q1 (by rw [rv_one, fv_one]; omega) one_inf
  rw [rv_one] at a2
  rw [fv_one] at a3
  have a3 := a3 (by omega)
  exact ⟨a1, a3, by unfold sinStep; omega⟩

theorem sinFold_in {u : Nat} (hu : isNum .f64 u = true) (hu1 : 0 ≤ fv .f64 u) (hu2 : fv .f64 u ≤ 4 * (U : Int)) : ∀ (l : List Nat), l.all (fun kk => isNum .f64 kk && decide (4 * (U : Int) ≤ fv .f64 kk)) = true → ∀ p, isNum .f64 p = true → 0 ≤ fv .f64 p → fv .f64 p ≤ (U : Int) →
    isNum .f64 (l.foldl (sinStep u) p) = true ∧ 0 ≤ fv .f64 (l.foldl (sinStep u) p) ∧ fv .f64 (l.foldl (sinStep u) p) ≤ (U : Int)
  | [], _, p, h1, h2, h3 => ⟨h1, h2, h3⟩
  | kk :: l, h, p, h1, h2, h3 => by
    rw [List.all_cons, Bool.and_eq_true, Bool.and_eq_true, decide_eq_true_eq] at h
    obtain ⟨a, b, c⟩ := sinStep_in hu hu1 hu2 h1 h2 h3 h.1.1 h.1.2
    exact sinFold_in hu hu1 hu2 l h.2 _ a b c

theorem half_num : isNum .f64 half64 = true ∧ 2 * fv .f64 half64 = (U : Int) := by decide +kernel
theorem quarter_num : isNum .f64 quarter64 = true ∧ 4 * fv .f64 quarter64 = (U : Int) := by decide +kernel
theorem tau_num : isNum .f64 tau64 = true ∧ 0 ≤ fv .f64 tau64 := by decide +kernel
theorem half_inf : half64 < FloatKind.f64.format.infRung := by decide +kernel
theorem quarter_inf : quarter64 < FloatKind.f64.format.infRung := by decide +kernel
theorem rv_half : (rv FloatKind.f64.format half64 : Int) = fv .f64 half64 := by decide +kernel
theorem rv_quarter : (rv FloatKind.f64.format quarter64 : Int) = fv .f64 quarter64 := by decide +kernel

theorem low1_in {f : Nat} (h : isNum .f64 f = true) (h1 : 0 ≤ fv .f64 f) (h2 : fv .f64 f ≤ (U : Int)) : isNum .f64 (low1 f) = true ∧ 0 ≤ fv .f64 (low1 f) ∧ fv .f64 (low1 f) ≤ fv .f64 half64 := by
  have hh := half_num.2
  unfold low1
  rw [fcmp_num_geq h half_num.1]
  by_cases c : fv .f64 half64 ≤ fv .f64 f
  · rw [decide_eq_true c, cond_true]
    obtain ⟨a1, a2, a3, _⟩ := subB (z := half64) h half_num.1 (by have := rv_half; omega) half_inf
    have := rv_half
    exact ⟨a1, a3 (by omega), by omega⟩
  · rw [decide_eq_false c, cond_false]
    exact ⟨h, h1, by omega⟩

theorem low2_in {f : Nat} (h : isNum .f64 f = true) (h1 : 0 ≤ fv .f64 f) (h2 : fv .f64 f ≤ (U : Int)) : isNum .f64 (low2 f) = true ∧ 0 ≤ fv .f64 (low2 f) ∧ fv .f64 (low2 f) ≤ fv .f64 quarter64 := by
  have hh := half_num.2
  have hq := quarter_num.2
  obtain ⟨b1, b2, b3⟩ := low1_in h h1 h2
  unfold low2
  rw [gtr_fv b1 quarter_num.1]
  by_cases c : fv .f64 quarter64 < fv .f64 (low1 f)
  · rw [decide_eq_true c, cond_true]
    obtain ⟨a1, a2, a3, _⟩ := subB (z := quarter64) half_num.1 b1 (by have := rv_quarter; omega) quarter_inf
    have := rv_quarter
    exact ⟨a1, a3 (by omega), by omega⟩
  · rw [decide_eq_false c, cond_false]
    exact ⟨b1, b2, by omega⟩

theorem sinVal_in {f : Nat} (h : isNum .f64 f = true) (h1 : 0 ≤ fv .f64 f) (h2 : fv .f64 f ≤ (U : Int)) : isNum .f64 (sinVal f) = true ∧ 0 ≤ fv .f64 (sinVal f) ∧ fv .f64 (sinVal f) ≤ 2 * (U : Int) := by
  have hU := U_pos
  obtain ⟨b1, b2, b3⟩ := low2_in h h1 h2
  have hrq := rv_quarter
  have harm : isNum .f64 (sinArm f) = true ∧ 0 ≤ fv .f64 (sinArm f) ∧ fv .f64 (sinArm f) ≤ 2 * (U : Int) := by
    obtain ⟨m1, m2, m3, _⟩ := mulB (z := two64) (X := rv FloatKind.f64.format quarter64) (Y := (fv .f64 tau64).natAbs) b1 tau_num.1 (by omega) (Nat.le_refl _) (by decide +kernel) two_inf
    rw [rv_two] at m2
    exact ⟨m1, m3 b2 tau_num.2, by unfold sinArm; omega⟩
  obtain ⟨c1, c2, c3⟩ := harm
  obtain ⟨u1, u2, u3, _⟩ := mulB (z := four64) (X := 2 * U) (Y := 2 * U) c1 c1 (by omega) (by omega) (by rw [rv_four, U_eq]; exact Nat.le_of_eq (by rw [Nat.mul_mul_mul_comm, Nat.mul_assoc 4 U U])) four_inf
  rw [rv_four] at u2
  have u3 := u3 c2 c2
  obtain ⟨p1, p2, p3⟩ := sinFold_in u1 u3 (by omega) sinKs sinKs_ok one64 one_num (by rw [fv_one]; omega) (by rw [fv_one]; omega)
  have hp : isNum .f64 (sinPoly (fop .mul .f64 (sinArm f) (sinArm f)) one64) = true ∧ 0 ≤ fv .f64 (sinPoly (fop .mul .f64 (sinArm f) (sinArm f)) one64) ∧ fv .f64 (sinPoly (fop .mul .f64 (sinArm f) (sinArm f)) one64) ≤ (U : Int) := ⟨p1, p2, p3⟩
  obtain ⟨p1, p2, p3⟩ := hp
  obtain ⟨v1, v2, v3, _⟩ := mulB (z := two64) (X := 2 * U) (Y := U) c1 p1 (by omega) (by omega) (by rw [rv_two, U_eq]; exact Nat.le_refl _) two_inf
  rw [rv_two] at v2
  exact ⟨v1, v3 c2 p2, by unfold sinVal; omega⟩

theorem fneg_fv {k : FloatKind} {w : Nat} (h : isNum k w = true) : isNum k (fneg k w) = true ∧ (fv k (fneg k w)).natAbs = (fv k w).natAbs := by
  have hn : isN k w = false := by
    obtain ⟨m, e, h1, _⟩ := isNum_read h
    show (k.format.read w).isNaN = false
    rw [h1]
    rfl
  have e1 : fneg k w = w ^^^ k.format.signWeight := by unfold fneg; rw [hn]; rfl
  have hm : fneg k w % k.format.signWeight = w % k.format.signWeight := by rw [e1]; exact negFloat_mod _ _
  have hlt := isNum_lt h
  refine ⟨isNum_of_lt (by rw [hm]; exact hlt), ?_⟩
  have key : ∀ x : Nat, (fv k x).natAbs = rv k.format (x % k.format.signWeight) := by
    intro x
    unfold fv
    cases sgn k x <;> simp
  rw [key, key, hm]

/-- The sine of a part of a turn lies between -2 and 2. -/
theorem sinCore_in {f : Nat} (h : isNum .f64 f = true) (h1 : 0 ≤ fv .f64 f) (h2 : fv .f64 f ≤ (U : Int)) : isNum .f64 (sinCore f) = true ∧ (fv .f64 (sinCore f)).natAbs ≤ 2 * U := by
  obtain ⟨v1, v2, v3⟩ := sinVal_in h h1 h2
  unfold sinCore
  cases fcmp .geq .f64 f half64 with
  | true =>
    obtain ⟨n1, n2⟩ := fneg_fv v1
    exact ⟨n1, by rw [cond_true, n2]; omega⟩
  | false => exact ⟨v1, by rw [cond_false]; omega⟩

theorem narrow_two {c : Nat} (h : isNum .f64 c = true) (hb : (fv .f64 c).natAbs ≤ 2 * U) : ∃ r, fconv .f64 .f32 c = some r := by
  refine narrow_some h ?_
  have : 2 * U ≤ rv FloatKind.f64.format 5179139571476070400 := by decide +kernel
  omega

theorem sub_self_fin {k : FloatKind} (y : Nat) : fcmp .neq k (fop .sub k y y) 0 = !isNum k y := by
  rcases word_kind k y with h | ⟨s, h⟩ | h
  · obtain ⟨q, s, he, _, _, _, hle, _⟩ := fop_sub h h
    rw [h]
    have hq : s = 0 := by
      have := hle 0 (by simp)
      omega
    subst hq
    rw [he]
    cases k <;> cases q <;> decide +kernel
  · have hn : isNum k y = false := by
      unfold isNum
      rw [h]
    have : fop .sub k y y = nanOf k := by
      have h2 : floatBits .sub k y y = none := by
        show k.format.sub y y = none
        unfold Format.sub
        rw [h]
        cases s <;> rfl
      unfold fop
      rw [h2]
      rfl
    rw [hn, this]
    cases k <;> decide +kernel
  · have hn : isNum k y = false := by
      unfold isNum
      have : (k.format.read y).isNaN = true := h
      cases hr : k.format.read y with
      | nan _ _ => rfl
      | infinity _ => exact absurd this (by rw [hr]; exact Bool.false_ne_true)
      | number _ _ _ => exact absurd this (by rw [hr]; exact Bool.false_ne_true)
    rw [hn, fop_nan_l h]
    cases k <;> decide +kernel

/-- **THE SINE CAN BE NARROWED.** -/
theorem sineW_narrow (y : Nat) : ∃ r, fconv .f64 .f32 (sineW y) = some r := by
  unfold sineW
  rw [sub_self_fin]
  cases hn : isNum .f64 y with
  | false => exact ⟨_, narrow_nan (isN_nanOf .f64)⟩
  | true =>
    cases hh : huge y with
    | true =>
      simp only [Bool.not_true, cond_false, cond_true]
      exact ⟨0, by decide +kernel⟩
    | false =>
      obtain ⟨p1, p2, p3⟩ := part_in hn hh
      obtain ⟨c1, c2⟩ := sinCore_in p1 p2 p3
      exact narrow_two c1 c2

end Go.Sm

/- Floats: roots of 32-bit floats can be narrowed; the phasor; the logarithm. -/
namespace Go.Sm
open Go Ieee

/-! ### The root -/
theorem no_pow {K L : Nat} (h1 : K < L) (h2 : 2 ^ L ≤ 2 ^ K) : False := absurd (Nat.pow_lt_pow_right (by decide : 1 < 2) h1) (Nat.not_lt.2 h2)

theorem rootFrom_lt (n : Nat) : ∀ (todo root : Nat), Datum.rootFrom n todo root < root + 2 ^ todo
  | 0, root => by unfold Datum.rootFrom; simp
  | todo + 1, root => by
    unfold Datum.rootFrom
    dsimp only
    rw [Nat.pow_succ]
    split
    · have := rootFrom_lt n todo (root + 1 <<< todo)
      rw [Nat.one_shiftLeft] at this ⊢
      omega
    · have := rootFrom_lt n todo root
      have := Nat.two_pow_pos todo
      omega

theorem log2_mul {m : Nat} (hm : m ≠ 0) (k : Nat) : (m * 2 ^ k).log2 = m.log2 + k := by
  have h0 : m * 2 ^ k ≠ 0 := Nat.mul_ne_zero hm (Nat.ne_of_gt (Nat.two_pow_pos k))
  rw [Nat.log2_eq_iff h0, Nat.pow_add, show m.log2 + k + 1 = m.log2 + 1 + k by omega, Nat.pow_add 2 (m.log2 + 1) k]
  exact ⟨Nat.mul_le_mul_right _ (Nat.log2_self_le hm), Nat.mul_lt_mul_of_pos_right Nat.lt_log2_self (Nat.two_pow_pos _)⟩

def rootF (x : Nat) : Nat := (fconv .f64 .f32 (fsqrt (wid x))).getD 0

theorem root_some (x : Nat) : ∃ r, fconv .f64 .f32 (fsqrt (wid x)) = some r := by
  rcases word_kind .f32 x with h | ⟨s, h⟩ | h
  · obtain ⟨w1, _, _, w4⟩ := wid_num h
    obtain ⟨m, e, h1, h2⟩ := isNum_spell w1
    have hl := lp_eq .f64
    have hl2 : lp .f64 = 1074 := by decide
    by_cases hm : m = 0
    · have hr : fsqrt (wid x) = FloatKind.f64.format.word (sgn .f64 (wid x)) 0 := by
        unfold fsqrt
        have : FloatKind.f64.format.sqrt (wid x) = some (FloatKind.f64.format.nearest (sgn .f64 (wid x)) 0 (FloatKind.f64.format.leastPlace + (e : Int))) := by
          unfold Format.sqrt
          rw [h1, hm]
          rfl
        rw [this]
        rfl
      rw [hr]
      cases sgn .f64 (wid x)
      · exact ⟨0, by decide +kernel⟩
      · exact ⟨2147483648, by decide +kernel⟩
    · cases hs : sgn .f64 (wid x) with
      | true =>
        have hr : fsqrt (wid x) = nanOf .f64 := by
          unfold fsqrt
          have : FloatKind.f64.format.sqrt (wid x) = none := by
            unfold Format.sqrt
            rw [h1, hs]
            have : (Datum.number true m (FloatKind.f64.format.leastPlace + (e : Int))).root (FloatKind.f64.format.fractionBits + 2) = none := (if_neg hm).trans (if_pos rfl)
            rw [this]
            rfl
          rw [this]
          rfl
        rw [hr]
        exact ⟨_, narrow_nan (isN_nanOf .f64)⟩
      | false =>
        have hlog : m.log2 + e ≤ 1074 + 128 := by
          have a1 : 2 ^ m.log2 * 2 ^ e ≤ m * 2 ^ e := Nat.mul_le_mul_right _ (Nat.log2_self_le hm)
          have a2 : rv FloatKind.f64.format (5179139571476070400 + 4503599627370496) = 2 ^ 1202 := by decide +kernel
          rw [a2, h2] at w4
          rw [← Nat.pow_add] at a1
          rcases Nat.lt_or_ge 1202 (m.log2 + e) with h3 | h3
          · exact (no_pow h3 (Nat.le_trans a1 w4)).elim
          · exact h3
        have hform : ∃ more whole st : Nat, st ≤ 1 ∧ whole < 2 ^ ((m.log2 + more) / 2 + 1) ∧ fsqrt (wid x) = FloatKind.f64.format.nearest false (2 * whole + st) ((FloatKind.f64.format.leastPlace + (e : Int) - (more : Int)) / 2 - 1) := by
          let more0 := 2 * (FloatKind.f64.format.fractionBits + 2) - m.log2
          let more := more0 + ((FloatKind.f64.format.leastPlace + (e : Int) - (more0 : Int)) % 2).toNat
          let n := m <<< more
          let whole := Datum.rootFrom n (n.log2 / 2 + 1) 0
          refine ⟨more, whole, (whole * whole != n).toNat, by cases (whole * whole != n) <;> decide, ?_, ?_⟩
          · have h3 := rootFrom_lt n (n.log2 / 2 + 1) 0
            rw [Nat.zero_add] at h3
            have h4 : n.log2 = m.log2 + more := by
              show (m <<< more).log2 = _
              rw [Nat.shiftLeft_eq, log2_mul hm]
            rw [← h4]
            exact h3
          · unfold fsqrt
            have : FloatKind.f64.format.sqrt (wid x) = some (FloatKind.f64.format.nearest false (2 * whole + (whole * whole != n).toNat) ((FloatKind.f64.format.leastPlace + (e : Int) - (more : Int)) / 2 - 1)) := by
              unfold Format.sqrt
              rw [h1, hs]
              have : (Datum.number false m (FloatKind.f64.format.leastPlace + (e : Int))).root (FloatKind.f64.format.fractionBits + 2) = some (.number false (2 * whole + (whole * whole != n).toNat) ((FloatKind.f64.format.leastPlace + (e : Int) - (more : Int)) / 2 - 1)) := (if_neg hm).trans (if_neg (by decide))
              rw [this]
              rfl
            rw [this]
            rfl
        obtain ⟨more, whole, st, hst, hwh, hr⟩ := hform
        have hb : nrung FloatKind.f64.format (2 * whole + st) ((FloatKind.f64.format.leastPlace + (e : Int) - (more : Int)) / 2 - 1) ≤ 5179139571476070400 := by
          have hmag : 2 * whole + st ≤ 2 ^ ((m.log2 + more) / 2 + 2) := by
            rw [Nat.pow_succ]
            omega
          obtain ⟨K, hK, a2⟩ : ∃ K : Nat, K = 1201 ∧ rv FloatKind.f64.format 5179139571476070400 = 2 ^ K := ⟨1201, rfl, by decide +kernel⟩
          obtain ⟨k1, k2, hk, hz⟩ : ∃ k1 k2 : Nat, (k1 : Int) - (k2 : Int) = (FloatKind.f64.format.leastPlace + (e : Int) - (more : Int)) / 2 - 1 - FloatKind.f64.format.leastPlace ∧ (k1 = 0 ∨ k2 = 0) := by
            rcases Int.le_total 0 ((FloatKind.f64.format.leastPlace + (e : Int) - (more : Int)) / 2 - 1 - FloatKind.f64.format.leastPlace) with h5 | h5
            · exact ⟨((FloatKind.f64.format.leastPlace + (e : Int) - (more : Int)) / 2 - 1 - FloatKind.f64.format.leastPlace).toNat, 0, by omega, .inr rfl⟩
            · exact ⟨0, (-((FloatKind.f64.format.leastPlace + (e : Int) - (more : Int)) / 2 - 1 - FloatKind.f64.format.leastPlace)).toNat, by omega, .inl rfl⟩
          refine nrung_le hk ?_
          rw [a2, ← Nat.pow_add]
          refine Nat.le_trans (Nat.mul_le_mul_right _ hmag) ?_
          rw [← Nat.pow_add]
          exact Nat.pow_le_pow_right (by decide) (by omega)
        have hlt : nrung FloatKind.f64.format (2 * whole + st) ((FloatKind.f64.format.leastPlace + (e : Int) - (more : Int)) / 2 - 1) < FloatKind.f64.format.infRung := Nat.lt_of_le_of_lt hb (by decide)
        rw [hr, nearest_eq]
        exact narrow_some (word_isNum _ hlt) (by rw [fv_word_abs _ hlt]; exact rv_le hb)
  · have hw := wid_inf h
    cases s with
    | false =>
      have hr : fsqrt (wid x) = inf64 := by
        unfold fsqrt
        have : FloatKind.f64.format.sqrt (wid x) = some inf64 := by
          unfold Format.sqrt
          rw [hw]
          decide +kernel
        rw [this]
        rfl
      rw [hr]
      exact ⟨2139095040, by decide +kernel⟩
    | true =>
      have hr : fsqrt (wid x) = nanOf .f64 := by
        unfold fsqrt
        have : FloatKind.f64.format.sqrt (wid x) = none := by
          unfold Format.sqrt
          rw [hw]
          rfl
        rw [this]
        rfl
      rw [hr]
      exact ⟨_, narrow_nan (isN_nanOf .f64)⟩
  · have hr : fsqrt (wid x) = nanOf .f64 := by
      rw [wid_nan h]
      decide +kernel
    rw [hr]
    exact ⟨_, narrow_nan (isN_nanOf .f64)⟩

theorem root_narrow (x : Nat) : fconv .f64 .f32 (fsqrt (wid x)) = some (rootF x) := by
  obtain ⟨r, hr⟩ := root_some x
  unfold rootF
  rw [hr]
  rfl

end Go.Sm

/- Plain functions over the floats' laws. -/
namespace Go.Sm
open Go

def andNotI (q : IntKind) (a b : Int) : Int := q.wrap (((BitVec.ofInt q.bits a &&& ~~~(BitVec.ofInt q.bits b)).toNat : Nat) : Int)
def infOf (n : Int) : Nat := bif decide (n ≥ 0) then 9218868437227405312 else 18442240474082181120
/-- The absolute value, by the bits. -/
def fabs (c : Nat) : Nat := cn .f64 (Int.toNat (andNotI .u64 (c : Int) 9223372036854775808))
def signF (c : Nat) : Bool := decide (IntKind.i64.wrap (c : Int) < 0)

/-! ### Lines -/

/-- The square of a number is not below zero. -/
theorem neg_sq_ok (u : Nat) : expOk (fop .sub .f32 0 (fop .mul .f32 u u)) = true := by
  have z1 : isNum .f32 0 = true := by decide
  have z2 : fv .f32 0 = 0 := by decide
  unfold expOk
  rcases word_kind .f32 u with h | ⟨s, h⟩ | h
  · obtain ⟨q, e, hi, _, _⟩ := fop_mul h h
    rw [Bool.xor_self] at e
    rw [e]
    rcases Nat.lt_or_ge q FloatKind.f32.format.infRung with hq | hq
    · have n1 : isNum .f32 (FloatKind.f32.format.word false q) = true := word_isNum _ hq
      have v1 : fv .f32 (FloatKind.f32.format.word false q) = (rv FloatKind.f32.format q : Int) := by rw [fv_word _ (Nat.lt_trans hq FloatKind.f32.format.infRung_lt)]; rfl
      obtain ⟨a1, _, _, a4, _⟩ := subB (z := q) z1 n1 (by rw [z2, v1]; omega) hq
      rw [fcmp_num_leq a1 z1, z2, decide_eq_true (a4 (by rw [z2, v1]; omega)), Bool.or_true]
    · have : q = FloatKind.f32.format.infRung := Nat.le_antisymm hi hq
      subst this
      decide +kernel
  · have e : fop .mul .f32 u u = 2139095040 := by
      have h2 : floatBits .mul .f32 u u = some 2139095040 := by
        show FloatKind.f32.format.mul u u = _
        unfold Ieee.Format.mul
        rw [h]
        cases s <;> decide +kernel
      exact fop_some h2
    rw [e]
    decide +kernel
  · rw [fop_nan_l h, fop_nan_r (isN_nanOf .f32), isN_nanOf]
    rfl

def lineU (l : LineV) (x : Nat) : Nat := fop .quo .f32 (fop .sub .f32 x l.p) l.w
def bellV (l : LineV) (x : Nat) : Nat := fop .mul .f32 l.h (expF (fop .sub .f32 0 (fop .mul .f32 (lineU l x) (lineU l x))))
def hillV (l : LineV) (x : Nat) : Nat := fop .quo .f32 l.h (fop .add .f32 1065353216 (fop .mul .f32 (lineU l x) (lineU l x)))
/-- How high a line is at a place. -/
def lineV (l : LineV) (x : Nat) : Nat :=
  bif l.k == 0 then bellV l x else bif l.k == 1 then hillV l x else bif l.k == 2 then fop .mul .f32 1056964608 (fop .add .f32 (bellV l x) (hillV l x))
  else bif fcmp .gtr .f32 (mag (lineU l x)) 1065353216 then 0 else fop .mul .f32 l.h (fop .sub .f32 1065353216 (mag (lineU l x)))
def lineOk (l : LineV) (x : Nat) : Bool := okLine l && (fin x && fin (lineV l x))

/-! ### Noise -/
def slice (xs : List Nat) (a b : Int) : List Nat := (xs.drop a.toNat).take (b.toNat - a.toNat)
def noiseX (xs : List Nat) (a b : Int) : Nat := fop .quo .f32 (sumF (slice xs a b)) (rootF (sumF (slice xs a b)))
def noiseOk (xs : List Nat) (a b : Int) : Bool :=
  bins xs 1 && (xs.all atLeast0 && (decide (0 ≤ a ∧ a < b ∧ b ≤ (xs.length : Int)) && (above (sumF (slice xs a b)) && fin (noiseX xs a b))))

def notNeg (c : Nat) : Bool := !fcmp .lss .f32 c 0
theorem rot_all : ∀ {xs : List Nat}, xs.all fin = true → xs.all atLeast0 = xs.all notNeg
  | [], _ => rfl
  | x :: xs, h => by
    rw [List.all_cons, Bool.and_eq_true] at h
    rw [List.all_cons, List.all_cons, rot_all h.2]
    congr 1
    have := notRot_eq x
    unfold notRot at this
    unfold notNeg
    rw [h.1] at this
    cases hl : fcmp .lss .f32 x 0 <;> rw [hl] at this <;> simpa using this.symm

theorem inf_noise {x : Nat} (h : fcmp .gtr .f32 x 0 = true) (hf : fin x = false) : fin (fop .quo .f32 x (rootF x)) = false := by
  rw [fin_isNum] at hf
  rcases word_kind .f32 x with h1 | ⟨s, h1⟩ | h1
  · rw [h1] at hf; cases hf
  · have hx : ∀ y, FloatKind.f32.format.read y = .infinity s → fop .quo .f32 x y = nanOf .f32 := by
      intro y hy
      have h2 : floatBits .quo .f32 x y = none := by
        show FloatKind.f32.format.div x y = none
        unfold Ieee.Format.div
        rw [h1, hy]
        rfl
      unfold fop
      rw [h2]
      rfl
    cases s with
    | true =>
      exfalso
      unfold fcmp Ieee.Format.order at h
      rw [h1] at h
      cases h
    | false =>
      have hr : FloatKind.f32.format.read (rootF x) = .infinity false := by
        have hw := wid_inf h1
        have : fsqrt (wid x) = inf64 := by
          unfold fsqrt
          have : FloatKind.f64.format.sqrt (wid x) = some inf64 := by
            unfold Ieee.Format.sqrt
            rw [hw]
            decide +kernel
          rw [this]
          rfl
        unfold rootF
        rw [this]
        decide +kernel
      rw [hx _ hr]
      decide +kernel
  · rw [fop_nan_l h1]
    decide +kernel

end Go.Sm

/- More plain functions: growth, slits. -/
namespace Go.Sm
open Go

/-- What is not below zero and not too great stays so when it is narrowed. -/
theorem narrow_sign {c : Nat} (h : isNum .f64 c = true) (h0 : 0 ≤ fv .f64 c) (hb : (fv .f64 c).natAbs ≤ rv FloatKind.f64.format 5179139571476070400) :
    ∃ s q, fconv .f64 .f32 c = some (FloatKind.f32.format.word s q) ∧ q < FloatKind.f32.format.infRung ∧ (s = true → q = 0) := by
  obtain ⟨m, e, h1, h2⟩ := isNum_spell h
  have hn : isN .f64 c = false := by
    show (FloatKind.f64.format.read c).isNaN = false
    rw [h1]
    rfl
  have hk : ((e : Nat) : Int) - ((925 : Nat) : Int) = FloatKind.f64.format.leastPlace + (e : Int) - FloatKind.f32.format.leastPlace := by
    have a1 := lp_eq .f64
    have a2 := lp_eq .f32
    have a3 : lp .f64 = 1074 := by decide
    have a4 : lp .f32 = 149 := by decide
    omega
  have hr : nrung FloatKind.f32.format m (FloatKind.f64.format.leastPlace + (e : Int)) ≤ 2130706432 := by
    refine nrung_le (k1 := e) (k2 := 925) hk ?_
    have e1 : rv FloatKind.f32.format 2130706432 * 2 ^ 925 = rv FloatKind.f64.format 5179139571476070400 := by decide +kernel
    rw [e1, ← h2]
    exact hb
  have hlt : nrung FloatKind.f32.format m (FloatKind.f64.format.leastPlace + (e : Int)) < FloatKind.f32.format.infRung := Nat.lt_of_le_of_lt hr (by decide)
  refine ⟨sgn .f64 c, nrung FloatKind.f32.format m (FloatKind.f64.format.leastPlace + (e : Int)), ?_, hlt, fun hs => ?_⟩
  · have hnum : isNum .f32 (FloatKind.f32.format.nearest (sgn .f64 c) m (FloatKind.f64.format.leastPlace + (e : Int))) = true := by
      rw [nearest_eq]
      exact word_isNum _ hlt
    unfold fconv
    rw [hn]
    show floatToFloatBits .f64 c .f32 = _
    unfold floatToFloatBits
    rw [if_neg (by decide)]
    have hd : FloatKind.f64.decode c = .number (sgn .f64 c) m (FloatKind.f64.format.leastPlace + (e : Int)) := h1
    rw [hd]
    have hinf : (FloatKind.f32.decode (FloatKind.f32.encode (.number (sgn .f64 c) m (FloatKind.f64.format.leastPlace + (e : Int))))).isInfinity = false := by
      obtain ⟨m', e', h3, _⟩ := isNum_read hnum
      show (FloatKind.f32.format.read (FloatKind.f32.format.nearest (sgn .f64 c) m (FloatKind.f64.format.leastPlace + (e : Int)))).isInfinity = false
      rw [h3]
      rfl
    simp only [hinf, Bool.false_eq_true, if_false]
    rw [← nearest_eq]
    rfl
  · have hz : fv .f64 c ≤ 0 := by
      unfold fv
      rw [hs]
      simp only [if_true]
      omega
    have hm : m * 2 ^ e = 0 := by rw [← h2]; omega
    refine Nat.le_zero.1 (nrung_le (k1 := e) (k2 := 925) hk ?_)
    rw [hm]
    exact Nat.zero_le _

/-- A NaN, or a number not below zero. -/
def up0 (w : Nat) : Prop := isN .f32 w = true ∨ (isNum .f32 w = true ∧ 0 ≤ fv .f32 w)

theorem word_up {s : Bool} {q : Nat} (hq : q < FloatKind.f32.format.infRung) (hs : s = true → q = 0) : isNum .f32 (FloatKind.f32.format.word s q) = true ∧ fv .f32 (FloatKind.f32.format.word s q) = (rv FloatKind.f32.format q : Int) := by
  refine ⟨word_isNum _ hq, ?_⟩
  rw [fv_word _ (Nat.lt_trans hq FloatKind.f32.format.infRung_lt)]
  cases s with
  | false => rfl
  | true =>
    rw [hs rfl, rv_zero]
    rfl

theorem exp_up {z : Nat} (h : expOk z = true) : up0 (expF z) := by
  rcases word_kind .f32 z with h1 | ⟨s, h1⟩ | h1
  · obtain ⟨w1, w2, _⟩ := wid_num h1
    have hz : fv .f32 z ≤ 0 := by
      have z1 : isNum .f32 0 = true := by decide
      have z2 : fv .f32 0 = 0 := by decide
      unfold expOk at h
      rw [Bool.or_eq_true] at h
      rcases h with h | h
      · exfalso
        obtain ⟨m, e, h3, _⟩ := isNum_read h1
        have : (FloatKind.f32.format.read z).isNaN = true := h
        rw [h3] at this
        cases this
      · rw [fcmp_num_leq h1 z1, z2] at h
        exact of_decide_eq_true h
    obtain ⟨e1, e2, e3⟩ := expI_in w1 (w2 hz)
    obtain ⟨s, q, a1, a2, a3⟩ := narrow_sign e1 e2 (by
      have : U ≤ rv FloatKind.f64.format 5179139571476070400 := by decide +kernel
      omega)
    have he : expF z = FloatKind.f32.format.word s q := by
      unfold expF
      rw [a1]
      rfl
    obtain ⟨b1, b2⟩ := word_up a2 a3
    rw [he]
    exact .inr ⟨b1, by rw [b2]; omega⟩
  · have hw := wid_inf h1
    have hs : s = true := by
      cases s with
      | true => rfl
      | false =>
        exfalso
        unfold expOk at h
        have a1 : isN .f32 z = false := by
          show (FloatKind.f32.format.read z).isNaN = false
          rw [h1]
          rfl
        have a2 : fcmp .leq .f32 z 0 = false := by
          unfold fcmp Ieee.Format.order
          rw [h1]
          rfl
        rw [a1, a2] at h
        cases h
    subst hs
    have b1 : fcmp .gtr .f64 (wid z) 4641240890982006784 = false := by
      unfold fcmp Ieee.Format.order
      rw [hw]
      rfl
    have b2 : fcmp .lss .f64 (wid z) 13864612927836782592 = true := by
      unfold fcmp Ieee.Format.order
      rw [hw]
      rfl
    unfold expF expI
    rw [b1, b2]
    simp only [cond_false, cond_true]
    exact .inr (by decide +kernel)
  · refine .inl ?_
    have hi : isN .f64 (expI (wid z)) = true := by
      rw [wid_nan h1]
      exact expI_nan (isN_nanOf .f64)
    unfold expF
    rw [narrow_nan hi]
    exact isN_nanOf .f32

theorem mul_up {a b : Nat} (ha : up0 a) (hb : up0 b) : expOk (fop .sub .f32 0 (fop .mul .f32 a b)) = true := by
  have hnan : fop .mul .f32 a b = nanOf .f32 → expOk (fop .sub .f32 0 (fop .mul .f32 a b)) = true := by
    intro e
    rw [e, fop_nan_r (isN_nanOf .f32)]
    unfold expOk
    rw [isN_nanOf]
    rfl
  rcases ha with ha | ⟨ha, ha0⟩
  · exact hnan (fop_nan_l ha)
  · rcases hb with hb | ⟨hb, hb0⟩
    · exact hnan (fop_nan_r hb)
    · obtain ⟨q, e, hi, hle, _⟩ := fop_mul ha hb
      have hs : (sgn .f32 a ^^ sgn .f32 b) = true → q = 0 := by
        intro hx
        have h0 : fv .f32 a = 0 ∨ fv .f32 b = 0 := by
          cases h1 : sgn .f32 a with
          | true =>
            left
            unfold fv at ha0 ⊢
            rw [h1] at ha0 ⊢
            simp only [if_true] at ha0 ⊢
            omega
          | false =>
            right
            rw [h1] at hx
            have h2 : sgn .f32 b = true := by simpa using hx
            unfold fv at hb0 ⊢
            rw [h2] at hb0 ⊢
            simp only [if_true] at hb0 ⊢
            omega
        refine Nat.le_zero.1 (hle 0 ?_)
        rcases h0 with h0 | h0 <;> rw [h0] <;> simp
      have z1 : isNum .f32 0 = true := by decide
      have z2 : fv .f32 0 = 0 := by decide
      rcases Nat.lt_or_ge q FloatKind.f32.format.infRung with hq | hq
      · obtain ⟨n1, v1⟩ := word_up hq hs
        rw [e]
        obtain ⟨a1, _, _, a4, _⟩ := subB (z := q) z1 n1 (by rw [z2, v1]; omega) hq
        unfold expOk
        rw [fcmp_num_leq a1 z1, z2, decide_eq_true (a4 (by rw [z2, v1]; omega)), Bool.or_true]
      · have hq2 : q = FloatKind.f32.format.infRung := Nat.le_antisymm hi hq
        subst hq2
        have hs2 : (sgn .f32 a ^^ sgn .f32 b) = false := by
          cases hx : (sgn .f32 a ^^ sgn .f32 b) with
          | false => rfl
          | true => exact absurd (hs hx) (by decide)
        rw [e, hs2]
        decide +kernel

theorem at0_up {c : Nat} (h : atLeast0 c = true) : up0 c := by
  unfold atLeast0 at h
  rw [Bool.and_eq_true, fin_isNum] at h
  have z1 : isNum .f32 0 = true := by decide
  have z2 : fv .f32 0 = 0 := by decide
  refine .inr ⟨h.1, ?_⟩
  have h2 := h.2
  rw [fcmp_num_geq h.1 z1, z2] at h2
  exact of_decide_eq_true h2

/-! ### Growth -/
def growX (h w : Nat) (j : Nat) : Nat := fop .quo .f32 (fop .sub .f32 (fop .mul .f32 h (fop .add .f32 (fint .f32 (j : Int)) 1056964608)) 1082130432) w
def growE (h w : Nat) (j : Nat) : Nat := expF (fop .sub .f32 0 (fop .mul .f32 (growX h w j) (growX h w j)))
def growF (d w h : Nat) (j a : Nat) : Nat := fop .add .f32 a (fop .mul .f32 (fop .sub .f32 1065353216 (expF (fop .sub .f32 0 (fop .mul .f32 d (growE h w j))))) h)
def growH (n : Int) : Nat := fop .quo .f32 1090519040 (fint .f32 n)
def growSum (d w : Nat) (n : Int) : Nat := rep (growF d w (growH n)) n.toNat 0 0
def growOk (d w : Nat) (n : Int) : Bool := atLeast0 d && (above w && (within n 2 64 && fin (growSum d w n)))
theorem grow_ok {d : Nat} (h : atLeast0 d = true) (hh w j : Nat) : expOk (fop .sub .f32 0 (fop .mul .f32 d (growE hh w j))) = true :=
  mul_up (at0_up h) (exp_up (neg_sq_ok _))

/-! ### Slits -/
def sineF (x : Nat) : Nat := (fconv .f64 .f32 (sineW (wid x))).getD 0
theorem sineF_narrow (x : Nat) : fconv .f64 .f32 (sineW (wid x)) = some (sineF x) := by
  obtain ⟨r, h⟩ := sineW_narrow (wid x)
  unfold sineF
  rw [h]
  rfl

theorem andNot_abs (c : Nat) : Int.toNat (andNotI .u64 (c : Int) 9223372036854775808) = c % 2 ^ 63 := by
  have e1 : (~~~(BitVec.ofInt 64 9223372036854775808) : BitVec 64) = 9223372036854775807#64 := by decide
  have e2 : (BitVec.ofInt IntKind.u64.bits (c : Int) &&& ~~~(BitVec.ofInt IntKind.u64.bits 9223372036854775808)).toNat = c % 2 ^ 63 := by
    show (BitVec.ofInt 64 (c : Int) &&& ~~~(BitVec.ofInt 64 9223372036854775808)).toNat = c % 2 ^ 63
    rw [e1, BitVec.toNat_and, BitVec.ofInt_natCast, BitVec.toNat_ofNat]
    show c % 2 ^ 64 &&& (2 ^ 63 - 1) = c % 2 ^ 63
    rw [Nat.and_two_pow_sub_one_eq_mod]
    omega
  unfold andNotI
  rw [e2]
  have h : c % 2 ^ 63 < 2 ^ 63 := Nat.mod_lt _ (by decide)
  show Int.toNat (((c % 2 ^ 63 : Nat) : Int) % 18446744073709551616) = c % 2 ^ 63
  omega

theorem fabs_num {c : Nat} (h : isNum .f64 c = true) : isNum .f64 (fabs c) = true ∧ fv .f64 (fabs c) = ((fv .f64 c).natAbs : Int) := by
  have hs : FloatKind.f64.format.signWeight = 2 ^ 63 := by decide
  have hlt := isNum_lt h
  rw [hs] at hlt
  have hm : c % 2 ^ 63 < 2 ^ 63 := Nat.mod_lt _ (by decide)
  have hmm : c % 2 ^ 63 % FloatKind.f64.format.signWeight = c % 2 ^ 63 := by rw [hs]; exact Nat.mod_eq_of_lt hm
  have hn : isNum .f64 (c % 2 ^ 63) = true := isNum_of_lt (by rw [hmm]; exact hlt)
  have hN : isN .f64 (c % 2 ^ 63) = false := by
    obtain ⟨m, e, h3, _⟩ := isNum_read hn
    show (FloatKind.f64.format.read (c % 2 ^ 63)).isNaN = false
    rw [h3]
    rfl
  have hsg : sgn .f64 (c % 2 ^ 63) = false := by
    unfold sgn
    rw [hs]
    have : c % 2 ^ 63 / 2 ^ 63 = 0 := Nat.div_eq_of_lt hm
    rw [this]
    rfl
  have he : fabs c = c % 2 ^ 63 := by
    unfold fabs
    rw [andNot_abs]
    exact cn_num hN
  rw [he]
  refine ⟨hn, ?_⟩
  unfold fv
  rw [hsg, hmm, hs]
  cases sgn .f64 c <;> simp

theorem huge_abs {y : Nat} (h : isNum .f64 y = true) : fcmp .geq .f64 (fabs y) big52 = huge y := by
  obtain ⟨h1, h2⟩ := fabs_num h
  rw [huge_num h, fcmp_num_geq h1 big52_num.1, big52_num.2, h2]
  rw [Bool.eq_iff_iff, decide_eq_true_eq, decide_eq_true_eq]
  omega

theorem isNum_notN {k : FloatKind} {y : Nat} (h : isNum k y = true) : isN k y = false := by
  obtain ⟨m, e, h3, _⟩ := isNum_read h
  show (k.format.read y).isNaN = false
  rw [h3]
  rfl

theorem wid_isNum (x : Nat) : isNum .f64 (wid x) = fin x := by
  rw [fin_isNum]
  rcases word_kind .f32 x with h | ⟨s, h⟩ | h
  · rw [h, (wid_num h).1]
  · have h2 := wid_inf h
    unfold isNum
    rw [h2, h]
  · rw [wid_nan h]
    have : isNum .f32 x = false := by rw [← fin_isNum]; exact isN_fin h
    rw [this]
    decide +kernel

theorem sine_inf {x : Nat} (h : fin x = false) : sineF x = nanOf .f32 := by
  unfold sineF sineW
  rw [sub_self_fin, wid_isNum, h]
  rfl
theorem sine_huge {x : Nat} (h : fin x = true) (hh : huge (wid x) = true) : sineF x = 0 := by
  unfold sineF sineW
  rw [sub_self_fin, wid_isNum, h, hh]
  simp only [Bool.not_true, cond_false, cond_true]
  decide +kernel
theorem sine_part {x : Nat} (h : fin x = true) (hh : huge (wid x) = false) : fconv .f64 .f32 (sinCore (part (wid x))) = some (sineF x) := by
  rw [← sineF_narrow]
  unfold sineW
  rw [sub_self_fin, wid_isNum, h, hh]
  rfl

def slitS (t : Nat) : Nat := sineF (fop .mul .f32 1056964608 t)
def slitQ (t : Nat) (n : Int) : Nat := fop .quo .f32 (sineF (fop .mul .f32 (fop .mul .f32 1056964608 t) (fint .f32 n))) (fop .mul .f32 (fint .f32 n) (slitS t))
def slitX (t : Nat) (n : Int) : Nat := bif fcmp .eql .f32 (slitS t) 0 then 1065353216 else fop .mul .f32 (slitQ t n) (slitQ t n)
def slitOk (t : Nat) (n : Int) : Bool := fin t && (within n 1 64 && (fcmp .eql .f32 (slitS t) 0 || fin (fop .mul .f32 (slitQ t n) (slitQ t n))))

end Go.Sm

