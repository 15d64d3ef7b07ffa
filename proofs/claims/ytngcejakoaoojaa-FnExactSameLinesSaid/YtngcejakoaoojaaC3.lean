/- Rounds with a state, by a counter; what they come to. -/
import Derived.Test.YtngcejakoaoojaaC2
import Derived.Test.YtngcejakoaoojaaF3
namespace Go.Sm
open Go

section
variable {T : TT} {A : Ann} {L : Loops} {nt : Nat}

theorem loops_of {fn : Func} {n : Nat} (h : nLoops fn = n) (hl : ∀ i, i < n → LOK T A L nt (loopAt fn i)) : LoopsOk T A L nt (bodyOf fn) := loops_all fun b hb => by
  obtain ⟨i, hi⟩ := List.getElem?_of_mem hb
  have hlt : i < (loopBodies (bodyOf fn)).length := by
    rcases Nat.lt_or_ge i (loopBodies (bodyOf fn)).length with h' | h'
    · exact h'
    · rw [List.getElem?_eq_none h'] at hi; cases hi
  have := hl i (by unfold nLoops at h; omega)
  unfold loopAt at this
  rw [List.getD_eq_getElem?_getD, hi] at this
  exact this

theorem loops3 {fn : Func} (h : nLoops fn = 3) (h0 : LOK T A L nt (loopAt fn 0)) (h1 : LOK T A L nt (loopAt fn 1)) (h2 : LOK T A L nt (loopAt fn 2)) : LoopsOk T A L nt (bodyOf fn) := loops_of h fun i hi => by
  match i, hi with
  | 0, _ => exact h0
  | 1, _ => exact h1
  | 2, _ => exact h2
theorem loops4 {fn : Func} (h : nLoops fn = 4) (h0 : LOK T A L nt (loopAt fn 0)) (h1 : LOK T A L nt (loopAt fn 1)) (h2 : LOK T A L nt (loopAt fn 2)) (h3 : LOK T A L nt (loopAt fn 3)) : LoopsOk T A L nt (bodyOf fn) := loops_of h fun i hi => by
  match i, hi with
  | 0, _ => exact h0
  | 1, _ => exact h1
  | 2, _ => exact h2
  | 3, _ => exact h3
theorem loops5 {fn : Func} (h : nLoops fn = 5) (h0 : LOK T A L nt (loopAt fn 0)) (h1 : LOK T A L nt (loopAt fn 1)) (h2 : LOK T A L nt (loopAt fn 2)) (h3 : LOK T A L nt (loopAt fn 3)) (h4 : LOK T A L nt (loopAt fn 4)) : LoopsOk T A L nt (bodyOf fn) := loops_of h fun i hi => by
  match i, hi with
  | 0, _ => exact h0
  | 1, _ => exact h1
  | 2, _ => exact h2
  | 3, _ => exact h3
  | 4, _ => exact h4
end

/-- 'm' rounds from 'j' on, a state carried. -/
def rep {σ : Type} (f : Nat → σ → σ) : Nat → Nat → σ → σ
  | 0, _, s => s
  | m + 1, j, s => rep f m (j + 1) (f j s)

/-- The same; 'none': broken off. -/
def repE {σ : Type} (f : Nat → σ → Option σ) : Nat → Nat → σ → Option σ
  | 0, _, s => some s
  | m + 1, j, s => match f j s with
    | some t => repE f m (j + 1) t
    | none => none

theorem rep_succ {σ : Type} (f : Nat → σ → σ) (m j : Nat) (s : σ) : rep f (m + 1) j s = rep f m (j + 1) (f j s) := rfl
theorem repE_succ {σ : Type} (f : Nat → σ → Option σ) (m j : Nat) (s : σ) : repE f (m + 1) j s = match f j s with
    | some t => repE f m (j + 1) t
    | none => none := rfl

theorem rep_congr {σ : Type} {f g : Nat → σ → σ} {lo hi : Nat} (h : ∀ j s, lo ≤ j → j < hi → f j s = g j s) : ∀ (m j : Nat) (s : σ), lo ≤ j → j + m ≤ hi → rep f m j s = rep g m j s
  | 0, _, _, _, _ => rfl
  | m + 1, j, s, h1, h2 => by
    unfold rep
    rw [h j s h1 (by omega), rep_congr h m (j + 1) _ (by omega) (by omega)]

theorem repE_congr {σ : Type} {f g : Nat → σ → Option σ} {lo hi : Nat} (h : ∀ j s, lo ≤ j → j < hi → f j s = g j s) : ∀ (m j : Nat) (s : σ), lo ≤ j → j + m ≤ hi → repE f m j s = repE g m j s
  | 0, _, _, _, _ => rfl
  | m + 1, j, s, h1, h2 => by
    unfold repE
    rw [h j s h1 (by omega)]
    cases g j s with
    | none => rfl
    | some t => exact repE_congr h m (j + 1) t (by omega) (by omega)

/-- The numbers from 'j' on. -/
def fromTo (j m : Nat) : List Nat := List.range' j m

theorem fromTo_succ (j m : Nat) : fromTo j (m + 1) = j :: fromTo (j + 1) m := rfl
theorem fromTo_len (j m : Nat) : (fromTo j m).length = m := List.length_range'
theorem fromTo_mem {j m x : Nat} (h : x ∈ fromTo j m) : j ≤ x ∧ x < j + m := by
  unfold fromTo at h
  rw [List.mem_range'] at h
  omega

theorem rep_map {α : Type} (g : Nat → α) : ∀ (m j : Nat) (zs : List α), rep (fun j zs => zs ++ [g j]) m j zs = zs ++ (fromTo j m).map g
  | 0, _, zs => by simp [rep, fromTo]
  | m + 1, j, zs => by
    unfold rep
    rw [rep_map g m, fromTo_succ]
    simp

theorem rep_filter {α : Type} (p : Nat → Bool) (g : Nat → α) : ∀ (m j : Nat) (zs : List α), rep (fun j zs => bif p j then zs ++ [g j] else zs) m j zs = zs ++ ((fromTo j m).filter p).map g
  | 0, _, zs => by simp [rep, fromTo]
  | m + 1, j, zs => by
    unfold rep
    rw [rep_filter p g m, fromTo_succ, List.filter_cons]
    cases p j <;> simp

theorem repE_map {α : Type} (p : α → Bool) (g : Nat → α) : ∀ (m j : Nat) (zs : List α), repE (fun j zs => bif p (g j) then some (zs ++ [g j]) else none) m j zs = bif ((fromTo j m).map g).all p then some (zs ++ (fromTo j m).map g) else none
  | 0, _, zs => by simp [repE, fromTo]
  | m + 1, j, zs => by
    unfold repE
    rw [fromTo_succ, List.map_cons, List.all_cons]
    cases h : p (g j) with
    | false => simp
    | true =>
      simp only [cond_true]
      rw [repE_map p g m]
      simp

theorem rep_list {α σ : Type} (d : α) (f : σ → α → σ) (xs : List α) : ∀ (m j : Nat) (s : σ), j + m = xs.length → rep (fun j s => f s (xs.getD j d)) m j s = (xs.drop j).foldl f s
  | 0, j, s, h => by rw [List.drop_of_length_le (by omega)]; rfl
  | m + 1, j, s, h => by
    have hlt : j < xs.length := by omega
    unfold rep
    rw [rep_list d f xs m (j + 1) _ (by omega), List.drop_eq_getElem_cons hlt, List.foldl_cons]
    have e : xs.getD j d = xs[j] := by simp [List.getD, hlt]
    rw [e]

theorem getI {α : Type} {d : α} {n : Nat} {xs : List α} (h : n < xs.length) : xs[Int.toNat (n : Int)]? = some (xs.getD n d) := by simp [List.getD, h]
theorem getI2 {α : Type} {d : α} {n : Nat} {xs : List α} (h : n < xs.length) : xs[n]? = some (xs.getD n d) := by simp [List.getD, h]
theorem big_le {n : Nat} (h : Nat.ble n big = true) : n ≤ 1099511627776 := Nat.le_of_ble_eq_true h
theorem big_of {n : Nat} (h : n ≤ 1099511627776) : Nat.ble n big = true := Nat.ble_eq_true_of_le h
theorem wrapN {n : Int} {m : Nat} (h : n = (m : Int)) (hm : m ≤ 2199023255552) : IntKind.i64.wrap n = (m : Int) := by
  subst h
  exact wrap64 (by omega) (by omega)

/-! ### Lists of numbers, as the program asks for them -/
def sumF (xs : List Nat) : Nat := xs.foldl (fop .add .f32) 0
def meanF (xs : List Nat) : Nat := fop .quo .f32 (sumF xs) (fint .f32 (xs.length : Int))
def bins (xs : List Nat) (n : Int) : Bool := decide ((xs.length : Int) ≥ n) && (decide (xs.length ≤ 64) && xs.all fin)
def listOk (xs : List Nat) (n : Int) : Bool := decide ((xs.length : Int) ≥ n) && (decide (xs.length ≤ 128) && xs.all fin)
def lamps (xs ys : List Nat) (n : Int) : Bool := decide ((xs.length : Int) ≥ n) && (decide (xs.length ≤ 16) && (decide (ys.length = xs.length) && (xs.all fin && ys.all fin)))
def notRot (c : Nat) : Bool := !fin c || fcmp .lss .f32 c 0

theorem notRot_eq (c : Nat) : notRot c = !atLeast0 c := by
  unfold notRot atLeast0
  cases h : fin c with
  | false => rfl
  | true =>
    have hn := fin_notNaN h
    simp only [Bool.not_true, Bool.false_or, Bool.true_and]
    unfold fcmp
    cases ho : FloatKind.f32.format.order c 0 with
    | none => rcases order_none ho with h1 | h1
              · rw [hn] at h1; cases h1
              · exact absurd h1 (by decide)
    | some o => cases o <;> rfl
theorem notRot_fun : notRot = fun c => !atLeast0 c := funext notRot_eq

/-- How a list bends at an index. -/
def bendAt (xs : List Nat) (j : Nat) : Nat := fop .sub .f32 (fop .sub .f32 (fop .mul .f32 1073741824 (xs.getD j 0)) (xs.getD (j - 1) 0)) (xs.getD (j + 1) 0)
def bends (xs : List Nat) : List Nat := (fromTo 1 (xs.length - 2)).map (bendAt xs)
def bendOk (xs : List Nat) : Bool := listOk xs 3 && (bends xs).all fin
theorem bends_len (xs : List Nat) : (bends xs).length = xs.length - 2 := by simp [bends, fromTo_len]

/-- Zeros behind a list, up to so many. -/
def padX (xs : List Nat) (n : Int) : List Nat := xs ++ List.replicate (n.toNat - xs.length) 0
def padOk (xs : List Nat) (n : Int) : Bool := bins xs 2 && within n (xs.length : Int) 64
theorem padX_len {xs : List Nat} {n : Int} (h : padOk xs n = true) : (padX xs n).length ≤ 1048576 := by
  unfold padOk within at h
  simp only [Bool.and_eq_true, decide_eq_true_eq] at h
  simp [padX]
  omega

/-- A line through lamps. -/
def lampF (xs ys : List Nat) (x y : Nat) : Nat → Nat × Nat → Nat × Nat := fun j s =>
  (fop .add .f32 s.1 (fop .mul .f32 (fop .sub .f32 (xs.getD j 0) x) (fop .sub .f32 (ys.getD j 0) y)), fop .add .f32 s.2 (fop .mul .f32 (fop .sub .f32 (xs.getD j 0) x) (fop .sub .f32 (xs.getD j 0) x)))
def lampS (xs ys : List Nat) : Nat × Nat := rep (lampF xs ys (meanF xs) (meanF ys)) xs.length 0 (0, 0)
def lampSlope (xs ys : List Nat) : Nat := fop .quo .f32 (lampS xs ys).1 (lampS xs ys).2
def lampBase (xs ys : List Nat) : Nat := fop .sub .f32 (meanF ys) (fop .mul .f32 (lampSlope xs ys) (meanF xs))
def lampOk (xs ys : List Nat) : Bool := lamps xs ys 2 && (!fcmp .eql .f32 (lampS xs ys).2 0 && (fin (lampBase xs ys) && fin (lampSlope xs ys)))

/-- The first place from 'i' on, upwards or downwards, where it is not above 'h'. -/
def runUp (xs : List Nat) (h : Nat) (i : Int) : Int := i + (((xs.drop i.toNat).takeWhile fun x => fcmp .gtr .f32 x h).length : Int)
def runDown (xs : List Nat) (h : Nat) (i : Int) : Int := i - ((((xs.take (i + 1).toNat).reverse).takeWhile fun x => fcmp .gtr .f32 x h).length : Int)

theorem runUp_step {xs : List Nat} (h : Nat) {j : Nat} (hj : j < xs.length) : runUp xs h (j : Int) = bif fcmp .gtr .f32 (xs.getD j 0) h then runUp xs h ((j + 1 : Nat) : Int) else (j : Int) := by
  have e : xs.getD j 0 = xs[j] := by simp [List.getD, hj]
  unfold runUp
  rw [Int.toNat_natCast, Int.toNat_natCast, List.drop_eq_getElem_cons hj, List.takeWhile_cons, e]
  cases fcmp .gtr .f32 xs[j] h with
  | true => simp; omega
  | false => simp

theorem runDown_zero (xs : List Nat) (h : Nat) : runDown xs h (((0 : Nat) : Int) - 1) = ((0 : Nat) : Int) - 1 := by
  unfold runDown
  have e : (((0 : Nat) : Int) - 1 + 1).toNat = 0 := by omega
  rw [e]
  simp

theorem runDown_step {xs : List Nat} (h : Nat) {j : Nat} (hj : j < xs.length) : runDown xs h (j : Int) = bif fcmp .gtr .f32 (xs.getD j 0) h then runDown xs h ((j : Int) - 1) else (j : Int) := by
  have e : xs.getD j 0 = xs[j] := by simp [List.getD, hj]
  unfold runDown
  have e1 : ((j : Int) + 1).toNat = j + 1 := by omega
  have e2 : ((j : Int) - 1 + 1).toNat = j := by omega
  rw [e1, e2, List.take_succ_eq_append_getElem hj, List.reverse_append, e]
  simp only [List.reverse_singleton, List.singleton_append, List.takeWhile_cons]
  cases fcmp .gtr .f32 xs[j] h with
  | true => simp; omega
  | false => simp

theorem takeWhile_le {α : Type} (p : α → Bool) : ∀ l : List α, (l.takeWhile p).length ≤ l.length
  | [] => Nat.le_refl _
  | a :: l => by
    rw [List.takeWhile_cons]
    cases p a with
    | true => have := takeWhile_le p l; simp; exact this
    | false => simp

theorem runUp_bound {xs : List Nat} {h : Nat} {i : Int} (h0 : 0 ≤ i) (h1 : i ≤ (xs.length : Int)) : i ≤ runUp xs h i ∧ runUp xs h i ≤ (xs.length : Int) := by
  unfold runUp
  have := takeWhile_le (fun x => fcmp .gtr .f32 x h) (xs.drop i.toNat)
  rw [List.length_drop] at this
  omega

theorem runDown_bound {xs : List Nat} {h : Nat} {i : Int} (h0 : -1 ≤ i) (h1 : i < (xs.length : Int)) : -1 ≤ runDown xs h i ∧ runDown xs h i ≤ i := by
  unfold runDown
  have := takeWhile_le (fun x => fcmp .gtr .f32 x h) (xs.take (i + 1).toNat).reverse
  rw [List.length_reverse, List.length_take] at this
  omega

/-- The width of a peak at half its height. -/
def halfX (xs : List Nat) (i : Int) : Nat :=
  let h := fop .mul .f32 1056964608 (xs.getD i.toNat 0)
  let r := runUp xs h (i + 1)
  let l := runDown xs h (i - 1)
  fop .sub .f32 (fop .sub .f32 (fint .f32 r) (fop .quo .f32 (fop .sub .f32 h (xs.getD r.toNat 0)) (fop .sub .f32 (xs.getD (r.toNat - 1) 0) (xs.getD r.toNat 0))))
    (fop .add .f32 (fint .f32 l) (fop .quo .f32 (fop .sub .f32 h (xs.getD l.toNat 0)) (fop .sub .f32 (xs.getD (l.toNat + 1) 0) (xs.getD l.toNat 0))))
def halfOk (xs : List Nat) (i : Int) : Bool :=
  listOk xs 1 && (within i 0 ((xs.length : Int) - 1) && (fcmp .gtr .f32 (xs.getD i.toNat 0) 0 &&
    (!(runUp xs (fop .mul .f32 1056964608 (xs.getD i.toNat 0)) (i + 1) == (xs.length : Int)) && (!decide (runDown xs (fop .mul .f32 1056964608 (xs.getD i.toNat 0)) (i - 1) < 0) && fin (halfX xs i)))))

/-- Marks: what is above its neighbours by more than a bar. -/
def marked (xs : List Nat) (bar : Nat) (j : Nat) : Bool := fcmp .gtr .f32 (fop .sub .f32 (xs.getD j 0) (fmax .f32 (xs.getD (j - 1) 0) (xs.getD (j + 1) 0))) bar
def inner (xs : List Nat) (j : Nat) : Bool := decide (1 ≤ j) && decide (j + 1 < xs.length)
def markedS (xs : List Nat) (bar : Nat) (j : Nat) : Bool := inner xs j && fcmp .gtr .f32 (fop .sub .f32 (xs.getD j 0) (bif fcmp .gtr .f32 (xs.getD (j + 1) 0) (xs.getD (j - 1) 0) then xs.getD (j + 1) 0 else xs.getD (j - 1) 0)) bar
def markOk (xs : List Nat) (bar : Nat) : Bool := bins xs 3 && atLeast0 bar
def marksOf (xs : List Nat) (bar : Nat) : List Int := ((fromTo 1 (xs.length - 2)).filter (marked xs bar)).map fun j : Nat => (j : Int)

theorem all_getD {xs : List Nat} (h : xs.all fin = true) {j : Nat} (hj : j < xs.length) : fin (xs.getD j 0) = true := by
  have e : xs.getD j 0 = xs[j] := by simp [List.getD, hj]
  rw [e]
  exact List.all_eq_true.1 h _ (List.getElem_mem hj)

theorem marked_eq {xs : List Nat} {bar : Nat} (h : markOk xs bar = true) {j : Nat} (hj : inner xs j = true) : marked xs bar j = markedS xs bar j := by
  unfold markOk bins at h
  unfold markedS
  rw [hj]
  unfold inner at hj
  simp only [Bool.and_eq_true, decide_eq_true_eq] at h hj
  rw [Bool.true_and]
  unfold marked
  exact sub_max (all_getD h.1.2.2 (by omega)) (all_getD h.1.2.2 (by omega)) (all_getD h.1.2.2 (by omega)) h.2

theorem fromTo_append (j m n : Nat) : fromTo j (m + n) = fromTo j m ++ fromTo (j + m) n := by
  unfold fromTo
  rw [List.range'_append_1]

theorem marksOf_eq {xs : List Nat} {bar : Nat} (h : markOk xs bar = true) : ((fromTo 0 xs.length).filter (markedS xs bar)).map (fun j : Nat => (j : Int)) = marksOf xs bar := by
  have h3 : 3 ≤ xs.length := by
    unfold markOk bins at h
    simp only [Bool.and_eq_true, decide_eq_true_eq] at h
    omega
  unfold marksOf
  have e1 : fromTo 0 xs.length = 0 :: (fromTo 1 (xs.length - 2) ++ [xs.length - 1]) := by
    rw [show xs.length = (xs.length - 2 + 1) + 1 by omega, fromTo_succ, fromTo_append]
    have : fromTo (0 + 1 + (xs.length - 2)) 1 = [xs.length - 2 + 1 + 1 - 1] := by
      rw [fromTo_succ]
      show [0 + 1 + (xs.length - 2)] = _
      congr 1
      omega
    rw [this]
    rfl
  have m0 : markedS xs bar 0 = false := by simp [markedS, inner]
  have m1 : markedS xs bar (xs.length - 1) = false := by
    have : ¬ (xs.length - 1 + 1 < xs.length) := by omega
    simp [markedS, inner, this]
  rw [e1, List.filter_cons, m0, List.filter_append, List.filter_cons, m1]
  simp only [Bool.false_eq_true, if_false, List.filter_nil, List.append_nil]
  congr 1
  refine List.filter_congr fun j hj => ?_
  have := fromTo_mem hj
  refine (marked_eq h ?_).symm
  unfold inner
  simp only [Bool.and_eq_true, decide_eq_true_eq]
  omega

theorem marksOf_len (xs : List Nat) (bar : Nat) : (marksOf xs bar).length ≤ xs.length := by
  unfold marksOf
  rw [List.length_map]
  refine Nat.le_trans (List.length_filter_le _ _) ?_
  rw [fromTo_len]
  omega

/-- The marks taken out. -/
def midOf (xs : List Nat) (j : Nat) : Nat := fop .mul .f32 1056964608 (fop .add .f32 (xs.getD (j - 1) 0) (xs.getD (j + 1) 0))
def removed (xs : List Nat) (bar : Nat) : List Nat := (fromTo 0 xs.length).map fun j => bif markedS xs bar j then midOf xs j else xs.getD j 0
def removeOk (xs : List Nat) (bar : Nat) : Bool := markOk xs bar && (removed xs bar).all fin
theorem removed_len (xs : List Nat) (bar : Nat) : (removed xs bar).length = xs.length := by simp [removed, fromTo_len]

theorem sets_get {α : Type} (d : α) (g : Nat → α) (is : List Nat) : ∀ (m j : Nat) (zs : List α), j + m = is.length → (∀ i ∈ is, i < zs.length) → ∀ q, q < zs.length →
    (rep (fun j zs => zs.set (is.getD j 0) (g (is.getD j 0))) m j zs).getD q d = bif (is.drop j).contains q then g q else zs.getD q d
  | 0, j, zs, hj, _, q, _ => by rw [List.drop_of_length_le (by omega)]; simp [rep]
  | m + 1, j, zs, hj, hm, q, hq => by
    have hlt : j < is.length := by omega
    have e : is.getD j 0 = is[j] := by simp [List.getD, hlt]
    unfold rep
    rw [sets_get d g is m (j + 1) _ (by omega) (fun i hi => by rw [List.length_set]; exact hm i hi) q (by rw [List.length_set]; exact hq), List.drop_eq_getElem_cons hlt, List.contains_cons, e]
    cases h1 : (is.drop (j + 1)).contains q with
    | true => simp
    | false =>
      simp only [cond_false, Bool.or_false]
      have hs : (zs.set is[j] (g is[j])).getD q d = if is[j] = q then g is[j] else zs.getD q d := by
        simp only [List.getD_eq_getElem?_getD, List.getElem?_set]
        by_cases h2 : is[j] = q
        · have : is[j] < zs.length := hm _ (List.getElem_mem hlt)
          simp [h2, hq]
        · simp [h2]
      rw [hs]
      by_cases h2 : is[j] = q
      · subst h2
        simp
      · have : (q == is[j]) = false := beq_false_of_ne (Ne.symm h2)
        rw [this, if_neg h2]
        rfl

theorem sets_len {α : Type} (g : Nat → α) (is : List Nat) : ∀ (m j : Nat) (zs : List α), (rep (fun j zs => zs.set (is.getD j 0) (g (is.getD j 0))) m j zs).length = zs.length
  | 0, _, _ => rfl
  | m + 1, j, zs => by
    unfold rep
    rw [sets_len g is m, List.length_set]

theorem marksOf_in (xs : List Nat) (bar : Nat) : (marksOf xs bar).all (fun i => decide (1 ≤ i) && decide (i + 1 < (xs.length : Int))) = true := by
  rw [List.all_eq_true]
  intro i hi
  unfold marksOf at hi
  rw [List.mem_map] at hi
  obtain ⟨j, hj, rfl⟩ := hi
  have := fromTo_mem (List.mem_filter.1 hj).1
  rw [Bool.and_eq_true, decide_eq_true_eq, decide_eq_true_eq]
  omega

theorem allIn {xs : List Nat} {is : List Int} (h : is.all (fun i => decide (1 ≤ i) && decide (i + 1 < (xs.length : Int))) = true) {j : Nat} (hj : j < is.length) : ∃ q : Nat, is.getD j 0 = (q : Int) ∧ 1 ≤ q ∧ q + 1 < xs.length := by
  have e : is.getD j 0 = is[j] := by simp [List.getD, hj]
  have h1 := List.all_eq_true.1 h _ (List.getElem_mem hj)
  rw [Bool.and_eq_true, decide_eq_true_eq, decide_eq_true_eq] at h1
  exact ⟨is[j].toNat, by rw [e]; omega, by omega, by omega⟩

theorem list_ext {α : Type} (d : α) {xs ys : List α} (hl : xs.length = ys.length) (h : ∀ q, q < xs.length → xs.getD q d = ys.getD q d) : xs = ys := by
  refine List.ext_getElem hl fun q h1 h2 => ?_
  have := h q h1
  simpa [List.getD, h1, h2] using this

theorem fromTo_getD {α : Type} (d : α) (g : Nat → α) {j m q : Nat} (h : q < m) : ((fromTo j m).map g).getD q d = g (j + q) := by
  simp [List.getD, fromTo, h]

theorem removed_eq {xs : List Nat} {bar : Nat} (h : markOk xs bar = true) :
    rep (fun j zs => zs.set ((marksOf xs bar).getD j 0).toNat (midOf xs ((marksOf xs bar).getD j 0).toNat)) (marksOf xs bar).length 0 xs = removed xs bar := by
  generalize hns : (fromTo 1 (xs.length - 2)).filter (marked xs bar) = ns
  have hms : marksOf xs bar = ns.map fun j : Nat => (j : Int) := by rw [← hns]; rfl
  have hmem : ∀ i, i ∈ ns ↔ markedS xs bar i = true := by
    intro i
    rw [← hns, List.mem_filter]
    constructor
    · rintro ⟨h1, h2⟩
      have := fromTo_mem h1
      rw [← marked_eq h (by unfold inner; simp only [Bool.and_eq_true, decide_eq_true_eq]; omega)]
      exact h2
    · intro h1
      have hi : inner xs i = true := by unfold markedS at h1; rw [Bool.and_eq_true] at h1; exact h1.1
      refine ⟨?_, by rw [marked_eq h hi]; exact h1⟩
      unfold inner at hi
      simp only [Bool.and_eq_true, decide_eq_true_eq] at hi
      unfold fromTo
      rw [List.mem_range']
      exact ⟨i - 1, by omega, by omega⟩
  have hlt : ∀ i ∈ ns, i < xs.length := by
    intro i hi
    have := (hmem i).1 hi
    unfold markedS inner at this
    simp only [Bool.and_eq_true, decide_eq_true_eq] at this
    omega
  have e : rep (fun j zs => zs.set ((marksOf xs bar).getD j 0).toNat (midOf xs ((marksOf xs bar).getD j 0).toNat)) (marksOf xs bar).length 0 xs = rep (fun j zs => zs.set (ns.getD j 0) (midOf xs (ns.getD j 0))) ns.length 0 xs := by
    rw [hms, List.length_map]
    refine rep_congr (lo := 0) (hi := ns.length) (fun j s _ hj => ?_) _ _ _ (Nat.le_refl _) (by omega)
    have h2 : (ns.map fun j : Nat => (j : Int)).getD j 0 = ((ns.getD j 0 : Nat) : Int) := by simp [List.getD, hj]
    rw [h2, Int.toNat_natCast]
  rw [e]
  refine list_ext 0 (by rw [sets_len, removed_len]) fun q hq => ?_
  rw [sets_len] at hq
  rw [sets_get 0 (midOf xs) ns ns.length 0 xs (by omega) hlt q hq, List.drop_zero]
  unfold removed
  rw [fromTo_getD 0 _ hq, Nat.zero_add]
  have : ns.contains q = markedS xs bar q := by
    rw [Bool.eq_iff_iff, ← hmem q]
    simp
  rw [this]

/-- Whether a bend is a peak. -/
def bent (bs : List Nat) (least : Nat) (j : Nat) : Bool :=
  fcmp .gtr .f32 (bs.getD j 0) least && ((decide (j = 0) || fcmp .gtr .f32 (bs.getD j 0) (bs.getD (j - 1) 0)) && (decide (j + 1 = bs.length) || fcmp .geq .f32 (bs.getD j 0) (bs.getD (j + 1) 0)))
def bentOf (bs : List Nat) (least : Nat) : List Int := ((fromTo 0 bs.length).filter (bent bs least)).map fun j : Nat => ((j + 1 : Nat) : Int)
def bentOk (xs : List Nat) (least : Nat) : Bool := bendOk xs && fin least
theorem bentOf_len (bs : List Nat) (least : Nat) : (bentOf bs least).length ≤ bs.length := by
  unfold bentOf
  rw [List.length_map]
  refine Nat.le_trans (List.length_filter_le _ _) ?_
  rw [fromTo_len]
  exact Nat.le_refl _

/-- The place of a wave, by halves. -/
def placeStep (xs : List Nat) (w : Nat) : Nat → Nat × Nat → Option (Nat × Nat) := fun _ s =>
  bif fin (horner (fop .mul .f32 1056964608 (fop .add .f32 s.1 s.2)) 0 xs) then
    some (bif fcmp .lss .f32 (horner (fop .mul .f32 1056964608 (fop .add .f32 s.1 s.2)) 0 xs) w then (fop .mul .f32 1056964608 (fop .add .f32 s.1 s.2), s.2) else (s.1, fop .mul .f32 1056964608 (fop .add .f32 s.1 s.2)))
  else none
def curveOk (xs : List Nat) : Bool := xs.all fin && (decide (xs.length ≥ 1) && decide (xs.length ≤ 3))
def placeAsk (xs : List Nat) (w lo hi : Nat) (n : Int) : Bool :=
  curveOk xs && (fin w && (fin lo && (fin hi && (!fcmp .geq .f32 lo hi && (within n 1 32 && (fin (horner lo 0 xs) && (fin (horner hi 0 xs) && !(fcmp .lss .f32 (horner lo 0 xs) w == fcmp .lss .f32 (horner hi 0 xs) w))))))))
def placeRun (xs : List Nat) (w lo hi : Nat) (n : Int) : Option (Nat × Nat) := repE (placeStep xs w) n.toNat 0 (bif fcmp .lss .f32 (horner hi 0 xs) w then (hi, lo) else (lo, hi))
def placeX (o : Option (Nat × Nat)) : Nat := match o with
  | some s => fop .mul .f32 1056964608 (fop .add .f32 s.1 s.2)
  | none => 0
def placeOk (xs : List Nat) (w lo hi : Nat) (n : Int) : Bool := placeAsk xs w lo hi n && ((placeRun xs w lo hi n).isSome && fin (placeX (placeRun xs w lo hi n)))

theorem big_small {n m : Nat} (h : n ≤ m) (hm : m ≤ 1099511627776) : Nat.ble n big = true := big_of (by omega)
theorem orNil_len {α : Type} (b : Bool) (xs : List α) {n : Nat} (h : b = true → xs.length ≤ n) : (orNil b xs).length ≤ n := by
  cases b with
  | true => exact h rfl
  | false => exact Nat.zero_le _

end Go.Sm
