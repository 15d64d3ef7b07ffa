/- Plain laws: floats, ints, lists. -/
import Derived.Test.YtngcejakoaoojaaC1
import Derived.Test.YtngcejakoaoojaaF1
import Derived.Laws.BitsLemmas
namespace Go.Sm
open Go

/-! ### Ints -/
theorem wrap64 {n : Int} (h1 : -9223372036854775808 ≤ n) (h2 : n < 9223372036854775808) : IntKind.i64.wrap n = n := by
  rw [IntKind.wrap_i64]
  omega

theorem wrap_succ {j n : Nat} (h : j < n) (hn : Nat.ble n big = true) : IntKind.i64.wrap ((j : Int) + 1) = ((j + 1 : Nat) : Int) := by
  have := Nat.le_of_ble_eq_true hn
  unfold big at this
  rw [wrap64 (by omega) (by omega)]
  omega

/-! ### Floats -/
theorem order_self (k : FloatKind) (a : Nat) : k.format.order a a = none ∨ k.format.order a a = some .eq := by
  unfold Ieee.Format.order
  cases h : k.format.read a with
  | nan neg t => exact .inl rfl
  | infinity neg => right; cases neg <;> rfl
  | number neg m e =>
    right
    simp [Ieee.Datum.order]

theorem order_none {k : FloatKind} {a b : Nat} (h : k.format.order a b = none) : isN k a = true ∨ isN k b = true := by
  unfold Ieee.Format.order at h
  unfold isN FloatKind.decode
  cases ha : k.format.read a with
  | nan neg t => exact .inl rfl
  | infinity s =>
    cases hb : k.format.read b with
    | nan neg t => exact .inr rfl
    | infinity t => rw [ha, hb] at h; cases h
    | number _ _ _ => rw [ha, hb] at h; cases h
  | number _ _ _ =>
    cases hb : k.format.read b with
    | nan neg t => exact .inr rfl
    | infinity t => rw [ha, hb] at h; cases h
    | number _ _ _ => rw [ha, hb] at h; cases h

theorem sameF_refl (a : Nat) : sameF a a = true := by
  unfold sameF
  cases h : fcmp .neq .f64 a a with
  | true => rfl
  | false =>
    have he : fcmp .eql .f64 a a = true := by
      rcases order_self .f64 a with h1 | h1
      · simp [fcmp, h1] at h
      · simp [fcmp, h1]
    simp only [Bool.or_self]
    cases fcmp .eql .f64 a 0 with
    | true => simp
    | false => simpa using he

/-- A float is finite where it stands for a number. -/
theorem fin_iff (c : Nat) : fin c = true ↔ ∃ s m e, Ieee.single.read c = .number s m e := by
  unfold fin
  constructor
  · intro h
    cases hr : Ieee.single.read c with
    | number s m e => exact ⟨s, m, e, rfl⟩
    | nan s t =>
      have hn : isN .f32 c = true := by
        show (Ieee.single.read c).isNaN = true
        rw [hr]; rfl
      have : fop .sub .f32 c c = nanOf .f32 := by unfold fop; rw [floatBits_nan_left hn]; rfl
      rw [this] at h
      exact absurd h (by decide)
    | infinity s =>
      have : fop .sub .f32 c c = nanOf .f32 := by
        have h2 : floatBits .sub .f32 c c = none := by
          show Ieee.single.sub c c = none
          unfold Ieee.Format.sub
          rw [hr]
          cases s <;> rfl
        unfold fop
        rw [h2]
        rfl
      rw [this] at h
      exact absurd h (by decide)
  · rintro ⟨s, m, e, hr⟩
    have : fop .sub .f32 c c = 0 := by
      have h2 : floatBits .sub .f32 c c = some 0 := by
        show Ieee.single.sub c c = some 0
        unfold Ieee.Format.sub
        rw [hr]
        have h3 : Ieee.signed s m 0 + Ieee.signed (!s) m 0 = 0 := by cases s <;> simp [Ieee.signed] <;> omega
        cases s <;> simp [Ieee.Datum.sum, Ieee.Datum.opposite, Ieee.Format.write, Ieee.Format.nearest, Ieee.Format.word, Ieee.signed, Int.add_right_neg, Int.add_left_neg]
      unfold fop
      rw [h2]
      rfl
    rw [this]
    decide

theorem sameW_refl (a : Nat) : sameW a a = true := sameF_refl _
theorem sameI_refl (a : Int) : sameI a a = true := by simp [sameI]
theorem eqEdgeF_refl (a : EdgeV) : eqEdgeF a a = true := by simp [eqEdgeF, sameF_refl]

theorem fin_notNaN {c : Nat} (h : fin c = true) : isN .f32 c = false := by
  obtain ⟨s, m, e, hr⟩ := (fin_iff c).1 h
  show (Ieee.single.read c).isNaN = false
  rw [hr]
  rfl

theorem notPos_eq (c : Nat) : notPos c = !above c := by
  unfold notPos above
  cases h : fin c with
  | false => rfl
  | true =>
    have hn := fin_notNaN h
    simp only [Bool.not_true, Bool.false_or, Bool.true_and]
    unfold fcmp
    cases ho : FloatKind.f32.format.order c 0 with
    | none => rcases order_none ho with h1 | h1
              · rw [hn] at h1; cases h1
              · exact absurd h1 (by decide)
    | some o => cases o <;> rfl

theorem notFin_fun : notFin = fun c => !fin c := rfl
theorem notPos_fun : notPos = fun c => !above c := funext notPos_eq

theorem eqLineF_refl (a : LineV) : eqLineF a a = true := by simp [eqLineF, sameF_refl]

theorem okLine_kind {l : LineV} (h : okLine l = true) : 0 ≤ l.k ∧ l.k ≤ 3 := by
  unfold okLine within at h
  simp only [Bool.and_eq_true, decide_eq_true_eq] at h
  exact h.2

theorem cmp_leq (a b : Int) : (some (compare a b) == some Ordering.lt || some (compare a b) == some Ordering.eq) = decide (a ≤ b) := by
  show (some (compareOfLessAndEq a b) == some Ordering.lt || some (compareOfLessAndEq a b) == some Ordering.eq) = decide (a ≤ b)
  unfold compareOfLessAndEq
  rcases Int.lt_trichotomy a b with h | h | h
  · have h2 : a ≤ b := by omega
    simp [h, h2]
  · subst h; simp
  · have h2 : ¬ a < b := by omega
    have h3 : ¬ a = b := by omega
    have h4 : ¬ a ≤ b := by omega
    simp [h2, h3, h4]
theorem cmp_geq (a b : Int) : (some (compare a b) == some Ordering.gt || some (compare a b) == some Ordering.eq) = decide (b ≤ a) := by
  show (some (compareOfLessAndEq a b) == some Ordering.gt || some (compareOfLessAndEq a b) == some Ordering.eq) = decide (b ≤ a)
  unfold compareOfLessAndEq
  rcases Int.lt_trichotomy a b with h | h | h
  · have h2 : ¬ b ≤ a := by omega
    simp [h, h2]
  · subst h; simp
  · have h2 : ¬ a < b := by omega
    have h3 : ¬ a = b := by omega
    have h4 : b ≤ a := by omega
    simp [h2, h3, h4]
theorem cmp_lss (a b : Int) : (some (compare a b) == some Ordering.lt) = decide (a < b) := by
  show (some (compareOfLessAndEq a b) == some Ordering.lt) = decide (a < b)
  unfold compareOfLessAndEq
  rcases Int.lt_trichotomy a b with h | h | h
  · simp [h]
  · subst h; simp
  · have h2 : ¬ a < b := by omega
    have h3 : ¬ a = b := by omega
    simp [h2, h3]

theorem read_neg {c : Nat} (h : isN .f32 c = false) : Ieee.single.read (fneg .f32 c) = (Ieee.single.read c).opposite := by
  have e : fneg .f32 c = c ^^^ 2 ^ 31 := by unfold fneg; rw [h]; rfl
  rw [e]
  have hs : Ieee.single.signWeight = 2 ^ 31 := by decide
  have h1 : (c ^^^ 2 ^ 31) % 2 ^ 31 = c % 2 ^ 31 := by
    have := negFloat_mod Ieee.single c
    rw [hs] at this
    exact this
  have h2 : ((c ^^^ 2 ^ 31) / 2 ^ 31 % 2 == 1) = !(c / 2 ^ 31 % 2 == 1) := by
    rw [← Nat.shiftRight_eq_div_pow, ← Nat.shiftRight_eq_div_pow, Nat.shiftRight_xor_distrib]
    have h3 : (2 ^ 31 >>> 31 : Nat) = 1 := by decide
    rw [h3]
    have h4 : ((c >>> 31 ^^^ 1) % 2 = 1) ↔ ¬ ((c >>> 31) % 2 = 1) := by
      rw [Nat.xor_mod_two_eq_one]
      simp
    rw [Bool.eq_iff_iff]
    simp only [beq_iff_eq, Bool.not_eq_true', beq_eq_false_iff_ne, ne_eq]
    exact h4
  unfold Ieee.Format.read
  rw [hs]
  dsimp only
  rw [h1, h2]
  split
  · rfl
  · split
    · rfl
    · split
      · rfl
      · rfl

/-- From -1 to 1: by the sign, or by the magnitude. -/
theorem unit_mag (x : Nat) : unit x = fcmp .leq .f32 (mag x) 1065353216 := by
  have r0 : Ieee.single.read 0 = .number false 0 (-149) := by decide
  have r1 : Ieee.single.read 1065353216 = .number false 8388608 (-23) := by decide
  have r2 : Ieee.single.read 3212836864 = .number true 8388608 (-23) := by decide
  have ord : ∀ a b : Nat, FloatKind.f32.format.order a b = (Ieee.single.read a).order (Ieee.single.read b) := fun _ _ => rfl
  unfold unit mag
  cases hr : Ieee.single.read x with
  | nan s t => simp [fcmp, ord, hr, Ieee.Datum.order]
  | infinity s =>
    have hn : isN .f32 x = false := by show (Ieee.single.read x).isNaN = false; rw [hr]; rfl
    cases s with
    | false => simp [fcmp, ord, hr, r0, r1, r2, Ieee.Datum.order]
    | true => simp [fcmp, ord, hr, r0, r1, r2, read_neg hn, Ieee.Datum.order, Ieee.Datum.opposite]
  | number s m e =>
    have hn : isN .f32 x = false := by show (Ieee.single.read x).isNaN = false; rw [hr]; rfl
    have hB : 0 < 8388608 <<< (-23 - min e (-23)).toNat := by rw [Nat.shiftLeft_eq]; exact Nat.mul_pos (by decide) (Nat.two_pow_pos _)
    cases s with
    | false =>
      have h1 : fcmp .lss .f32 x 0 = false := by
        simp only [fcmp, ord, hr, r0, Ieee.Datum.order, cmp_lss, Ieee.signed, Bool.false_eq_true, if_false, Nat.zero_shiftLeft]
        generalize m <<< (e - min e (-149)).toNat = A
        simp only [decide_eq_false_iff_not]
        omega
      have h2 : fcmp .geq .f32 x 3212836864 = true := by
        simp only [fcmp, ord, hr, r2, Ieee.Datum.order, cmp_geq, Ieee.signed, Bool.false_eq_true, if_false, if_true]
        generalize m <<< (e - min e (-23)).toNat = A
        generalize 8388608 <<< (-23 - min e (-23)).toNat = B
        simp only [decide_eq_true_eq]
        omega
      rw [h1, h2]
      rfl
    | true =>
      have h3 : fcmp .leq .f32 x 1065353216 = true := by
        simp only [fcmp, ord, hr, r1, Ieee.Datum.order, cmp_leq, Ieee.signed, Bool.false_eq_true, if_false, if_true]
        generalize m <<< (e - min e (-23)).toNat = A
        generalize 8388608 <<< (-23 - min e (-23)).toNat = B
        simp only [decide_eq_true_eq]
        omega
      have h2 : fcmp .geq .f32 x 3212836864 = decide (m <<< (e - min e (-23)).toNat ≤ 8388608 <<< (-23 - min e (-23)).toNat) := by
        simp only [fcmp, ord, hr, r2, Ieee.Datum.order, cmp_geq, Ieee.signed, if_true]
        generalize m <<< (e - min e (-23)).toNat = A
        generalize 8388608 <<< (-23 - min e (-23)).toNat = B
        rw [decide_eq_decide]
        omega
      rw [h3, Bool.and_true, h2]
      cases h1 : fcmp .lss .f32 x 0 with
      | true =>
        dsimp only
        simp only [fcmp, ord, read_neg hn, hr, r1, Ieee.Datum.order, Ieee.Datum.opposite, cmp_leq, Ieee.signed, Bool.not_true, Bool.false_eq_true, if_false]
        generalize m <<< (e - min e (-23)).toNat = A
        generalize 8388608 <<< (-23 - min e (-23)).toNat = B
        rw [decide_eq_decide]
        omega
      | false =>
        have hm : m <<< (e - min e (-149)).toNat = 0 := by
          simp only [fcmp, ord, hr, r0, Ieee.Datum.order, cmp_lss, Ieee.signed, Bool.false_eq_true, if_false, if_true, Nat.zero_shiftLeft] at h1
          generalize m <<< (e - min e (-149)).toNat = A at h1 ⊢
          simp only [decide_eq_false_iff_not] at h1
          omega
        rw [Nat.shiftLeft_eq, Nat.mul_eq_zero] at hm
        have hm0 : m = 0 := by
          rcases hm with hm | hm
          · exact hm
          · have := Nat.two_pow_pos (e - min e (-149)).toNat
            omega
        subst hm0
        dsimp only
        rw [h3]
        simp

theorem notEdge_fun (v : Int) : notEdge v = fun e => !edgeOk v e := rfl

/-- A small whole number as a float is at least 1. -/
def fintOk (n : Nat) : Bool := match Ieee.single.read (fint .f32 (n : Int)) with
  | .number _ m j => decide (j ≤ 0) && (decide (-23 ≤ j) && decide (2 ^ (-j).toNat ≤ m))
  | _ => false

theorem fintOk_all : (List.range 101).all (fun n => n == 0 || fintOk n) = true := by decide +kernel

theorem fint_read {n : Int} (h1 : 1 ≤ n) (h2 : n ≤ 100) : ∃ s m j, ∃ p : Nat, Ieee.single.read (fint .f32 n) = .number s m j ∧ j = -(p : Int) ∧ p ≤ 23 ∧ 2 ^ p ≤ m := by
  have h := List.all_eq_true.1 fintOk_all n.toNat (List.mem_range.2 (by omega))
  have h3 : (n.toNat == 0) = false := beq_false_of_ne (by omega)
  rw [h3, Bool.false_or] at h
  unfold fintOk at h
  have h4 : ((n.toNat : Nat) : Int) = n := by omega
  rw [h4] at h
  split at h
  · rename_i s m j hr
    simp only [Bool.and_eq_true, decide_eq_true_eq] at h
    exact ⟨s, m, j, (-j).toNat, hr, by omega, by omega, h.2.2⟩
  · cases h

/-- A finite number by a small whole one is finite. -/
theorem fin_div {w : Nat} {n : Int} (h1 : above w = true) (h2 : within n 1 100 = true) : fin (fop .quo .f32 w (fint .f32 n)) = true := by
  unfold above at h1
  rw [Bool.and_eq_true] at h1
  unfold within at h2
  simp only [Bool.and_eq_true, decide_eq_true_eq] at h2
  obtain ⟨s, m, e, hr⟩ := (fin_iff w).1 h1.1
  obtain ⟨t, q, j, p, hd, hj, hp, hq⟩ := fint_read h2.1 h2.2
  obtain ⟨r, s', m', e', h3, h4⟩ := div_number hr hd hj hp hq
  have h5 : fop .quo .f32 w (fint .f32 n) = r := by
    unfold fop
    have : floatBits .quo .f32 w (fint .f32 n) = some r := h3
    rw [this]
    rfl
  rw [h5]
  exact (fin_iff r).2 ⟨s', m', e', h4⟩

theorem fint_notNaN (k : FloatKind) (n : Int) : isN k (fint k n) = false := nearest_notNaN k.format _ _ _

theorem heldF_marks : ∀ (m : Nat) (n : Int), heldF n (marks n m) = true
  | 0, _ => rfl
  | m + 1, n => by
    have h : fcmp .neq .f32 (fint .f32 n) (fint .f32 n) = false := by
      rcases order_self .f32 (fint .f32 n) with h | h
      · have hn := fint_notNaN .f32 n
        rcases order_none h with h1 | h1 <;> (rw [hn] at h1; cases h1)
      · simp [fcmp, h]
    simp [heldF, marks, h, heldF_marks m (n + 1)]
theorem heldI_marks : ∀ (m : Nat) (n : Int), heldI n (marksI n m) = true
  | 0, _ => rfl
  | m + 1, n => by simp [heldI, marksI, heldI_marks m (n + 1)]
theorem marks_len : ∀ (m : Nat) (n : Int), (marks n m).length = m
  | 0, _ => rfl
  | m + 1, n => by simp [marks, marks_len m]
theorem marksI_len : ∀ (m : Nat) (n : Int), (marksI n m).length = m
  | 0, _ => rfl
  | m + 1, n => by simp [marksI, marksI_len m]

/-! ### Lists -/
theorem diffs_len : ∀ xs ys : List Nat, (diffs xs ys).length ≤ xs.length
  | [], _ => by simp [diffs]
  | _ :: _, [] => by simp [diffs]
  | x :: xs, y :: ys => by have := diffs_len xs ys; simp [diffs]; omega
theorem diffOk_eq : ∀ {xs ys : List Nat}, xs.length = ys.length → diffOk xs ys = (xs.all fin && (ys.all fin && (diffs xs ys).all fin))
  | [], [], _ => rfl
  | x :: xs, y :: ys, h => by
    simp only [diffOk, diffs, List.all_cons, diffOk_eq (show xs.length = ys.length by simpa using h)]
    cases fin x <;> cases fin y <;> cases fin (fop .sub .f32 x y) <;> simp
  | [], _ :: _, h => by simp at h
  | _ :: _, [], h => by simp at h
theorem ints_len : ∀ (m : Nat) (i : Int), (ints i m).length = m
  | 0, _ => rfl
  | m + 1, i => by simp [ints, ints_len m]
theorem mem_ints : ∀ (m : Nat) (i x : Int), x ∈ ints i m → i ≤ x ∧ x < i + m
  | 0, _, _, h => by simp [ints] at h
  | m + 1, i, x, h => by
    simp only [ints, List.mem_cons] at h
    rcases h with h | h
    · omega
    · have := mem_ints m (i + 1) x h
      omega
theorem orders_len (p : Int → Bool) : (ordersOf p).length ≤ 201 := Nat.le_trans (List.length_filter_le _ _) (by rw [ints_len]; exact Nat.le_refl _)
theorem orders_congr {p q : Int → Bool} (h : ∀ n, n ≥ -100 → n ≤ 100 → p n = q n) : ordersOf p = ordersOf q := by
  unfold ordersOf
  refine List.filter_congr fun x hx => ?_
  have := mem_ints _ _ _ hx
  exact h x (by omega) (by omega)

theorem getq {n : Nat} {xs : List Nat} (h : n < xs.length) : xs[n]? = some (xs.getD n 0) := by simp [List.getD, h]

theorem set_take {α : Type} {l : List α} {j : Nat} (h : j < l.length) (a : α) (r : List α) : (l.set j a).take (j + 1) ++ r = l.take j ++ a :: r := by
  rw [List.take_succ_eq_append_getElem (by simpa using h), List.take_set_of_le (Nat.le_refl j)]
  simp

theorem all2_refl {α : Type} {p : α → α → Bool} (h : ∀ a, p a a = true) : ∀ l : List α, all2 p l l = true
  | [] => rfl
  | a :: l => by simp [all2, h a, all2_refl h l]

theorem any_firstAt {α : Type} (p : α → Bool) (xs : List α) : decide (firstAt p xs ≥ 0) = xs.any p := by
  unfold firstAt
  cases h : xs.findIdx? p with
  | some i =>
    have : xs.any p = true := by
      rw [List.findIdx?_eq_some_iff_getElem] at h
      obtain ⟨hi, hp, _⟩ := h
      exact List.any_eq_true.2 ⟨_, List.getElem_mem hi, hp⟩
    rw [this]
    simp
  | none =>
    rw [List.findIdx?_eq_none_iff] at h
    have : xs.any p = false := by
      rw [List.any_eq_false]
      intro x hx
      rw [h x hx]
      exact Bool.false_ne_true
    rw [this]
    rfl

theorem not_any {α : Type} (p : α → Bool) (xs : List α) : (!(xs.any fun x => !p x)) = xs.all p := (List.all_eq_not_any_not ..).symm

/-! ### What fits -/
theorem fits_f32 {s : SC} (h : NK.fits (.float .f32) s) : ∃ c, s = .fl .f32 c ∧ cn .f32 c = c ∧ c < 2 ^ 32 := by
  cases s with
  | fl q c => obtain ⟨rfl, h1, h2⟩ := h; exact ⟨c, rfl, h1, h2⟩
  | int _ _ => exact h.elim
  | bo _ => exact h.elim
  | cx _ _ _ => exact h.elim
theorem fits_f64 {s : SC} (h : NK.fits (.float .f64) s) : ∃ c, s = .fl .f64 c ∧ cn .f64 c = c ∧ c < 2 ^ 64 := by
  cases s with
  | fl q c => obtain ⟨rfl, h1, h2⟩ := h; exact ⟨c, rfl, h1, h2⟩
  | int _ _ => exact h.elim
  | bo _ => exact h.elim
  | cx _ _ _ => exact h.elim
theorem fits_i64 {s : SC} (h : NK.fits (.int .i64) s) : ∃ n, s = .int .i64 n ∧ -9223372036854775808 ≤ n ∧ n ≤ 9223372036854775807 := by
  cases s with
  | int q n => obtain ⟨rfl, h1, h2⟩ := h; exact ⟨n, rfl, h1, h2⟩
  | fl _ _ => exact h.elim
  | bo _ => exact h.elim
  | cx _ _ _ => exact h.elim
theorem fits_bo {s : SC} (h : NK.fits .bool s) : ∃ b, s = .bo b := by
  cases s with
  | bo b => exact ⟨b, rfl⟩
  | int _ _ => exact h.elim
  | fl _ _ => exact h.elim
  | cx _ _ _ => exact h.elim

section
variable {R : AK → Nat → FV → Prop} {a b c d e : AK} {p q r s t : Nat} {xs : List FV}
theorem aks1 (h : AKs R [a] [p] xs) : ∃ x, xs = [x] ∧ R a p x := by
  match xs, h with
  | [x], h => exact ⟨x, rfl, h.1⟩
theorem aks2 (h : AKs R [a, b] [p, q] xs) : ∃ x y, xs = [x, y] ∧ R a p x ∧ R b q y := by
  match xs, h with
  | [x, y], h => exact ⟨x, y, rfl, h.1, h.2.1⟩
theorem aks3 (h : AKs R [a, b, c] [p, q, r] xs) : ∃ x y z, xs = [x, y, z] ∧ R a p x ∧ R b q y ∧ R c r z := by
  match xs, h with
  | [x, y, z], h => exact ⟨x, y, z, rfl, h.1, h.2.1, h.2.2.1⟩
theorem aks4 (h : AKs R [a, b, c, d] [p, q, r, s] xs) : ∃ x y z u, xs = [x, y, z, u] ∧ R a p x ∧ R b q y ∧ R c r z ∧ R d s u := by
  match xs, h with
  | [x, y, z, u], h => exact ⟨x, y, z, u, rfl, h.1, h.2.1, h.2.2.1, h.2.2.2.1⟩
theorem aks5 (h : AKs R [a, b, c, d, e] [p, q, r, s, t] xs) : ∃ x y z u v, xs = [x, y, z, u, v] ∧ R a p x ∧ R b q y ∧ R c r z ∧ R d s u ∧ R e t v := by
  match xs, h with
  | [x, y, z, u, v], h => exact ⟨x, y, z, u, v, rfl, h.1, h.2.1, h.2.2.1, h.2.2.2.1, h.2.2.2.2.1⟩
end

end Go.Sm
