/- Complex numbers: what the phasor hands back is small, products of small numbers can be narrowed. -/
import Derived.Test.YtngcejakoaoojaaG7
namespace Go.Sm
open Go

/-- A 32-bit number no further from zero than two. -/
def small (z : Nat) : Prop := isNum .f32 z = true ∧ (fv .f32 z).natAbs ≤ rv FloatKind.f32.format 1073741824

theorem nar_small {c : Nat} (h : isNum .f64 c = true) (hb : (fv .f64 c).natAbs ≤ 2 * U) : small (nar c) := by
  obtain ⟨m, e, h1, h2⟩ := isNum_spell h
  have hn : isN .f64 c = false := by
    show (FloatKind.f64.format.read c).isNaN = false
    rw [h1]
    rfl
  have hr : nrung FloatKind.f32.format m (FloatKind.f64.format.leastPlace + (e : Int)) ≤ 1073741824 := by
    refine nrung_le (k1 := e) (k2 := 925) (by have a1 := lp_eq .f64; have a2 := lp_eq .f32; have a3 : lp .f64 = 1074 := by decide
                                              have a4 : lp .f32 = 149 := by decide
                                              omega) ?_
    have e1 : rv FloatKind.f32.format 1073741824 * 2 ^ 925 = 2 * U := by decide +kernel
    rw [e1, ← h2]
    exact hb
  have hlt : nrung FloatKind.f32.format m (FloatKind.f64.format.leastPlace + (e : Int)) < FloatKind.f32.format.infRung := Nat.lt_of_le_of_lt hr (by decide)
  have hw : nar c = FloatKind.f32.format.word (sgn .f64 c) (nrung FloatKind.f32.format m (FloatKind.f64.format.leastPlace + (e : Int))) := by
    rw [← nearest_eq]
    unfold nar fconv
    rw [hn]
    show (floatToFloatBits .f64 c .f32).getD 0 = _
    unfold floatToFloatBits
    rw [if_neg (by decide)]
    have hd : FloatKind.f64.decode c = .number (sgn .f64 c) m (FloatKind.f64.format.leastPlace + (e : Int)) := h1
    rw [hd]
    have hinf : (FloatKind.f32.decode (FloatKind.f32.encode (.number (sgn .f64 c) m (FloatKind.f64.format.leastPlace + (e : Int))))).isInfinity = false := by
      have hnum : isNum .f32 (FloatKind.f32.format.nearest (sgn .f64 c) m (FloatKind.f64.format.leastPlace + (e : Int))) = true := by
        rw [nearest_eq]
        exact word_isNum _ hlt
      obtain ⟨m', e', h3, _⟩ := isNum_read hnum
      show (FloatKind.f32.format.read (FloatKind.f32.format.nearest (sgn .f64 c) m (FloatKind.f64.format.leastPlace + (e : Int)))).isInfinity = false
      rw [h3]
      rfl
    simp only [hinf, Bool.false_eq_true, if_false]
    rfl
  rw [hw]
  exact ⟨word_isNum _ hlt, by rw [fv_word_abs _ hlt]; exact rv_le hr⟩

theorem wid_small {z : Nat} (hs : small z) : isNum .f64 (wid z) = true ∧ (fv .f64 (wid z)).natAbs ≤ 2 * U := by
  obtain ⟨h, hb⟩ := hs
  obtain ⟨m, e, h1, h2⟩ := isNum_spell h
  have hn : isN .f32 z = false := by
    show (FloatKind.f32.format.read z).isNaN = false
    rw [h1]
    rfl
  have hr : nrung FloatKind.f64.format m (FloatKind.f32.format.leastPlace + (e : Int)) ≤ two64 := by
    refine nrung_le (k1 := e + 925) (k2 := 0) (by have a1 := lp_eq .f64; have a2 := lp_eq .f32; have a3 : lp .f64 = 1074 := by decide
                                                  have a4 : lp .f32 = 149 := by decide
                                                  omega) ?_
    have e1 : rv FloatKind.f32.format 1073741824 * 2 ^ 925 = rv FloatKind.f64.format two64 := by decide +kernel
    rw [Nat.pow_zero, Nat.mul_one, ← e1, Nat.pow_add, ← Nat.mul_assoc, ← h2]
    exact Nat.mul_le_mul_right _ hb
  have hlt : nrung FloatKind.f64.format m (FloatKind.f32.format.leastPlace + (e : Int)) < FloatKind.f64.format.infRung := Nat.lt_of_le_of_lt hr two_inf
  have hw : wid z = FloatKind.f64.format.word (sgn .f32 z) (nrung FloatKind.f64.format m (FloatKind.f32.format.leastPlace + (e : Int))) := by
    rw [← nearest_eq]
    unfold wid fconv
    rw [hn]
    show (floatToFloatBits .f32 z .f64).getD 0 = _
    unfold floatToFloatBits
    rw [if_neg (by decide)]
    have hd : FloatKind.f32.decode z = .number (sgn .f32 z) m (FloatKind.f32.format.leastPlace + (e : Int)) := h1
    rw [hd]
    have hinf : (FloatKind.f64.decode (FloatKind.f64.encode (.number (sgn .f32 z) m (FloatKind.f32.format.leastPlace + (e : Int))))).isInfinity = false := by
      have hnum : isNum .f64 (FloatKind.f64.format.nearest (sgn .f32 z) m (FloatKind.f32.format.leastPlace + (e : Int))) = true := by
        rw [nearest_eq]
        exact word_isNum _ hlt
      obtain ⟨m', e', h3, _⟩ := isNum_read hnum
      show (FloatKind.f64.format.read (FloatKind.f64.format.nearest (sgn .f32 z) m (FloatKind.f32.format.leastPlace + (e : Int)))).isInfinity = false
      rw [h3]
      rfl
    simp only [hinf, Bool.false_eq_true, if_false]
    rfl
  rw [hw]
  refine ⟨word_isNum _ hlt, ?_⟩
  rw [fv_word_abs _ hlt, ← rv_two]
  exact rv_le hr

theorem small_neg {z : Nat} (h : small z) : small (fneg .f32 z) := by
  obtain ⟨a, b⟩ := fneg_fv h.1
  exact ⟨a, by rw [b]; exact h.2⟩

theorem ph_small {t : Nat} (h : isNum .f64 t = true) : small (phRe t) ∧ small (phIm t) := by
  have hU := U_pos
  unfold phRe phIm
  rw [h]
  cases hh : huge t with
  | true =>
    have h1 : small 1065353216 := by unfold small; decide +kernel
    have h0 : small 0 := by unfold small; decide +kernel
    exact ⟨h1, h0⟩
  | false =>
    obtain ⟨_, _, _, s2, s3, c2, c3⟩ := ph_ok h hh
    have neg : ∀ {c : Nat}, isNum .f64 c = true → (fv .f64 c).natAbs ≤ 2 * U → small (nar (fop .sub .f64 0 c)) := by
      intro c h hb
      obtain ⟨a1, a2, _⟩ := subB (z := two64) zero64_num.1 h (by rw [zero64_num.2, rv_two]; omega) two_inf
      rw [rv_two] at a2
      exact nar_small a1 a2
    have p := nar_small s2 s3
    have q := nar_small c2 c3
    have p' := neg s2 s3
    have q' := neg c2 c3
    simp only [Bool.not_true, cond_false]
    cases phQ t == 1 with
    | true => exact ⟨p', q⟩
    | false =>
      cases phQ t == 2 with
      | true => exact ⟨q', p'⟩
      | false =>
        cases phQ t == 3 with
        | true => exact ⟨p, q'⟩
        | false => exact ⟨q, p⟩

/-! ### Products with the unit that points down -/
def mulRe (a b c d : Nat) : Nat := nar (fop .sub .f64 (fop .mul .f64 (wid a) (wid c)) (fop .mul .f64 (wid b) (wid d)))
def mulIm (a b c d : Nat) : Nat := nar (fop .add .f64 (fop .mul .f64 (wid a) (wid d)) (fop .mul .f64 (wid b) (wid c)))
theorem nar_some {c : Nat} (h : isNum .f64 c = true) (hb : (fv .f64 c).natAbs ≤ 2 * U) : fconv .f64 .f32 c = some (nar c) := (nar_ok h hb).1
theorem wid_zero : isNum .f64 (wid 0) = true ∧ (fv .f64 (wid 0)).natAbs ≤ 0 := by decide +kernel
theorem wid_down : isNum .f64 (wid 3212836864) = true ∧ (fv .f64 (wid 3212836864)).natAbs ≤ U := by decide +kernel
theorem rv_zero64 : rv FloatKind.f64.format 0 = 0 := by decide +kernel
theorem down_ok {a b : Nat} (ha : small a) (hb : small b) :
    fconv .f64 .f32 (fop .sub .f64 (fop .mul .f64 (wid a) (wid 0)) (fop .mul .f64 (wid b) (wid 3212836864))) = some (mulRe a b 0 3212836864)
      ∧ fconv .f64 .f32 (fop .add .f64 (fop .mul .f64 (wid a) (wid 3212836864)) (fop .mul .f64 (wid b) (wid 0))) = some (mulIm a b 0 3212836864) := by
  have hU := U_pos
  have nul : ∀ {z : Nat}, small z → isNum .f64 (fop .mul .f64 (wid z) (wid 0)) = true ∧ (fv .f64 (fop .mul .f64 (wid z) (wid 0))).natAbs ≤ 0 := by
    intro z hz
    obtain ⟨a1, a2⟩ := wid_small hz
    obtain ⟨b1, b2, _⟩ := mulB (z := 0) a1 wid_zero.1 a2 wid_zero.2 (by rw [rv_zero64]; omega) (by decide)
    rw [rv_zero64] at b2
    exact ⟨b1, b2⟩
  have dn : ∀ {z : Nat}, small z → isNum .f64 (fop .mul .f64 (wid z) (wid 3212836864)) = true ∧ (fv .f64 (fop .mul .f64 (wid z) (wid 3212836864))).natAbs ≤ 2 * U := by
    intro z hz
    obtain ⟨a1, a2⟩ := wid_small hz
    obtain ⟨b1, b2, _⟩ := mulB (z := two64) a1 wid_down.1 a2 wid_down.2 (by rw [rv_two, U_eq]; exact Nat.le_refl _) two_inf
    rw [rv_two] at b2
    exact ⟨b1, b2⟩
  obtain ⟨a1, a2⟩ := nul ha
  obtain ⟨a3, a4⟩ := dn ha
  obtain ⟨b1, b2⟩ := nul hb
  obtain ⟨b3, b4⟩ := dn hb
  constructor
  · obtain ⟨c1, c2, _⟩ := subB (z := two64) a1 b3 (by rw [rv_two]; omega) two_inf
    rw [rv_two] at c2
    exact nar_some c1 c2
  · obtain ⟨c1, c2, _⟩ := addB (z := two64) a3 b1 (by rw [rv_two]; omega) two_inf
    rw [rv_two] at c2
    exact nar_some c1 c2

/-! ### Lists of complex numbers written full -/
def cxOf (n : Int) : Nat × Nat := (nar (fint .f64 n), 1065353216)
def marksC (n : Int) : Nat → List (Nat × Nat)
  | 0 => []
  | m + 1 => cxOf n :: marksC (n + 1) m
def eqC (a b : Nat × Nat) : Bool := fcmp .eql .f32 a.1 b.1 && fcmp .eql .f32 a.2 b.2
def heldC (n : Int) : List (Nat × Nat) → Bool
  | [] => true
  | x :: xs => eqC x (cxOf n) && heldC (n + 1) xs
theorem cx_small : ∀ n : Nat, n < 64 → fconv .f64 .f32 (fint .f64 (n : Int)) = some (nar (fint .f64 (n : Int))) ∧ eqC (cxOf (n : Int)) (cxOf (n : Int)) = true := by decide +kernel
theorem cx_one : fconv .f64 .f32 4607182418800017408 = some 1065353216 := by decide +kernel
theorem cx_some {n : Int} (h0 : 0 ≤ n) (h1 : n < 64) : fconv .f64 .f32 (fint .f64 n) = some (nar (fint .f64 n)) ∧ eqC (cxOf n) (cxOf n) = true := by
  have h := cx_small n.toNat (by omega)
  rw [Int.toNat_of_nonneg h0] at h
  exact h
theorem heldC_marks : ∀ (m : Nat) (n : Int), 0 ≤ n → n + m ≤ 64 → heldC n (marksC n m) = true
  | 0, _, _, _ => rfl
  | m + 1, n, h0, h1 => by
    unfold marksC heldC
    rw [(cx_some h0 (by omega)).2, heldC_marks m (n + 1) (by omega) (by omega)]
    rfl
theorem marksC_len : ∀ (m : Nat) (n : Int), (marksC n m).length = m
  | 0, _ => rfl
  | m + 1, n => by
    unfold marksC
    rw [List.length_cons, marksC_len m]

/-- Complex numbers alike to the last bit, or both none. -/
def sameC (a b : Nat × Nat) : Bool := sameF (wid a.1) (wid b.1) && sameF (wid a.2) (wid b.2)
theorem sameC_refl (a : Nat × Nat) : sameC a a = true := by
  unfold sameC
  simp [sameF_refl]

end Go.Sm
