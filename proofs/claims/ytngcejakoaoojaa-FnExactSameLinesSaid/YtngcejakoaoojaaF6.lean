/- Floats: whole parts, the part of a turn, the sine, the phasor. -/
import Derived.Test.YtngcejakoaoojaaF5
namespace Go.Sm
open Go Ieee

theorem rv_mk (f : Format) {e K : Nat} (h1 : 0 < e → f.binade ≤ K) (h2 : K < 2 * f.binade) : rv f (e * f.binade + K) = K * 2 ^ e := by
  have hp := binade_pos f
  by_cases hK : f.binade ≤ K
  · have q1 : (e * f.binade + K) / f.binade = e + 1 := by
      rw [Nat.add_comm, Nat.add_mul_div_right _ _ hp]
      have : K / f.binade = 1 := by
        rw [Nat.div_eq_iff hp]
        omega
      omega
    have q2 : (e * f.binade + K) % f.binade = K - f.binade := by
      rw [Nat.add_comm, Nat.add_mul_mod_self_right, Nat.mod_eq_sub_mod hK]
      exact Nat.mod_eq_of_lt (by omega)
    unfold rv
    rw [if_neg (by omega), q1, q2]
    congr 1
    omega
  · have : e = 0 := by omega
    subst this
    unfold rv
    rw [if_pos (by omega)]
    simp

/-- What fits a significand is not rounded. -/
theorem nrung_fits {f : Format} {mag : Nat} {place : Int} (h1 : mag < 2 ^ (f.fractionBits + 1)) (h2 : f.leastPlace ≤ place) {b : Nat} (hb : b < f.infRung) (h3 : mag * 2 ^ (place - f.leastPlace).toNat ≤ rv f b) :
    rv f (nrung f mag place) = mag * 2 ^ (place - f.leastPlace).toNat ∧ nrung f mag place ≤ b := by
  have hle : nrung f mag place ≤ b := nrung_le (k1 := (place - f.leastPlace).toNat) (k2 := 0) (by omega) (by simpa using h3)
  refine ⟨?_, hle⟩
  by_cases hm : mag = 0
  · subst hm
    have : nrung f 0 place = 0 := rfl
    rw [this, rv_zero]
    simp
  have hB : f.binade = 2 ^ f.fractionBits := rfl
  have hL : 2 ^ mag.log2 ≤ mag := Nat.log2_self_le hm
  have hL2 : mag < 2 ^ (mag.log2 + 1) := Nat.lt_log2_self
  have hlog : mag.log2 ≤ f.fractionBits := by
    rcases Nat.lt_or_ge f.fractionBits mag.log2 with h | h
    · have : 2 ^ (f.fractionBits + 1) ≤ 2 ^ mag.log2 := Nat.pow_le_pow_right (by decide) h
      omega
    · exact h
  -- a rung with this value
  obtain ⟨d, hd⟩ : ∃ d : Nat, (place - f.leastPlace).toNat = d := ⟨_, rfl⟩
  rw [hd] at h3 ⊢
  have hex : ∃ q, rv f q = mag * 2 ^ d := by
    rcases Nat.lt_or_ge (f.fractionBits - mag.log2) d with h | h
    · -- a normal one
      obtain ⟨e, he⟩ : ∃ e, d = e + (f.fractionBits - mag.log2) := ⟨d - (f.fractionBits - mag.log2), by omega⟩
      refine ⟨e * f.binade + mag * 2 ^ (f.fractionBits - mag.log2), ?_⟩
      have k1 : f.binade ≤ mag * 2 ^ (f.fractionBits - mag.log2) := by
        have : 2 ^ mag.log2 * 2 ^ (f.fractionBits - mag.log2) ≤ mag * 2 ^ (f.fractionBits - mag.log2) := Nat.mul_le_mul_right _ hL
        rw [← Nat.pow_add, show mag.log2 + (f.fractionBits - mag.log2) = f.fractionBits by omega] at this
        exact this
      have k2 : mag * 2 ^ (f.fractionBits - mag.log2) < 2 * f.binade := by
        have : mag * 2 ^ (f.fractionBits - mag.log2) < 2 ^ (mag.log2 + 1) * 2 ^ (f.fractionBits - mag.log2) := Nat.mul_lt_mul_of_pos_right hL2 (Nat.two_pow_pos _)
        rw [← Nat.pow_add, show mag.log2 + 1 + (f.fractionBits - mag.log2) = f.fractionBits + 1 by omega, Nat.pow_succ'] at this
        exact this
      rw [rv_mk f (fun _ => k1) k2, he, Nat.mul_assoc, ← Nat.pow_add, Nat.add_comm e]
    · refine ⟨0 * f.binade + mag * 2 ^ d, ?_⟩
      have k2 : mag * 2 ^ d < 2 * f.binade := by
        have : mag * 2 ^ d < 2 ^ (mag.log2 + 1) * 2 ^ d := Nat.mul_lt_mul_of_pos_right hL2 (Nat.two_pow_pos _)
        rw [← Nat.pow_add] at this
        have h5 : 2 ^ (mag.log2 + 1 + d) ≤ 2 ^ (f.fractionBits + 1) := Nat.pow_le_pow_right (by decide) (by omega)
        have h6 : 2 ^ (f.fractionBits + 1) = 2 * f.binade := Nat.pow_succ'
        omega
      rw [rv_mk f (fun h => absurd h (by decide)) k2]
      simp
  obtain ⟨q, hq⟩ := hex
  have hqb : q ≤ b := by
    rcases Nat.lt_or_ge b q with h | h
    · have := rv_lt (f := f) h; omega
    · exact h
  have := nrung_exact (f := f) (mag := mag) (place := place) (b := q) (k1 := d) (k2 := 0) (by omega) (by rw [Nat.pow_zero, Nat.mul_one]; exact hq) (by omega)
  rw [this, hq]

/-- The rung of two to so many, 64 bits wide. -/
theorem fits52 {n : Nat} (h : n < 2 ^ 53) : rv FloatKind.f64.format (nrung FloatKind.f64.format n 0) = n * U ∧ nrung FloatKind.f64.format n 0 < FloatKind.f64.format.infRung := by
  have hl := lp_eq .f64
  have e1 : ((0 : Int) - FloatKind.f64.format.leastPlace).toNat = lp .f64 := by omega
  have e2 : FloatKind.f64.format.fractionBits + 1 = 53 := by decide
  have hb : (2 ^ 53) * U ≤ rv FloatKind.f64.format 4845873199050653696 := by decide +kernel
  have := nrung_fits (f := FloatKind.f64.format) (mag := n) (place := 0) (b := 4845873199050653696) (by rw [e2]; exact h) (by omega) (by decide) (by
    rw [e1, U_eq]
    exact Nat.le_trans (Nat.mul_le_mul_right _ (Nat.le_of_lt h)) hb)
  rw [e1, U_eq] at this
  exact ⟨this.1, Nat.lt_of_le_of_lt this.2 (by decide)⟩

/-- A whole number as a 64-bit float. -/
theorem fint_fv {n : Int} (h : n.natAbs < 2 ^ 53) : isNum .f64 (fint .f64 n) = true ∧ fv .f64 (fint .f64 n) = n * (U : Int) := by
  obtain ⟨h1, h2⟩ := fits52 h
  have e : fint .f64 n = FloatKind.f64.format.word (decide (n < 0)) (nrung FloatKind.f64.format n.natAbs 0) := by
    show FloatKind.f64.format.nearest (decide (n < 0)) n.natAbs 0 = _
    rw [nearest_eq]
  rw [e]
  refine ⟨word_isNum _ h2, ?_⟩
  rw [fv_word _ (Nat.lt_trans h2 FloatKind.f64.format.infRung_lt), h1]
  have hU := U_pos
  by_cases hn : n < 0
  · have : (n.natAbs : Int) = -n := by omega
    rw [if_pos (decide_eq_true hn), Int.natCast_mul, this, Int.neg_mul, Int.neg_neg]
  · have : (n.natAbs : Int) = n := by omega
    rw [if_neg (by simp; omega), Int.natCast_mul, this]

/-! ### Whole parts -/

def big52 : Nat := 4841369599423283200
def neg52 : Nat := 14064741636278059008
def huge (y : Nat) : Bool := fcmp .geq .f64 y big52 || fcmp .leq .f64 y neg52
def whole (y : Nat) : Nat := bif fcmp .eql .f64 (fround .zero y) 0 then 0 else fround .zero y
def part (y : Nat) : Nat := bif fcmp .lss .f64 (fop .sub .f64 y (whole y)) 0 then fop .add .f64 (fop .sub .f64 y (whole y)) one64 else fop .sub .f64 y (whole y)

theorem big52_num : isNum .f64 big52 = true ∧ fv .f64 big52 = 2 ^ 52 * (U : Int) := by decide +kernel
theorem neg52_num : isNum .f64 neg52 = true ∧ fv .f64 neg52 = -(2 ^ 52 * (U : Int)) := by decide +kernel
theorem zero64_num : isNum .f64 0 = true ∧ fv .f64 0 = 0 := by decide +kernel

theorem fcmp_num_eql {k : FloatKind} {x y : Nat} (hx : isNum k x = true) (hy : isNum k y = true) : fcmp .eql k x y = decide (fv k x = fv k y) := by
  unfold fcmp
  rw [order_fv hx hy]
  show (some (compareOfLessAndEq (fv k x) (fv k y)) == some Ordering.eq) = _
  unfold compareOfLessAndEq
  rcases Int.lt_trichotomy (fv k x) (fv k y) with h | h | h
  · have h2 : ¬ fv k x = fv k y := by omega
    simp [h, h2]
  · simp [h]
  · have h2 : ¬ fv k x < fv k y := by omega
    have h3 : ¬ fv k x = fv k y := by omega
    simp [h2, h3]

theorem huge_num {y : Nat} (h : isNum .f64 y = true) : huge y = decide (2 ^ 52 * (U : Int) ≤ fv .f64 y ∨ fv .f64 y ≤ -(2 ^ 52 * (U : Int))) := by
  unfold huge
  rw [fcmp_num_geq h big52_num.1, fcmp_num_leq h neg52_num.1, big52_num.2, neg52_num.2]
  rw [Bool.eq_iff_iff]
  simp

/-- **THE WHOLE PART**, both ways to write it. -/
theorem whole_ok {y : Nat} (h : isNum .f64 y = true) (hh : huge y = false) : ∃ n : Int, floatToIntVal .f64 y .i64 = some n ∧ fint .f64 n = whole y ∧ n.natAbs < 2 ^ 52 ∧ fv .f64 (whole y) = n * (U : Int) ∧ isNum .f64 (whole y) = true ∧
    (0 ≤ fv .f64 y → 0 ≤ fv .f64 y - fv .f64 (whole y) ∧ fv .f64 y - fv .f64 (whole y) < (U : Int)) ∧ (fv .f64 y ≤ 0 → -(U : Int) < fv .f64 y - fv .f64 (whole y) ∧ fv .f64 y - fv .f64 (whole y) ≤ 0) := by
  have hU := U_pos
  rw [huge_num h, decide_eq_false_iff_not] at hh
  obtain ⟨m, e, h1, h2⟩ := isNum_spell h
  have hl := lp_eq .f64
  have hfv := fv_read h1
  have he : (FloatKind.f64.format.leastPlace + (e : Int) - FloatKind.f64.format.leastPlace).toNat = e := by omega
  rw [he] at hfv
  -- the whole magnitude
  obtain ⟨W, hW⟩ : ∃ W, W = Toward.zero.cut (sgn .f64 y) (m <<< (FloatKind.f64.format.leastPlace + (e : Int)).toNat) (-(FloatKind.f64.format.leastPlace + (e : Int))).toNat := ⟨_, rfl⟩
  have hcut : ∀ (n drop : Nat), Toward.zero.cut (sgn .f64 y) n drop = n / 2 ^ drop := by
    intro n drop
    unfold Toward.cut
    dsimp only
    rw [Nat.one_shiftLeft]
    simp only [Bool.toNat_false, Nat.add_zero]
    rcases Nat.le_total drop (n.log2 + 2) with hd | hd
    · rw [Nat.min_eq_left hd]
    · rw [Nat.min_eq_right hd]
      have a1 : n < 2 ^ (n.log2 + 1) := Nat.lt_log2_self
      have a2 : 2 ^ (n.log2 + 1) ≤ 2 ^ (n.log2 + 2) := Nat.pow_le_pow_right (by decide) (by omega)
      have a3 : 2 ^ (n.log2 + 2) ≤ 2 ^ drop := Nat.pow_le_pow_right (by decide) hd
      rw [Nat.div_eq_of_lt (by omega), Nat.div_eq_of_lt (by omega)]
  rw [hcut, Nat.shiftLeft_eq] at hW
  have hWd : W * U ≤ m * 2 ^ e ∧ m * 2 ^ e < (W + 1) * U := by
    rw [← U_eq]
    rcases Nat.le_total e (lp .f64) with h3 | h3
    · have a1 : (FloatKind.f64.format.leastPlace + (e : Int)).toNat = 0 := by omega
      have a2 : (-(FloatKind.f64.format.leastPlace + (e : Int))).toNat = lp .f64 - e := by omega
      rw [a1, a2, Nat.pow_zero, Nat.mul_one] at hW
      have hp := Nat.two_pow_pos (lp .f64 - e)
      have b1 := Nat.div_mul_le_self m (2 ^ (lp .f64 - e))
      have b2 := Nat.lt_div_mul_add hp (a := m)
      rw [← hW] at b1 b2
      have b3 : 2 ^ lp .f64 = 2 ^ (lp .f64 - e) * 2 ^ e := by rw [← Nat.pow_add]; congr 1; omega
      rw [b3, ← Nat.mul_assoc, ← Nat.mul_assoc]
      refine ⟨Nat.mul_le_mul_right _ b1, Nat.mul_lt_mul_of_pos_right ?_ (Nat.two_pow_pos _)⟩
      rw [Nat.add_mul, Nat.one_mul]
      exact b2
    · have a1 : (FloatKind.f64.format.leastPlace + (e : Int)).toNat = e - lp .f64 := by omega
      have a2 : (-(FloatKind.f64.format.leastPlace + (e : Int))).toNat = 0 := by omega
      rw [a1, a2, Nat.pow_zero, Nat.div_one] at hW
      have b3 : 2 ^ e = 2 ^ (e - lp .f64) * 2 ^ lp .f64 := by rw [← Nat.pow_add]; congr 1; omega
      rw [b3, ← Nat.mul_assoc, ← hW]
      refine ⟨Nat.le_refl _, ?_⟩
      rw [Nat.add_mul, Nat.one_mul]
      exact Nat.lt_add_of_pos_right (Nat.two_pow_pos _)
  have hW52 : W < 2 ^ 52 := by
    have b1 : (m * 2 ^ e : Nat) < 2 ^ 52 * U := by
      have : (fv .f64 y).natAbs < 2 ^ 52 * U := by
        have c : ((2 ^ 52 * U : Nat) : Int) = 2 ^ 52 * (U : Int) := by rw [Int.natCast_mul]; rfl
        omega
      rw [h2] at this
      exact this
    have b2 : W * U < 2 ^ 52 * U := Nat.lt_of_le_of_lt hWd.1 b1
    exact Nat.lt_of_mul_lt_mul_right b2
  have hr1 : fround .zero y = FloatKind.f64.format.word (sgn .f64 y) (nrung FloatKind.f64.format W 0) := by
    have hn : isN .f64 y = false := by
      show (FloatKind.f64.format.read y).isNaN = false
      rw [h1]
      rfl
    unfold fround
    rw [hn]
    have hd : FloatKind.f64.decode y = .number (sgn .f64 y) m (FloatKind.f64.format.leastPlace + (e : Int)) := h1
    rw [hd, cond_false]
    show FloatKind.f64.format.nearest (sgn .f64 y) (Toward.zero.cut (sgn .f64 y) (m <<< (FloatKind.f64.format.leastPlace + (e : Int)).toNat) (-(FloatKind.f64.format.leastPlace + (e : Int))).toNat) 0 = _
    rw [nearest_eq, hcut, Nat.shiftLeft_eq, ← hW]
  obtain ⟨hv, hi⟩ := fits52 (show W < 2 ^ 53 by omega)
  have hs := Nat.lt_trans hi FloatKind.f64.format.infRung_lt
  have hnum : isNum .f64 (fround .zero y) = true := by rw [hr1]; exact word_isNum _ hi
  have hfr : fv .f64 (fround .zero y) = if sgn .f64 y then -((W * U : Nat) : Int) else ((W * U : Nat) : Int) := by rw [hr1, fv_word _ hs, hv]
  -- the whole number
  have hn : floatToIntVal .f64 y .i64 = some (if sgn .f64 y then -(W : Int) else (W : Int)) := by
    unfold floatToIntVal
    have hd : FloatKind.f64.decode y = .number (sgn .f64 y) m (FloatKind.f64.format.leastPlace + (e : Int)) := h1
    have ht : (FloatKind.f64.decode y).toInt .zero = some (if sgn .f64 y then -(W : Int) else (W : Int)) := by
      rw [hd]
      show some (signed (sgn .f64 y) (Toward.zero.cut (sgn .f64 y) (m <<< (FloatKind.f64.format.leastPlace + (e : Int)).toNat) (-(FloatKind.f64.format.leastPlace + (e : Int))).toNat) 0) = _
      rw [hcut, Nat.shiftLeft_eq, ← hW]
      unfold signed
      rw [Nat.shiftLeft_zero]
    rw [ht]
    have hmin : IntKind.i64.min = -9223372036854775808 := by decide
    have hmax : IntKind.i64.max = 9223372036854775807 := by decide
    simp only [hmin, hmax]
    rw [if_pos (by cases sgn .f64 y <;> simp <;> omega)]
  have hcast : ((W * U : Nat) : Int) = (W : Int) * (U : Int) := Int.natCast_mul _ _
  have hwhole : fint .f64 (if sgn .f64 y then -(W : Int) else (W : Int)) = whole y ∧ fv .f64 (whole y) = (if sgn .f64 y then -(W : Int) else (W : Int)) * (U : Int) ∧ isNum .f64 (whole y) = true := by
    unfold whole
    rw [fcmp_num_eql hnum zero64_num.1, zero64_num.2, hfr, hcast]
    by_cases hw0 : W = 0
    · subst hw0
      have c1 : (if sgn .f64 y then -(((0 : Nat) : Int) * (U : Int)) else ((0 : Nat) : Int) * (U : Int)) = 0 := by cases sgn .f64 y <;> simp
      have c2 : (if sgn .f64 y then -((0 : Nat) : Int) else ((0 : Nat) : Int)) = 0 := by cases sgn .f64 y <;> simp
      rw [c1, c2]
      simp only [decide_true, cond_true]
      exact ⟨by decide +kernel, by rw [zero64_num.2]; simp, zero64_num.1⟩
    · have hpos : 0 < (W : Int) * (U : Int) := Int.mul_pos (by omega) (by omega)
      have c1 : ¬ (if sgn .f64 y then -((W : Int) * (U : Int)) else (W : Int) * (U : Int)) = 0 := by cases sgn .f64 y <;> simp <;> omega
      rw [decide_eq_false c1, cond_false, hfr, hcast]
      refine ⟨?_, ?_, hnum⟩
      · rw [hr1]
        have : ∀ n : Int, fint .f64 n = FloatKind.f64.format.word (decide (n < 0)) (nrung FloatKind.f64.format n.natAbs 0) := by
          intro n
          show FloatKind.f64.format.nearest (decide (n < 0)) n.natAbs 0 = _
          rw [nearest_eq]
        rw [this]
        cases sgn .f64 y with
        | false =>
          have d1 : decide ((W : Int) < 0) = false := decide_eq_false (by omega)
          simp [d1]
        | true =>
          have d1 : decide (-(W : Int) < 0) = true := decide_eq_true (by omega)
          simp only [if_true]
          rw [d1, Int.natAbs_neg]
          rfl
      · cases sgn .f64 y <;> simp [Int.neg_mul]
  refine ⟨_, hn, hwhole.1, ?_, hwhole.2.1, hwhole.2.2, fun hp => ?_, fun hp => ?_⟩
  · cases sgn .f64 y <;> simp <;> omega
  · rw [hwhole.2.1]
    have hsv : fv .f64 y = signed (sgn .f64 y) m e := hfv
    unfold signed at hsv
    rw [Nat.shiftLeft_eq] at hsv
    cases hsg : sgn .f64 y with
    | false =>
      rw [hsg] at hsv
      simp only [Bool.false_eq_true, if_false] at hsv ⊢
      rw [hsv, ← hcast]
      have := hWd.2
      rw [Nat.add_mul, Nat.one_mul] at this
      omega
    | true =>
      rw [hsg] at hsv
      simp only [if_true] at hsv ⊢
      have hm0 : m * 2 ^ e = 0 := by omega
      have hw0 : W * U = 0 := by omega
      rw [Int.neg_mul, ← hcast, hw0, hsv, hm0]
      simp
      omega
  · rw [hwhole.2.1]
    have hsv : fv .f64 y = signed (sgn .f64 y) m e := hfv
    unfold signed at hsv
    rw [Nat.shiftLeft_eq] at hsv
    cases hsg : sgn .f64 y with
    | true =>
      rw [hsg] at hsv
      simp only [if_true] at hsv ⊢
      rw [hsv, Int.neg_mul, ← hcast]
      have := hWd.2
      rw [Nat.add_mul, Nat.one_mul] at this
      omega
    | false =>
      rw [hsg] at hsv
      simp only [Bool.false_eq_true, if_false] at hsv ⊢
      have hm0 : m * 2 ^ e = 0 := by omega
      have hw0 : W * U = 0 := by omega
      rw [← hcast, hw0, hsv, hm0]
      simp
      omega

/-- The part of a turn is from 0 to 1. -/
theorem part_in {y : Nat} (h : isNum .f64 y = true) (hh : huge y = false) : isNum .f64 (part y) = true ∧ 0 ≤ fv .f64 (part y) ∧ fv .f64 (part y) ≤ (U : Int) := by
  have hU := U_pos
  obtain ⟨n, _, _, _, _, w1, w2, w3⟩ := whole_ok h hh
  have hd : (fv .f64 y - fv .f64 (whole y)).natAbs ≤ U := by
    rcases Int.le_total 0 (fv .f64 y) with hp | hp
    · have := w2 hp; omega
    · have := w3 hp; omega
  obtain ⟨s1, s2, s3, s4, _⟩ := subB (z := one64) h w1 (by rw [rv_one]; exact hd) one_inf
  rw [rv_one] at s2
  unfold part
  rw [fcmp_num_lss s1 zero64_num.1, zero64_num.2]
  generalize fop .sub .f64 y (whole y) = D at s1 s2 s3 s4 ⊢
  by_cases hneg : fv .f64 D < 0
  · rw [decide_eq_true hneg, cond_true]
    obtain ⟨a1, a2, a3, _⟩ := addB (z := one64) s1 one_num (by rw [rv_one, fv_one]; omega) one_inf
    rw [rv_one] at a2
    rw [fv_one] at a3
    have a3 := a3 (by omega)
    exact ⟨a1, a3, by omega⟩
  · rw [decide_eq_false hneg, cond_false]
    exact ⟨s1, by omega, by omega⟩

/-! ### The sine -/
def half64 : Nat := 4602678819172646912
def quarter64 : Nat := 4598175219545276416
def two64 : Nat := 4611686018427387904
def four64 : Nat := 4616189618054758400
def tau64 : Nat := 4618760256179416344
def sinStep (u : Nat) (p kk : Nat) : Nat := fop .sub .f64 one64 (fop .quo .f64 (fop .mul .f64 u p) kk)
def sinKs : List Nat := [4643492690795692032, 4641592734702895104, 4639692778610098176, 4637440978796412928, 4634766966517661696, 4631107791820423168, 4626322717216342016, 4618441417868443648]
def sinPoly (u p : Nat) : Nat := sinKs.foldl (sinStep u) p
def low1 (f : Nat) : Nat := bif fcmp .geq .f64 f half64 then fop .sub .f64 f half64 else f
def low2 (f : Nat) : Nat := bif fcmp .gtr .f64 (low1 f) quarter64 then fop .sub .f64 half64 (low1 f) else low1 f
def sinArm (f : Nat) : Nat := fop .mul .f64 (low2 f) tau64
def sinVal (f : Nat) : Nat := fop .mul .f64 (sinArm f) (sinPoly (fop .mul .f64 (sinArm f) (sinArm f)) one64)
def sinCore (f : Nat) : Nat := bif fcmp .geq .f64 f half64 then fneg .f64 (sinVal f) else sinVal f
def sineW (y : Nat) : Nat := bif fcmp .neq .f64 (fop .sub .f64 y y) 0 then nanOf .f64 else bif huge y then 0 else sinCore (part y)

theorem sinKs_ok : sinKs.all (fun kk => isNum .f64 kk && decide (4 * (U : Int) ≤ fv .f64 kk)) = true := by decide +kernel
theorem rv_four : rv FloatKind.f64.format four64 = 4 * U := by decide +kernel
theorem rv_two : rv FloatKind.f64.format two64 = 2 * U := by decide +kernel
theorem four_inf : four64 < FloatKind.f64.format.infRung := by decide +kernel
theorem two_inf : two64 < FloatKind.f64.format.infRung := by decide +kernel

theorem sinStep_in {u p kk : Nat} (hu : isNum .f64 u = true) (hu1 : 0 ≤ fv .f64 u) (hu2 : fv .f64 u ≤ 4 * (U : Int)) (hp : isNum .f64 p = true) (hp1 : 0 ≤ fv .f64 p) (hp2 : fv .f64 p ≤ (U : Int)) (hk : isNum .f64 kk = true) (hk1 : 4 * (U : Int) ≤ fv .f64 kk) :
    isNum .f64 (sinStep u p kk) = true ∧ 0 ≤ fv .f64 (sinStep u p kk) ∧ fv .f64 (sinStep u p kk) ≤ (U : Int) := by
  have hU := U_pos
  obtain ⟨m1, m2, m3, _⟩ := mulB (z := four64) (X := 4 * U) (Y := U) hu hp (by omega) (by omega) (by rw [rv_four, U_eq]; exact Nat.le_refl _) four_inf
  have m3 := m3 hu1 hp1
  rw [rv_four] at m2
  obtain ⟨q1, q2, q3, _⟩ := quoB (z := one64) m1 hk (by omega) (by
    rw [rv_one, U_eq, Nat.mul_comm]
    exact Nat.mul_le_mul_left _ (by omega)) one_inf
  have q3 := q3 m3
  rw [rv_one] at q2
  obtain ⟨a1, a2, a3, _⟩ := subB (z := one64) one_num q1 (by rw [rv_one, fv_one]; omega) one_inf
  rw [rv_one] at a2
  rw [fv_one] at a3
  have a3 := a3 (by omega)
  exact ⟨a1, a3, by unfold sinStep; omega⟩

theorem sinFold_in {u : Nat} (hu : isNum .f64 u = true) (hu1 : 0 ≤ fv .f64 u) (hu2 : fv .f64 u ≤ 4 * (U : Int)) : ∀ (l : List Nat), l.all (fun kk => isNum .f64 kk && decide (4 * (U : Int) ≤ fv .f64 kk)) = true → ∀ p, isNum .f64 p = true → 0 ≤ fv .f64 p → fv .f64 p ≤ (U : Int) →
    isNum .f64 (l.foldl (sinStep u) p) = true ∧ 0 ≤ fv .f64 (l.foldl (sinStep u) p) ∧ fv .f64 (l.foldl (sinStep u) p) ≤ (U : Int)
  | [], _, p, h1, h2, h3 => ⟨h1, h2, h3⟩
  | kk :: l, h, p, h1, h2, h3 => by
    rw [List.all_cons, Bool.and_eq_true, Bool.and_eq_true, decide_eq_true_eq] at h
    obtain ⟨a, b, c⟩ := sinStep_in hu hu1 hu2 h1 h2 h3 h.1.1 h.1.2
    exact sinFold_in hu hu1 hu2 l h.2 _ a b c

theorem half_num : isNum .f64 half64 = true ∧ 2 * fv .f64 half64 = (U : Int) := by decide +kernel
theorem quarter_num : isNum .f64 quarter64 = true ∧ 4 * fv .f64 quarter64 = (U : Int) := by decide +kernel
theorem tau_num : isNum .f64 tau64 = true ∧ 0 ≤ fv .f64 tau64 := by decide +kernel
theorem half_inf : half64 < FloatKind.f64.format.infRung := by decide +kernel
theorem quarter_inf : quarter64 < FloatKind.f64.format.infRung := by decide +kernel
theorem rv_half : (rv FloatKind.f64.format half64 : Int) = fv .f64 half64 := by decide +kernel
theorem rv_quarter : (rv FloatKind.f64.format quarter64 : Int) = fv .f64 quarter64 := by decide +kernel

theorem low1_in {f : Nat} (h : isNum .f64 f = true) (h1 : 0 ≤ fv .f64 f) (h2 : fv .f64 f ≤ (U : Int)) : isNum .f64 (low1 f) = true ∧ 0 ≤ fv .f64 (low1 f) ∧ fv .f64 (low1 f) ≤ fv .f64 half64 := by
  have hh := half_num.2
  unfold low1
  rw [fcmp_num_geq h half_num.1]
  by_cases c : fv .f64 half64 ≤ fv .f64 f
  · rw [decide_eq_true c, cond_true]
    obtain ⟨a1, a2, a3, _⟩ := subB (z := half64) h half_num.1 (by have := rv_half; omega) half_inf
    have := rv_half
    exact ⟨a1, a3 (by omega), by omega⟩
  · rw [decide_eq_false c, cond_false]
    exact ⟨h, h1, by omega⟩

theorem low2_in {f : Nat} (h : isNum .f64 f = true) (h1 : 0 ≤ fv .f64 f) (h2 : fv .f64 f ≤ (U : Int)) : isNum .f64 (low2 f) = true ∧ 0 ≤ fv .f64 (low2 f) ∧ fv .f64 (low2 f) ≤ fv .f64 quarter64 := by
  have hh := half_num.2
  have hq := quarter_num.2
  obtain ⟨b1, b2, b3⟩ := low1_in h h1 h2
  unfold low2
  rw [gtr_fv b1 quarter_num.1]
  by_cases c : fv .f64 quarter64 < fv .f64 (low1 f)
  · rw [decide_eq_true c, cond_true]
    obtain ⟨a1, a2, a3, _⟩ := subB (z := quarter64) half_num.1 b1 (by have := rv_quarter; omega) quarter_inf
    have := rv_quarter
    exact ⟨a1, a3 (by omega), by omega⟩
  · rw [decide_eq_false c, cond_false]
    exact ⟨b1, b2, by omega⟩

theorem sinVal_in {f : Nat} (h : isNum .f64 f = true) (h1 : 0 ≤ fv .f64 f) (h2 : fv .f64 f ≤ (U : Int)) : isNum .f64 (sinVal f) = true ∧ 0 ≤ fv .f64 (sinVal f) ∧ fv .f64 (sinVal f) ≤ 2 * (U : Int) := by
  have hU := U_pos
  obtain ⟨b1, b2, b3⟩ := low2_in h h1 h2
  have hrq := rv_quarter
  have harm : isNum .f64 (sinArm f) = true ∧ 0 ≤ fv .f64 (sinArm f) ∧ fv .f64 (sinArm f) ≤ 2 * (U : Int) := by
    obtain ⟨m1, m2, m3, _⟩ := mulB (z := two64) (X := rv FloatKind.f64.format quarter64) (Y := (fv .f64 tau64).natAbs) b1 tau_num.1 (by omega) (Nat.le_refl _) (by decide +kernel) two_inf
    rw [rv_two] at m2
    exact ⟨m1, m3 b2 tau_num.2, by unfold sinArm; omega⟩
  obtain ⟨c1, c2, c3⟩ := harm
  obtain ⟨u1, u2, u3, _⟩ := mulB (z := four64) (X := 2 * U) (Y := 2 * U) c1 c1 (by omega) (by omega) (by rw [rv_four, U_eq]; exact Nat.le_of_eq (by rw [Nat.mul_mul_mul_comm, Nat.mul_assoc 4 U U])) four_inf
  rw [rv_four] at u2
  have u3 := u3 c2 c2
  obtain ⟨p1, p2, p3⟩ := sinFold_in u1 u3 (by omega) sinKs sinKs_ok one64 one_num (by rw [fv_one]; omega) (by rw [fv_one]; omega)
  have hp : isNum .f64 (sinPoly (fop .mul .f64 (sinArm f) (sinArm f)) one64) = true ∧ 0 ≤ fv .f64 (sinPoly (fop .mul .f64 (sinArm f) (sinArm f)) one64) ∧ fv .f64 (sinPoly (fop .mul .f64 (sinArm f) (sinArm f)) one64) ≤ (U : Int) := ⟨p1, p2, p3⟩
  obtain ⟨p1, p2, p3⟩ := hp
  obtain ⟨v1, v2, v3, _⟩ := mulB (z := two64) (X := 2 * U) (Y := U) c1 p1 (by omega) (by omega) (by rw [rv_two, U_eq]; exact Nat.le_refl _) two_inf
  rw [rv_two] at v2
  exact ⟨v1, v3 c2 p2, by unfold sinVal; omega⟩

theorem fneg_fv {k : FloatKind} {w : Nat} (h : isNum k w = true) : isNum k (fneg k w) = true ∧ (fv k (fneg k w)).natAbs = (fv k w).natAbs := by
  have hn : isN k w = false := by
    obtain ⟨m, e, h1, _⟩ := isNum_read h
    show (k.format.read w).isNaN = false
    rw [h1]
    rfl
  have e1 : fneg k w = w ^^^ k.format.signWeight := by unfold fneg; rw [hn]; rfl
  have hm : fneg k w % k.format.signWeight = w % k.format.signWeight := by rw [e1]; exact negFloat_mod _ _
  have hlt := isNum_lt h
  refine ⟨isNum_of_lt (by rw [hm]; exact hlt), ?_⟩
  have key : ∀ x : Nat, (fv k x).natAbs = rv k.format (x % k.format.signWeight) := by
    intro x
    unfold fv
    cases sgn k x <;> simp
  rw [key, key, hm]

/-- The sine of a part of a turn lies between -2 and 2. -/
theorem sinCore_in {f : Nat} (h : isNum .f64 f = true) (h1 : 0 ≤ fv .f64 f) (h2 : fv .f64 f ≤ (U : Int)) : isNum .f64 (sinCore f) = true ∧ (fv .f64 (sinCore f)).natAbs ≤ 2 * U := by
  obtain ⟨v1, v2, v3⟩ := sinVal_in h h1 h2
  unfold sinCore
  cases fcmp .geq .f64 f half64 with
  | true =>
    obtain ⟨n1, n2⟩ := fneg_fv v1
    exact ⟨n1, by rw [cond_true, n2]; omega⟩
  | false => exact ⟨v1, by rw [cond_false]; omega⟩

theorem narrow_two {c : Nat} (h : isNum .f64 c = true) (hb : (fv .f64 c).natAbs ≤ 2 * U) : ∃ r, fconv .f64 .f32 c = some r := by
  refine narrow_some h ?_
  have : 2 * U ≤ rv FloatKind.f64.format 5179139571476070400 := by decide +kernel
  omega

theorem sub_self_fin {k : FloatKind} (y : Nat) : fcmp .neq k (fop .sub k y y) 0 = !isNum k y := by
  rcases word_kind k y with h | ⟨s, h⟩ | h
  · obtain ⟨q, s, he, _, _, _, hle, _⟩ := fop_sub h h
    rw [h]
    have hq : s = 0 := by
      have := hle 0 (by simp)
      omega
    subst hq
    rw [he]
    cases k <;> cases q <;> decide +kernel
  · have hn : isNum k y = false := by
      unfold isNum
      rw [h]
    have : fop .sub k y y = nanOf k := by
      have h2 : floatBits .sub k y y = none := by
        show k.format.sub y y = none
        unfold Format.sub
        rw [h]
        cases s <;> rfl
      unfold fop
      rw [h2]
      rfl
    rw [hn, this]
    cases k <;> decide +kernel
  · have hn : isNum k y = false := by
      unfold isNum
      have : (k.format.read y).isNaN = true := h
      cases hr : k.format.read y with
      | nan _ _ => rfl
      | infinity _ => exact absurd this (by rw [hr]; exact Bool.false_ne_true)
      | number _ _ _ => exact absurd this (by rw [hr]; exact Bool.false_ne_true)
    rw [hn, fop_nan_l h]
    cases k <;> decide +kernel

/-- **THE SINE CAN BE NARROWED.** -/
theorem sineW_narrow (y : Nat) : ∃ r, fconv .f64 .f32 (sineW y) = some r := by
  unfold sineW
  rw [sub_self_fin]
  cases hn : isNum .f64 y with
  | false => exact ⟨_, narrow_nan (isN_nanOf .f64)⟩
  | true =>
    cases hh : huge y with
    | true =>
      simp only [Bool.not_true, cond_false, cond_true]
      exact ⟨0, by decide +kernel⟩
    | false =>
      obtain ⟨p1, p2, p3⟩ := part_in hn hh
      obtain ⟨c1, c2⟩ := sinCore_in p1 p2 p3
      exact narrow_two c1 c2

end Go.Sm
