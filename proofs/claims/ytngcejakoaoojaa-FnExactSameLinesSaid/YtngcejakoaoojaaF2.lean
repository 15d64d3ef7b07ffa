/- Floats by their rungs: what a word stands for as a whole number, how rounding keeps order. -/
import Derived.Test.YtngcejakoaoojaaF1
namespace Go.Sm
open Go Ieee

variable {f : Format}

/-- The magnitude at a rung, in units of the least place. -/
def rv (f : Format) (r : Nat) : Nat := if r < f.binade then r else (f.binade + r % f.binade) * 2 ^ (r / f.binade - 1)

theorem binade_pos (f : Format) : 0 < f.binade := Nat.two_pow_pos _

theorem rung_split (f : Format) (r : Nat) : ∃ m e, r = e * f.binade + m ∧ m < 2 * f.binade ∧ (0 < e → f.binade ≤ m) ∧ rv f r = m * 2 ^ e := by
  have hb := binade_pos f
  unfold rv
  by_cases h : r < f.binade
  · exact ⟨r, 0, by omega, by omega, fun h => absurd h (by omega), by simp [h]⟩
  · have h1 : 1 ≤ r / f.binade := (Nat.le_div_iff_mul_le hb).2 (by omega)
    have h2 := Nat.div_add_mod r f.binade
    have h3 := Nat.mod_lt r hb
    refine ⟨f.binade + r % f.binade, r / f.binade - 1, ?_, by omega, fun _ => by omega, by simp [h]⟩
    have h4 : (r / f.binade - 1) * f.binade + f.binade = r / f.binade * f.binade := by
      rw [← Nat.succ_mul]
      congr 1
      omega
    rw [Nat.mul_comm] at h2
    omega

theorem split_lt {b m e m' e' : Nat} (h1 : m < 2 * b) (h1' : 0 < e' → b ≤ m') (h2' : m' < 2 * b) (h2 : 0 < e → b ≤ m) (h : e * b + m < e' * b + m') : m * 2 ^ e < m' * 2 ^ e' := by
  rcases Nat.lt_trichotomy e e' with he | he | he
  · have h3 : m * 2 ^ e < 2 * b * 2 ^ e := Nat.mul_lt_mul_of_pos_right h1 (Nat.two_pow_pos _)
    have h4 : 2 * b * 2 ^ e = b * 2 ^ (e + 1) := by rw [Nat.pow_succ, Nat.mul_comm 2 b, Nat.mul_assoc, Nat.mul_comm 2]
    have h5 : b * 2 ^ (e + 1) ≤ m' * 2 ^ e' := Nat.mul_le_mul (h1' (by omega)) (Nat.pow_le_pow_right (by decide) he)
    omega
  · subst he
    exact Nat.mul_lt_mul_of_pos_right (by omega) (Nat.two_pow_pos _)
  · have h3 : (e' + 1) * b ≤ e * b := Nat.mul_le_mul_right _ he
    rw [Nat.succ_mul] at h3
    have := h2 (by omega)
    omega

theorem rv_lt {a b : Nat} (h : a < b) : rv f a < rv f b := by
  obtain ⟨m, e, h1, h2, h3, h4⟩ := rung_split f a
  obtain ⟨m', e', h1', h2', h3', h4'⟩ := rung_split f b
  rw [h4, h4']
  exact split_lt h2 h3' h2' h3 (by omega)

theorem rv_le {a b : Nat} (h : a ≤ b) : rv f a ≤ rv f b := by
  rcases Nat.lt_or_ge a b with h1 | h1
  · exact Nat.le_of_lt (rv_lt h1)
  · rw [show a = b by omega]; exact Nat.le_refl _

theorem rv_inj {a b : Nat} (h : rv f a = rv f b) : a = b := by
  rcases Nat.lt_trichotomy a b with h1 | h1 | h1
  · have := rv_lt (f := f) h1; omega
  · exact h1
  · have := rv_lt (f := f) h1; omega

theorem rv_lt_iff {a b : Nat} : rv f a < rv f b ↔ a < b := by
  constructor
  · intro h
    rcases Nat.lt_or_ge a b with h1 | h1
    · exact h1
    · have := rv_le (f := f) h1; omega
  · exact rv_lt

theorem rv_zero (f : Format) : rv f 0 = 0 := by unfold rv; simp [binade_pos f]

/-- The rung that a magnitude is rounded to. -/
def nrung (f : Format) (mag : Nat) (place : Int) : Nat :=
  if mag = 0 then 0 else min ((max (place + mag.log2 - f.fractionBits) f.leastPlace - f.leastPlace).toNat * f.binade + Toward.even.cut false (mag <<< (place - max (place + mag.log2 - f.fractionBits) f.leastPlace).toNat) (max (place + mag.log2 - f.fractionBits) f.leastPlace - place).toNat) f.infRung

theorem nearest_eq (f : Format) (neg : Bool) (mag : Nat) (place : Int) : f.nearest neg mag place = f.word neg (nrung f mag place) := by
  unfold Format.nearest nrung
  split <;> rfl

theorem cut_ge {neg : Bool} {n drop B : Nat} (h : B * 2 ^ drop ≤ n) : B ≤ Toward.even.cut neg n drop := by
  unfold Toward.cut
  dsimp only
  rw [Nat.one_shiftLeft]
  rcases Nat.le_total drop (n.log2 + 2) with hd | hd
  · rw [Nat.min_eq_left hd]
    have hg := Nat.two_pow_pos drop
    have h1 : B ≤ n / 2 ^ drop := (Nat.le_div_iff_mul_le hg).2 h
    omega
  · have hB : B = 0 := by
      rcases Nat.eq_zero_or_pos B with h0 | h0
      · exact h0
      · exfalso
        have h1 : n < 2 ^ (n.log2 + 1) := Nat.lt_log2_self
        have h2 : 2 ^ (n.log2 + 1) ≤ 2 ^ drop := Nat.pow_le_pow_right (by decide) (by omega)
        have h3 : 2 ^ drop ≤ B * 2 ^ drop := Nat.le_mul_of_pos_left _ h0
        omega
    rw [hB]
    exact Nat.zero_le _

/-- **ROUNDING GOES NOT ABOVE A RUNG THAT IS NOT BELOW.** -/
theorem nrung_le {mag : Nat} {place : Int} {b k1 k2 : Nat} (hk : (k1 : Int) - (k2 : Int) = place - f.leastPlace) (h : mag * 2 ^ k1 ≤ rv f b * 2 ^ k2) : nrung f mag place ≤ b := by
  unfold nrung
  split
  · exact Nat.zero_le _
  rename_i hm
  obtain ⟨mb, eb, hb1, hb2, hb3, hb4⟩ := rung_split f b
  have hB : f.binade = 2 ^ f.fractionBits := rfl
  have hL : 2 ^ mag.log2 ≤ mag := Nat.log2_self_le hm
  have hL2 : mag < 2 ^ (mag.log2 + 1) := Nat.lt_log2_self
  generalize hlast : max (place + (mag.log2 : Int) - f.fractionBits) f.leastPlace = last
  refine Nat.le_trans (Nat.min_le_left _ _) ?_
  obtain ⟨el, hel⟩ : ∃ el : Nat, last = f.leastPlace + el := ⟨(last - f.leastPlace).toNat, by omega⟩
  have he : (last - f.leastPlace).toNat = el := by omega
  rw [he, hb1]
  rw [hb4, Nat.mul_assoc, ← Nat.pow_add] at h
  rcases Nat.lt_trichotomy el eb with h1 | h1 | h1
  · -- the last digit lies lower
    have hkept : Toward.even.cut false (mag <<< (place - last).toNat) (last - place).toNat ≤ 2 * f.binade := by
      refine cut_le ?_
      rw [Nat.shiftLeft_eq, hB, ← Nat.pow_succ', ← Nat.pow_add]
      have h2 : mag * 2 ^ (place - last).toNat ≤ 2 ^ (mag.log2 + 1) * 2 ^ (place - last).toNat := Nat.mul_le_mul_right _ (Nat.le_of_lt hL2)
      rw [← Nat.pow_add] at h2
      exact Nat.le_trans h2 (Nat.pow_le_pow_right (by decide) (by omega))
    have h2 := hb3 (by omega)
    have h3 : (el + 1) * f.binade ≤ eb * f.binade := Nat.mul_le_mul_right _ h1
    rw [Nat.succ_mul] at h3
    omega
  · subst h1
    refine Nat.add_le_add_left ?_ _
    refine cut_le ?_
    rw [Nat.shiftLeft_eq]
    -- both sides by 2 ^ (k2 + ..)
    rcases Int.le_total place last with h2 | h2
    · have h3 : (place - last).toNat = 0 := by omega
      rw [h3, Nat.pow_zero, Nat.mul_one]
      have h4 : el + k2 = k1 + (last - place).toNat := by omega
      rw [h4, Nat.add_comm, Nat.pow_add, ← Nat.mul_assoc] at h
      exact Nat.le_of_mul_le_mul_right h (Nat.two_pow_pos _)
    · have h3 : (last - place).toNat = 0 := by omega
      rw [h3, Nat.pow_zero, Nat.mul_one]
      have h4 : k1 = (place - last).toNat + (el + k2) := by omega
      rw [h4, Nat.pow_add, ← Nat.mul_assoc] at h
      exact Nat.le_of_mul_le_mul_right h (Nat.two_pow_pos _)
  · exfalso
    have h2 : last = place + (mag.log2 : Int) - f.fractionBits := by omega
    have h3 : 2 ^ (mag.log2 + k1) ≤ mag * 2 ^ k1 := by rw [Nat.pow_add]; exact Nat.mul_le_mul_right _ hL
    have h4 : mb * 2 ^ (eb + k2) < 2 ^ (f.fractionBits + 1) * 2 ^ (eb + k2) := by
      refine Nat.mul_lt_mul_of_pos_right ?_ (Nat.two_pow_pos _)
      rw [Nat.pow_succ']
      exact hb2
    rw [← Nat.pow_add] at h4
    have h5 : 2 ^ (f.fractionBits + 1 + (eb + k2)) ≤ 2 ^ (mag.log2 + k1) := Nat.pow_le_pow_right (by decide) (by omega)
    omega

/-- **NOR BELOW ONE THAT IS NOT ABOVE.** -/
theorem nrung_ge {mag : Nat} {place : Int} {b k1 k2 : Nat} (hk : (k1 : Int) - (k2 : Int) = place - f.leastPlace) (h : rv f b * 2 ^ k2 ≤ mag * 2 ^ k1) (hinf : b ≤ f.infRung) : b ≤ nrung f mag place := by
  unfold nrung
  split
  · rename_i hm
    subst hm
    have h1 : rv f b * 2 ^ k2 = 0 := by simpa using h
    rcases Nat.mul_eq_zero.1 h1 with h2 | h2
    · have := rv_inj (f := f) (h2.trans (rv_zero f).symm)
      omega
    · have := Nat.two_pow_pos k2
      omega
  rename_i hm
  obtain ⟨mb, eb, hb1, hb2, hb3, hb4⟩ := rung_split f b
  have hB : f.binade = 2 ^ f.fractionBits := rfl
  have hL : 2 ^ mag.log2 ≤ mag := Nat.log2_self_le hm
  have hL2 : mag < 2 ^ (mag.log2 + 1) := Nat.lt_log2_self
  generalize hlast : max (place + (mag.log2 : Int) - f.fractionBits) f.leastPlace = last
  refine Nat.le_min.2 ⟨?_, hinf⟩
  obtain ⟨el, hel⟩ : ∃ el : Nat, last = f.leastPlace + el := ⟨(last - f.leastPlace).toNat, by omega⟩
  have he : (last - f.leastPlace).toNat = el := by omega
  rw [he, hb1]
  rw [hb4, Nat.mul_assoc, ← Nat.pow_add] at h
  rcases Nat.lt_trichotomy el eb with h1 | h1 | h1
  · exfalso
    have h2 := hb3 (by omega)
    have h3 : mag * 2 ^ k1 < 2 ^ (mag.log2 + 1) * 2 ^ k1 := Nat.mul_lt_mul_of_pos_right hL2 (Nat.two_pow_pos _)
    rw [← Nat.pow_add] at h3
    have h4 : f.binade * 2 ^ (eb + k2) ≤ mb * 2 ^ (eb + k2) := Nat.mul_le_mul_right _ h2
    rw [hB, ← Nat.pow_add] at h4
    have h5 : 2 ^ (mag.log2 + 1 + k1) ≤ 2 ^ (f.fractionBits + (eb + k2)) := Nat.pow_le_pow_right (by decide) (by omega)
    omega
  · subst h1
    refine Nat.add_le_add_left ?_ _
    refine cut_ge ?_
    rw [Nat.shiftLeft_eq]
    rcases Int.le_total place last with h2 | h2
    · have h3 : (place - last).toNat = 0 := by omega
      rw [h3, Nat.pow_zero, Nat.mul_one]
      have h4 : el + k2 = k1 + (last - place).toNat := by omega
      rw [h4, Nat.add_comm k1, Nat.pow_add, ← Nat.mul_assoc] at h
      exact Nat.le_of_mul_le_mul_right h (Nat.two_pow_pos _)
    · have h3 : (last - place).toNat = 0 := by omega
      rw [h3, Nat.pow_zero, Nat.mul_one]
      have h4 : k1 = (place - last).toNat + (el + k2) := by omega
      rw [h4, Nat.pow_add 2 (place - last).toNat, ← Nat.mul_assoc] at h
      exact Nat.le_of_mul_le_mul_right h (Nat.two_pow_pos _)
  · have h2 : last = place + (mag.log2 : Int) - f.fractionBits := by omega
    have hkept : f.binade ≤ Toward.even.cut false (mag <<< (place - last).toNat) (last - place).toNat := by
      refine cut_ge ?_
      rw [Nat.shiftLeft_eq, hB, ← Nat.pow_add]
      have h3 : 2 ^ mag.log2 * 2 ^ (place - last).toNat ≤ mag * 2 ^ (place - last).toNat := Nat.mul_le_mul_right _ hL
      rw [← Nat.pow_add] at h3
      exact Nat.le_trans (Nat.pow_le_pow_right (by decide) (by omega)) h3
    have h3 : (eb + 1) * f.binade ≤ el * f.binade := Nat.mul_le_mul_right _ h1
    rw [Nat.succ_mul] at h3
    omega

theorem nrung_exact {mag : Nat} {place : Int} {b k1 k2 : Nat} (hk : (k1 : Int) - (k2 : Int) = place - f.leastPlace) (h : rv f b * 2 ^ k2 = mag * 2 ^ k1) (hinf : b ≤ f.infRung) : nrung f mag place = b :=
  Nat.le_antisymm (nrung_le hk (Nat.le_of_eq h.symm)) (nrung_ge hk (Nat.le_of_eq h) hinf)

theorem nrung_inf (f : Format) (mag : Nat) (place : Int) : nrung f mag place ≤ f.infRung := by
  unfold nrung
  split
  · exact Nat.zero_le _
  · exact Nat.min_le_right _ _

/-! ### Words -/

theorem word_mod (f : Format) (neg : Bool) {r : Nat} (h : r < f.signWeight) : f.word neg r % f.signWeight = r := by
  unfold Format.word
  cases neg
  · exact Nat.mod_eq_of_lt h
  · simp [Nat.mod_eq_of_lt h]

theorem word_sign (f : Format) (neg : Bool) {r : Nat} (h : r < f.signWeight) : (f.word neg r / f.signWeight % 2 == 1) = neg := by
  have hp : 0 < f.signWeight := Nat.two_pow_pos _
  unfold Format.word
  cases neg
  · simp [Nat.div_eq_of_lt h]
  · simp only [if_true]
    rw [Nat.add_div_left _ hp, Nat.div_eq_of_lt h]
    rfl

/-- What a word below the rung of infinity stands for. -/
theorem read_rung (f : Format) {w : Nat} (h : w % f.signWeight < f.infRung) : ∃ m e : Nat, f.read w = .number (w / f.signWeight % 2 == 1) m (f.leastPlace + (e : Int)) ∧ rv f (w % f.signWeight) = m * 2 ^ e := by
  unfold Format.read
  dsimp only
  by_cases h1 : w % f.signWeight < f.binade
  · rw [if_pos h1]
    exact ⟨w % f.signWeight, 0, by simp, by unfold rv; simp [h1]⟩
  · rw [if_neg h1, if_pos h]
    exact ⟨_, _, rfl, by unfold rv; simp [h1]⟩

theorem binade_le (k : FloatKind) : k.format.binade ≤ k.format.infRung := by cases k <;> decide

theorem read_number_rung {k : FloatKind} {w : Nat} {s : Bool} {m : Nat} {i : Int} (h : k.format.read w = .number s m i) :
    w % k.format.signWeight < k.format.infRung ∧ s = (w / k.format.signWeight % 2 == 1) ∧ ∃ e : Nat, i = k.format.leastPlace + (e : Int) ∧ rv k.format (w % k.format.signWeight) = m * 2 ^ e := by
  have hlt : w % k.format.signWeight < k.format.infRung := by
    have hb := binade_le k
    unfold Format.read at h
    dsimp only at h
    split at h
    · omega
    · split at h
      · assumption
      · split at h <;> cases h
  obtain ⟨m', e, h1, h2⟩ := read_rung k.format hlt
  rw [h] at h1
  cases h1
  exact ⟨hlt, rfl, e, rfl, h2⟩

/-! ### The value of a word, as a whole number of least places -/

/-- A word that stands for a number. -/
def isNum (k : FloatKind) (w : Nat) : Bool := match k.format.read w with
  | .number .. => true
  | _ => false

def sgn (k : FloatKind) (w : Nat) : Bool := w / k.format.signWeight % 2 == 1
def fv (k : FloatKind) (w : Nat) : Int := if sgn k w then -(rv k.format (w % k.format.signWeight) : Int) else (rv k.format (w % k.format.signWeight) : Int)

theorem isNum_read {k : FloatKind} {w : Nat} (h : isNum k w = true) : ∃ m e : Nat, k.format.read w = .number (sgn k w) m (k.format.leastPlace + (e : Int)) ∧ rv k.format (w % k.format.signWeight) = m * 2 ^ e := by
  unfold isNum at h
  split at h
  · rename_i s m i hr
    obtain ⟨h1, h2, e, h3, h4⟩ := read_number_rung hr
    refine ⟨m, e, ?_, h4⟩
    rw [hr, h2, h3]
    rfl
  · cases h

theorem isNum_lt {k : FloatKind} {w : Nat} (h : isNum k w = true) : w % k.format.signWeight < k.format.infRung := by
  unfold isNum at h
  split at h
  · rename_i s m i hr
    exact (read_number_rung hr).1
  · cases h

theorem isNum_of_lt {k : FloatKind} {w : Nat} (h : w % k.format.signWeight < k.format.infRung) : isNum k w = true := by
  obtain ⟨m, e, h1, _⟩ := read_rung k.format h
  unfold isNum
  rw [h1]

theorem signed_mul (s : Bool) (m e b : Nat) : signed s m (e + b) = signed s m e * 2 ^ b := by
  unfold signed
  rw [Nat.shiftLeft_eq, Nat.shiftLeft_eq, Nat.pow_add, ← Nat.mul_assoc]
  cases s
  · simp
  · simp [Int.neg_mul]

theorem fv_read {k : FloatKind} {w : Nat} {s : Bool} {m : Nat} {i : Int} (h : k.format.read w = .number s m i) : fv k w = signed s m (i - k.format.leastPlace).toNat := by
  obtain ⟨h1, h2, e, h3, h4⟩ := read_number_rung h
  unfold fv sgn signed
  rw [← h2, h4, h3, Nat.shiftLeft_eq]
  have : (k.format.leastPlace + (e : Int) - k.format.leastPlace).toNat = e := by omega
  rw [this]

/-- The order of two numbers is that of their values. -/
theorem order_fv {k : FloatKind} {x y : Nat} (hx : isNum k x = true) (hy : isNum k y = true) : k.format.order x y = some (compare (fv k x) (fv k y)) := by
  obtain ⟨m, e, h1, h2⟩ := isNum_read hx
  obtain ⟨n, e', h3, h4⟩ := isNum_read hy
  rw [fv_read h1, fv_read h3]
  unfold Format.order
  rw [h1, h3]
  simp only [Datum.order]
  congr 1
  have q1 : (k.format.leastPlace + (e : Int) - k.format.leastPlace).toNat = e := by omega
  have q2 : (k.format.leastPlace + (e' : Int) - k.format.leastPlace).toNat = e' := by omega
  rw [q1, q2]
  have key : ∀ (b : Nat) (u v : Int), compare u v = compare (u * 2 ^ b) (v * 2 ^ b) := by
    intro b u v
    have hp : (0 : Int) < 2 ^ b := Int.pow_pos (by decide)
    show compareOfLessAndEq u v = compareOfLessAndEq (u * 2 ^ b) (v * 2 ^ b)
    unfold compareOfLessAndEq
    have l1 : u * 2 ^ b < v * 2 ^ b ↔ u < v := Int.mul_lt_mul_right hp
    have l2 : u * 2 ^ b = v * 2 ^ b ↔ u = v := Int.mul_eq_mul_right_iff (Int.ne_of_gt hp)
    simp only [l1, l2]
  rcases Nat.le_total e e' with h | h
  · have b1 : (k.format.leastPlace + (e : Int) - min (k.format.leastPlace + (e : Int)) (k.format.leastPlace + (e' : Int))).toNat = 0 := by omega
    have b2 : (k.format.leastPlace + (e' : Int) - min (k.format.leastPlace + (e : Int)) (k.format.leastPlace + (e' : Int))).toNat = e' - e := by omega
    rw [b1, b2, key e, ← signed_mul, ← signed_mul, Nat.zero_add, Nat.sub_add_cancel h]
  · have b1 : (k.format.leastPlace + (e : Int) - min (k.format.leastPlace + (e : Int)) (k.format.leastPlace + (e' : Int))).toNat = e - e' := by omega
    have b2 : (k.format.leastPlace + (e' : Int) - min (k.format.leastPlace + (e : Int)) (k.format.leastPlace + (e' : Int))).toNat = 0 := by omega
    rw [b1, b2, key e', ← signed_mul, ← signed_mul, Nat.zero_add, Nat.sub_add_cancel h]

/-- Numbers of one value, not zero: one word. -/
theorem fv_inj {k : FloatKind} {x y : Nat} (hx : x < 2 * k.format.signWeight) (hy : y < 2 * k.format.signWeight) (h : fv k x = fv k y) (h0 : fv k x ≠ 0) : x = y := by
  have hp : 0 < k.format.signWeight := Nat.two_pow_pos _
  have key : sgn k x = sgn k y ∧ x % k.format.signWeight = y % k.format.signWeight := by
    unfold fv at h h0
    cases h1 : sgn k x <;> cases h2 : sgn k y <;> simp only [h1, h2, Bool.false_eq_true, if_false, if_true] at h h0
    · exact ⟨rfl, rv_inj (f := k.format) (by omega)⟩
    · omega
    · omega
    · exact ⟨rfl, rv_inj (f := k.format) (by omega)⟩
  obtain ⟨h1, h2⟩ := key
  have d1 := Nat.div_add_mod x k.format.signWeight
  have d2 := Nat.div_add_mod y k.format.signWeight
  have b1 : x / k.format.signWeight < 2 := Nat.div_lt_of_lt_mul (by rw [Nat.mul_comm]; exact hx)
  have b2 : y / k.format.signWeight < 2 := Nat.div_lt_of_lt_mul (by rw [Nat.mul_comm]; exact hy)
  have e : x / k.format.signWeight = y / k.format.signWeight := by
    unfold sgn at h1
    have c1 : ∀ q : Nat, q < 2 → q = 0 ∨ q = 1 := fun q h => by omega
    rcases c1 _ b1 with h3 | h3 <;> rcases c1 _ b2 with h4 | h4 <;> simp [h3, h4] at h1 ⊢
  rw [← d1, ← d2, e, h2]

theorem fv_zero {k : FloatKind} {x : Nat} (h : fv k x = 0) : x % k.format.signWeight = 0 := by
  unfold fv at h
  refine rv_inj (f := k.format) ?_
  rw [rv_zero]
  split at h <;> omega

end Go.Sm
