/- Rounding to 32-bit floats: what is not too great stays finite. -/
import Derived.Laws.FloatBits
import Derived.Laws.FloatArith
namespace Go.Sm
open Go Ieee

theorem cut_le {neg : Bool} {n drop B : Nat} (h : n ≤ B * 2 ^ drop) : Toward.even.cut neg n drop ≤ B := by
  unfold Toward.cut
  dsimp only
  rw [Nat.one_shiftLeft]
  rcases Nat.le_total drop (n.log2 + 2) with hd | hd
  · rw [Nat.min_eq_left hd]
    have hg := Nat.two_pow_pos drop
    have h1 : n / 2 ^ drop ≤ B := by
      have := Nat.div_le_div_right (c := 2 ^ drop) h
      rwa [Nat.mul_div_cancel _ hg] at this
    rcases Nat.lt_or_ge (n / 2 ^ drop) B with h2 | h2
    · have : ∀ b : Bool, b.toNat ≤ 1 := fun b => by cases b <;> decide
      have := this (decide (2 ^ drop < 2 * (n % 2 ^ drop)) || 2 ^ drop == 2 * (n % 2 ^ drop) && n / 2 ^ drop % 2 == 1)
      omega
    · have h3 : n / 2 ^ drop = B := by omega
      have h4 := Nat.div_add_mod n (2 ^ drop)
      rw [h3, Nat.mul_comm] at h4
      have h5 : n % 2 ^ drop = 0 := by omega
      have h6 : ¬ 2 ^ drop < 2 * 0 := by omega
      have h7 : (2 ^ drop == 2 * 0) = false := beq_false_of_ne (by omega)
      rw [h5, h3, h7]
      simp [h6]
  · rw [Nat.min_eq_right hd]
    rcases Nat.eq_zero_or_pos n with h0 | h0
    · subst h0
      simp
    · have h1 : n < 2 ^ (n.log2 + 1) := Nat.lt_log2_self
      have h2 : 2 ^ (n.log2 + 2) = 2 * 2 ^ (n.log2 + 1) := by rw [Nat.pow_succ, Nat.mul_comm]
      have h3 : n / 2 ^ (n.log2 + 2) = 0 := Nat.div_eq_of_lt (by omega)
      have h4 : n % 2 ^ (n.log2 + 2) = n := Nat.mod_eq_of_lt (by omega)
      rw [h3, h4]
      have h6 : ¬ 2 ^ (n.log2 + 2) < 2 * n := by omega
      have h7 : (2 ^ (n.log2 + 2) == 2 * n) = false := beq_false_of_ne (by omega)
      rw [h7]
      simp [h6]

/-- A word below the rung of infinity stands for a number. -/
theorem read_word_number {neg : Bool} {r : Nat} (h : r < single.infRung) : ∃ s m e, single.read (single.word neg r) = .number s m e := by
  have hs : single.signWeight = 2147483648 := by decide
  have hi : single.infRung = 2139095040 := by decide
  rw [hi] at h
  have hm : single.word neg r % single.signWeight = r := by
    unfold Format.word
    rw [hs]
    cases neg
    · simp; omega
    · simp; omega
  unfold Format.read
  dsimp only
  rw [hm, hi]
  split
  · exact ⟨_, _, _, rfl⟩
  · exact ⟨_, _, _, rfl⟩

/-- **WHAT IS NOT TOO GREAT STAYS FINITE.** -/
theorem nearest_number {neg : Bool} {mag k : Nat} {place : Int} (hp : place + (k : Int) = 104) (h : mag ≤ 16777215 * 2 ^ k) : ∃ s m e, single.read (single.nearest neg mag place) = .number s m e := by
  unfold Format.nearest
  split
  · exact read_word_number (by decide)
  · rename_i hm
    have hb : single.binade = 8388608 := by decide
    have hi : single.infRung = 2139095040 := by decide
    have hl : single.leastPlace = -149 := by decide
    have hf : ((single.fractionBits : Nat) : Int) = 23 := by decide
    dsimp only
    apply read_word_number
    rw [hb, hi, hl, hf]
    have hL : 2 ^ mag.log2 ≤ mag := Nat.log2_self_le hm
    have hL2 : mag < 2 ^ (mag.log2 + 1) := Nat.lt_log2_self
    -- the greatest place
    have hlog : mag.log2 ≤ 23 + k := by
      rcases Nat.lt_or_ge (23 + k) mag.log2 with h1 | h1
      · exfalso
        have h2 : 2 ^ (24 + k) ≤ 2 ^ mag.log2 := Nat.pow_le_pow_right (by decide) (by omega)
        have h3 : 2 ^ (24 + k) = 16777216 * 2 ^ k := by rw [Nat.pow_add]
        have := Nat.two_pow_pos k
        omega
      · exact h1
    generalize hlast : max (place + (mag.log2 : Int) - 23) (-149) = last
    have hlast104 : last ≤ 104 := by omega
    have hlo : -149 ≤ last := by omega
    have hlo2 : place + (mag.log2 : Int) - 23 ≤ last := by omega
    -- what is kept
    have hkept : ∀ B : Nat, (∀ u d : Nat, (u : Int) - (d : Int) = place - last → (u = 0 ∨ d = 0) → mag * 2 ^ u ≤ B * 2 ^ d) →
        Toward.even.cut neg (mag <<< (place - last).toNat) (last - place).toNat ≤ B := by
      intro B hB
      refine cut_le ?_
      rw [Nat.shiftLeft_eq]
      exact hB _ _ (by omega) (by omega)
    rcases Int.lt_or_le last 104 with h1 | h1
    · have h2 := hkept 16777216 (fun u d hud h0 => by
        have h3 : mag.log2 + 1 + u ≤ 24 + d := by omega
        have h4 : mag * 2 ^ u ≤ 2 ^ (mag.log2 + 1) * 2 ^ u := Nat.mul_le_mul_right _ (Nat.le_of_lt hL2)
        have h5 : 2 ^ (mag.log2 + 1) * 2 ^ u ≤ 2 ^ 24 * 2 ^ d := by
          rw [← Nat.pow_add, ← Nat.pow_add]
          exact Nat.pow_le_pow_right (by decide) h3
        exact Nat.le_trans h4 h5)
      have h3 : (last - -149).toNat ≤ 252 := by omega
      have h4 : (last - -149).toNat * 8388608 ≤ 2113929216 := Nat.mul_le_mul_right 8388608 h3
      exact Nat.lt_of_le_of_lt (Nat.min_le_left _ _) (Nat.lt_of_le_of_lt (Nat.add_le_add h4 h2) (by decide))
    · have h1' : last = 104 := by omega
      subst h1'
      have h2 := hkept 16777215 (fun u d hud h0 => by
        rcases h0 with h0 | h0
        · subst h0
          have : d = k := by omega
          subst this
          simpa using h
        · subst h0
          have hk : k = 0 := by omega
          have hu : u = 0 := by omega
          subst hk hu
          simpa using h)
      have h3 : ((104 : Int) - -149).toNat * 8388608 ≤ 2122317824 := by decide
      exact Nat.lt_of_le_of_lt (Nat.min_le_left _ _) (Nat.lt_of_le_of_lt (Nat.add_le_add h3 h2) (by decide))


theorem read_bound {c : Nat} {s : Bool} {m : Nat} {e : Int} (h : single.read c = .number s m e) : m ≤ 16777215 ∧ -149 ≤ e ∧ e ≤ 104 := by
  unfold Format.read at h
  dsimp only at h
  have hb : single.binade = 8388608 := by decide
  have hi : single.infRung = 2139095040 := by decide
  have hl : single.leastPlace = -149 := by decide
  rw [hb, hi, hl] at h
  split at h
  · cases h
    omega
  · split at h
    · rename_i h1 h2
      cases h
      generalize c % single.signWeight = r at h1 h2 ⊢
      have h3 : r / 8388608 < 255 := Nat.div_lt_of_lt_mul h2
      have h4 := Nat.mod_lt r (show 0 < 8388608 by decide)
      have h5 : 1 ≤ r / 8388608 := (Nat.le_div_iff_mul_le (by decide)).2 (by omega)
      omega
    · split at h <;> cases h

/-- A quotient by what is at least 1. -/
theorem div_number {w d m n p : Nat} {s t : Bool} {i j : Int} (hw : single.read w = .number s m i) (hd : single.read d = .number t n j) (hj : j = -(p : Int)) (hp : p ≤ 23) (hn : 2 ^ p ≤ n) :
    ∃ r s' m' e', single.div w d = some r ∧ single.read r = .number s' m' e' := by
  obtain ⟨hm, hi1, hi2⟩ := read_bound hw
  have hpos := Nat.two_pow_pos p
  have hn0 : ¬ n = 0 := by omega
  have hlogn : p ≤ n.log2 := (Nat.le_log2 hn0).2 hn
  have hlogm : m.log2 ≤ 23 := by
    rcases Nat.eq_zero_or_pos m with h0 | h0
    · subst h0; decide
    · have h1 := (Nat.log2_lt (n := m) (k := 24) (by omega)).2 (by omega)
      omega
  have hf : single.fractionBits + 2 = 25 := by decide
  unfold Format.div
  rw [hw, hd, hf]
  unfold Datum.quotient
  simp only [if_neg hn0, Option.map_some, Option.some.injEq, Format.write]
  generalize hmore : 25 + n.log2 - m.log2 = more
  have hge : p + 2 ≤ more := by omega
  rw [Nat.shiftLeft_eq]
  generalize hD : m * 2 ^ more = D
  have hM : ∃ M : Nat, M = m * 2 ^ (more + 1 - p) ∧ 2 * D = M * 2 ^ p := by
    refine ⟨_, rfl, ?_⟩
    rw [← hD, Nat.mul_assoc, ← Nat.pow_add, show more + 1 - p + p = more + 1 by omega, Nat.pow_succ]
    rw [Nat.mul_comm 2, Nat.mul_assoc]
  obtain ⟨M, hM1, hM2⟩ := hM
  have hle : 2 * D ≤ M * n := by rw [hM2]; exact Nat.mul_le_mul_left _ hn
  have hdm := Nat.div_add_mod D n
  have hmag : 2 * (D / n) + (D % n != 0).toNat ≤ M := by
    generalize D / n = q at hdm ⊢
    generalize hr : D % n = r at hdm ⊢
    have hq : n * (2 * q) + 2 * r ≤ n * M := by
      have : n * (2 * q) = 2 * (n * q) := by rw [Nat.mul_left_comm]
      rw [this, Nat.mul_comm n M]
      omega
    by_cases h0 : r = 0
    · subst h0
      have : n * (2 * q) ≤ n * M := by omega
      have h1 := Nat.le_of_mul_le_mul_left this (by omega)
      simpa using h1
    · have h1 : n * (2 * q) < n * M := by omega
      have h2 := Nat.lt_of_mul_lt_mul_left h1
      have h3 : (r != 0) = true := by simp [h0]
      rw [h3]
      simp only [Bool.toNat_true]
      omega
  have key : ∃ s' m' e', single.read (single.nearest (s ^^ t) (2 * (D / n) + (D % n != 0).toNat) (i - j - (more : Int) - 1)) = .number s' m' e' := by
   refine nearest_number (k := (104 - i).toNat + (more + 1 - p)) (by omega) (Nat.le_trans hmag ?_)
   rw [hM1, Nat.pow_add, ← Nat.mul_assoc]
   refine Nat.mul_le_mul_right _ (Nat.le_trans hm ?_)
   exact Nat.le_mul_of_pos_right _ (Nat.two_pow_pos _)
  obtain ⟨s', m', e', h⟩ := key
  exact ⟨_, s', m', e', rfl, h⟩

end Go.Sm
