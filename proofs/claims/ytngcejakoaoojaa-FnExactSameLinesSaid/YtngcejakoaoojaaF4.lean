/- Floats: sums, products and quotients between bounds. -/
import Derived.Test.YtngcejakoaoojaaF3
namespace Go.Sm
open Go Ieee

/-- So many places below one. -/
def lp (k : FloatKind) : Nat := (-k.format.leastPlace).toNat
theorem lp_eq (k : FloatKind) : k.format.leastPlace = -(lp k : Int) := by cases k <;> decide

theorem signed_natAbs (s : Bool) (m e : Nat) : (signed s m e).natAbs = m * 2 ^ e := by
  unfold signed
  rw [Nat.shiftLeft_eq]
  cases s
  · rfl
  · show (-((m * 2 ^ e : Nat) : Int)).natAbs = _
    rw [Int.natAbs_neg]
    rfl

/-- A number, spelled out. -/
theorem isNum_spell {k : FloatKind} {x : Nat} (h : isNum k x = true) : ∃ m e : Nat, k.format.read x = .number (sgn k x) m (k.format.leastPlace + (e : Int)) ∧ (fv k x).natAbs = m * 2 ^ e := by
  obtain ⟨m, e, h1, h2⟩ := isNum_read h
  refine ⟨m, e, h1, ?_⟩
  rw [fv_read h1, signed_natAbs]
  congr 2
  omega

theorem fop_some {op : BinOp} {k : FloatKind} {x y r : Nat} (h : floatBits op k x y = some r) : fop op k x y = r := by unfold fop; rw [h]; rfl

theorem fop_mul {k : FloatKind} {x y : Nat} (hx : isNum k x = true) (hy : isNum k y = true) : ∃ q, fop .mul k x y = k.format.word (sgn k x ^^ sgn k y) q ∧ q ≤ k.format.infRung ∧
    (∀ z, (fv k x).natAbs * (fv k y).natAbs ≤ rv k.format z * 2 ^ lp k → q ≤ z) ∧ (∀ z, z ≤ k.format.infRung → rv k.format z * 2 ^ lp k ≤ (fv k x).natAbs * (fv k y).natAbs → z ≤ q) := by
  obtain ⟨m, e, h1, h2⟩ := isNum_spell hx
  obtain ⟨n, e', h3, h4⟩ := isNum_spell hy
  have hl := lp_eq k
  have hr : floatBits .mul k x y = some (k.format.nearest (sgn k x ^^ sgn k y) (m * n) (k.format.leastPlace + (e : Int) + (k.format.leastPlace + (e' : Int)))) := by
    show k.format.mul x y = _
    unfold Format.mul
    rw [h1, h3]
    rfl
  rw [fop_some hr, nearest_eq]
  have hv : (fv k x).natAbs * (fv k y).natAbs = m * n * 2 ^ (e + e') := by rw [h2, h4, Nat.pow_add]; ac_rfl
  refine ⟨_, rfl, nrung_inf _ _ _, fun z hz => nrung_le (k1 := e + e') (k2 := lp k) (by omega) (by rw [← hv]; exact hz), fun z hzi hz => nrung_ge (k1 := e + e') (k2 := lp k) (by omega) (by rw [← hv]; exact hz) hzi⟩

theorem fop_add {k : FloatKind} {x y : Nat} (hx : isNum k x = true) (hy : isNum k y = true) : ∃ s q, fop .add k x y = k.format.word s q ∧ q ≤ k.format.infRung ∧ (fv k x + fv k y < 0 → s = true) ∧ (0 < fv k x + fv k y → s = false) ∧
    (∀ z, (fv k x + fv k y).natAbs ≤ rv k.format z → q ≤ z) ∧ (∀ z, z ≤ k.format.infRung → rv k.format z ≤ (fv k x + fv k y).natAbs → z ≤ q) := by
  obtain ⟨m, e, h1, _⟩ := isNum_spell hx
  obtain ⟨n, e', h3, _⟩ := isNum_spell hy
  have hb : ∃ b : Nat, min (k.format.leastPlace + (e : Int)) (k.format.leastPlace + (e' : Int)) = k.format.leastPlace + (b : Int) ∧ b ≤ e ∧ b ≤ e' := ⟨min e e', by omega, Nat.min_le_left _ _, Nat.min_le_right _ _⟩
  obtain ⟨b, hb1, hb2, hb3⟩ := hb
  have q1 : (k.format.leastPlace + (e : Int) - (k.format.leastPlace + (b : Int))).toNat = e - b := by omega
  have q2 : (k.format.leastPlace + (e' : Int) - (k.format.leastPlace + (b : Int))).toNat = e' - b := by omega
  have v1 : fv k x = signed (sgn k x) m (e - b) * 2 ^ b := by
    rw [fv_read h1, ← signed_mul]
    congr 1
    omega
  have v2 : fv k y = signed (sgn k y) n (e' - b) * 2 ^ b := by
    rw [fv_read h3, ← signed_mul]
    congr 1
    omega
  have hr : floatBits .add k x y = some (k.format.nearest (if signed (sgn k x) m (e - b) + signed (sgn k y) n (e' - b) = 0 then sgn k x && sgn k y else decide (signed (sgn k x) m (e - b) + signed (sgn k y) n (e' - b) < 0)) (signed (sgn k x) m (e - b) + signed (sgn k y) n (e' - b)).natAbs (k.format.leastPlace + (b : Int))) := by
    show k.format.add x y = _
    unfold Format.add
    rw [h1, h3]
    simp only [Datum.sum, hb1, q1, q2, Option.map_some, Format.write]
  rw [fop_some hr, nearest_eq]
  have hsum : fv k x + fv k y = (signed (sgn k x) m (e - b) + signed (sgn k y) n (e' - b)) * 2 ^ b := by rw [v1, v2, Int.add_mul]
  generalize signed (sgn k x) m (e - b) + signed (sgn k y) n (e' - b) = S at hsum ⊢
  have hp : (0 : Int) < 2 ^ b := Int.pow_pos (by decide)
  have hna : (fv k x + fv k y).natAbs = S.natAbs * 2 ^ b := by
    rw [hsum, Int.natAbs_mul, Int.natAbs_pow]
    rfl
  refine ⟨_, _, rfl, nrung_inf _ _ _, fun h => ?_, fun h => ?_, fun z hz => nrung_le (k1 := b) (k2 := 0) (by omega) (by rw [← hna, Nat.pow_zero, Nat.mul_one]; exact hz), fun z hzi hz => nrung_ge (k1 := b) (k2 := 0) (by omega) (by rw [← hna, Nat.pow_zero, Nat.mul_one]; exact hz) hzi⟩
  · rw [hsum] at h
    have : S < 0 := by
      rcases Int.lt_or_le S 0 with h1 | h1
      · exact h1
      · have := Int.mul_nonneg h1 (Int.le_of_lt hp); omega
    rw [if_neg (by omega)]
    exact decide_eq_true this
  · rw [hsum] at h
    have : 0 < S := by
      rcases Int.lt_or_le 0 S with h1 | h1
      · exact h1
      · have := Int.mul_nonneg (show 0 ≤ -S by omega) (Int.le_of_lt hp)
        rw [Int.neg_mul] at this
        omega
    rw [if_neg (by omega)]
    exact decide_eq_false (by omega)

theorem isNum_neg_read {k : FloatKind} {x : Nat} {s : Bool} {m : Nat} {i : Int} (h : k.format.read x = .number s m i) : (k.format.read x).opposite = .number (!s) m i := by rw [h]; rfl

/-- A difference is a sum with the opposite. -/
theorem fop_sub {k : FloatKind} {x y : Nat} (hx : isNum k x = true) (hy : isNum k y = true) : ∃ s q, fop .sub k x y = k.format.word s q ∧ q ≤ k.format.infRung ∧ (fv k x - fv k y < 0 → s = true) ∧ (0 < fv k x - fv k y → s = false) ∧
    (∀ z, (fv k x - fv k y).natAbs ≤ rv k.format z → q ≤ z) ∧ (∀ z, z ≤ k.format.infRung → rv k.format z ≤ (fv k x - fv k y).natAbs → z ≤ q) := by
  -- the word with the other sign
  have hp : 0 < k.format.signWeight := Nat.two_pow_pos _
  have hlt := isNum_lt hy
  have hlt2 : y % k.format.signWeight < k.format.signWeight := Nat.mod_lt _ hp
  let y' := k.format.word (!sgn k y) (y % k.format.signWeight)
  have hy' : isNum k y' = true := word_isNum _ hlt
  have hf : fv k y' = -fv k y := by
    show fv k (k.format.word (!sgn k y) (y % k.format.signWeight)) = _
    rw [fv_word _ hlt2]
    unfold fv
    cases sgn k y <;> simp
  have hs : sgn k y' = !sgn k y := word_sign _ _ hlt2
  have hm : y' % k.format.signWeight = y % k.format.signWeight := word_mod _ _ hlt2
  have hread : k.format.read y' = (k.format.read y).opposite := by
    have hs' : (y' / k.format.signWeight % 2 == 1) = !(y / k.format.signWeight % 2 == 1) := hs
    unfold Format.read
    dsimp only
    rw [hm, hs']
    by_cases c1 : y % k.format.signWeight < k.format.binade
    · rw [if_pos c1, if_pos c1]
      rfl
    · rw [if_neg c1, if_neg c1, if_pos hlt, if_pos hlt]
      rfl
  have he : fop .sub k x y = fop .add k x y' := by
    unfold fop
    have : floatBits .sub k x y = floatBits .add k x y' := by
      show k.format.sub x y = k.format.add x y'
      unfold Format.sub Format.add
      rw [hread]
    rw [this]
  rw [he]
  have := fop_add hx hy'
  rw [hf] at this
  exact this

theorem fop_quo {k : FloatKind} {x y : Nat} (hx : isNum k x = true) (hy : isNum k y = true) (h0 : fv k y ≠ 0) : ∃ q, fop .quo k x y = k.format.word (sgn k x ^^ sgn k y) q ∧ q ≤ k.format.infRung ∧
    (∀ z, (fv k x).natAbs * 2 ^ lp k ≤ rv k.format z * (fv k y).natAbs → q ≤ z) ∧ (∀ z, z ≤ k.format.infRung → rv k.format z * (fv k y).natAbs ≤ (fv k x).natAbs * 2 ^ lp k → z ≤ q) := by
  obtain ⟨m, e, h1, h2⟩ := isNum_spell hx
  obtain ⟨n, e', h3, h4⟩ := isNum_spell hy
  have hl := lp_eq k
  have hn : n ≠ 0 := by
    intro h
    subst h
    rw [Nat.zero_mul] at h4
    omega
  generalize hmore : k.format.fractionBits + 2 + n.log2 - m.log2 = more
  have hr : floatBits .quo k x y = some (k.format.nearest (sgn k x ^^ sgn k y) (2 * (m <<< more / n) + (m <<< more % n != 0).toNat) (k.format.leastPlace + (e : Int) - (k.format.leastPlace + (e' : Int)) - (more : Int) - 1)) := by
    show k.format.div x y = _
    unfold Format.div
    rw [h1, h3]
    simp only [Datum.quotient, if_neg hn, hmore, Option.map_some, Format.write]
  rw [fop_some hr, nearest_eq]
  rw [Nat.shiftLeft_eq]
  generalize hD : m * 2 ^ more = D
  have hdm := Nat.div_add_mod D n
  have hml := Nat.mod_lt D (Nat.pos_of_ne_zero hn)
  -- the magnitude: twice the quotient, one more where something is left
  have hnp := Nat.pos_of_ne_zero hn
  generalize hq : D / n = Q at hdm ⊢
  generalize hrm : D % n = R at hdm hml ⊢
  have hup : ∀ B, 2 * D ≤ B * n → 2 * Q + (R != 0).toNat ≤ B := by
    intro B hB
    by_cases hz : R = 0
    · have h5 : 2 * Q * n ≤ B * n := by
        have e1 : 2 * Q * n = 2 * (n * Q) := by rw [Nat.mul_assoc, Nat.mul_comm Q]
        omega
      have := Nat.le_of_mul_le_mul_right h5 hnp
      simpa [hz] using this
    · have hb : (R != 0) = true := by simp [hz]
      rw [hb]
      have h5 : 2 * Q * n < B * n := by
        have e1 : 2 * Q * n = 2 * (n * Q) := by rw [Nat.mul_assoc, Nat.mul_comm Q]
        omega
      have := Nat.lt_of_mul_lt_mul_right h5
      simp only [Bool.toNat_true]
      omega
  have hdown : ∀ B, B * n ≤ 2 * D → B ≤ 2 * Q + (R != 0).toNat := by
    intro B hB
    by_cases hz : R = 0
    · have h5 : B * n ≤ 2 * Q * n := by
        have e1 : 2 * Q * n = 2 * (n * Q) := by rw [Nat.mul_assoc, Nat.mul_comm Q]
        omega
      have := Nat.le_of_mul_le_mul_right h5 hnp
      simpa [hz] using this
    · have hb : (R != 0) = true := by simp [hz]
      rw [hb]
      have h5 : B * n < (2 * Q + 2) * n := by
        have e1 : (2 * Q + 2) * n = 2 * (n * Q) + 2 * n := by rw [Nat.add_mul, Nat.mul_assoc, Nat.mul_comm Q]
        omega
      have := Nat.lt_of_mul_lt_mul_right h5
      simp only [Bool.toNat_true]
      omega
  -- so many digits
  have hdig : m ≠ 0 → 2 ^ (k.format.fractionBits + 1) * n < D := by
    intro hm
    have a1 : n < 2 ^ (n.log2 + 1) := Nat.lt_log2_self
    have a2 : 2 ^ m.log2 ≤ m := Nat.log2_self_le hm
    have a3 : 2 ^ (k.format.fractionBits + 1) * n < 2 ^ (k.format.fractionBits + 1) * 2 ^ (n.log2 + 1) := Nat.mul_lt_mul_of_pos_left a1 (Nat.two_pow_pos _)
    have a4 : 2 ^ m.log2 * 2 ^ more ≤ m * 2 ^ more := Nat.mul_le_mul_right _ a2
    rw [← Nat.pow_add] at a3 a4
    have a5 : 2 ^ (k.format.fractionBits + 1 + (n.log2 + 1)) ≤ 2 ^ (m.log2 + more) := Nat.pow_le_pow_right (by decide) (by omega)
    omega
  have hQ : m ≠ 0 → 2 ^ (k.format.fractionBits + 1) ≤ Q := by
    intro hm
    have h5 := hdig hm
    have h6 : 2 ^ (k.format.fractionBits + 1) * n < (Q + 1) * n := by
      have e1 : (Q + 1) * n = n * Q + n := by rw [Nat.add_mul, Nat.one_mul, Nat.mul_comm]
      omega
    have := Nat.lt_of_mul_lt_mul_right h6
    omega
  have hbin : k.format.binade = 2 ^ k.format.fractionBits := rfl
  have hva : (fv k x).natAbs * 2 ^ lp k * 2 ^ (more + 1) = 2 * D * 2 ^ (e + lp k) := by
    rw [h2, ← hD, Nat.pow_succ, Nat.pow_add]
    ac_rfl
  refine ⟨_, rfl, nrung_inf _ _ _, fun z hz => ?_, fun z hzi hz => ?_⟩
  · refine nrung_le (k1 := e + lp k) (k2 := e' + more + 1) (by omega) ?_
    obtain ⟨mz, ez, _, z2, _, z4⟩ := rung_split k.format z
    have h5 : 2 * D * 2 ^ (e + lp k) ≤ mz * 2 ^ (ez + (e' + more + 1)) * n := by
      rw [← hva]
      have := Nat.mul_le_mul_right (2 ^ (more + 1)) hz
      refine Nat.le_trans this (Nat.le_of_eq ?_)
      rw [z4, h4, show ez + (e' + more + 1) = ez + e' + (more + 1) by omega, Nat.pow_add 2 (ez + e') (more + 1), Nat.pow_add 2 ez e']
      ac_rfl
    rw [z4, Nat.mul_assoc, ← Nat.pow_add]
    rcases Nat.lt_or_ge (ez + (e' + more + 1)) (e + lp k) with h6 | h6
    · by_cases hm : m = 0
      · have hD0 : D = 0 := by rw [← hD, hm, Nat.zero_mul]
        have h7 := hup 0 (by omega)
        have : 2 * Q + (R != 0).toNat = 0 := by omega
        rw [this, Nat.zero_mul]
        exact Nat.zero_le _
      · exfalso
        obtain ⟨d, hd⟩ : ∃ d, e + lp k = ez + (e' + more + 1) + d := ⟨e + lp k - (ez + (e' + more + 1)), by omega⟩
        rw [hd, Nat.pow_add 2 (ez + (e' + more + 1)) d] at h5
        have h7 : 2 * D * 2 ^ d * 2 ^ (ez + (e' + more + 1)) ≤ mz * n * 2 ^ (ez + (e' + more + 1)) := by
          refine Nat.le_trans (Nat.le_of_eq ?_) (Nat.le_trans h5 (Nat.le_of_eq ?_)) <;> ac_rfl
        have h8 := Nat.le_of_mul_le_mul_right h7 (Nat.two_pow_pos _)
        have h9 : 2 * D ≤ 2 * D * 2 ^ d := Nat.le_mul_of_pos_right _ (Nat.two_pow_pos _)
        have h10 : mz * n ≤ 2 * k.format.binade * n := Nat.mul_le_mul_right _ (Nat.le_of_lt z2)
        have h11 := hdig hm
        rw [Nat.pow_succ', ← hbin] at h11
        omega
    · obtain ⟨d, hd⟩ : ∃ d, ez + (e' + more + 1) = e + lp k + d := ⟨ez + (e' + more + 1) - (e + lp k), by omega⟩
      rw [hd, Nat.pow_add 2 (e + lp k) d] at h5 ⊢
      have h7 : 2 * D * 2 ^ (e + lp k) ≤ mz * 2 ^ d * n * 2 ^ (e + lp k) := by
        refine Nat.le_trans h5 (Nat.le_of_eq ?_)
        ac_rfl
      have h8 := hup _ (Nat.le_of_mul_le_mul_right h7 (Nat.two_pow_pos _))
      have h9 := Nat.mul_le_mul_right (2 ^ (e + lp k)) h8
      refine Nat.le_trans h9 (Nat.le_of_eq ?_)
      ac_rfl
  · refine nrung_ge (k1 := e + lp k) (k2 := e' + more + 1) (by omega) ?_ hzi
    obtain ⟨mz, ez, _, z2, _, z4⟩ := rung_split k.format z
    have h5 : mz * 2 ^ (ez + (e' + more + 1)) * n ≤ 2 * D * 2 ^ (e + lp k) := by
      rw [← hva]
      have := Nat.mul_le_mul_right (2 ^ (more + 1)) hz
      refine Nat.le_trans (Nat.le_of_eq ?_) this
      rw [z4, h4, show ez + (e' + more + 1) = ez + e' + (more + 1) by omega, Nat.pow_add 2 (ez + e') (more + 1), Nat.pow_add 2 ez e']
      ac_rfl
    rw [z4, Nat.mul_assoc, ← Nat.pow_add]
    rcases Nat.lt_or_ge (ez + (e' + more + 1)) (e + lp k) with h6 | h6
    · by_cases hm : m = 0
      · have hD0 : D = 0 := by rw [← hD, hm, Nat.zero_mul]
        rw [hD0, Nat.mul_zero, Nat.zero_mul] at h5
        have h7 : mz * 2 ^ (ez + (e' + more + 1)) * n = 0 := by omega
        rcases Nat.mul_eq_zero.1 h7 with h8 | h8
        · rw [h8]; exact Nat.zero_le _
        · exact absurd h8 hn
      · have h7 := hQ hm
        rw [Nat.pow_succ', ← hbin] at h7
        have h8 : mz ≤ 2 * Q + (R != 0).toNat := by omega
        exact Nat.mul_le_mul h8 (Nat.pow_le_pow_right (by decide) (by omega))
    · obtain ⟨d, hd⟩ : ∃ d, ez + (e' + more + 1) = e + lp k + d := ⟨ez + (e' + more + 1) - (e + lp k), by omega⟩
      rw [hd, Nat.pow_add 2 (e + lp k) d] at h5 ⊢
      have h7 : mz * 2 ^ d * n * 2 ^ (e + lp k) ≤ 2 * D * 2 ^ (e + lp k) := by
        refine Nat.le_trans (Nat.le_of_eq ?_) h5
        ac_rfl
      have h8 := hdown _ (Nat.le_of_mul_le_mul_right h7 (Nat.two_pow_pos _))
      have h9 := Nat.mul_le_mul_right (2 ^ (e + lp k)) h8
      refine Nat.le_trans (Nat.le_of_eq ?_) h9
      ac_rfl

end Go.Sm
