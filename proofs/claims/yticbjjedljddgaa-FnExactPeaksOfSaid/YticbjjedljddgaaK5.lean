/- A machine on plain data, its laws: part 5. -/
import Derived.Test.YticbjjedljddgaaK4
import Derived.Sort.OwnSortedInts
import Derived.Shelf.SortG.Plain
import Derived.Shelf.SortG.SortNone
import Derived.Shelf.SlicesE.DeleteFunc
namespace Go.Sm
open Go Ieee
def lp (k : FloatKind) : Nat := (-k.format.leastPlace).toNat
theorem lp_eq (k : FloatKind) : k.format.leastPlace = -(lp k : Int) := by cases k <;> decide
theorem signed_natAbs (s : Bool) (m e : Nat) : (signed s m e).natAbs = m * 2 ^ e := by
  unfold signed
  rw [Nat.shiftLeft_eq]
  cases s
  · rfl
  · show (-((m * 2 ^ e : Nat) : Int)).natAbs = _
    rw [Int.natAbs_neg]
    rfl
theorem isNum_spell {k : FloatKind} {x : Nat} (h : isNum k x = true) : ∃ m e : Nat, k.format.read x = .number (sgn k x) m (k.format.leastPlace + (e : Int)) ∧ (fv k x).natAbs = m * 2 ^ e := by
  obtain ⟨m, e, h1, h2⟩ := isNum_read h
  refine ⟨m, e, h1, ?_⟩
  rw [fv_read h1, signed_natAbs]
  congr 2
  omega
theorem fop_some {op : BinOp} {k : FloatKind} {x y r : Nat} (h : floatBits op k x y = some r) : fop op k x y = r := by unfold fop; rw [h]; rfl
theorem fop_mul {k : FloatKind} {x y : Nat} (hx : isNum k x = true) (hy : isNum k y = true) : ∃ q, fop .mul k x y = k.format.word (sgn k x ^^ sgn k y) q ∧ q ≤ k.format.infRung ∧
    (∀ z, (fv k x).natAbs * (fv k y).natAbs ≤ rv k.format z * 2 ^ lp k → q ≤ z) ∧ (∀ z, z ≤ k.format.infRung → rv k.format z * 2 ^ lp k ≤ (fv k x).natAbs * (fv k y).natAbs → z ≤ q) := by
  obtain ⟨m, e, h1, h2⟩ := isNum_spell hx
  obtain ⟨n, e', h3, h4⟩ := isNum_spell hy
  have hl := lp_eq k
  have hr : floatBits .mul k x y = some (k.format.nearest (sgn k x ^^ sgn k y) (m * n) (k.format.leastPlace + (e : Int) + (k.format.leastPlace + (e' : Int)))) := by
    show k.format.mul x y = _
    unfold Format.mul
    rw [h1, h3]
    rfl
  rw [fop_some hr, nearest_eq]
  have hv : (fv k x).natAbs * (fv k y).natAbs = m * n * 2 ^ (e + e') := by rw [h2, h4, Nat.pow_add]; ac_rfl
  refine ⟨_, rfl, nrung_inf _ _ _, fun z hz => nrung_le (k1 := e + e') (k2 := lp k) (by omega) (by rw [← hv]; exact hz), fun z hzi hz => nrung_ge (k1 := e + e') (k2 := lp k) (by omega) (by rw [← hv]; exact hz) hzi⟩
theorem fop_add {k : FloatKind} {x y : Nat} (hx : isNum k x = true) (hy : isNum k y = true) : ∃ s q, fop .add k x y = k.format.word s q ∧ q ≤ k.format.infRung ∧ (fv k x + fv k y < 0 → s = true) ∧ (0 < fv k x + fv k y → s = false) ∧
    (∀ z, (fv k x + fv k y).natAbs ≤ rv k.format z → q ≤ z) ∧ (∀ z, z ≤ k.format.infRung → rv k.format z ≤ (fv k x + fv k y).natAbs → z ≤ q) := by
  obtain ⟨m, e, h1, _⟩ := isNum_spell hx
  obtain ⟨n, e', h3, _⟩ := isNum_spell hy
  have hb : ∃ b : Nat, min (k.format.leastPlace + (e : Int)) (k.format.leastPlace + (e' : Int)) = k.format.leastPlace + (b : Int) ∧ b ≤ e ∧ b ≤ e' := ⟨min e e', by omega, Nat.min_le_left _ _, Nat.min_le_right _ _⟩
  obtain ⟨b, hb1, hb2, hb3⟩ := hb
  have q1 : (k.format.leastPlace + (e : Int) - (k.format.leastPlace + (b : Int))).toNat = e - b := by omega
  have q2 : (k.format.leastPlace + (e' : Int) - (k.format.leastPlace + (b : Int))).toNat = e' - b := by omega
  have v1 : fv k x = signed (sgn k x) m (e - b) * 2 ^ b := by
    rw [fv_read h1, ← signed_mul]
    congr 1
    omega
  have v2 : fv k y = signed (sgn k y) n (e' - b) * 2 ^ b := by
    rw [fv_read h3, ← signed_mul]
    congr 1
    omega
  have hr : floatBits .add k x y = some (k.format.nearest (if signed (sgn k x) m (e - b) + signed (sgn k y) n (e' - b) = 0 then sgn k x && sgn k y else decide (signed (sgn k x) m (e - b) + signed (sgn k y) n (e' - b) < 0)) (signed (sgn k x) m (e - b) + signed (sgn k y) n (e' - b)).natAbs (k.format.leastPlace + (b : Int))) := by
    show k.format.add x y = _
    unfold Format.add
    rw [h1, h3]
    simp only [Datum.sum, hb1, q1, q2, Option.map_some, Format.write]
  rw [fop_some hr, nearest_eq]
  have hsum : fv k x + fv k y = (signed (sgn k x) m (e - b) + signed (sgn k y) n (e' - b)) * 2 ^ b := by rw [v1, v2, Int.add_mul]
  generalize signed (sgn k x) m (e - b) + signed (sgn k y) n (e' - b) = S at hsum ⊢
  have hp : (0 : Int) < 2 ^ b := Int.pow_pos (by decide)
  have hna : (fv k x + fv k y).natAbs = S.natAbs * 2 ^ b := by
    rw [hsum, Int.natAbs_mul, Int.natAbs_pow]
    rfl
  refine ⟨_, _, rfl, nrung_inf _ _ _, fun h => ?_, fun h => ?_, fun z hz => nrung_le (k1 := b) (k2 := 0) (by omega) (by rw [← hna, Nat.pow_zero, Nat.mul_one]; exact hz), fun z hzi hz => nrung_ge (k1 := b) (k2 := 0) (by omega) (by rw [← hna, Nat.pow_zero, Nat.mul_one]; exact hz) hzi⟩
  · rw [hsum] at h
    have : S < 0 := by
      rcases Int.lt_or_le S 0 with h1 | h1
      · exact h1
      · have := Int.mul_nonneg h1 (Int.le_of_lt hp); omega
    rw [if_neg (by omega)]
    exact decide_eq_true this
  · rw [hsum] at h
    have : 0 < S := by
      rcases Int.lt_or_le 0 S with h1 | h1
      · exact h1
      · have := Int.mul_nonneg (show 0 ≤ -S by omega) (Int.le_of_lt hp)
        rw [Int.neg_mul] at this
        omega
    rw [if_neg (by omega)]
    exact decide_eq_false (by omega)
theorem fop_sub {k : FloatKind} {x y : Nat} (hx : isNum k x = true) (hy : isNum k y = true) : ∃ s q, fop .sub k x y = k.format.word s q ∧ q ≤ k.format.infRung ∧ (fv k x - fv k y < 0 → s = true) ∧ (0 < fv k x - fv k y → s = false) ∧
    (∀ z, (fv k x - fv k y).natAbs ≤ rv k.format z → q ≤ z) ∧ (∀ z, z ≤ k.format.infRung → rv k.format z ≤ (fv k x - fv k y).natAbs → z ≤ q) := by
  have hp : 0 < k.format.signWeight := Nat.two_pow_pos _
  have hlt := isNum_lt hy
  have hlt2 : y % k.format.signWeight < k.format.signWeight := Nat.mod_lt _ hp
  let y' := k.format.word (!sgn k y) (y % k.format.signWeight)
  have hy' : isNum k y' = true := word_isNum _ hlt
  have hf : fv k y' = -fv k y := by
    show fv k (k.format.word (!sgn k y) (y % k.format.signWeight)) = _
    rw [fv_word _ hlt2]
    unfold fv
    cases sgn k y <;> simp
  have hs : sgn k y' = !sgn k y := word_sign _ _ hlt2
  have hm : y' % k.format.signWeight = y % k.format.signWeight := word_mod _ _ hlt2
  have hread : k.format.read y' = (k.format.read y).opposite := by
    have hs' : (y' / k.format.signWeight % 2 == 1) = !(y / k.format.signWeight % 2 == 1) := hs
    unfold Format.read
    dsimp only
    rw [hm, hs']
    by_cases c1 : y % k.format.signWeight < k.format.binade
    · rw [if_pos c1, if_pos c1]
      rfl
    · rw [if_neg c1, if_neg c1, if_pos hlt, if_pos hlt]
      rfl
  have he : fop .sub k x y = fop .add k x y' := by
    unfold fop
    have : floatBits .sub k x y = floatBits .add k x y' := by
      show k.format.sub x y = k.format.add x y'
      unfold Format.sub Format.add
      rw [hread]
    rw [this]
  rw [he]
  have := fop_add hx hy'
  rw [hf] at this
  exact this
theorem fop_quo {k : FloatKind} {x y : Nat} (hx : isNum k x = true) (hy : isNum k y = true) (h0 : fv k y ≠ 0) : ∃ q, fop .quo k x y = k.format.word (sgn k x ^^ sgn k y) q ∧ q ≤ k.format.infRung ∧
    (∀ z, (fv k x).natAbs * 2 ^ lp k ≤ rv k.format z * (fv k y).natAbs → q ≤ z) ∧ (∀ z, z ≤ k.format.infRung → rv k.format z * (fv k y).natAbs ≤ (fv k x).natAbs * 2 ^ lp k → z ≤ q) := by
  obtain ⟨m, e, h1, h2⟩ := isNum_spell hx
  obtain ⟨n, e', h3, h4⟩ := isNum_spell hy
  have hl := lp_eq k
  have hn : n ≠ 0 := by
    intro h
    subst h
    rw [Nat.zero_mul] at h4
    omega
  generalize hmore : k.format.fractionBits + 2 + n.log2 - m.log2 = more
  have hr : floatBits .quo k x y = some (k.format.nearest (sgn k x ^^ sgn k y) (2 * (m <<< more / n) + (m <<< more % n != 0).toNat) (k.format.leastPlace + (e : Int) - (k.format.leastPlace + (e' : Int)) - (more : Int) - 1)) := by
    show k.format.div x y = _
    unfold Format.div
    rw [h1, h3]
    simp only [Datum.quotient, if_neg hn, hmore, Option.map_some, Format.write]
  rw [fop_some hr, nearest_eq]
  rw [Nat.shiftLeft_eq]
  generalize hD : m * 2 ^ more = D
  have hdm := Nat.div_add_mod D n
  have hml := Nat.mod_lt D (Nat.pos_of_ne_zero hn)
  have hnp := Nat.pos_of_ne_zero hn
  generalize hq : D / n = Q at hdm ⊢
  generalize hrm : D % n = R at hdm hml ⊢
  have hup : ∀ B, 2 * D ≤ B * n → 2 * Q + (R != 0).toNat ≤ B := by
    intro B hB
    by_cases hz : R = 0
    · have h5 : 2 * Q * n ≤ B * n := by
        have e1 : 2 * Q * n = 2 * (n * Q) := by rw [Nat.mul_assoc, Nat.mul_comm Q]
        omega
      have := Nat.le_of_mul_le_mul_right h5 hnp
      simpa [hz] using this
    · have hb : (R != 0) = true := by simp [hz]
      rw [hb]
      have h5 : 2 * Q * n < B * n := by
        have e1 : 2 * Q * n = 2 * (n * Q) := by rw [Nat.mul_assoc, Nat.mul_comm Q]
        omega
      have := Nat.lt_of_mul_lt_mul_right h5
      simp only [Bool.toNat_true]
      omega
  have hdown : ∀ B, B * n ≤ 2 * D → B ≤ 2 * Q + (R != 0).toNat := by
    intro B hB
    by_cases hz : R = 0
    · have h5 : B * n ≤ 2 * Q * n := by
        have e1 : 2 * Q * n = 2 * (n * Q) := by rw [Nat.mul_assoc, Nat.mul_comm Q]
        omega
      have := Nat.le_of_mul_le_mul_right h5 hnp
      simpa [hz] using this
    · have hb : (R != 0) = true := by simp [hz]
      rw [hb]
      have h5 : B * n < (2 * Q + 2) * n := by
        have e1 : (2 * Q + 2) * n = 2 * (n * Q) + 2 * n := by rw [Nat.add_mul, Nat.mul_assoc, Nat.mul_comm Q]
        omega
      have := Nat.lt_of_mul_lt_mul_right h5
      simp only [Bool.toNat_true]
      omega
  have hdig : m ≠ 0 → 2 ^ (k.format.fractionBits + 1) * n < D := by
    intro hm
    have a1 : n < 2 ^ (n.log2 + 1) := Nat.lt_log2_self
    have a2 : 2 ^ m.log2 ≤ m := Nat.log2_self_le hm
    have a3 : 2 ^ (k.format.fractionBits + 1) * n < 2 ^ (k.format.fractionBits + 1) * 2 ^ (n.log2 + 1) := Nat.mul_lt_mul_of_pos_left a1 (Nat.two_pow_pos _)
    have a4 : 2 ^ m.log2 * 2 ^ more ≤ m * 2 ^ more := Nat.mul_le_mul_right _ a2
    rw [← Nat.pow_add] at a3 a4
    have a5 : 2 ^ (k.format.fractionBits + 1 + (n.log2 + 1)) ≤ 2 ^ (m.log2 + more) := Nat.pow_le_pow_right (by decide) (by omega)
    omega
  have hQ : m ≠ 0 → 2 ^ (k.format.fractionBits + 1) ≤ Q := by
    intro hm
    have h5 := hdig hm
    have h6 : 2 ^ (k.format.fractionBits + 1) * n < (Q + 1) * n := by
      have e1 : (Q + 1) * n = n * Q + n := by rw [Nat.add_mul, Nat.one_mul, Nat.mul_comm]
      omega
    have := Nat.lt_of_mul_lt_mul_right h6
    omega
  have hbin : k.format.binade = 2 ^ k.format.fractionBits := rfl
  have hva : (fv k x).natAbs * 2 ^ lp k * 2 ^ (more + 1) = 2 * D * 2 ^ (e + lp k) := by
    rw [h2, ← hD, Nat.pow_succ, Nat.pow_add]
    ac_rfl
  refine ⟨_, rfl, nrung_inf _ _ _, fun z hz => ?_, fun z hzi hz => ?_⟩
  · refine nrung_le (k1 := e + lp k) (k2 := e' + more + 1) (by omega) ?_
    obtain ⟨mz, ez, _, z2, _, z4⟩ := rung_split k.format z
    have h5 : 2 * D * 2 ^ (e + lp k) ≤ mz * 2 ^ (ez + (e' + more + 1)) * n := by
      rw [← hva]
      have := Nat.mul_le_mul_right (2 ^ (more + 1)) hz
      refine Nat.le_trans this (Nat.le_of_eq ?_)
      rw [z4, h4, show ez + (e' + more + 1) = ez + e' + (more + 1) by omega, Nat.pow_add 2 (ez + e') (more + 1), Nat.pow_add 2 ez e']
      ac_rfl
    rw [z4, Nat.mul_assoc, ← Nat.pow_add]
    rcases Nat.lt_or_ge (ez + (e' + more + 1)) (e + lp k) with h6 | h6
    · by_cases hm : m = 0
      · have hD0 : D = 0 := by rw [← hD, hm, Nat.zero_mul]
        have h7 := hup 0 (by omega)
        have : 2 * Q + (R != 0).toNat = 0 := by omega
        rw [this, Nat.zero_mul]
        exact Nat.zero_le _
      · exfalso
        obtain ⟨d, hd⟩ : ∃ d, e + lp k = ez + (e' + more + 1) + d := ⟨e + lp k - (ez + (e' + more + 1)), by omega⟩
        rw [hd, Nat.pow_add 2 (ez + (e' + more + 1)) d] at h5
        have h7 : 2 * D * 2 ^ d * 2 ^ (ez + (e' + more + 1)) ≤ mz * n * 2 ^ (ez + (e' + more + 1)) := by
          refine Nat.le_trans (Nat.le_of_eq ?_) (Nat.le_trans h5 (Nat.le_of_eq ?_)) <;> ac_rfl
        have h8 := Nat.le_of_mul_le_mul_right h7 (Nat.two_pow_pos _)
        have h9 : 2 * D ≤ 2 * D * 2 ^ d := Nat.le_mul_of_pos_right _ (Nat.two_pow_pos _)
        have h10 : mz * n ≤ 2 * k.format.binade * n := Nat.mul_le_mul_right _ (Nat.le_of_lt z2)
        have h11 := hdig hm
        rw [Nat.pow_succ', ← hbin] at h11
        omega
    · obtain ⟨d, hd⟩ : ∃ d, ez + (e' + more + 1) = e + lp k + d := ⟨ez + (e' + more + 1) - (e + lp k), by omega⟩
      rw [hd, Nat.pow_add 2 (e + lp k) d] at h5 ⊢
      have h7 : 2 * D * 2 ^ (e + lp k) ≤ mz * 2 ^ d * n * 2 ^ (e + lp k) := by
        refine Nat.le_trans h5 (Nat.le_of_eq ?_)
        ac_rfl
      have h8 := hup _ (Nat.le_of_mul_le_mul_right h7 (Nat.two_pow_pos _))
      have h9 := Nat.mul_le_mul_right (2 ^ (e + lp k)) h8
      refine Nat.le_trans h9 (Nat.le_of_eq ?_)
      ac_rfl
  · refine nrung_ge (k1 := e + lp k) (k2 := e' + more + 1) (by omega) ?_ hzi
    obtain ⟨mz, ez, _, z2, _, z4⟩ := rung_split k.format z
    have h5 : mz * 2 ^ (ez + (e' + more + 1)) * n ≤ 2 * D * 2 ^ (e + lp k) := by
      rw [← hva]
      have := Nat.mul_le_mul_right (2 ^ (more + 1)) hz
      refine Nat.le_trans (Nat.le_of_eq ?_) this
      rw [z4, h4, show ez + (e' + more + 1) = ez + e' + (more + 1) by omega, Nat.pow_add 2 (ez + e') (more + 1), Nat.pow_add 2 ez e']
      ac_rfl
    rw [z4, Nat.mul_assoc, ← Nat.pow_add]
    rcases Nat.lt_or_ge (ez + (e' + more + 1)) (e + lp k) with h6 | h6
    · by_cases hm : m = 0
      · have hD0 : D = 0 := by rw [← hD, hm, Nat.zero_mul]
        rw [hD0, Nat.mul_zero, Nat.zero_mul] at h5
        have h7 : mz * 2 ^ (ez + (e' + more + 1)) * n = 0 := by omega
        rcases Nat.mul_eq_zero.1 h7 with h8 | h8
        · rw [h8]; exact Nat.zero_le _
        · exact absurd h8 hn
      · have h7 := hQ hm
        rw [Nat.pow_succ', ← hbin] at h7
        have h8 : mz ≤ 2 * Q + (R != 0).toNat := by omega
        exact Nat.mul_le_mul h8 (Nat.pow_le_pow_right (by decide) (by omega))
    · obtain ⟨d, hd⟩ : ∃ d, ez + (e' + more + 1) = e + lp k + d := ⟨ez + (e' + more + 1) - (e + lp k), by omega⟩
      rw [hd, Nat.pow_add 2 (e + lp k) d] at h5 ⊢
      have h7 : mz * 2 ^ d * n * 2 ^ (e + lp k) ≤ 2 * D * 2 ^ (e + lp k) := by
        refine Nat.le_trans (Nat.le_of_eq ?_) h5
        ac_rfl
      have h8 := hdown _ (Nat.le_of_mul_le_mul_right h7 (Nat.two_pow_pos _))
      have h9 := Nat.mul_le_mul_right (2 ^ (e + lp k)) h8
      refine Nat.le_trans (Nat.le_of_eq ?_) h9
      ac_rfl
end Go.Sm
namespace Go.Sm
open Go Ieee
theorem fv_word_abs {k : FloatKind} (s : Bool) {q : Nat} (h : q < k.format.infRung) : (fv k (k.format.word s q)).natAbs = rv k.format q := by
  rw [fv_word s (Nat.lt_trans h k.format.infRung_lt)]
  cases s <;> simp
theorem mulB {k : FloatKind} {x y z X Y : Nat} (hx : isNum k x = true) (hy : isNum k y = true) (h1 : (fv k x).natAbs ≤ X) (h2 : (fv k y).natAbs ≤ Y) (hz : X * Y ≤ rv k.format z * 2 ^ lp k) (hi : z < k.format.infRung) :
    isNum k (fop .mul k x y) = true ∧ (fv k (fop .mul k x y)).natAbs ≤ rv k.format z ∧ (0 ≤ fv k x → 0 ≤ fv k y → 0 ≤ fv k (fop .mul k x y)) ∧ (fv k x ≤ 0 → 0 ≤ fv k y → fv k (fop .mul k x y) ≤ 0) := by
  obtain ⟨q, e, _, hle, _⟩ := fop_mul hx hy
  have hq : q ≤ z := hle z (Nat.le_trans (Nat.mul_le_mul h1 h2) hz)
  have hqi : q < k.format.infRung := Nat.lt_of_le_of_lt hq hi
  have hqs : q < k.format.signWeight := Nat.lt_trans hqi k.format.infRung_lt
  have h0 : fv k x = 0 ∨ fv k y = 0 → q = 0 := by
    intro h
    have : q ≤ 0 := hle 0 (by rcases h with h | h <;> simp [h])
    omega
  have sgnp : ∀ {w : Nat}, 0 < fv k w → sgn k w = false := by
    intro w h
    unfold fv at h
    cases hs : sgn k w with
    | false => rfl
    | true => rw [hs] at h; simp only [if_true] at h; omega
  have sgnn : ∀ {w : Nat}, fv k w < 0 → sgn k w = true := by
    intro w h
    unfold fv at h
    cases hs : sgn k w with
    | true => rfl
    | false => rw [hs] at h; simp only [Bool.false_eq_true, if_false] at h; omega
  rw [e]
  refine ⟨word_isNum _ hqi, by rw [fv_word_abs _ hqi]; exact rv_le hq, fun a b => ?_, fun a b => ?_⟩
  · rw [fv_word _ hqs]
    by_cases c : fv k x = 0 ∨ fv k y = 0
    · rw [h0 c, rv_zero]; simp
    · rw [sgnp (w := x) (by omega), sgnp (w := y) (by omega)]
      simp
  · rw [fv_word _ hqs]
    by_cases c : fv k x = 0 ∨ fv k y = 0
    · rw [h0 c, rv_zero]; simp
    · rw [sgnn (w := x) (by omega), sgnp (w := y) (by omega)]
      simp
def one64 : Nat := 4607182418800017408
end Go.Sm
namespace Go.Sm
open Go Ieee
def whole (y : Nat) : Nat := bif fcmp .eql .f64 (fround .zero y) 0 then 0 else fround .zero y
def part (y : Nat) : Nat := bif fcmp .lss .f64 (fop .sub .f64 y (whole y)) 0 then fop .add .f64 (fop .sub .f64 y (whole y)) one64 else fop .sub .f64 y (whole y)
end Go.Sm
namespace Go.Sm
open Go
def slice (xs : List Nat) (a b : Int) : List Nat := (xs.drop a.toNat).take (b.toNat - a.toNat)
end Go.Sm
namespace Go.Sm
open Go
instance : Inhabited LineV := ⟨⟨0, 0, 0, 0⟩⟩
end Go.Sm
namespace Go.Sm
open Go
def BB : Nat := 4503599627370496
def c15 : Nat := 4609434218613702656
end Go.Sm
namespace Go.Sm
open Go
def PP (i : Nat) : Nat := 4607182418800017408 + i * BB
def bd (i w : Nat) : Prop := isNum .f64 w = true ∧ (fv .f64 w).natAbs ≤ rv FloatKind.f64.format (PP i)
end Go.Sm
namespace Go.Sm
open Go
def small (z : Nat) : Prop := isNum .f32 z = true ∧ (fv .f32 z).natAbs ≤ rv FloatKind.f32.format 1073741824
end Go.Sm
namespace Go.Sm
open Go Ieee
def wide : Nat := 140737488351232
end Go.Sm
namespace Go.Sm
open Go
def half (td : List Bool) (e : EdgeV) : Bool := !(td.getD e.f.toNat false == td.getD e.t.toNat false)
def tell (s : List Nat × List Bool) (e : EdgeV) : List Nat × List Bool := match s.2.getD e.f.toNat false with
  | true => (s.1.set e.t.toNat (fop .add .f32 (s.1.getD e.f.toNat 0) e.p), s.2.set e.t.toNat true)
  | false => (s.1.set e.f.toNat (fop .sub .f32 (s.1.getD e.t.toNat 0) e.p), s.2.set e.f.toNat true)
def rounds (es : List EdgeV) : Nat → List Nat × List Bool → Option (List Nat × List Bool)
  | 0, s => some s
  | n + 1, s => match es.find? (half s.2) with
    | some e => rounds es n (tell s e)
    | none => none
end Go.Sm
namespace Go.Sm
open Go
def sb (a q b : Nat) : Nat := fop .sub .f32 a (fop .mul .f32 q b)
end Go.Sm
namespace Go.Sm
open Go
abbrev RX := Nat × List Nat
def rx (X : List RX) (i : Nat) : RX := X.getD i (0, [])
def elimL (q : Nat) : Nat → List Nat → List Nat → List Nat
  | _, [], _ => []
  | _, rs, [] => rs
  | 0, r :: rs, p :: ps => sb r q p :: elimL q 0 rs ps
  | k + 1, r :: rs, _ :: ps => r :: elimL q k rs ps
def elimR (p : List Nat) (k : Nat) (r : RX) : RX := (r.1, elimL (fop .quo .f32 (r.2.getD k 0) (p.getD k 0)) k r.2 p)
def elimT (p : List Nat) (k : Nat) : Nat → List RX → List RX
  | _, [] => []
  | 0, r :: X => elimR p k r :: elimT p k 0 X
  | m + 1, r :: X => r :: elimT p k m X
def elimX (k : Nat) (X : List RX) : List RX := elimT (rx X k).2 k (k + 1) X
def Sh (n : Nat) (X : List RX) : Prop := X.length = n ∧ ∀ r ∈ X, r.2.length = n + 1
theorem elimL_len (q : Nat) : ∀ (k : Nat) (rs ps : List Nat), (elimL q k rs ps).length = rs.length
  | _, [], _ => by unfold elimL; rfl
  | k, r :: rs, [] => by cases k <;> rfl
  | 0, r :: rs, p :: ps => by unfold elimL; simp [elimL_len q 0 rs ps]
  | k + 1, r :: rs, p :: ps => by unfold elimL; simp [elimL_len q k rs ps]
theorem elimT_len (p : List Nat) (k : Nat) : ∀ (m : Nat) (X : List RX), (elimT p k m X).length = X.length
  | _, [] => by unfold elimT; rfl
  | 0, r :: X => by unfold elimT; simp [elimT_len p k 0 X]
  | m + 1, r :: X => by unfold elimT; simp [elimT_len p k m X]
theorem elimT_mem (p : List Nat) (k : Nat) : ∀ (m : Nat) (X : List RX) (r : RX), r ∈ elimT p k m X → ∃ r0 ∈ X, r.2.length = r0.2.length
  | _, [], r, h => by unfold elimT at h; cases h
  | 0, r0 :: X, r, h => by
    unfold elimT at h
    rcases List.mem_cons.1 h with h | h
    · exact ⟨r0, List.mem_cons_self, by rw [h]; exact elimL_len _ _ _ _⟩
    · obtain ⟨r1, h1, h2⟩ := elimT_mem p k 0 X r h
      exact ⟨r1, List.mem_cons_of_mem _ h1, h2⟩
  | m + 1, r0 :: X, r, h => by
    unfold elimT at h
    rcases List.mem_cons.1 h with h | h
    · exact ⟨r0, List.mem_cons_self, by rw [h]⟩
    · obtain ⟨r1, h1, h2⟩ := elimT_mem p k m X r h
      exact ⟨r1, List.mem_cons_of_mem _ h1, h2⟩
theorem Sh.elim {n k : Nat} {X : List RX} (h : Sh n X) : Sh n (elimX k X) :=
  ⟨(elimT_len _ _ _ _).trans h.1, fun r hr => by obtain ⟨r0, h1, h2⟩ := elimT_mem _ _ _ _ r hr; exact h2.trans (h.2 r0 h1)⟩
section
variable {T : TT} {A : Ann} {nt fuel : Nat}
def LU (T : TT) (A : Ann) (nt fuel : Nat) (b : Code) : Prop := ∀ ins outs F, A.lp (firstRegion b) = some (ins, outs) → A.lm (firstRegion b) = some F → ∀ s M k out, F s M k = some out → ∃ n, iterN A ins outs (codeU T A noL noG nt fuel b) n s M k = some out
theorem LU.none {b : Code} (h : (A.lp (firstRegion b)).isNone = true) : LU T A nt fuel b := fun ins outs F h1 => by
  rw [h1] at h
  cases h
end
end Go.Sm
namespace Go.Sm
open Go Ieee
def ns (s : Nat) : Prop := isNum .f32 s = true → fv .f32 s = 0 → sgn .f32 s = false
end Go.Sm
namespace Go.Sm
open Go Ieee
def Bq (c : Prop) (B v : Nat) : Prop := (c ∧ isN .f32 v = true) ∨ (isNum .f32 v = true ∧ (fv .f32 v).natAbs ≤ B)
section
variable {c : Prop}
theorem Bq.mono {B B' v : Nat} (h : Bq c B v) (hB : B ≤ B') : Bq c B' v := h.imp id fun h => ⟨h.1, Nat.le_trans h.2 hB⟩
theorem Bq.mul {X Y x y : Nat} (z : Nat) (hx : Bq c X x) (hy : Bq c Y y) (h : X * Y ≤ rv FloatKind.f32.format z * 2 ^ 149) (hz : z < 2139095040) : Bq c (rv FloatKind.f32.format z) (fop .mul .f32 x y) := by
  rcases hx with ⟨hc, hn⟩ | ⟨hx, hX⟩
  · exact .inl ⟨hc, by rw [fop_nan_l hn]; exact isN_nanOf _⟩
  · rcases hy with ⟨hc, hn⟩ | ⟨hy, hY⟩
    · exact .inl ⟨hc, by rw [fop_nan_r hn]; exact isN_nanOf _⟩
    · obtain ⟨a, b, _⟩ := mulB (z := z) hx hy hX hY h hz
      exact .inr ⟨a, b⟩
theorem Bq.add {X Y x y : Nat} (z : Nat) (hx : Bq c X x) (hy : Bq c Y y) (h : X + Y ≤ rv FloatKind.f32.format z) (hz : z < 2139095040) : Bq c (rv FloatKind.f32.format z) (fop .add .f32 x y) := by
  rcases hx with ⟨hc, hn⟩ | ⟨hx, hX⟩
  · exact .inl ⟨hc, by rw [fop_nan_l hn]; exact isN_nanOf _⟩
  · rcases hy with ⟨hc, hn⟩ | ⟨hy, hY⟩
    · exact .inl ⟨hc, by rw [fop_nan_r hn]; exact isN_nanOf _⟩
    · obtain ⟨s, q, e, _, _, _, n3, _⟩ := fop_add hx hy
      have hq : q ≤ z := n3 z (by omega)
      have hqi : q < FloatKind.f32.format.infRung := Nat.lt_of_le_of_lt hq hz
      rw [e]
      exact .inr ⟨word_isNum _ hqi, by rw [fv_word_abs _ hqi]; exact rv_le hq⟩
theorem Bq.sub {X Y x y : Nat} (z : Nat) (hx : Bq c X x) (hy : Bq c Y y) (h : X + Y ≤ rv FloatKind.f32.format z) (hz : z < 2139095040) : Bq c (rv FloatKind.f32.format z) (fop .sub .f32 x y) := by
  rcases hx with ⟨hc, hn⟩ | ⟨hx, hX⟩
  · exact .inl ⟨hc, by rw [fop_nan_l hn]; exact isN_nanOf _⟩
  · rcases hy with ⟨hc, hn⟩ | ⟨hy, hY⟩
    · exact .inl ⟨hc, by rw [fop_nan_r hn]; exact isN_nanOf _⟩
    · obtain ⟨s, q, e, _, _, _, n3, _⟩ := fop_sub hx hy
      have hq : q ≤ z := n3 z (by omega)
      have hqi : q < FloatKind.f32.format.infRung := Nat.lt_of_le_of_lt hq hz
      rw [e]
      exact .inr ⟨word_isNum _ hqi, by rw [fv_word_abs _ hqi]; exact rv_le hq⟩
theorem Bq.quo {X W x y : Nat} (z : Nat) (hx : Bq c X x) (hy : isNum .f32 y = true) (hW : W ≤ (fv .f32 y).natAbs) (hW0 : 0 < W) (h : X * 2 ^ 149 ≤ rv FloatKind.f32.format z * W) (hz : z < 2139095040) : Bq c (rv FloatKind.f32.format z) (fop .quo .f32 x y) := by
  rcases hx with ⟨hc, hn⟩ | ⟨hx, hX⟩
  · exact .inl ⟨hc, by rw [fop_nan_l hn]; exact isN_nanOf _⟩
  · obtain ⟨q, e, _, n3, _⟩ := fop_quo hx hy (by omega)
    have hlp : lp .f32 = 149 := by decide
    rw [hlp] at n3
    have hq : q ≤ z := n3 z (Nat.le_trans (Nat.mul_le_mul_right _ hX) (Nat.le_trans h (Nat.mul_le_mul_left _ hW)))
    have hqi : q < FloatKind.f32.format.infRung := Nat.lt_of_le_of_lt hq hz
    rw [e]
    exact .inr ⟨word_isNum _ hqi, by rw [fv_word_abs _ hqi]; exact rv_le hq⟩
end
end Go.Sm
namespace Go.Sm
open Go Go.RowKit Go.Proofs Go.Sort
section
variable {P : Program} {ρ : Go.Shelf.Ren}
theorem scr_ints : ∀ {xs : List Int} {vs : List Value}, AllR SCR (Vec.cells ⟨.i64, xs⟩) vs → vs = xs.map (Value.int .i64)
  | [], [], _ => rfl
  | x :: xs, v :: vs, h => by
    have h1 : v = .int .i64 x := h.1
    have h2 : AllR SCR (Vec.cells ⟨.i64, xs⟩) vs := h.2
    rw [h1, scr_ints h2, List.map_cons]
  | [], _ :: _, h => h.elim
  | _ :: _, [], h => h.elim
theorem ints_scr : ∀ (xs : List Int), AllR SCR (Vec.cells ⟨.i64, xs⟩) (xs.map (Value.int .i64))
  | [] => trivial
  | x :: xs => ⟨rfl, ints_scr xs⟩
theorem keep_refl (v : Value) (w : World) : Keep (fun k => k < w.heap.size ∧ v.ownBlock ≠ some k) w w := ⟨rfl, rfl, rfl, Nat.le_refl _, fun _ _ => rfl⟩
theorem sort_cm (L : SlLaysN.n53 P ρ) {f : Nat} (hf : ρ.f 53 = f) {xs : List Int} (hsz : xs.length < 4611686018427387904) : CMOK P f ⟨.i64, xs⟩ [] [] ⟨.i64, xs.mergeSort fun x y => decide (x ≤ y)⟩ := by
  subst hf
  refine ⟨fun _ w e v cargs hrow hargs => ?_, fun z hz => by cases hz⟩
  have hc : cargs = [] := by cases cargs with
    | nil => rfl
    | cons _ _ => exact hargs.elim
  subst hc
  obtain ⟨vs, hown, hvs⟩ := hrow
  have hvs' := scr_ints hvs
  subst hvs'
  have hrv : RVs w w [v] [] [] := ⟨trivial, fun i j r r' v v' g _ hi => by simp at hi⟩
  rcases hown.2 with ⟨rfl, h0⟩ | ⟨g, cap, cur, rfl, hbase, hb, h1, h2, h3, h4⟩
  · have hx : xs = [] := List.eq_nil_of_length_eq_zero h0
    subst hx
    refine (AnyG.slices_Sort_int_none L none 0 w).mono ?_
    rintro en w' ⟨rfl, rfl⟩
    exact ⟨[], rfl, keep_refl _ _, ⟨[], by simpa using hown, by simp [Vec.cells, AllR]⟩, hrv⟩
  · simp only [K.sz, Nat.mul_one] at h3 h4
    have hg : g < w.heap.size := (Array.getElem?_eq_some_iff.1 hb).1
    refine (AnyG.slices_Sort_int L g 0 cap xs w (holds_of_blockI hb h4) hg hsz).mono ?_
    rintro en w' ⟨rfl, n, os, rfl⟩
    have hgb := grownBy_sortedI (w := w) (g := g) (n := n) (os := os) (xs.mergeSort fun x y => decide (x ≤ y)).toArray
    refine ⟨[], rfl, ⟨hgb.os, hgb.tape, hgb.output, hgb.size, fun k hk => hgb.block k hk.1 fun e => hk.2 e.symm⟩, ⟨(xs.mergeSort fun x y => decide (x ≤ y)).map (Value.int .i64), ?_, ints_scr _⟩, ⟨trivial, fun i j r r' v v' g _ hi => by simp at hi⟩⟩
    have := ownsRow_sortedI (w := w) (base := 0) (g := g) (cap := cap) (n := n) (e := e) (os := os) (cur := cur) (ss := xs) (ts := xs.mergeSort fun x y => decide (x ≤ y)) (by simp) hbase hb h1 h2 (by omega)
    show World.ownsRow _ 0 e 1 _ (xs.mergeSort fun x y => decide (x ≤ y)).length _
    rw [List.length_mergeSort]
    exact this
def Strikes (P : Program) (g : Nat) (caps : List PT) (p : Int → Bool) : Prop :=
  ∀ (W : World) (Pr : Nat → Prop) (cs : List Value) (x : Int), AllR (PtR W Pr []) caps cs → FnGives P g cs.toArray #[.int .i64 x] (.bool (p x)) W
theorem del_cut (L : SlLaysH.n10 P ρ) {f g : Nat} (hf : ρ.f 10 = f) (hz : ∀ w, (zeroValue (ρ.t 23)).run P w = .ok (.int .i64 0) w) {caps : List PT} {p : Int → Bool} (hr : Real P g) (hs : Strikes P g caps p) {xs : List Int} (hne : xs ≠ []) (hle : xs.length ≤ 1099511627776) :
    CutOK P f ⟨.i64, xs⟩ [.fn g caps] ⟨.i64, xs.filter fun x => !p x⟩ := by
  subst hf
  intro w e v cargs hrow hargs
  match cargs, hargs with
  | [u], hargs =>
    obtain ⟨cs, rfl, hcs⟩ := hargs.1
    obtain ⟨vs, hown, hvs⟩ := hrow
    have hvs' := scr_ints hvs
    subst hvs'
    rcases hown.2 with ⟨rfl, h0⟩ | ⟨gb, cap, cur, rfl, hbase, hb, h1, h2, h3, h4⟩
    · exact absurd (List.eq_nil_of_length_eq_zero h0) hne
    · simp only [K.sz, Nat.mul_one] at h3 h4
      have hg : gb < w.heap.size := (Array.getElem?_eq_some_iff.1 hb).1
      have hp : PredAt P g cs.toArray (Value.int .i64) p w := fun W x hbl => hs W _ cs x (hcs.mono fun a b h => PtR.keep (fun k hk => hbl.block k hk.1) (fun _ _ h => h) h)
      have hpo : PredOver P g cs.toArray (Value.int .i64) p gb 0 xs.toArray.size w := fun n os dk x _ => hs _ _ cs x (hcs.mono fun a b h => PtR.keep (fun k hk => (grownBy_sortedI (w := w) (g := gb) (n := n) (os := os) dk).block k hk.1 fun e => hk.2 e.symm) (fun _ _ h => h) h)
      have hH : Holds (Value.int .i64) w gb 0 xs.toArray := holds_of_blockI hb h4
      have hcon := AnyE.slices_DeleteFunc L (Value.int .i64) (fun _ => rfl) p g cs.toArray (fun args w => callFunc_run hr args w) 0 hz gb 0 cap xs.toArray w hp hpo hH (by simp; omega) (by simpa using h1)
      simp only [List.size_toArray] at hcon
      refine hcon.mono ?_
      rintro en w' ⟨rfl, q, rfl⟩
      have hlen : (xs.filter fun x => !p x).length ≤ xs.length := List.length_filter_le _ _
      generalize hys : (xs.filter fun x => !p x) = ys at *
      have hgb := grownBy_sortedI (w := w) (g := gb) (n := q) (os := #[]) (ys ++ List.replicate (xs.length - ys.length) 0).toArray
      rw [grow_empty] at hgb
      refine ⟨_, rfl, ⟨hgb.os, hgb.tape, hgb.output, hgb.size, fun k hk => hgb.block k hk.1 fun e => hk.2 e.symm⟩, ⟨ys.map (Value.int .i64), ⟨by simp [K.sz], .inr ⟨gb, cap, putCells (Value.int .i64) 0 (ys ++ List.replicate (xs.length - ys.length) 0).toArray cur, rfl, hbase, ?_, by show ys.length ≤ cap; have h1' : xs.length ≤ cap := h1; omega, h2, ?_, ?_⟩⟩, ints_scr _⟩, fun g' hg' => .inl hg'⟩
      · have := heap_sortedI (w := w) (g := gb) (n := q) (os := #[]) (e := e) (fr := (0, 0)) (ys ++ List.replicate (xs.length - ys.length) 0).toArray hb
        rw [grow_empty] at this
        exact this
      · show (putCells _ _ _ _).size = cap * 1
        simp [putCells, h3]
      · show List.take (ys.length * 1) _ = _
        rw [Nat.mul_one]
        have ht := take_putCellsI cur (ys ++ List.replicate (xs.length - ys.length) 0) (by have h1' : xs.length ≤ cap := h1; simp; omega)
        have hl : (ys ++ List.replicate (xs.length - ys.length) (0 : Int)).length = xs.length := by simp; omega
        rw [hl] at ht
        have h5 := congrArg (List.take ys.length) ht
        rw [List.take_take, Nat.min_eq_left hlen] at h5
        rw [h5, List.map_append, List.take_append_of_le_length (by simp), List.take_of_length_le (by simp)]
end
end Go.Sm
namespace Go.Sm
open Go
def struck (b a x : Int) : Bool := (x == b) || decide ((if IntKind.i64.wrap (b - x) > IntKind.i64.wrap (x - b) then IntKind.i64.wrap (b - x) else IntKind.i64.wrap (x - b)) < a)
theorem struck_eq (b a x : Int) : (x == b || decide (max (RowKit.wrap64 (x - b)) (RowKit.wrap64 (b - x)) < a)) = struck b a x := by
  unfold struck
  have e : ∀ n, IntKind.i64.wrap n = RowKit.wrap64 n := fun n => by rw [IntKind.wrap_i64, RowKit.wrap64]
  rw [e, e]
  have e2 : max (RowKit.wrap64 (x - b)) (RowKit.wrap64 (b - x)) = if RowKit.wrap64 (b - x) > RowKit.wrap64 (x - b) then RowKit.wrap64 (b - x) else RowKit.wrap64 (x - b) := by split <;> omega
  rw [e2]
def inR (n : Nat) (x : Int) : Bool := decide (0 ≤ x ∧ x < (n : Int))
def peak (xs : List Nat) (c j : Nat) : Bool := fcmp .geq .f32 (xs.getD j 0) c && (fcmp .gtr .f32 (xs.getD j 0) (xs.getD (j - 1) 0) && fcmp .geq .f32 (xs.getD j 0) (xs.getD (j + 1) 0))
def peaksOk (xs : List Nat) (c : Nat) (a : Int) : Bool := listOk xs 1 && (fin c && within a 1 128)
def pkAdd (xs : List Nat) (c j : Nat) (zs : List Int) : List Int := bif peak xs c j then zs ++ [(j : Int)] else zs
def pkFirst (xs : List Nat) (c : Nat) : List Int := rep (pkAdd xs c) (xs.length - 2) 1 []
def pickB (xs : List Nat) (l : List Int) (j : Nat) (b : Int) : Int := bif fcmp .gtr .f32 (xs.getD (l.getD j 0).toNat 0) (xs.getD b.toNat 0) then l.getD j 0 else b
def bestOf (xs : List Nat) (l : List Int) : Int := rep (pickB xs l) l.length 0 (l.getD 0 0)
def pkRun (xs : List Nat) (a : Int) : Nat → List Int → List Int → List Int
  | 0, _, o => o
  | m + 1, l, o => bif l.isEmpty then o else pkRun xs a m (l.filter fun x => !struck (bestOf xs l) a x) (o ++ [bestOf xs l])
def peaksI (xs : List Nat) (c : Nat) (a : Int) : List Int := (pkRun xs a (pkFirst xs c).length (pkFirst xs c) []).mergeSort fun x y => decide (x ≤ y)
def pkSet (xs : List Nat) (c j : Nat) (l : List Bool) : List Bool := l.set j (peak xs c j)
def pkMarks (xs : List Nat) (c : Nat) : List Bool := rep (pkSet xs c) (xs.length - 2) 1 (List.replicate xs.length false)
def bestF (xs : List Nat) (l : List Bool) (j : Nat) (b : Int) : Int := bif l.getD j false && (decide (b < 0) || fcmp .gtr .f32 (xs.getD j 0) (xs.getD b.toNat 0)) then (j : Int) else b
def bestS (xs : List Nat) (l : List Bool) : Int := rep (bestF xs l) xs.length 0 (-1)
def clrF (b a : Int) (j : Nat) (l : List Bool) : List Bool := bif decide ((j : Int) > IntKind.i64.wrap (b - a)) && decide ((j : Int) < IntKind.i64.wrap (b + a)) then l.set j false else l
def clr (n : Nat) (b a : Int) (l : List Bool) : List Bool := rep (clrF b a) n 0 l
def spRun (xs : List Nat) (a : Int) : Nat → List Bool → List Bool → List Bool
  | 0, _, t => t
  | m + 1, l, t => bif decide (bestS xs l < 0) then t else spRun xs a m (clr xs.length (bestS xs l) a l) (t.set (bestS xs l).toNat true)
def pkTake (t : List Bool) (j : Nat) (zs : List Int) : List Int := bif t.getD j false then zs ++ [(j : Int)] else zs
def peaksS (xs : List Nat) (c : Nat) (a : Int) : List Int := rep (pkTake (spRun xs a xs.length (pkMarks xs c) (List.replicate xs.length false))) xs.length 0 []
theorem rep_in {σ : Type} (I : σ → Prop) {f : Nat → σ → σ} {hi : Nat} (h : ∀ j s, j < hi → I s → I (f j s)) : ∀ (m j : Nat) (s : σ), j + m ≤ hi → I s → I (rep f m j s)
  | 0, _, _, _, hs => hs
  | m + 1, j, s, hj, hs => by
    unfold rep
    exact rep_in I h m (j + 1) _ (by omega) (h j s (by omega) hs)
theorem rep_fold {σ : Type} (f : Nat → σ → σ) : ∀ (m j : Nat) (s : σ), rep f m j s = (fromTo j m).foldl (fun s j => f j s) s
  | 0, _, _ => rfl
  | m + 1, j, s => by
    unfold rep
    rw [rep_fold f m (j + 1), fromTo_succ, List.foldl_cons]
theorem inR_at {n j : Nat} {l : List Int} (h : l.all (inR n) = true) (hj : j < l.length) : inR n (l.getD j 0) = true := by
  have e : l.getD j 0 = l[j] := by simp [List.getD, hj]
  rw [e]
  exact List.all_eq_true.1 h _ (List.getElem_mem hj)
theorem inR_get {xs : List Nat} {x : Int} (h : inR xs.length x = true) : xs[Int.toNat x]? = some (xs.getD (Int.toNat x) 0) := by
  have h1 := of_decide_eq_true h
  have h2 : Int.toNat x < xs.length := by omega
  simp [List.getD, h2]
theorem pkFirst_eq (xs : List Nat) (c : Nat) : pkFirst xs c = ((fromTo 1 (xs.length - 2)).filter (peak xs c)).map fun j => ((j : Nat) : Int) := by
  have h := rep_filter (peak xs c) (fun j : Nat => (j : Int)) (xs.length - 2) 1 []
  rw [List.nil_append] at h
  exact h
theorem pkFirst_len (xs : List Nat) (c : Nat) : (pkFirst xs c).length ≤ xs.length := by
  rw [pkFirst_eq, List.length_map]
  have h := List.length_filter_le (peak xs c) (fromTo 1 (xs.length - 2))
  rw [fromTo_len] at h
  omega
theorem pkFirst_all (xs : List Nat) (c : Nat) : (pkFirst xs c).all (inR xs.length) = true := by
  rw [pkFirst_eq, List.all_eq_true]
  intro x hx
  obtain ⟨j, hj, rfl⟩ := List.mem_map.1 hx
  have h := fromTo_mem (List.mem_filter.1 hj).1
  exact decide_eq_true (by omega)
theorem struck_self (b a : Int) : struck b a b = true := by unfold struck; rw [beq_self_eq_true, Bool.true_or]
theorem bestOf_mem {xs : List Nat} {l : List Int} (h : l ≠ []) : bestOf xs l ∈ l := by
  have hl := List.length_pos_iff.2 h
  have key : ∀ j, j < l.length → l.getD j 0 ∈ l := fun j hj => by
    have e : l.getD j 0 = l[j] := by simp [List.getD, hj]
    rw [e]
    exact List.getElem_mem hj
  refine rep_in (fun b => b ∈ l) (hi := l.length) (fun j b hj hb => ?_) l.length 0 _ (by omega) (key 0 hl)
  show (bif fcmp .gtr .f32 (xs.getD (l.getD j 0).toNat 0) (xs.getD b.toNat 0) then l.getD j 0 else b) ∈ l
  cases fcmp .gtr .f32 (xs.getD (l.getD j 0).toNat 0) (xs.getD b.toNat 0) with
  | true => exact key j hj
  | false => exact hb
theorem filter_less {p : Int → Bool} : ∀ {l : List Int} {b : Int}, b ∈ l → p b = false → (l.filter p).length < l.length
  | x :: l, b, hb, hp => by
    rw [List.filter_cons]
    rcases List.mem_cons.1 hb with rfl | hb
    · have := List.length_filter_le p l
      simp only [hp, Bool.false_eq_true, if_false, List.length_cons]
      omega
    · have := filter_less hb hp
      cases p x with
      | true => simp only [if_true, List.length_cons]; omega
      | false => simp only [Bool.false_eq_true, if_false, List.length_cons]; omega
theorem struck_less {xs : List Nat} {l : List Int} (a : Int) (h : l ≠ []) : (l.filter fun x => !struck (bestOf xs l) a x).length < l.length :=
  filter_less (bestOf_mem h) (by rw [struck_self]; rfl)
theorem all_filter {p q : Int → Bool} {l : List Int} (h : l.all p = true) : (l.filter q).all p = true :=
  List.all_eq_true.2 fun x hx => List.all_eq_true.1 h x (List.mem_filter.1 hx).1
theorem pkRun_len (xs : List Nat) (a : Int) : ∀ (m : Nat) (l o : List Int), (pkRun xs a m l o).length ≤ o.length + m
  | 0, _, o => by simp [pkRun]
  | m + 1, l, o => by
    unfold pkRun
    cases l.isEmpty with
    | true => simp
    | false =>
      have h := pkRun_len xs a m (l.filter fun x => !struck (bestOf xs l) a x) (o ++ [bestOf xs l])
      rw [List.length_append, List.length_singleton] at h
      simp only [cond_false]
      omega
theorem pkMarks_len (xs : List Nat) (c m j : Nat) (l : List Bool) : (rep (pkSet xs c) m j l).length = l.length :=
  rep_in (fun z => z.length = l.length) (hi := j + m) (fun j s _ hs => by simpa [pkSet] using hs) m j l (Nat.le_refl _) rfl
theorem bestS_ok (xs : List Nat) (l : List Bool) : (decide (bestS xs l < 0) || inR xs.length (bestS xs l)) = true ∧ (¬ bestS xs l < 0 → l.getD (bestS xs l).toNat false = true) := by
  refine rep_in (fun b => (decide (b < 0) || inR xs.length b) = true ∧ (¬ b < 0 → l.getD b.toNat false = true)) (hi := xs.length) (fun j b hj hb => ?_) xs.length 0 (-1) (by omega) ⟨rfl, fun h => absurd (by decide) h⟩
  unfold bestF
  cases h : l.getD j false && (decide (b < 0) || fcmp .gtr .f32 (xs.getD j 0) (xs.getD b.toNat 0)) with
  | false => exact hb
  | true =>
    rw [Bool.and_eq_true] at h
    refine ⟨?_, fun _ => by rw [cond_true, Int.toNat_natCast]; exact h.1⟩
    have : inR xs.length (j : Int) = true := decide_eq_true (by omega)
    rw [cond_true, this, Bool.or_true]
theorem clr_len (n : Nat) (b a : Int) (l : List Bool) : (clr n b a l).length = l.length :=
  rep_in (fun z => z.length = l.length) (hi := n) (fun j s _ hs => by
    show (bif _ then s.set j false else s).length = l.length
    cases decide ((j : Int) > IntKind.i64.wrap (b - a)) && decide ((j : Int) < IntKind.i64.wrap (b + a)) <;> simpa using hs) n 0 l (by omega) rfl
theorem rep_clr (b a : Int) (i : Nat) : ∀ (m j : Nat) (l : List Bool), (rep (clrF b a) m j l).getD i false = (l.getD i false && !(decide (j ≤ i ∧ i < j + m) && (decide ((i : Int) > IntKind.i64.wrap (b - a)) && decide ((i : Int) < IntKind.i64.wrap (b + a)))))
  | 0, j, l => by
    have h : decide (j ≤ i ∧ i < j + 0) = false := decide_eq_false (by omega)
    rw [h]
    simp [rep]
  | m + 1, j, l => by
    unfold rep
    rw [rep_clr b a i m (j + 1)]
    unfold clrF
    by_cases hij : j = i
    · subst hij
      have h1 : decide (j + 1 ≤ j ∧ j < j + 1 + m) = false := decide_eq_false (by omega)
      have h2 : decide (j ≤ j ∧ j < j + (m + 1)) = true := decide_eq_true (by omega)
      rw [h1, h2]
      cases decide ((j : Int) > IntKind.i64.wrap (b - a)) && decide ((j : Int) < IntKind.i64.wrap (b + a)) with
      | false => simp
      | true =>
        simp only [cond_true, Bool.not_false, Bool.and_true, Bool.not_true, Bool.and_false]
        rw [List.getD_eq_getElem?_getD, List.getElem?_set]
        simp only [if_true]
        split <;> rfl
    · have h1 : decide (j + 1 ≤ i ∧ i < j + 1 + m) = decide (j ≤ i ∧ i < j + (m + 1)) := decide_eq_decide.2 (by omega)
      rw [h1]
      have h2 : (bif decide ((j : Int) > IntKind.i64.wrap (b - a)) && decide ((j : Int) < IntKind.i64.wrap (b + a)) then l.set j false else l).getD i false = l.getD i false := by
        cases decide ((j : Int) > IntKind.i64.wrap (b - a)) && decide ((j : Int) < IntKind.i64.wrap (b + a)) with
        | false => rfl
        | true => simp [List.getD_eq_getElem?_getD, hij]
      rw [h2]
theorem clr_get {n i : Nat} {b a : Int} {l : List Bool} (hi : i < n) (hn : n ≤ 128) (hb : inR n b = true) (ha : 1 ≤ a ∧ a ≤ 128) : (clr n b a l).getD i false = (l.getD i false && !struck b a (i : Int)) := by
  have hb' := of_decide_eq_true hb
  unfold clr
  rw [rep_clr]
  have w1 : IntKind.i64.wrap (b - a) = b - a := wrap64 (by omega) (by omega)
  have w2 : IntKind.i64.wrap (b + a) = b + a := wrap64 (by omega) (by omega)
  have w3 : IntKind.i64.wrap (b - (i : Int)) = b - (i : Int) := wrap64 (by omega) (by omega)
  have w4 : IntKind.i64.wrap ((i : Int) - b) = (i : Int) - b := wrap64 (by omega) (by omega)
  have h1 : decide (0 ≤ i ∧ i < 0 + n) = true := decide_eq_true (by omega)
  unfold struck
  rw [w1, w2, w3, w4, h1, Bool.true_and]
  congr 2
  rw [Bool.eq_iff_iff]
  simp only [Bool.and_eq_true, Bool.or_eq_true, decide_eq_true_eq, beq_iff_eq]
  split <;> omega
theorem count_less : ∀ {l l' : List Bool} {b : Nat}, l'.length = l.length → (∀ i, l'.getD i false = true → l.getD i false = true) → l.getD b false = true → l'.getD b false = false → l'.count true < l.count true
  | [], [], b, _, _, h, _ => by simp at h
  | x :: l, y :: l', 0, hl, hm, h1, h2 => by
    have hx : x = true := by simpa using h1
    have hy : y = false := by simpa using h2
    subst hx hy
    have hle : l'.count true ≤ l.count true := count_le (by simpa using hl) fun i hi => by simpa using hm (i + 1) (by simpa using hi)
    simp
    omega
  | x :: l, y :: l', b + 1, hl, hm, h1, h2 => by
    have ih := count_less (l := l) (l' := l') (b := b) (by simpa using hl) (fun i hi => by simpa using hm (i + 1) (by simpa using hi)) (by simpa using h1) (by simpa using h2)
    have h0 := hm 0
    cases x <;> cases y <;> simp at h0 ⊢ <;> omega
  | [], _ :: _, _, hl, _, _, _ => by simp at hl
  | _ :: _, [], _, hl, _, _, _ => by simp at hl
where
  count_le : ∀ {l l' : List Bool}, l'.length = l.length → (∀ i, l'.getD i false = true → l.getD i false = true) → l'.count true ≤ l.count true
    | [], [], _, _ => Nat.le_refl _
    | x :: l, y :: l', hl, hm => by
      have ih := count_le (l := l) (l' := l') (by simpa using hl) fun i hi => by simpa using hm (i + 1) (by simpa using hi)
      have h0 := hm 0
      cases x <;> cases y <;> simp at h0 ⊢ <;> omega
    | [], _ :: _, hl, _ => by simp at hl
    | _ :: _, [], hl, _ => by simp at hl
theorem clr_less {xs : List Nat} {l : List Bool} {a : Int} (hl : l.length = xs.length) (hn : xs.length ≤ 128) (ha : 1 ≤ a ∧ a ≤ 128) (hb : ¬ bestS xs l < 0) : (clr xs.length (bestS xs l) a l).count true < l.count true := by
  obtain ⟨h1, h2⟩ := bestS_ok xs l
  have h3 : inR xs.length (bestS xs l) = true := by rw [decide_eq_false hb, Bool.false_or] at h1; exact h1
  have h4 := of_decide_eq_true h3
  refine count_less (b := (bestS xs l).toNat) (clr_len _ _ _ _) (fun i hi => ?_) (h2 hb) ?_
  · rcases Nat.lt_or_ge i xs.length with hlt | hge
    · rw [clr_get hlt hn h3 ha, Bool.and_eq_true] at hi
      exact hi.1
    · rw [List.getD_eq_getElem?_getD, List.getElem?_eq_none (by rw [clr_len]; omega)] at hi
      cases hi
  · rw [clr_get (by omega) hn h3 ha, show (((bestS xs l).toNat : Nat) : Int) = bestS xs l by omega, struck_self]
    simp
theorem spRun_len (xs : List Nat) (a : Int) : ∀ (m : Nat) (l t : List Bool), (spRun xs a m l t).length = t.length
  | 0, _, _ => rfl
  | m + 1, l, t => by
    unfold spRun
    cases decide (bestS xs l < 0) with
    | true => rfl
    | false =>
      rw [cond_false, spRun_len xs a m, List.length_set]
end Go.Sm
namespace Go.Sm
open Go
def idxN (n : Nat) (l : List Bool) : List Nat := (fromTo 0 n).filter fun j => l.getD j false
def idx (n : Nat) (l : List Bool) : List Int := (idxN n l).map fun j => ((j : Nat) : Int)
theorem idxN_mem {n : Nat} {l : List Bool} {j : Nat} : j ∈ idxN n l ↔ j < n ∧ l.getD j false = true := by
  unfold idxN
  rw [List.mem_filter]
  constructor
  · rintro ⟨h1, h2⟩
    have := fromTo_mem h1
    exact ⟨by omega, h2⟩
  · rintro ⟨h1, h2⟩
    refine ⟨?_, h2⟩
    unfold fromTo
    rw [List.mem_range']
    exact ⟨j, by omega, by omega⟩
theorem idx_mem {n : Nat} {l : List Bool} {x : Int} : x ∈ idx n l ↔ inR n x = true ∧ l.getD x.toNat false = true := by
  unfold idx
  rw [List.mem_map]
  constructor
  · rintro ⟨j, hj, rfl⟩
    obtain ⟨h1, h2⟩ := idxN_mem.1 hj
    exact ⟨decide_eq_true (by omega), by rw [Int.toNat_natCast]; exact h2⟩
  · rintro ⟨h1, h2⟩
    have h3 := of_decide_eq_true h1
    exact ⟨x.toNat, idxN_mem.2 ⟨by omega, h2⟩, by omega⟩
theorem fromTo_asc : ∀ (m j : Nat), (fromTo j m).Pairwise (· < ·)
  | 0, _ => List.Pairwise.nil
  | m + 1, j => by
    rw [fromTo_succ]
    exact List.Pairwise.cons (fun x hx => by have := fromTo_mem hx; omega) (fromTo_asc m (j + 1))
theorem idx_asc (n : Nat) (l : List Bool) : (idx n l).Pairwise (· < ·) := by
  unfold idx idxN
  rw [List.pairwise_map]
  exact ((fromTo_asc n 0).filter _).imp fun h => by omega
theorem asc_eq : ∀ {l l' : List Int}, l.Pairwise (· < ·) → l'.Pairwise (· < ·) → (∀ x, x ∈ l ↔ x ∈ l') → l = l'
  | [], [], _, _, _ => rfl
  | [], y :: l', _, _, h => absurd ((h y).2 (by simp)) (by simp)
  | x :: l, [], _, _, h => absurd ((h x).1 (by simp)) (by simp)
  | x :: l, y :: l', h1, h2, h => by
    rw [List.pairwise_cons] at h1 h2
    have hxy : x = y := by
      have a := (h x).1 (by simp)
      have b := (h y).2 (by simp)
      rcases List.mem_cons.1 a with a | a
      · exact a
      · rcases List.mem_cons.1 b with b | b
        · exact b.symm
        · have := h2.1 x a
          have := h1.1 y b
          omega
    subst hxy
    refine congrArg (x :: ·) (asc_eq h1.2 h2.2 fun z => ⟨fun hz => ?_, fun hz => ?_⟩)
    · rcases List.mem_cons.1 ((h z).1 (by simp [hz])) with e | e
      · have := h1.1 z hz; omega
      · exact e
    · rcases List.mem_cons.1 ((h z).2 (by simp [hz])) with e | e
      · have := h2.1 z hz; omega
      · exact e
theorem sort_asc {o : List Int} (h : o.Nodup) : (o.mergeSort fun x y => decide (x ≤ y)).Pairwise (· < ·) := by
  have h1 : (o.mergeSort fun x y => decide (x ≤ y)).Pairwise (fun x y => decide (x ≤ y) = true) :=
    List.pairwise_mergeSort (fun a b c h1 h2 => by simp only [decide_eq_true_eq] at *; omega) (fun a b => by simp only [Bool.or_eq_true, decide_eq_true_eq]; omega) o
  have h2 : (o.mergeSort fun x y => decide (x ≤ y)).Nodup := (List.mergeSort_perm o _).nodup_iff.2 h
  have h3 : (o.mergeSort fun x y => decide (x ≤ y)).Pairwise (fun x y => x ≠ y) := h2
  exact (h1.and h3).imp fun h => by
    obtain ⟨a, b⟩ := h
    have := of_decide_eq_true a
    omega
theorem sort_idx {n : Nat} {t : List Bool} {o : List Int} (ho : o.Nodup) (hm : ∀ x, x ∈ o ↔ inR n x = true ∧ t.getD x.toNat false = true) : (o.mergeSort fun x y => decide (x ≤ y)) = idx n t :=
  asc_eq (sort_asc ho) (idx_asc n t) fun x => by rw [List.mem_mergeSort, hm, idx_mem]
theorem best_skip (xs : List Nat) (l : List Bool) : ∀ (js : List Nat) (b : Int), js.foldl (fun b j => bestF xs l j b) b = (js.filter fun j => l.getD j false).foldl (fun b j => bif decide (b < 0) || fcmp .gtr .f32 (xs.getD j 0) (xs.getD b.toNat 0) then ((j : Nat) : Int) else b) b
  | [], _ => rfl
  | j :: js, b => by
    rw [List.foldl_cons, best_skip xs l js, List.filter_cons]
    unfold bestF
    cases h : l.getD j false with
    | false => simp
    | true => simp
theorem best_tail (xs : List Nat) : ∀ (js : List Nat) (b : Nat), js.foldl (fun (b : Int) j => bif decide (b < 0) || fcmp .gtr .f32 (xs.getD j 0) (xs.getD b.toNat 0) then ((j : Nat) : Int) else b) (b : Int) =
    (js.map fun j => ((j : Nat) : Int)).foldl (fun (b x : Int) => bif fcmp .gtr .f32 (xs.getD x.toNat 0) (xs.getD b.toNat 0) then x else b) (b : Int)
  | [], _ => rfl
  | j :: js, b => by
    have h : decide (((b : Nat) : Int) < 0) = false := decide_eq_false (by omega)
    rw [List.map_cons, List.foldl_cons, List.foldl_cons, h, Bool.false_or, Int.toNat_natCast, Int.toNat_natCast]
    cases fcmp .gtr .f32 (xs.getD j 0) (xs.getD b 0) with
    | true => exact best_tail xs js j
    | false => exact best_tail xs js b
theorem bestS_idx (xs : List Nat) (l : List Bool) : bestS xs l = (idxN xs.length l).foldl (fun b j => bif decide (b < 0) || fcmp .gtr .f32 (xs.getD j 0) (xs.getD b.toNat 0) then ((j : Nat) : Int) else b) (-1) := by
  unfold bestS
  rw [rep_fold, best_skip]
  rfl
theorem bestS_none {xs : List Nat} {l : List Bool} (h : idxN xs.length l = []) : bestS xs l = -1 := by rw [bestS_idx, h]; rfl
theorem best_same {xs : List Nat} {l : List Bool} (h : idxN xs.length l ≠ []) : bestS xs l = bestOf xs (idx xs.length l) ∧ ¬ bestS xs l < 0 := by
  have e : bestOf xs (idx xs.length l) = (idx xs.length l).foldl (fun (b x : Int) => bif fcmp .gtr .f32 (xs.getD x.toNat 0) (xs.getD b.toNat 0) then x else b) ((idx xs.length l).getD 0 0) := by
    have := rep_list (0 : Int) (fun (b x : Int) => bif fcmp .gtr .f32 (xs.getD x.toNat 0) (xs.getD b.toNat 0) then x else b) (idx xs.length l) (idx xs.length l).length 0 ((idx xs.length l).getD 0 0) (by omega)
    rw [List.drop_zero] at this
    rw [← this]
    rfl
  rw [bestS_idx, e]
  unfold idx
  cases hj : idxN xs.length l with
  | nil => exact absurd hj h
  | cons j js =>
    have e2 : (bif fcmp .gtr .f32 (xs.getD ((j : Nat) : Int).toNat 0) (xs.getD ((j : Nat) : Int).toNat 0) then ((j : Nat) : Int) else ((j : Nat) : Int)) = ((j : Nat) : Int) := by cases fcmp .gtr .f32 (xs.getD ((j : Nat) : Int).toNat 0) (xs.getD ((j : Nat) : Int).toNat 0) <;> rfl
    have e3 : (bif decide ((-1 : Int) < 0) || fcmp .gtr .f32 (xs.getD j 0) (xs.getD (-1 : Int).toNat 0) then ((j : Nat) : Int) else -1) = ((j : Nat) : Int) := rfl
    have e4 : (List.map (fun j => ((j : Nat) : Int)) (j :: js)).getD 0 0 = ((j : Nat) : Int) := rfl
    rw [e4, List.map_cons, List.foldl_cons, List.foldl_cons, e2, e3]
    refine ⟨best_tail xs js j, ?_⟩
    have key : ∀ (js : List Nat) (b : Int), 0 ≤ b → 0 ≤ js.foldl (fun (b : Int) j => bif decide (b < 0) || fcmp .gtr .f32 (xs.getD j 0) (xs.getD b.toNat 0) then ((j : Nat) : Int) else b) b := by
      intro js
      induction js with
      | nil => intro b hb; exact hb
      | cons q js ih =>
        intro b hb
        rw [List.foldl_cons]
        refine ih _ ?_
        cases decide (b < 0) || fcmp .gtr .f32 (xs.getD q 0) (xs.getD b.toNat 0) with
        | true => show (0 : Int) ≤ ((q : Nat) : Int); omega
        | false => exact hb
    have := key js (j : Int) (by omega)
    omega
theorem idx_clr {n : Nat} {b a : Int} {l : List Bool} (hn : n ≤ 128) (hb : inR n b = true) (ha : 1 ≤ a ∧ a ≤ 128) : idx n (clr n b a l) = (idx n l).filter fun x => !struck b a x := by
  refine asc_eq (idx_asc _ _) ((idx_asc _ _).filter _) fun x => ?_
  rw [List.mem_filter, idx_mem, idx_mem]
  constructor
  · rintro ⟨h1, h2⟩
    have h3 := of_decide_eq_true h1
    rw [clr_get (by omega) hn hb ha, Bool.and_eq_true, show ((x.toNat : Nat) : Int) = x by omega] at h2
    exact ⟨⟨h1, h2.1⟩, h2.2⟩
  · rintro ⟨⟨h1, h2⟩, h3⟩
    have h4 := of_decide_eq_true h1
    refine ⟨h1, ?_⟩
    rw [clr_get (by omega) hn hb ha, Bool.and_eq_true, show ((x.toNat : Nat) : Int) = x by omega]
    exact ⟨h2, h3⟩
theorem idx_nil {n : Nat} {l : List Bool} (h : idxN n l = []) : idx n l = [] := by unfold idx; rw [h]; rfl
theorem run_same {xs : List Nat} {a : Int} (ha : 1 ≤ a ∧ a ≤ 128) (hn : xs.length ≤ 128) : ∀ (m m' : Nat) (l t : List Bool) (o : List Int), l.length = xs.length → t.length = xs.length → l.count true ≤ m → (idx xs.length l).length ≤ m' → o.Nodup →
    (∀ x, x ∈ o ↔ inR xs.length x = true ∧ t.getD x.toNat false = true) → (∀ x, x ∈ idx xs.length l → x ∉ o) → ((pkRun xs a m' (idx xs.length l) o).mergeSort fun x y => decide (x ≤ y)) = idx xs.length (spRun xs a m l t) := by
  intro m
  induction m with
  | zero =>
    intro m' l t o hl ht hc hc' ho hm hd
    have hj : idxN xs.length l = [] := by
      by_cases h : idxN xs.length l = []
      · exact h
      · exact absurd (clr_less hl hn ha (best_same h).2) (by omega)
    have e : pkRun xs a m' (idx xs.length l) o = o := by
      rw [idx_nil hj]
      cases m' <;> rfl
    rw [e]
    exact sort_idx ho hm
  | succ m ih =>
    intro m' l t o hl ht hc hc' ho hm hd
    by_cases hj : idxN xs.length l = []
    · have e : pkRun xs a m' (idx xs.length l) o = o := by
        rw [idx_nil hj]
        cases m' <;> rfl
      have e2 : spRun xs a (m + 1) l t = t := by rw [spRun, bestS_none hj]; rfl
      rw [e, e2]
      exact sort_idx ho hm
    · obtain ⟨hb, hb0⟩ := best_same hj
      have hne : idx xs.length l ≠ [] := by
        unfold idx
        intro h
        exact hj (List.map_eq_nil_iff.1 h)
      obtain ⟨m'', rfl⟩ : ∃ q, m' = q + 1 := ⟨m' - 1, by have := List.length_pos_iff.2 hne; omega⟩
      have hin : bestS xs l ∈ idx xs.length l := by rw [hb]; exact bestOf_mem hne
      have hinR := (idx_mem.1 hin).1
      have hR := of_decide_eq_true hinR
      have e2 : spRun xs a (m + 1) l t = spRun xs a m (clr xs.length (bestS xs l) a l) (t.set (bestS xs l).toNat true) := by rw [spRun, decide_eq_false hb0, cond_false]
      have hem : (idx xs.length l).isEmpty = false := by
        cases h : idx xs.length l with
        | nil => exact absurd h hne
        | cons _ _ => rfl
      have e1 : pkRun xs a (m'' + 1) (idx xs.length l) o = pkRun xs a m'' (idx xs.length (clr xs.length (bestS xs l) a l)) (o ++ [bestS xs l]) := by
        rw [pkRun, hem, cond_false, ← hb, ← idx_clr hn hinR ha]
      rw [e1, e2]
      have hless := clr_less hl hn ha hb0
      have hless2 := struck_less (xs := xs) a hne
      rw [← hb, ← idx_clr hn hinR ha] at hless2
      refine ih m'' _ _ _ (by rw [clr_len]; exact hl) (by rw [List.length_set]; exact ht) (by omega) (by omega) ?_ (fun x => ?_) fun x hx => ?_
      · rw [List.nodup_append]
        refine ⟨ho, by simp, fun x hx y hy e => ?_⟩
        rw [List.mem_singleton] at hy
        subst hy e
        exact hd _ hin hx
      · rw [List.mem_append, List.mem_singleton, hm]
        rw [List.getD_eq_getElem?_getD, List.getD_eq_getElem?_getD, List.getElem?_set]
        constructor
        · rintro (⟨h1, h2⟩ | rfl)
          · refine ⟨h1, ?_⟩
            split
            · split
              · rfl
              · have := of_decide_eq_true h1; omega
            · exact h2
          · refine ⟨hinR, ?_⟩
            rw [if_pos rfl, if_pos (by omega)]
            rfl
        · rintro ⟨h1, h2⟩
          have h3 := of_decide_eq_true h1
          by_cases he : (bestS xs l).toNat = x.toNat
          · exact .inr (by omega)
          · rw [if_neg he] at h2
            exact .inl ⟨h1, h2⟩
      · rw [idx_clr hn hinR ha] at hx
        obtain ⟨h1, h2⟩ := List.mem_filter.1 hx
        rw [List.mem_append, List.mem_singleton]
        rintro (h3 | rfl)
        · exact hd x h1 h3
        · rw [struck_self] at h2
          cases h2
theorem rep_set (p : Nat → Bool) : ∀ (m j : Nat) (l : List Bool) (i : Nat), i < l.length → (rep (fun j (l : List Bool) => l.set j (p j)) m j l).getD i false = if j ≤ i ∧ i < j + m then p i else l.getD i false
  | 0, j, l, i, hi => by
    rw [if_neg (by omega)]
    rfl
  | m + 1, j, l, i, hi => by
    unfold rep
    rw [rep_set p m (j + 1) _ i (by simpa using hi)]
    by_cases h1 : j = i
    · subst h1
      rw [if_neg (by omega), if_pos (by omega), List.getD_eq_getElem?_getD, List.getElem?_set, if_pos rfl, if_pos hi]
      rfl
    · by_cases h2 : j + 1 ≤ i ∧ i < j + 1 + m
      · rw [if_pos h2, if_pos (by omega)]
      · rw [if_neg h2, if_neg (by omega), List.getD_eq_getElem?_getD, List.getElem?_set, if_neg h1, ← List.getD_eq_getElem?_getD]
theorem marks_idx {xs : List Nat} {c : Nat} (h1 : 1 ≤ xs.length) : idx xs.length (pkMarks xs c) = pkFirst xs c := by
  have hl : (pkMarks xs c).length = xs.length := by unfold pkMarks; rw [pkMarks_len, List.length_replicate]
  refine asc_eq (idx_asc _ _) ?_ fun x => ?_
  · rw [pkFirst_eq, List.pairwise_map]
    exact ((fromTo_asc _ 1).filter _).imp fun h => by omega
  · rw [idx_mem, pkFirst_eq, List.mem_map]
    have hg : ∀ i, i < xs.length → (pkMarks xs c).getD i false = if 1 ≤ i ∧ i < 1 + (xs.length - 2) then peak xs c i else false := fun i hi => by
      have := rep_set (peak xs c) (xs.length - 2) 1 (List.replicate xs.length false) i (by simpa using hi)
      rw [show (List.replicate xs.length false).getD i false = false by simp [List.getD_eq_getElem?_getD, List.getElem?_replicate]; split <;> rfl] at this
      exact this
    constructor
    · rintro ⟨h2, h3⟩
      have h4 := of_decide_eq_true h2
      rw [hg _ (by omega)] at h3
      split at h3
      · rename_i h5
        refine ⟨x.toNat, List.mem_filter.2 ⟨?_, h3⟩, by omega⟩
        unfold fromTo
        rw [List.mem_range']
        exact ⟨x.toNat - 1, by omega, by omega⟩
      · cases h3
    · rintro ⟨j, hj, rfl⟩
      obtain ⟨h2, h3⟩ := List.mem_filter.1 hj
      have h4 := fromTo_mem h2
      refine ⟨decide_eq_true (by omega), ?_⟩
      rw [Int.toNat_natCast, hg _ (by omega), if_pos (by omega)]
      exact h3
theorem peaksS_eq (xs : List Nat) (c : Nat) (a : Int) : peaksS xs c a = idx xs.length (spRun xs a xs.length (pkMarks xs c) (List.replicate xs.length false)) := by
  have h := rep_filter (fun j => (spRun xs a xs.length (pkMarks xs c) (List.replicate xs.length false)).getD j false) (fun j : Nat => (j : Int)) xs.length 0 []
  rw [List.nil_append] at h
  exact h
theorem peaksS_len (xs : List Nat) (c : Nat) (a : Int) : (peaksS xs c a).length ≤ xs.length := by
  rw [peaksS_eq]
  unfold idx idxN
  rw [List.length_map]
  have h := List.length_filter_le (fun j => (spRun xs a xs.length (pkMarks xs c) (List.replicate xs.length false)).getD j false) (fromTo 0 xs.length)
  rw [fromTo_len] at h
  exact h
theorem peaks_same {xs : List Nat} {c : Nat} {a : Int} (h1 : 1 ≤ xs.length) (hn : xs.length ≤ 128) (ha : 1 ≤ a ∧ a ≤ 128) : peaksI xs c a = peaksS xs c a := by
  have hl : (pkMarks xs c).length = xs.length := by unfold pkMarks; rw [pkMarks_len, List.length_replicate]
  rw [peaksS_eq]
  unfold peaksI
  rw [← marks_idx h1]
  refine run_same ha hn _ _ _ _ _ hl (by simp) (by have := List.count_le_length (a := true) (l := pkMarks xs c); omega) (Nat.le_refl _) List.nodup_nil (fun x => ?_) fun x _ h => by simp at h
  constructor
  · intro h
    simp at h
  · rintro ⟨_, h⟩
    rw [List.getD_eq_getElem?_getD, List.getElem?_replicate] at h
    split at h <;> cases h
end Go.Sm
