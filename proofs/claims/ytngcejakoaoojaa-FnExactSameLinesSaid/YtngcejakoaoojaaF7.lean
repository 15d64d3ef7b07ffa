/- Floats: roots of 32-bit floats can be narrowed; the phasor; the logarithm. -/
import Derived.Test.YtngcejakoaoojaaF6
namespace Go.Sm
open Go Ieee

/-! ### The root -/
theorem no_pow {K L : Nat} (h1 : K < L) (h2 : 2 ^ L ≤ 2 ^ K) : False := absurd (Nat.pow_lt_pow_right (by decide : 1 < 2) h1) (Nat.not_lt.2 h2)

theorem rootFrom_lt (n : Nat) : ∀ (todo root : Nat), Datum.rootFrom n todo root < root + 2 ^ todo
  | 0, root => by unfold Datum.rootFrom; simp
  | todo + 1, root => by
    unfold Datum.rootFrom
    dsimp only
    rw [Nat.pow_succ]
    split
    · have := rootFrom_lt n todo (root + 1 <<< todo)
      rw [Nat.one_shiftLeft] at this ⊢
      omega
    · have := rootFrom_lt n todo root
      have := Nat.two_pow_pos todo
      omega

theorem log2_mul {m : Nat} (hm : m ≠ 0) (k : Nat) : (m * 2 ^ k).log2 = m.log2 + k := by
  have h0 : m * 2 ^ k ≠ 0 := Nat.mul_ne_zero hm (Nat.ne_of_gt (Nat.two_pow_pos k))
  rw [Nat.log2_eq_iff h0, Nat.pow_add, show m.log2 + k + 1 = m.log2 + 1 + k by omega, Nat.pow_add 2 (m.log2 + 1) k]
  exact ⟨Nat.mul_le_mul_right _ (Nat.log2_self_le hm), Nat.mul_lt_mul_of_pos_right Nat.lt_log2_self (Nat.two_pow_pos _)⟩

def rootF (x : Nat) : Nat := (fconv .f64 .f32 (fsqrt (wid x))).getD 0

theorem root_some (x : Nat) : ∃ r, fconv .f64 .f32 (fsqrt (wid x)) = some r := by
  rcases word_kind .f32 x with h | ⟨s, h⟩ | h
  · obtain ⟨w1, _, _, w4⟩ := wid_num h
    obtain ⟨m, e, h1, h2⟩ := isNum_spell w1
    have hl := lp_eq .f64
    have hl2 : lp .f64 = 1074 := by decide
    by_cases hm : m = 0
    · have hr : fsqrt (wid x) = FloatKind.f64.format.word (sgn .f64 (wid x)) 0 := by
        unfold fsqrt
        have : FloatKind.f64.format.sqrt (wid x) = some (FloatKind.f64.format.nearest (sgn .f64 (wid x)) 0 (FloatKind.f64.format.leastPlace + (e : Int))) := by
          unfold Format.sqrt
          rw [h1, hm]
          rfl
        rw [this]
        rfl
      rw [hr]
      cases sgn .f64 (wid x)
      · exact ⟨0, by decide +kernel⟩
      · exact ⟨2147483648, by decide +kernel⟩
    · cases hs : sgn .f64 (wid x) with
      | true =>
        have hr : fsqrt (wid x) = nanOf .f64 := by
          unfold fsqrt
          have : FloatKind.f64.format.sqrt (wid x) = none := by
            unfold Format.sqrt
            rw [h1, hs]
            have : (Datum.number true m (FloatKind.f64.format.leastPlace + (e : Int))).root (FloatKind.f64.format.fractionBits + 2) = none := (if_neg hm).trans (if_pos rfl)
            rw [this]
            rfl
          rw [this]
          rfl
        rw [hr]
        exact ⟨_, narrow_nan (isN_nanOf .f64)⟩
      | false =>
        have hlog : m.log2 + e ≤ 1074 + 128 := by
          have a1 : 2 ^ m.log2 * 2 ^ e ≤ m * 2 ^ e := Nat.mul_le_mul_right _ (Nat.log2_self_le hm)
          have a2 : rv FloatKind.f64.format (5179139571476070400 + 4503599627370496) = 2 ^ 1202 := by decide +kernel
          rw [a2, h2] at w4
          rw [← Nat.pow_add] at a1
          rcases Nat.lt_or_ge 1202 (m.log2 + e) with h3 | h3
          · exact (no_pow h3 (Nat.le_trans a1 w4)).elim
          · exact h3
        have hform : ∃ more whole st : Nat, st ≤ 1 ∧ whole < 2 ^ ((m.log2 + more) / 2 + 1) ∧ fsqrt (wid x) = FloatKind.f64.format.nearest false (2 * whole + st) ((FloatKind.f64.format.leastPlace + (e : Int) - (more : Int)) / 2 - 1) := by
          let more0 := 2 * (FloatKind.f64.format.fractionBits + 2) - m.log2
          let more := more0 + ((FloatKind.f64.format.leastPlace + (e : Int) - (more0 : Int)) % 2).toNat
          let n := m <<< more
          let whole := Datum.rootFrom n (n.log2 / 2 + 1) 0
          refine ⟨more, whole, (whole * whole != n).toNat, by cases (whole * whole != n) <;> decide, ?_, ?_⟩
          · have h3 := rootFrom_lt n (n.log2 / 2 + 1) 0
            rw [Nat.zero_add] at h3
            have h4 : n.log2 = m.log2 + more := by
              show (m <<< more).log2 = _
              rw [Nat.shiftLeft_eq, log2_mul hm]
            rw [← h4]
            exact h3
          · unfold fsqrt
            have : FloatKind.f64.format.sqrt (wid x) = some (FloatKind.f64.format.nearest false (2 * whole + (whole * whole != n).toNat) ((FloatKind.f64.format.leastPlace + (e : Int) - (more : Int)) / 2 - 1)) := by
              unfold Format.sqrt
              rw [h1, hs]
              have : (Datum.number false m (FloatKind.f64.format.leastPlace + (e : Int))).root (FloatKind.f64.format.fractionBits + 2) = some (.number false (2 * whole + (whole * whole != n).toNat) ((FloatKind.f64.format.leastPlace + (e : Int) - (more : Int)) / 2 - 1)) := (if_neg hm).trans (if_neg (by decide))
              rw [this]
              rfl
            rw [this]
            rfl
        obtain ⟨more, whole, st, hst, hwh, hr⟩ := hform
        have hb : nrung FloatKind.f64.format (2 * whole + st) ((FloatKind.f64.format.leastPlace + (e : Int) - (more : Int)) / 2 - 1) ≤ 5179139571476070400 := by
          have hmag : 2 * whole + st ≤ 2 ^ ((m.log2 + more) / 2 + 2) := by
            rw [Nat.pow_succ]
            omega
          obtain ⟨K, hK, a2⟩ : ∃ K : Nat, K = 1201 ∧ rv FloatKind.f64.format 5179139571476070400 = 2 ^ K := ⟨1201, rfl, by decide +kernel⟩
          obtain ⟨k1, k2, hk, hz⟩ : ∃ k1 k2 : Nat, (k1 : Int) - (k2 : Int) = (FloatKind.f64.format.leastPlace + (e : Int) - (more : Int)) / 2 - 1 - FloatKind.f64.format.leastPlace ∧ (k1 = 0 ∨ k2 = 0) := by
            rcases Int.le_total 0 ((FloatKind.f64.format.leastPlace + (e : Int) - (more : Int)) / 2 - 1 - FloatKind.f64.format.leastPlace) with h5 | h5
            · exact ⟨((FloatKind.f64.format.leastPlace + (e : Int) - (more : Int)) / 2 - 1 - FloatKind.f64.format.leastPlace).toNat, 0, by omega, .inr rfl⟩
            · exact ⟨0, (-((FloatKind.f64.format.leastPlace + (e : Int) - (more : Int)) / 2 - 1 - FloatKind.f64.format.leastPlace)).toNat, by omega, .inl rfl⟩
          refine nrung_le hk ?_
          rw [a2, ← Nat.pow_add]
          refine Nat.le_trans (Nat.mul_le_mul_right _ hmag) ?_
          rw [← Nat.pow_add]
          exact Nat.pow_le_pow_right (by decide) (by omega)
        have hlt : nrung FloatKind.f64.format (2 * whole + st) ((FloatKind.f64.format.leastPlace + (e : Int) - (more : Int)) / 2 - 1) < FloatKind.f64.format.infRung := Nat.lt_of_le_of_lt hb (by decide)
        rw [hr, nearest_eq]
        exact narrow_some (word_isNum _ hlt) (by rw [fv_word_abs _ hlt]; exact rv_le hb)
  · have hw := wid_inf h
    cases s with
    | false =>
      have hr : fsqrt (wid x) = inf64 := by
        unfold fsqrt
        have : FloatKind.f64.format.sqrt (wid x) = some inf64 := by
          unfold Format.sqrt
          rw [hw]
          decide +kernel
        rw [this]
        rfl
      rw [hr]
      exact ⟨2139095040, by decide +kernel⟩
    | true =>
      have hr : fsqrt (wid x) = nanOf .f64 := by
        unfold fsqrt
        have : FloatKind.f64.format.sqrt (wid x) = none := by
          unfold Format.sqrt
          rw [hw]
          rfl
        rw [this]
        rfl
      rw [hr]
      exact ⟨_, narrow_nan (isN_nanOf .f64)⟩
  · have hr : fsqrt (wid x) = nanOf .f64 := by
      rw [wid_nan h]
      decide +kernel
    rw [hr]
    exact ⟨_, narrow_nan (isN_nanOf .f64)⟩

theorem root_narrow (x : Nat) : fconv .f64 .f32 (fsqrt (wid x)) = some (rootF x) := by
  obtain ⟨r, hr⟩ := root_some x
  unfold rootF
  rw [hr]
  rfl

end Go.Sm
