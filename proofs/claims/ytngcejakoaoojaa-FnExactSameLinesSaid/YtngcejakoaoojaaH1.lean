/- Numbers alike to the last bit, by their bits and by their order and sign. -/
import Derived.Test.YtngcejakoaoojaaG9
namespace Go.Sm
open Go Ieee

def bitsI (a : Nat) : Int := bif isN .f32 a then 2143289344 else (a : Int)
def sameBits (a b : Nat) : Bool := bif isN .f32 a || isN .f32 b then isN .f32 a && isN .f32 b else fcmp .eql .f32 a b && (signF (wid a) == signF (wid b))

theorem inf_words {a : Nat} {s : Bool} (ha : a < 4294967296) (h : FloatKind.f32.format.read a = .infinity s) : a = bif s then 4286578688 else 2139095040 := by
  have key : a % 2147483648 = 2139095040 ∧ s = (a / 2147483648 % 2 == 1) := by
    unfold Format.read at h
    dsimp only at h
    split at h
    · cases h
    · split at h
      · cases h
      · split at h
        · rename_i h1 h2 h3
          cases h
          exact ⟨h3, rfl⟩
        · cases h
  obtain ⟨h1, h2⟩ := key
  have d := Nat.div_add_mod a 2147483648
  have hq : a / 2147483648 = 0 ∨ a / 2147483648 = 1 := by omega
  rcases hq with hq | hq
  · rw [hq] at h2 d
    subst h2
    show a = 2139095040
    omega
  · rw [hq] at h2 d
    subst h2
    show a = 4286578688
    omega

theorem signF_word (s : Bool) {q : Nat} (h : q < FloatKind.f64.format.infRung) : signF (FloatKind.f64.format.word s q) = s := by
  have hs : FloatKind.f64.format.infRung < 9223372036854775808 := by decide
  have e : FloatKind.f64.format.word s q = (bif s then 9223372036854775808 else 0) + q := by
    unfold Format.word
    cases s
    · simp
    · rfl
  rw [e]
  unfold signF
  rw [IntKind.wrap_i64]
  cases s
  · exact decide_eq_false (by simp only [cond_false]; omega)
  · exact decide_eq_true (by simp only [cond_true]; omega)

theorem wid_word {z : Nat} (h : isNum .f32 z = true) : ∃ q, q < FloatKind.f64.format.infRung ∧ wid z = FloatKind.f64.format.word (sgn .f32 z) q := by
  obtain ⟨m, e, h1, h2⟩ := isNum_spell h
  have hn : isN .f32 z = false := by
    show (FloatKind.f32.format.read z).isNaN = false
    rw [h1]
    rfl
  have hb := isNum_lt h
  have hr : nrung FloatKind.f64.format m (FloatKind.f32.format.leastPlace + (e : Int)) ≤ 5179139571476070400 + 4503599627370496 := by
    refine nrung_le (k1 := e + 925) (k2 := 0) (by have a1 := lp_eq .f64; have a2 := lp_eq .f32; have a3 : lp .f64 = 1074 := by decide
                                                  have a4 : lp .f32 = 149 := by decide
                                                  omega) ?_
    have e1 : rv FloatKind.f32.format 2139095040 * 2 ^ 925 = rv FloatKind.f64.format (5179139571476070400 + 4503599627370496) := by decide +kernel
    rw [Nat.pow_zero, Nat.mul_one, ← e1, Nat.pow_add, ← Nat.mul_assoc, ← h2]
    refine Nat.mul_le_mul_right _ ?_
    have e2 : (fv .f32 z).natAbs = rv FloatKind.f32.format (z % FloatKind.f32.format.signWeight) := by unfold fv; cases sgn .f32 z <;> simp
    rw [e2]
    exact rv_le (Nat.le_of_lt hb)
  have hlt : nrung FloatKind.f64.format m (FloatKind.f32.format.leastPlace + (e : Int)) < FloatKind.f64.format.infRung := Nat.lt_of_le_of_lt hr (by decide)
  refine ⟨_, hlt, ?_⟩
  rw [← nearest_eq]
  unfold wid fconv
  rw [hn]
  show (floatToFloatBits .f32 z .f64).getD 0 = _
  unfold floatToFloatBits
  rw [if_neg (by decide)]
  have hd : FloatKind.f32.decode z = .number (sgn .f32 z) m (FloatKind.f32.format.leastPlace + (e : Int)) := h1
  rw [hd]
  have hinf : (FloatKind.f64.decode (FloatKind.f64.encode (.number (sgn .f32 z) m (FloatKind.f32.format.leastPlace + (e : Int))))).isInfinity = false := by
    have hnum : isNum .f64 (FloatKind.f64.format.nearest (sgn .f32 z) m (FloatKind.f32.format.leastPlace + (e : Int))) = true := by
      rw [nearest_eq]
      exact word_isNum _ hlt
    obtain ⟨m', e', h3, _⟩ := isNum_read hnum
    show (FloatKind.f64.format.read (FloatKind.f64.format.nearest (sgn .f32 z) m (FloatKind.f32.format.leastPlace + (e : Int)))).isInfinity = false
    rw [h3]
    rfl
  simp only [hinf, Bool.false_eq_true, if_false]
  rfl
theorem signF_wid {z : Nat} (h : isNum .f32 z = true) : signF (wid z) = sgn .f32 z := by
  obtain ⟨q, hq, e⟩ := wid_word h
  rw [e]
  exact signF_word _ hq

theorem eql_self {a : Nat} (h : isN .f32 a = false) : fcmp .eql .f32 a a = true := by
  have h2 : fcmp .neq .f32 a a = false := by rw [fcmp_neq_self]; exact h
  unfold fcmp at h2 ⊢
  simpa using h2

theorem num_words {a b : Nat} (ha : a < 4294967296) (hb : b < 4294967296) (h : fv .f32 a = fv .f32 b) (hs : sgn .f32 a = sgn .f32 b) : a = b := by
  by_cases h0 : fv .f32 a = 0
  · have z1 : a % 2147483648 = 0 := fv_zero h0
    have z2 : b % 2147483648 = 0 := fv_zero (h ▸ h0)
    have s1 : (a / 2147483648 % 2 == 1) = (b / 2147483648 % 2 == 1) := hs
    have d1 := Nat.div_add_mod a 2147483648
    have d2 := Nat.div_add_mod b 2147483648
    have q1 : a / 2147483648 = 0 ∨ a / 2147483648 = 1 := by omega
    have q2 : b / 2147483648 = 0 ∨ b / 2147483648 = 1 := by omega
    rcases q1 with q1 | q1 <;> rcases q2 with q2 | q2 <;> rw [q1, q2] at s1 <;> first
      | omega
      | exact absurd s1 (by decide)
  · exact fv_inj (k := .f32) (show a < 2 * 2147483648 by omega) (show b < 2 * 2147483648 by omega) h h0

theorem eql_words {a b : Nat} (ha : a < 4294967296) (hb : b < 4294967296) (h : fcmp .eql .f32 a b = true) (hs : signF (wid a) = signF (wid b)) : a = b := by
  rcases word_kind .f32 a with na | ⟨s, ia⟩ | xa
  · rcases word_kind .f32 b with nb | ⟨t, ib⟩ | xb
    · refine num_words ha hb ?_ (by rw [← signF_wid na, ← signF_wid nb, hs])
      unfold fcmp at h
      rw [order_fv na nb] at h
      simp only [beq_iff_eq, Option.some.injEq] at h
      exact Int.compare_eq_eq.1 h
    · obtain ⟨m, e, h1, h2⟩ := isNum_read na
      unfold fcmp Format.order at h
      rw [h1, ib] at h
      cases t <;> simp [Datum.order] at h
    · have e : FloatKind.f32.format.order a b = some .eq := by unfold fcmp at h; simpa using h
      have hx := (order_some_num (k := .f32) e).2
      rw [xb] at hx
      cases hx
  · have e1 := inf_words ha ia
    rcases word_kind .f32 b with nb | ⟨t, ib⟩ | xb
    · obtain ⟨m, e, h1, h2⟩ := isNum_read nb
      unfold fcmp Format.order at h
      rw [h1, ia] at h
      cases s <;> simp [Datum.order] at h
    · have e2 := inf_words hb ib
      subst e1 e2
      cases s <;> cases t <;> first | rfl | (revert h; decide +kernel)
    · have e : FloatKind.f32.format.order a b = some .eq := by unfold fcmp at h; simpa using h
      have hx := (order_some_num (k := .f32) e).2
      rw [xb] at hx
      cases hx
  · have e : FloatKind.f32.format.order a b = some .eq := by unfold fcmp at h; simpa using h
    have hx := (order_some_num (k := .f32) e).1
    rw [xa] at hx
    cases hx

theorem bits_same {a b : Nat} (ha : a < 4294967296) (hb : b < 4294967296) : (bitsI a == bitsI b) = sameBits a b := by
  unfold bitsI sameBits
  have hnan : isN .f32 2143289344 = true := by decide +kernel
  cases xa : isN .f32 a with
  | true =>
    cases xb : isN .f32 b with
    | true => rfl
    | false =>
      simp only [cond_true, cond_false, Bool.or_false, Bool.and_false]
      rw [beq_eq_false_iff_ne]
      intro e
      have e2 : b = 2143289344 := by omega
      rw [e2, hnan] at xb
      cases xb
  | false =>
    cases xb : isN .f32 b with
    | true =>
      simp only [cond_true, cond_false, Bool.or_true, Bool.and_true]
      rw [beq_eq_false_iff_ne]
      intro e
      have e2 : a = 2143289344 := by omega
      rw [e2, hnan] at xa
      cases xa
    | false =>
      simp only [cond_false, Bool.or_self]
      rw [Bool.eq_iff_iff, beq_iff_eq, Bool.and_eq_true, beq_iff_eq]
      constructor
      · intro e
        have e2 : a = b := by omega
        subst e2
        exact ⟨eql_self xa, rfl⟩
      · intro ⟨h1, h2⟩
        rw [eql_words ha hb h1 h2]

/-! ### Lines -/
def sameLn (a b : LineV) : Bool := sameBits a.p b.p && (sameBits a.h b.h && (sameBits a.w b.w && a.k == b.k))
/-- The words of a line are 32-bit words. -/
def wordsL (a : LineV) : Bool := decide (a.p < 4294967296) && (decide (a.h < 4294967296) && decide (a.w < 4294967296))

theorem wordsL_get {xs : List LineV} (h : xs.all wordsL = true) {j : Nat} (hj : j < xs.length) : xs[j].p < 4294967296 ∧ xs[j].h < 4294967296 ∧ xs[j].w < 4294967296 := by
  have := List.all_eq_true.1 h xs[j] (List.getElem_mem hj)
  unfold wordsL at this
  simpa [Bool.and_eq_true] using this
theorem wordsL_all {xs : List LineV} (h : ∀ a ∈ xs, K.wf .line a) : xs.all wordsL = true := by
  rw [List.all_eq_true]
  intro a ha
  obtain ⟨h1, h2, h3, _⟩ := h a ha
  unfold wordsL
  rw [Bool.and_eq_true, Bool.and_eq_true, decide_eq_true_eq, decide_eq_true_eq, decide_eq_true_eq]
  exact ⟨h1.2.2, h2.2.2, h3.2.2⟩
theorem wid_notN {z : Nat} (h : isN .f32 z = false) : isN .f64 (wid z) = false := by
  rcases word_kind .f32 z with n | ⟨s, i⟩ | x
  · exact isNum_notN (wid_num n).1
  · show (FloatKind.f64.format.read (wid z)).isNaN = false
    rw [wid_inf i]
    rfl
  · rw [x] at h
    cases h

end Go.Sm
