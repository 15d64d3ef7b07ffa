/- The logarithm. -/
import Derived.Test.YtngcejakoaoojaaG2
namespace Go.Sm
open Go

def BB : Nat := 4503599627370496
def c15 : Nat := 4609434218613702656
def c75 : Nat := 4604930618986332160
theorem binade64 : FloatKind.f64.format.binade = BB := by decide
theorem c75_eq : c75 + BB = c15 := by decide
theorem inf_rung64 : FloatKind.f64.format.infRung = 9218868437227405312 := by decide
theorem two_rv : fv .f64 4611686018427387904 = 2 * (U : Int) := by decide +kernel
theorem two_isNum : isNum .f64 4611686018427387904 = true := by decide +kernel
theorem two_sgn : sgn .f64 4611686018427387904 = false := by decide +kernel

theorem rung_num {r : Nat} (h : r < FloatKind.f64.format.infRung) : isNum .f64 r = true ∧ fv .f64 r = (rv FloatKind.f64.format r : Int) ∧ sgn .f64 r = false := by
  have hw : FloatKind.f64.format.word false r = r := rfl
  have h1 := word_isNum (k := .f64) false h
  have h2 := fv_word (k := .f64) false (Nat.lt_trans h FloatKind.f64.format.infRung_lt)
  rw [hw] at h1 h2
  refine ⟨h1, h2, ?_⟩
  have := word_sign FloatKind.f64.format false (Nat.lt_trans h FloatKind.f64.format.infRung_lt)
  rw [hw] at this
  exact this

theorem rv_dbl {r : Nat} (h : BB ≤ r) : rv FloatKind.f64.format (r + BB) = 2 * rv FloatKind.f64.format r := by
  unfold rv
  rw [binade64]
  rw [if_neg (by omega), if_neg (by omega)]
  have h1 : (r + BB) % BB = r % BB := Nat.add_mod_right r BB
  have h2 : (r + BB) / BB = r / BB + 1 := Nat.add_div_right r (by decide)
  have h3 : 1 ≤ r / BB := (Nat.one_le_div_iff (by decide)).2 h
  rw [h1, h2]
  obtain ⟨t, ht⟩ : ∃ t, r / BB = t + 1 := ⟨r / BB - 1, by omega⟩
  rw [ht]
  show (BB + r % BB) * 2 ^ (t + 1) = 2 * ((BB + r % BB) * 2 ^ t)
  rw [Nat.pow_succ]
  ac_rfl

theorem half_rung {r : Nat} (h1 : BB + BB ≤ r) (h2 : r < FloatKind.f64.format.infRung) : fop .quo .f64 r 4611686018427387904 = r - BB := by
  obtain ⟨a1, a2, a3⟩ := rung_num h2
  have hU := U_pos
  obtain ⟨q, e, _, hle, hge⟩ := fop_quo a1 two_isNum (by rw [two_rv]; omega)
  rw [a3, two_sgn] at e
  have hd := rv_dbl (r := r - BB) (by omega)
  rw [show r - BB + BB = r by omega] at hd
  have hx : (fv .f64 r).natAbs = rv FloatKind.f64.format r := by rw [a2]; rfl
  have hy : (fv .f64 4611686018427387904).natAbs = 2 * U := by rw [two_rv]; omega
  rw [hx, hy, U_eq, hd] at hle hge
  have hm0 : ∀ a V : Nat, 2 * a * V = a * (2 * V) := by intro a V; rw [Nat.mul_comm 2 a, Nat.mul_assoc]
  have hm := hm0 (rv FloatKind.f64.format (r - BB)) U
  have e1 := hle (r - BB) (Nat.le_of_eq hm)
  have e2 := hge (r - BB) (by omega) (Nat.le_of_eq hm.symm)
  rw [e]
  show q = r - BB
  omega

theorem dbl_rung {r : Nat} (h1 : BB ≤ r) (h2 : r + BB < FloatKind.f64.format.infRung) : fop .mul .f64 r 4611686018427387904 = r + BB := by
  obtain ⟨a1, a2, a3⟩ := rung_num (show r < FloatKind.f64.format.infRung by omega)
  obtain ⟨q, e, _, hle, hge⟩ := fop_mul a1 two_isNum
  rw [a3, two_sgn] at e
  have hd := rv_dbl h1
  have hU := U_pos
  have hx : (fv .f64 r).natAbs = rv FloatKind.f64.format r := by rw [a2]; rfl
  have hy : (fv .f64 4611686018427387904).natAbs = 2 * U := by rw [two_rv]; omega
  rw [hx, hy, U_eq] at hle hge
  have hm0 : ∀ a V : Nat, a * (2 * V) = 2 * a * V := by intro a V; rw [Nat.mul_comm 2 a, Nat.mul_assoc]
  have hm : rv FloatKind.f64.format r * (2 * U) = rv FloatKind.f64.format (r + BB) * U := by rw [hd]; exact hm0 _ _
  have e1 := hle (r + BB) (Nat.le_of_eq hm)
  have e2 := hge (r + BB) (by omega) (Nat.le_of_eq hm.symm)
  rw [e]
  show q = r + BB
  omega

theorem rung_geq {r s : Nat} (h1 : r < FloatKind.f64.format.infRung) (h2 : s < FloatKind.f64.format.infRung) : fcmp .geq .f64 r s = decide (s ≤ r) := by
  obtain ⟨a1, a2, _⟩ := rung_num h1
  obtain ⟨b1, b2, _⟩ := rung_num h2
  rw [fcmp_num_geq a1 b1, a2, b2, Bool.eq_iff_iff, decide_eq_true_eq, decide_eq_true_eq]
  constructor
  · intro h
    rcases Nat.lt_or_ge r s with h3 | h3
    · have := rv_lt (f := FloatKind.f64.format) h3
      omega
    · exact h3
  · intro h
    have := rv_le (f := FloatKind.f64.format) h
    omega

/-! ### Halved and doubled -/
def lgUp : Nat → Nat → Nat × Nat
  | 0, y => (y, 0)
  | m + 1, y => bif fcmp .geq .f64 y 4609434218613702656 then ((lgUp m (fop .quo .f64 y 4611686018427387904)).1, (lgUp m (fop .quo .f64 y 4611686018427387904)).2 + 1) else (y, 0)
def lgDn : Nat → Nat → Nat × Nat
  | 0, y => (y, 0)
  | m + 1, y => bif fcmp .lss .f64 y 4604930618986332160 then ((lgDn m (fop .mul .f64 y 4611686018427387904)).1, (lgDn m (fop .mul .f64 y 4611686018427387904)).2 + 1) else (y, 0)

theorem rung_lss {r s : Nat} (h1 : r < FloatKind.f64.format.infRung) (h2 : s < FloatKind.f64.format.infRung) : fcmp .lss .f64 r s = decide (r < s) := by
  obtain ⟨a1, a2, _⟩ := rung_num h1
  obtain ⟨b1, b2, _⟩ := rung_num h2
  rw [show fcmp .lss .f64 r s = decide (fv .f64 r < fv .f64 s) by
    unfold fcmp
    rw [order_fv a1 b1]
    exact cmp_lss _ _, a2, b2, Bool.eq_iff_iff, decide_eq_true_eq, decide_eq_true_eq]
  constructor
  · intro h
    rcases Nat.lt_or_ge r s with h3 | h3
    · exact h3
    · have := rv_le (f := FloatKind.f64.format) h3
      omega
  · intro h
    have := rv_lt (f := FloatKind.f64.format) h
    omega

theorem c15_inf : (4609434218613702656 : Nat) < FloatKind.f64.format.infRung := by decide
theorem c75_inf : (4604930618986332160 : Nat) < FloatKind.f64.format.infRung := by decide

theorem lgUp_low {m r : Nat} (h : r < 4609434218613702656) : lgUp m r = (r, 0) := by
  cases m with
  | zero => rfl
  | succ m =>
    have h2 : r < FloatKind.f64.format.infRung := Nat.lt_trans h c15_inf
    unfold lgUp
    rw [rung_geq h2 c15_inf, decide_eq_false (by omega)]
    rfl
theorem lgDn_high {m r : Nat} (h : 4604930618986332160 ≤ r) (h2 : r < FloatKind.f64.format.infRung) : lgDn m r = (r, 0) := by
  cases m with
  | zero => rfl
  | succ m =>
    unfold lgDn
    rw [rung_lss h2 c75_inf, decide_eq_false (by omega)]
    rfl

theorem lgUp_in : ∀ (m r : Nat), 4604930618986332160 ≤ r → r < FloatKind.f64.format.infRung → r < 4609434218613702656 + m * BB → 4604930618986332160 ≤ (lgUp m r).1 ∧ (lgUp m r).1 < 4609434218613702656 ∧ (lgUp m r).2 ≤ m := by
  intro m
  induction m with
  | zero => intro r h1 _ h3; rw [Nat.zero_mul, Nat.add_zero] at h3; exact ⟨h1, h3, Nat.le_refl _⟩
  | succ m ih =>
    intro r h1 h2 h3
    have hB : BB = 4503599627370496 := rfl
    unfold lgUp
    rw [rung_geq h2 c15_inf]
    by_cases h : 4609434218613702656 ≤ r
    · rw [decide_eq_true h]
      have hs : r < 4609434218613702656 + (m * BB + BB) := by rw [← Nat.succ_mul]; exact h3
      have e : fop .quo .f64 r 4611686018427387904 = r - BB := half_rung (by omega) h2
      rw [e]
      obtain ⟨i1, i2, i3⟩ := ih (r - BB) (by omega) (by omega) (by omega)
      exact ⟨i1, i2, by show (lgUp m (r - BB)).2 + 1 ≤ m + 1; omega⟩
    · rw [decide_eq_false h]
      exact ⟨h1, by show r < _; omega, Nat.zero_le _⟩
theorem lgDn_in : ∀ (m r : Nat), BB ≤ r → r < 4609434218613702656 → 4604930618986332160 ≤ r + m * BB → 4604930618986332160 ≤ (lgDn m r).1 ∧ (lgDn m r).1 < 4609434218613702656 ∧ (lgDn m r).2 ≤ m := by
  intro m
  induction m with
  | zero => intro r _ h2 h3; rw [Nat.zero_mul, Nat.add_zero] at h3; exact ⟨h3, h2, Nat.le_refl _⟩
  | succ m ih =>
    intro r h1 h2 h3
    have hB : BB = 4503599627370496 := rfl
    have hi := inf_rung64
    unfold lgDn
    rw [rung_lss (by omega) c75_inf]
    by_cases h : r < 4604930618986332160
    · rw [decide_eq_true h]
      have hs : 4604930618986332160 ≤ r + (m * BB + BB) := by rw [← Nat.succ_mul]; exact h3
      have e : fop .mul .f64 r 4611686018427387904 = r + BB := dbl_rung h1 (by omega)
      rw [e]
      obtain ⟨i1, i2, i3⟩ := ih (r + BB) (by omega) (by omega) (by omega)
      exact ⟨i1, i2, by show (lgDn m (r + BB)).2 + 1 ≤ m + 1; omega⟩
    · rw [decide_eq_false h]
      exact ⟨by show _ ≤ r; omega, h2, Nat.zero_le _⟩

/-- The part between three quarters and one and a half, and how often it was halved. -/
def lgX (y : Nat) : Nat := (lgDn 200 (lgUp 200 y).1).1
def lgN (y : Nat) : Int := ((lgUp 200 y).2 : Int) - ((lgDn 200 (lgUp 200 y).1).2 : Int)
/-- A float that goes on counting, where it counts at all. -/
def lgE (e n : Nat) : Nat := bif Nat.beq n 0 then e else fint .f64 (n : Int)

theorem lg_all {r : Nat} (h1 : 874 * BB ≤ r) (h2 : r ≤ 1151 * BB) :
    fcmp .geq .f64 (lgUp 200 r).1 4609434218613702656 = false ∧ fcmp .lss .f64 (lgDn 200 (lgUp 200 r).1).1 4604930618986332160 = false
    ∧ fcmp .lss .f64 (lgDn 200 r).1 4604930618986332160 = false ∧ fcmp .geq .f64 (lgUp 200 (lgDn 200 r).1).1 4609434218613702656 = false
    ∧ (Nat.beq (lgDn 200 r).2 0 || Nat.beq (lgUp 200 (lgDn 200 r).1).2 0) = true
    ∧ (lgUp 200 (lgDn 200 r).1).1 = lgX r ∧ lgE (fint .f64 (-((lgDn 200 r).2 : Int))) (lgUp 200 (lgDn 200 r).1).2 = fint .f64 (lgN r)
    ∧ 4604930618986332160 ≤ lgX r ∧ lgX r < 4609434218613702656 ∧ -200 ≤ lgN r ∧ lgN r ≤ 200 ∧ (lgUp 200 r).2 ≤ 200 ∧ (lgDn 200 r).2 ≤ 200 ∧ (lgUp 200 (lgDn 200 r).1).2 ≤ 200 := by
  have hB : BB = 4503599627370496 := rfl
  have hi := inf_rung64
  unfold lgX lgN
  by_cases h : 4609434218613702656 ≤ r
  · have d := lgDn_high (m := 200) (r := r) (by omega) (by omega)
    obtain ⟨u1, u2, u3⟩ := lgUp_in 200 r (by omega) (by omega) (by omega)
    have d2 := lgDn_high (m := 200) (r := (lgUp 200 r).1) u1 (by omega)
    rw [d, d2]
    generalize lgUp 200 r = p at *
    refine ⟨by rw [rung_geq (by omega) c15_inf]; exact decide_eq_false (by omega), by rw [rung_lss (by omega) c75_inf]; exact decide_eq_false (by show ¬ p.1 < _; omega), by rw [rung_lss (by show r < _; omega) c75_inf]; exact decide_eq_false (by show ¬ r < _; omega), by rw [rung_geq (by omega) c15_inf]; exact decide_eq_false (by omega), rfl, rfl, ?_, u1, u2, by show -200 ≤ (p.2 : Int) - ((0 : Nat) : Int); omega, by show (p.2 : Int) - ((0 : Nat) : Int) ≤ 200; omega, u3, Nat.zero_le _, u3⟩
    unfold lgE
    show (bif Nat.beq p.2 0 then fint .f64 (-((0 : Nat) : Int)) else fint .f64 (p.2 : Int)) = fint .f64 ((p.2 : Int) - ((0 : Nat) : Int))
    rw [show (p.2 : Int) - ((0 : Nat) : Int) = (p.2 : Int) by omega]
    cases hp : Nat.beq p.2 0 with
    | false => rfl
    | true =>
      have := Nat.eq_of_beq_eq_true hp
      rw [this]
      rfl
  · have u := lgUp_low (m := 200) (r := r) (by omega)
    obtain ⟨d1, d2, d3⟩ := lgDn_in 200 r (by omega) (by omega) (by omega)
    have u2 := lgUp_low (m := 200) (r := (lgDn 200 r).1) d2
    rw [u, u2]
    generalize lgDn 200 r = p at *
    refine ⟨by rw [rung_geq (by show r < _; omega) c15_inf]; exact decide_eq_false (by show ¬ _ ≤ r; omega), by rw [rung_lss (by omega) c75_inf]; exact decide_eq_false (by omega), by rw [rung_lss (by omega) c75_inf]; exact decide_eq_false (by omega), by rw [rung_geq (by show p.1 < _; omega) c15_inf]; exact decide_eq_false (by show ¬ _ ≤ p.1; omega), by rw [show Nat.beq (p.1, 0).2 0 = true from rfl, Bool.or_true], rfl, ?_, d1, d2, by show -200 ≤ ((0 : Nat) : Int) - (p.2 : Int); omega, by show ((0 : Nat) : Int) - (p.2 : Int) ≤ 200; omega, Nat.zero_le _, d3, Nat.zero_le _⟩
    show fint .f64 (-(p.2 : Int)) = fint .f64 (((0 : Nat) : Int) - (p.2 : Int))
    congr 1
    omega

end Go.Sm
