/- Floats between bounds; narrowing what is not too great; the exponential. -/
import Derived.Test.YtngcejakoaoojaaF4
import Derived.Test.YtngcejakoaoojaaX1
namespace Go.Sm
open Go Ieee

theorem rv_mono_nat {f : Format} {q z : Nat} (h : q ≤ z) : rv f q ≤ rv f z := rv_le h

theorem fv_word_abs {k : FloatKind} (s : Bool) {q : Nat} (h : q < k.format.infRung) : (fv k (k.format.word s q)).natAbs = rv k.format q := by
  rw [fv_word s (Nat.lt_trans h k.format.infRung_lt)]
  cases s <;> simp

/-- A product between bounds. -/
theorem mulB {k : FloatKind} {x y z X Y : Nat} (hx : isNum k x = true) (hy : isNum k y = true) (h1 : (fv k x).natAbs ≤ X) (h2 : (fv k y).natAbs ≤ Y) (hz : X * Y ≤ rv k.format z * 2 ^ lp k) (hi : z < k.format.infRung) :
    isNum k (fop .mul k x y) = true ∧ (fv k (fop .mul k x y)).natAbs ≤ rv k.format z ∧ (0 ≤ fv k x → 0 ≤ fv k y → 0 ≤ fv k (fop .mul k x y)) ∧ (fv k x ≤ 0 → 0 ≤ fv k y → fv k (fop .mul k x y) ≤ 0) := by
  obtain ⟨q, e, _, hle, _⟩ := fop_mul hx hy
  have hq : q ≤ z := hle z (Nat.le_trans (Nat.mul_le_mul h1 h2) hz)
  have hqi : q < k.format.infRung := Nat.lt_of_le_of_lt hq hi
  have hqs : q < k.format.signWeight := Nat.lt_trans hqi k.format.infRung_lt
  have h0 : fv k x = 0 ∨ fv k y = 0 → q = 0 := by
    intro h
    have : q ≤ 0 := hle 0 (by rcases h with h | h <;> simp [h])
    omega
  have sgnp : ∀ {w : Nat}, 0 < fv k w → sgn k w = false := by
    intro w h
    unfold fv at h
    cases hs : sgn k w with
    | false => rfl
    | true => rw [hs] at h; simp only [if_true] at h; omega
  have sgnn : ∀ {w : Nat}, fv k w < 0 → sgn k w = true := by
    intro w h
    unfold fv at h
    cases hs : sgn k w with
    | true => rfl
    | false => rw [hs] at h; simp only [Bool.false_eq_true, if_false] at h; omega
  rw [e]
  refine ⟨word_isNum _ hqi, by rw [fv_word_abs _ hqi]; exact rv_le hq, fun a b => ?_, fun a b => ?_⟩
  · rw [fv_word _ hqs]
    by_cases c : fv k x = 0 ∨ fv k y = 0
    · rw [h0 c, rv_zero]; simp
    · rw [sgnp (w := x) (by omega), sgnp (w := y) (by omega)]
      simp
  · rw [fv_word _ hqs]
    by_cases c : fv k x = 0 ∨ fv k y = 0
    · rw [h0 c, rv_zero]; simp
    · rw [sgnn (w := x) (by omega), sgnp (w := y) (by omega)]
      simp

theorem sgn_pos {k : FloatKind} {w : Nat} (h : 0 < fv k w) : sgn k w = false := by
  unfold fv at h
  cases hs : sgn k w with
  | false => rfl
  | true => rw [hs] at h; simp only [if_true] at h; omega
theorem sgn_neg {k : FloatKind} {w : Nat} (h : fv k w < 0) : sgn k w = true := by
  unfold fv at h
  cases hs : sgn k w with
  | true => rfl
  | false => rw [hs] at h; simp only [Bool.false_eq_true, if_false] at h; omega

/-- A quotient by what is greater than zero. -/
theorem quoB {k : FloatKind} {x y z : Nat} (hx : isNum k x = true) (hy : isNum k y = true) (hp : 0 < fv k y) (hz : (fv k x).natAbs * 2 ^ lp k ≤ rv k.format z * (fv k y).natAbs) (hi : z < k.format.infRung) :
    isNum k (fop .quo k x y) = true ∧ (fv k (fop .quo k x y)).natAbs ≤ rv k.format z ∧ (0 ≤ fv k x → 0 ≤ fv k (fop .quo k x y)) ∧ (fv k x ≤ 0 → fv k (fop .quo k x y) ≤ 0) := by
  obtain ⟨q, e, _, hle, _⟩ := fop_quo hx hy (by omega)
  have hq : q ≤ z := hle z hz
  have hqi : q < k.format.infRung := Nat.lt_of_le_of_lt hq hi
  have hqs : q < k.format.signWeight := Nat.lt_trans hqi k.format.infRung_lt
  have h0 : fv k x = 0 → q = 0 := by
    intro h
    have : q ≤ 0 := hle 0 (by simp [h])
    omega
  rw [e]
  refine ⟨word_isNum _ hqi, by rw [fv_word_abs _ hqi]; exact rv_le hq, fun a => ?_, fun a => ?_⟩
  · rw [fv_word _ hqs]
    by_cases c : fv k x = 0
    · rw [h0 c, rv_zero]; simp
    · rw [sgn_pos (w := x) (by omega), sgn_pos hp]
      simp
  · rw [fv_word _ hqs]
    by_cases c : fv k x = 0
    · rw [h0 c, rv_zero]; simp
    · rw [sgn_neg (w := x) (by omega), sgn_pos hp]
      simp

/-- A sum between bounds. -/
def SumB (k : FloatKind) (r : Nat) (S : Int) (z : Nat) : Prop :=
  isNum k r = true ∧ (fv k r).natAbs ≤ rv k.format z ∧ (0 ≤ S → 0 ≤ fv k r) ∧ (S ≤ 0 → fv k r ≤ 0) ∧ (∀ b : Nat, b < k.format.infRung → (rv k.format b : Int) ≤ S → (rv k.format b : Int) ≤ fv k r) ∧ (∀ b : Nat, b < k.format.infRung → 0 ≤ S → S ≤ (rv k.format b : Int) → fv k r ≤ (rv k.format b : Int))

theorem addsub {k : FloatKind} {r : Nat} {S : Int} (h : ∃ s q, r = k.format.word s q ∧ q ≤ k.format.infRung ∧ (S < 0 → s = true) ∧ (0 < S → s = false) ∧ (∀ z, S.natAbs ≤ rv k.format z → q ≤ z) ∧ (∀ z, z ≤ k.format.infRung → rv k.format z ≤ S.natAbs → z ≤ q))
    {z : Nat} (hz : S.natAbs ≤ rv k.format z) (hi : z < k.format.infRung) : SumB k r S z := by
  obtain ⟨s, q, rfl, _, hneg, hpos, hle, hge⟩ := h
  have hq : q ≤ z := hle z hz
  have hqi : q < k.format.infRung := Nat.lt_of_le_of_lt hq hi
  have hqs : q < k.format.signWeight := Nat.lt_trans hqi k.format.infRung_lt
  have h0 : S = 0 → q = 0 := by
    intro h
    have : q ≤ 0 := hle 0 (by simp [h])
    omega
  refine ⟨word_isNum _ hqi, by rw [fv_word_abs _ hqi]; exact rv_le hq, fun a => ?_, fun a => ?_, fun b hb hs => ?_, fun b hb h1 h2 => ?_⟩
  · rw [fv_word _ hqs]
    by_cases c : S = 0
    · rw [h0 c, rv_zero]; simp
    · rw [hpos (by omega)]; simp
  · rw [fv_word _ hqs]
    by_cases c : S = 0
    · rw [h0 c, rv_zero]; simp
    · rw [hneg (by omega)]; simp
  · have h3 : b ≤ q := hge b (Nat.le_of_lt hb) (by omega)
    have h4 := rv_le (f := k.format) h3
    rw [fv_word _ hqs]
    by_cases c : S = 0
    · have := h0 c
      subst this
      rw [rv_zero] at h4 ⊢
      simp
      omega
    · rw [hpos (by omega)]
      simp only [Bool.false_eq_true, if_false]
      omega
  · have h3 : q ≤ b := hle b (by omega)
    have h4 := rv_le (f := k.format) h3
    rw [fv_word _ hqs]
    by_cases c : S = 0
    · rw [h0 c, rv_zero]
      cases s <;> simp
    · rw [hpos (by omega)]
      simp only [Bool.false_eq_true, if_false]
      omega

theorem addB {k : FloatKind} {x y z : Nat} (hx : isNum k x = true) (hy : isNum k y = true) (hz : (fv k x + fv k y).natAbs ≤ rv k.format z) (hi : z < k.format.infRung) : SumB k (fop .add k x y) (fv k x + fv k y) z := addsub (fop_add hx hy) hz hi
theorem subB {k : FloatKind} {x y z : Nat} (hx : isNum k x = true) (hy : isNum k y = true) (hz : (fv k x - fv k y).natAbs ≤ rv k.format z) (hi : z < k.format.infRung) : SumB k (fop .sub k x y) (fv k x - fv k y) z := addsub (fop_sub hx hy) hz hi

/-! ### 64-bit floats -/

/-- One, in least places. -/
def U : Nat := 2 ^ lp .f64
theorem U_eq : 2 ^ lp .f64 = U := rfl
theorem U_pos : 0 < U := Nat.two_pow_pos _
def one64 : Nat := 4607182418800017408
theorem rv_one : rv FloatKind.f64.format one64 = U := by decide +kernel
theorem fv_one : fv .f64 one64 = (U : Int) := by decide +kernel
theorem one_num : isNum .f64 one64 = true := by decide +kernel
theorem one_inf : one64 < FloatKind.f64.format.infRung := by decide +kernel

/-- What is not too great for a 32-bit float can be narrowed. -/
theorem narrow_some {c : Nat} (h : isNum .f64 c = true) (hb : (fv .f64 c).natAbs ≤ rv FloatKind.f64.format 5179139571476070400) : ∃ r, fconv .f64 .f32 c = some r := by
  obtain ⟨m, e, h1, h2⟩ := isNum_spell h
  have hn : isN .f64 c = false := by
    show (FloatKind.f64.format.read c).isNaN = false
    rw [h1]
    rfl
  have hr : nrung FloatKind.f32.format m (FloatKind.f64.format.leastPlace + (e : Int)) ≤ 2130706432 := by
    refine nrung_le (k1 := e) (k2 := 925) (by have a1 := lp_eq .f64; have a2 := lp_eq .f32; have a3 : lp .f64 = 1074 := by decide
                                              have a4 : lp .f32 = 149 := by decide
                                              omega) ?_
    have e1 : rv FloatKind.f32.format 2130706432 * 2 ^ 925 = rv FloatKind.f64.format 5179139571476070400 := by decide +kernel
    rw [e1, ← h2]
    exact hb
  have hlt : nrung FloatKind.f32.format m (FloatKind.f64.format.leastPlace + (e : Int)) < FloatKind.f32.format.infRung := Nat.lt_of_le_of_lt hr (by decide)
  have hnum : isNum .f32 (FloatKind.f32.format.nearest (sgn .f64 c) m (FloatKind.f64.format.leastPlace + (e : Int))) = true := by
    rw [nearest_eq]
    exact word_isNum _ hlt
  refine ⟨FloatKind.f32.format.nearest (sgn .f64 c) m (FloatKind.f64.format.leastPlace + (e : Int)), ?_⟩
  unfold fconv
  rw [hn]
  show floatToFloatBits .f64 c .f32 = _
  unfold floatToFloatBits
  rw [if_neg (by decide)]
  have hd : FloatKind.f64.decode c = .number (sgn .f64 c) m (FloatKind.f64.format.leastPlace + (e : Int)) := h1
  rw [hd]
  have hinf : (FloatKind.f32.decode (FloatKind.f32.encode (.number (sgn .f64 c) m (FloatKind.f64.format.leastPlace + (e : Int))))).isInfinity = false := by
    obtain ⟨m', e', h3, _⟩ := isNum_read hnum
    show (FloatKind.f32.format.read (FloatKind.f32.format.nearest (sgn .f64 c) m (FloatKind.f64.format.leastPlace + (e : Int)))).isInfinity = false
    rw [h3]
    rfl
  simp only [hinf, Bool.false_eq_true, if_false]
  rfl

/-- A word's kind: a number, an infinity, or a NaN. -/
theorem word_kind (k : FloatKind) (c : Nat) : isNum k c = true ∨ (∃ s, k.format.read c = .infinity s) ∨ isN k c = true := by
  unfold isNum isN FloatKind.decode
  cases k.format.read c with
  | number s m e => exact .inl rfl
  | infinity s => exact .inr (.inl ⟨s, rfl⟩)
  | nan s t => exact .inr (.inr rfl)

theorem narrow_nan {c : Nat} (h : isN .f64 c = true) : fconv .f64 .f32 c = some (nanOf .f32) := by unfold fconv; rw [h]; rfl

/-! ### The exponential -/
def expStep (t : Nat) (p kk : Nat) : Nat := fop .add .f64 one64 (fop .quo .f64 (fop .mul .f64 t p) kk)
def expKs : List Nat := [4622945017495814144, 4622382067542392832, 4621819117588971520, 4621256167635550208, 4620693217682128896, 4619567317775286272, 4618441417868443648, 4617315517961601024, 4616189618054758400, 4613937818241073152, 4611686018427387904, 4607182418800017408]
def expPoly (t p : Nat) : Nat := expKs.foldl (expStep t) p
def sqn : Nat → Nat → Nat
  | 0, p => p
  | n + 1, p => sqn n (fop .mul .f64 p p)
def inf64 : Nat := 9218868437227405312
def expI (y : Nat) : Nat := bif fcmp .gtr .f64 y 4641240890982006784 then inf64 else bif fcmp .lss .f64 y 13864612927836782592 then 0 else sqn 8 (expPoly (fop .quo .f64 y 4643211215818981376) one64)
def expS (y : Nat) : Nat := bif fcmp .neq .f64 y y then y else expI y
def expF (z : Nat) : Nat := (fconv .f64 .f32 (expI (wid z))).getD 0
def expOk (z : Nat) : Bool := isN .f32 z || fcmp .leq .f32 z 0

theorem expStep_in {t p kk : Nat} (ht : isNum .f64 t = true) (ht1 : -(U : Int) ≤ fv .f64 t) (ht2 : fv .f64 t ≤ 0) (hp : isNum .f64 p = true) (hp1 : 0 ≤ fv .f64 p) (hp2 : fv .f64 p ≤ (U : Int)) (hk : isNum .f64 kk = true) (hk1 : (U : Int) ≤ fv .f64 kk) :
    isNum .f64 (expStep t p kk) = true ∧ 0 ≤ fv .f64 (expStep t p kk) ∧ fv .f64 (expStep t p kk) ≤ (U : Int) := by
  have hU : 0 < U := U_pos
  obtain ⟨m1, m2, _, m4⟩ := mulB (z := one64) (X := U) (Y := U) ht hp (by omega) (by omega) (by rw [rv_one, U_eq]; exact Nat.le_refl _) one_inf
  have m4 := m4 ht2 hp1
  rw [rv_one] at m2
  obtain ⟨q1, q2, _, q4⟩ := quoB (z := one64) m1 hk (by omega) (by
    rw [rv_one, U_eq, Nat.mul_comm]
    exact Nat.mul_le_mul_left _ (by omega)) one_inf
  have q4 := q4 m4
  rw [rv_one] at q2
  have a := addB (z := one64) one_num q1 (by rw [rv_one, fv_one]; omega) one_inf
  obtain ⟨a1, a2, a3, _⟩ := a
  rw [rv_one] at a2
  rw [fv_one] at a3
  have a3 := a3 (by omega)
  exact ⟨a1, a3, by unfold expStep; omega⟩

theorem expKs_ok : expKs.all (fun kk => isNum .f64 kk && decide ((U : Int) ≤ fv .f64 kk)) = true := by decide +kernel

theorem expFold_in {t : Nat} (ht : isNum .f64 t = true) (ht1 : -(U : Int) ≤ fv .f64 t) (ht2 : fv .f64 t ≤ 0) : ∀ (l : List Nat), l.all (fun kk => isNum .f64 kk && decide ((U : Int) ≤ fv .f64 kk)) = true → ∀ p, isNum .f64 p = true → 0 ≤ fv .f64 p → fv .f64 p ≤ (U : Int) →
    isNum .f64 (l.foldl (expStep t) p) = true ∧ 0 ≤ fv .f64 (l.foldl (expStep t) p) ∧ fv .f64 (l.foldl (expStep t) p) ≤ (U : Int)
  | [], _, p, h1, h2, h3 => ⟨h1, h2, h3⟩
  | kk :: l, h, p, h1, h2, h3 => by
    rw [List.all_cons, Bool.and_eq_true, Bool.and_eq_true, decide_eq_true_eq] at h
    obtain ⟨a, b, c⟩ := expStep_in ht ht1 ht2 h1 h2 h3 h.1.1 h.1.2
    exact expFold_in ht ht1 ht2 l h.2 _ a b c

theorem sqn_in : ∀ (n p : Nat), isNum .f64 p = true → 0 ≤ fv .f64 p → fv .f64 p ≤ (U : Int) → isNum .f64 (sqn n p) = true ∧ 0 ≤ fv .f64 (sqn n p) ∧ fv .f64 (sqn n p) ≤ (U : Int)
  | 0, p, h1, h2, h3 => ⟨h1, h2, h3⟩
  | n + 1, p, h1, h2, h3 => by
    obtain ⟨m1, m2, m3, _⟩ := mulB (z := one64) (X := U) (Y := U) h1 h1 (by omega) (by omega) (by rw [rv_one, U_eq]; exact Nat.le_refl _) one_inf
    rw [rv_one] at m2
    have m3 := m3 h2 h2
    exact sqn_in n _ m1 m3 (by omega)

theorem fcmp_num_lss {k : FloatKind} {x y : Nat} (hx : isNum k x = true) (hy : isNum k y = true) : fcmp .lss k x y = decide (fv k x < fv k y) := by
  unfold fcmp
  rw [order_fv hx hy]
  exact cmp_lss _ _
theorem fcmp_num_leq {k : FloatKind} {x y : Nat} (hx : isNum k x = true) (hy : isNum k y = true) : fcmp .leq k x y = decide (fv k x ≤ fv k y) := by
  unfold fcmp
  rw [order_fv hx hy]
  exact cmp_leq _ _
theorem fcmp_num_geq {k : FloatKind} {x y : Nat} (hx : isNum k x = true) (hy : isNum k y = true) : fcmp .geq k x y = decide (fv k y ≤ fv k x) := by
  unfold fcmp
  rw [order_fv hx hy]
  exact cmp_geq _ _

/-- The exponential of what is not above zero is from 0 to 1. -/
theorem expI_in {y : Nat} (hy : isNum .f64 y = true) (h0 : fv .f64 y ≤ 0) : isNum .f64 (expI y) = true ∧ 0 ≤ fv .f64 (expI y) ∧ fv .f64 (expI y) ≤ (U : Int) := by
  have hU : 0 < U := U_pos
  have c1 : isNum .f64 4641240890982006784 = true := by decide +kernel
  have c2 : isNum .f64 13864612927836782592 = true := by decide +kernel
  have v1 : fv .f64 4641240890982006784 = 200 * (U : Int) := by decide +kernel
  have v2 : fv .f64 13864612927836782592 = -(200 * (U : Int)) := by decide +kernel
  have g1 : fcmp .gtr .f64 y 4641240890982006784 = false := by rw [gtr_fv hy c1, v1]; exact decide_eq_false (by omega)
  unfold expI
  rw [g1, cond_false, fcmp_num_lss hy c2, v2]
  by_cases h : fv .f64 y < -(200 * (U : Int))
  · rw [decide_eq_true h]
    have z1 : isNum .f64 0 = true := by decide +kernel
    have z2 : fv .f64 0 = 0 := by decide +kernel
    simp only [cond_true]
    exact ⟨z1, by rw [z2]; exact Int.le_refl _, by rw [z2]; omega⟩
  · rw [decide_eq_false h]
    simp only [cond_false]
    have c3 : isNum .f64 4643211215818981376 = true := by decide +kernel
    have v3 : fv .f64 4643211215818981376 = 256 * (U : Int) := by decide +kernel
    obtain ⟨q1, q2, _, q4⟩ := quoB (z := one64) hy c3 (by rw [v3]; omega) (by
      rw [rv_one, v3, U_eq, Nat.mul_comm]
      exact Nat.mul_le_mul_left _ (by omega)) one_inf
    rw [rv_one] at q2
    have q4 := q4 h0
    obtain ⟨p1, p2, p3⟩ := expFold_in q1 (by omega) q4 expKs expKs_ok one64 one_num (by rw [fv_one]; omega) (by rw [fv_one]; omega)
    exact sqn_in 8 _ p1 p2 p3

theorem wid_num {z : Nat} (h : isNum .f32 z = true) : isNum .f64 (wid z) = true ∧ (fv .f32 z ≤ 0 → fv .f64 (wid z) ≤ 0) ∧ (0 ≤ fv .f32 z → 0 ≤ fv .f64 (wid z)) ∧ (fv .f64 (wid z)).natAbs ≤ rv FloatKind.f64.format (5179139571476070400 + 4503599627370496) := by
  obtain ⟨m, e, h1, h2⟩ := isNum_spell h
  have hn : isN .f32 z = false := by
    show (FloatKind.f32.format.read z).isNaN = false
    rw [h1]
    rfl
  have hb := isNum_lt h
  have hr : nrung FloatKind.f64.format m (FloatKind.f32.format.leastPlace + (e : Int)) ≤ 5179139571476070400 + 4503599627370496 := by
    refine nrung_le (k1 := e + 925) (k2 := 0) (by have a1 := lp_eq .f64; have a2 := lp_eq .f32; have a3 : lp .f64 = 1074 := by decide
                                                  have a4 : lp .f32 = 149 := by decide
                                                  omega) ?_
    have e1 : rv FloatKind.f32.format 2139095040 * 2 ^ 925 = rv FloatKind.f64.format (5179139571476070400 + 4503599627370496) := by decide +kernel
    rw [Nat.pow_zero, Nat.mul_one, ← e1, Nat.pow_add, ← Nat.mul_assoc, ← h2]
    refine Nat.mul_le_mul_right _ ?_
    have e2 : (fv .f32 z).natAbs = rv FloatKind.f32.format (z % FloatKind.f32.format.signWeight) := by unfold fv; cases sgn .f32 z <;> simp
    rw [e2]
    exact rv_le (Nat.le_of_lt hb)
  have hlt : nrung FloatKind.f64.format m (FloatKind.f32.format.leastPlace + (e : Int)) < FloatKind.f64.format.infRung := Nat.lt_of_le_of_lt hr (by decide)
  have hw : wid z = FloatKind.f64.format.word (sgn .f32 z) (nrung FloatKind.f64.format m (FloatKind.f32.format.leastPlace + (e : Int))) := by
    rw [← nearest_eq]
    unfold wid fconv
    rw [hn]
    show (floatToFloatBits .f32 z .f64).getD 0 = _
    unfold floatToFloatBits
    rw [if_neg (by decide)]
    have hd : FloatKind.f32.decode z = .number (sgn .f32 z) m (FloatKind.f32.format.leastPlace + (e : Int)) := h1
    rw [hd]
    have hinf : (FloatKind.f64.decode (FloatKind.f64.encode (.number (sgn .f32 z) m (FloatKind.f32.format.leastPlace + (e : Int))))).isInfinity = false := by
      have hnum : isNum .f64 (FloatKind.f64.format.nearest (sgn .f32 z) m (FloatKind.f32.format.leastPlace + (e : Int))) = true := by
        rw [nearest_eq]
        exact word_isNum _ hlt
      obtain ⟨m', e', h3, _⟩ := isNum_read hnum
      show (FloatKind.f64.format.read (FloatKind.f64.format.nearest (sgn .f32 z) m (FloatKind.f32.format.leastPlace + (e : Int)))).isInfinity = false
      rw [h3]
      rfl
    simp only [hinf, Bool.false_eq_true, if_false]
    rfl
  have hs := Nat.lt_trans hlt FloatKind.f64.format.infRung_lt
  have h0 : fv .f32 z = 0 → nrung FloatKind.f64.format m (FloatKind.f32.format.leastPlace + (e : Int)) = 0 := by
    intro h
    rw [h] at h2
    have : m = 0 := by
      rcases Nat.mul_eq_zero.1 h2.symm with h3 | h3
      · exact h3
      · have := Nat.two_pow_pos e; omega
    subst this
    rfl
  rw [hw]
  refine ⟨word_isNum _ hlt, fun a => ?_, fun a => ?_, by rw [fv_word_abs _ hlt]; exact rv_le hr⟩
  · rw [fv_word _ hs]
    by_cases c : fv .f32 z = 0
    · rw [h0 c, rv_zero]; simp
    · rw [sgn_neg (w := z) (by omega)]; simp
  · rw [fv_word _ hs]
    by_cases c : fv .f32 z = 0
    · rw [h0 c, rv_zero]; simp
    · rw [sgn_pos (w := z) (by omega)]; simp

theorem wid_nan {z : Nat} (h : isN .f32 z = true) : wid z = nanOf .f64 := by unfold wid fconv; rw [h]; rfl

theorem wid_inf {z : Nat} {s : Bool} (h : FloatKind.f32.format.read z = .infinity s) : FloatKind.f64.format.read (wid z) = .infinity s := by
  have hn : isN .f32 z = false := by
    show (FloatKind.f32.format.read z).isNaN = false
    rw [h]
    rfl
  have hw : wid z = FloatKind.f64.format.word s FloatKind.f64.format.infRung := by
    unfold wid fconv
    rw [hn]
    show (floatToFloatBits .f32 z .f64).getD 0 = _
    unfold floatToFloatBits
    rw [if_neg (by decide)]
    have hd : FloatKind.f32.decode z = .infinity s := h
    rw [hd]
    rfl
  rw [hw]
  cases s <;> decide +kernel

theorem fcmp_nan_l {op : BinOp} {k : FloatKind} {x y : Nat} (h : isN k x = true) : fcmp op k x y = (match op with
    | .neq => true
    | _ => false) := by
  unfold fcmp Format.order
  rw [order_nan_left (show (k.format.read x).isNaN = true from h)]
  cases op <;> rfl

theorem expPoly_nan {t : Nat} (h : isN .f64 t = true) (p : Nat) : isN .f64 (expPoly t p) = true := by
  have key : ∀ (l : List Nat) (q : Nat), (l ≠ [] ∨ isN .f64 q = true) → isN .f64 (l.foldl (expStep t) q) = true := by
    intro l
    induction l with
    | nil => intro q hq; rcases hq with hq | hq
             · exact absurd rfl hq
             · exact hq
    | cons kk l ih =>
      intro q _
      refine ih _ (.inr ?_)
      unfold expStep
      rw [fop_nan_l (op := .mul) h, fop_nan_l (op := .quo) (isN_nanOf .f64), fop_nan_r (op := .add) (isN_nanOf .f64)]
      exact isN_nanOf .f64
  exact key expKs p (.inl (by decide))
theorem sqn_nan : ∀ (n p : Nat), isN .f64 p = true → isN .f64 (sqn n p) = true
  | 0, _, h => h
  | n + 1, p, h => sqn_nan n _ (by rw [fop_nan_l h]; exact isN_nanOf .f64)

theorem expI_nan {y : Nat} (h : isN .f64 y = true) : isN .f64 (expI y) = true := by
  have h1 : fcmp .gtr .f64 y 4641240890982006784 = false := fcmp_nan_l h
  have h2 : fcmp .lss .f64 y 13864612927836782592 = false := fcmp_nan_l h
  unfold expI
  rw [h1, h2]
  simp only [cond_false]
  refine sqn_nan 8 _ (expPoly_nan ?_ _)
  rw [fop_nan_l h]
  exact isN_nanOf .f64

theorem fcmp_neq_self {k : FloatKind} (x : Nat) : fcmp .neq k x x = isN k x := by
  cases h : isN k x with
  | true => exact fcmp_nan_l h
  | false =>
    rcases order_self k x with h1 | h1
    · rcases order_none h1 with h2 | h2 <;> (rw [h] at h2; cases h2)
    · simp [fcmp, h1]

/-- **THE EXPONENTIAL CAN BE NARROWED**, both ways to write it. -/
theorem exp_narrow {z : Nat} (h : expOk z = true) : fconv .f64 .f32 (expI (wid z)) = some (expF z) ∧ fconv .f64 .f32 (expS (wid z)) = some (expF z) := by
  have key : fconv .f64 .f32 (expI (wid z)) = some (expF z) := by
    have hsome : ∃ r, fconv .f64 .f32 (expI (wid z)) = some r := by
      rcases word_kind .f32 z with h1 | ⟨s, h1⟩ | h1
      · obtain ⟨w1, w2, _⟩ := wid_num h1
        have hz : fv .f32 z ≤ 0 := by
          have z1 : isNum .f32 0 = true := by decide
          have z2 : fv .f32 0 = 0 := by decide
          unfold expOk at h
          rw [Bool.or_eq_true] at h
          rcases h with h | h
          · exfalso
            obtain ⟨m, e, h3, _⟩ := isNum_read h1
            have : (FloatKind.f32.format.read z).isNaN = true := h
            rw [h3] at this
            cases this
          · rw [fcmp_num_leq h1 z1, z2] at h
            exact of_decide_eq_true h
        obtain ⟨e1, e2, e3⟩ := expI_in w1 (w2 hz)
        refine narrow_some e1 ?_
        have : U ≤ rv FloatKind.f64.format 5179139571476070400 := by decide +kernel
        omega
      · have hw := wid_inf h1
        have hs : s = true := by
          cases s with
          | true => rfl
          | false =>
            exfalso
            unfold expOk at h
            have a1 : isN .f32 z = false := by
              show (FloatKind.f32.format.read z).isNaN = false
              rw [h1]
              rfl
            have a2 : fcmp .leq .f32 z 0 = false := by
              unfold fcmp Format.order
              rw [h1]
              rfl
            rw [a1, a2] at h
            cases h
        subst hs
        have b1 : fcmp .gtr .f64 (wid z) 4641240890982006784 = false := by
          unfold fcmp Format.order
          rw [hw]
          rfl
        have b2 : fcmp .lss .f64 (wid z) 13864612927836782592 = true := by
          unfold fcmp Format.order
          rw [hw]
          rfl
        unfold expI
        rw [b1, b2]
        simp only [cond_false, cond_true]
        exact ⟨0, by decide +kernel⟩
      · rw [wid_nan h1]
        exact ⟨_, narrow_nan (expI_nan (isN_nanOf .f64))⟩
    obtain ⟨r, hr⟩ := hsome
    unfold expF
    rw [hr]
    rfl
  refine ⟨key, ?_⟩
  unfold expS
  rw [fcmp_neq_self]
  cases hn : isN .f64 (wid z) with
  | false => exact key
  | true =>
    rw [narrow_nan (expI_nan hn)] at key
    rw [cond_true, narrow_nan hn]
    exact key

end Go.Sm
