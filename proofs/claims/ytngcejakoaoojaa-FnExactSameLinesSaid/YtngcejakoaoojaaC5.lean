/- More plain functions: growth, slits. -/
import Derived.Test.YtngcejakoaoojaaC4
namespace Go.Sm
open Go

/-- What is not below zero and not too great stays so when it is narrowed. -/
theorem narrow_sign {c : Nat} (h : isNum .f64 c = true) (h0 : 0 ≤ fv .f64 c) (hb : (fv .f64 c).natAbs ≤ rv FloatKind.f64.format 5179139571476070400) :
    ∃ s q, fconv .f64 .f32 c = some (FloatKind.f32.format.word s q) ∧ q < FloatKind.f32.format.infRung ∧ (s = true → q = 0) := by
  obtain ⟨m, e, h1, h2⟩ := isNum_spell h
  have hn : isN .f64 c = false := by
    show (FloatKind.f64.format.read c).isNaN = false
    rw [h1]
    rfl
  have hk : ((e : Nat) : Int) - ((925 : Nat) : Int) = FloatKind.f64.format.leastPlace + (e : Int) - FloatKind.f32.format.leastPlace := by
    have a1 := lp_eq .f64
    have a2 := lp_eq .f32
    have a3 : lp .f64 = 1074 := by decide
    have a4 : lp .f32 = 149 := by decide
    omega
  have hr : nrung FloatKind.f32.format m (FloatKind.f64.format.leastPlace + (e : Int)) ≤ 2130706432 := by
    refine nrung_le (k1 := e) (k2 := 925) hk ?_
    have e1 : rv FloatKind.f32.format 2130706432 * 2 ^ 925 = rv FloatKind.f64.format 5179139571476070400 := by decide +kernel
    rw [e1, ← h2]
    exact hb
  have hlt : nrung FloatKind.f32.format m (FloatKind.f64.format.leastPlace + (e : Int)) < FloatKind.f32.format.infRung := Nat.lt_of_le_of_lt hr (by decide)
  refine ⟨sgn .f64 c, nrung FloatKind.f32.format m (FloatKind.f64.format.leastPlace + (e : Int)), ?_, hlt, fun hs => ?_⟩
  · have hnum : isNum .f32 (FloatKind.f32.format.nearest (sgn .f64 c) m (FloatKind.f64.format.leastPlace + (e : Int))) = true := by
      rw [nearest_eq]
      exact word_isNum _ hlt
    unfold fconv
    rw [hn]
    show floatToFloatBits .f64 c .f32 = _
    unfold floatToFloatBits
    rw [if_neg (by decide)]
    have hd : FloatKind.f64.decode c = .number (sgn .f64 c) m (FloatKind.f64.format.leastPlace + (e : Int)) := h1
    rw [hd]
    have hinf : (FloatKind.f32.decode (FloatKind.f32.encode (.number (sgn .f64 c) m (FloatKind.f64.format.leastPlace + (e : Int))))).isInfinity = false := by
      obtain ⟨m', e', h3, _⟩ := isNum_read hnum
      show (FloatKind.f32.format.read (FloatKind.f32.format.nearest (sgn .f64 c) m (FloatKind.f64.format.leastPlace + (e : Int)))).isInfinity = false
      rw [h3]
      rfl
    simp only [hinf, Bool.false_eq_true, if_false]
    rw [← nearest_eq]
    rfl
  · have hz : fv .f64 c ≤ 0 := by
      unfold fv
      rw [hs]
      simp only [if_true]
      omega
    have hm : m * 2 ^ e = 0 := by rw [← h2]; omega
    refine Nat.le_zero.1 (nrung_le (k1 := e) (k2 := 925) hk ?_)
    rw [hm]
    exact Nat.zero_le _

/-- A NaN, or a number not below zero. -/
def up0 (w : Nat) : Prop := isN .f32 w = true ∨ (isNum .f32 w = true ∧ 0 ≤ fv .f32 w)

theorem word_up {s : Bool} {q : Nat} (hq : q < FloatKind.f32.format.infRung) (hs : s = true → q = 0) : isNum .f32 (FloatKind.f32.format.word s q) = true ∧ fv .f32 (FloatKind.f32.format.word s q) = (rv FloatKind.f32.format q : Int) := by
  refine ⟨word_isNum _ hq, ?_⟩
  rw [fv_word _ (Nat.lt_trans hq FloatKind.f32.format.infRung_lt)]
  cases s with
  | false => rfl
  | true =>
    rw [hs rfl, rv_zero]
    rfl

theorem exp_up {z : Nat} (h : expOk z = true) : up0 (expF z) := by
  rcases word_kind .f32 z with h1 | ⟨s, h1⟩ | h1
  · obtain ⟨w1, w2, _⟩ := wid_num h1
    have hz : fv .f32 z ≤ 0 := by
      have z1 : isNum .f32 0 = true := by decide
      have z2 : fv .f32 0 = 0 := by decide
      unfold expOk at h
      rw [Bool.or_eq_true] at h
      rcases h with h | h
      · exfalso
        obtain ⟨m, e, h3, _⟩ := isNum_read h1
        have : (FloatKind.f32.format.read z).isNaN = true := h
        rw [h3] at this
        cases this
      · rw [fcmp_num_leq h1 z1, z2] at h
        exact of_decide_eq_true h
    obtain ⟨e1, e2, e3⟩ := expI_in w1 (w2 hz)
    obtain ⟨s, q, a1, a2, a3⟩ := narrow_sign e1 e2 (by
      have : U ≤ rv FloatKind.f64.format 5179139571476070400 := by decide +kernel
      omega)
    have he : expF z = FloatKind.f32.format.word s q := by
      unfold expF
      rw [a1]
      rfl
    obtain ⟨b1, b2⟩ := word_up a2 a3
    rw [he]
    exact .inr ⟨b1, by rw [b2]; omega⟩
  · have hw := wid_inf h1
    have hs : s = true := by
      cases s with
      | true => rfl
      | false =>
        exfalso
        unfold expOk at h
        have a1 : isN .f32 z = false := by
          show (FloatKind.f32.format.read z).isNaN = false
          rw [h1]
          rfl
        have a2 : fcmp .leq .f32 z 0 = false := by
          unfold fcmp Ieee.Format.order
          rw [h1]
          rfl
        rw [a1, a2] at h
        cases h
    subst hs
    have b1 : fcmp .gtr .f64 (wid z) 4641240890982006784 = false := by
      unfold fcmp Ieee.Format.order
      rw [hw]
      rfl
    have b2 : fcmp .lss .f64 (wid z) 13864612927836782592 = true := by
      unfold fcmp Ieee.Format.order
      rw [hw]
      rfl
    unfold expF expI
    rw [b1, b2]
    simp only [cond_false, cond_true]
    exact .inr (by decide +kernel)
  · refine .inl ?_
    have hi : isN .f64 (expI (wid z)) = true := by
      rw [wid_nan h1]
      exact expI_nan (isN_nanOf .f64)
    unfold expF
    rw [narrow_nan hi]
    exact isN_nanOf .f32

theorem mul_up {a b : Nat} (ha : up0 a) (hb : up0 b) : expOk (fop .sub .f32 0 (fop .mul .f32 a b)) = true := by
  have hnan : fop .mul .f32 a b = nanOf .f32 → expOk (fop .sub .f32 0 (fop .mul .f32 a b)) = true := by
    intro e
    rw [e, fop_nan_r (isN_nanOf .f32)]
    unfold expOk
    rw [isN_nanOf]
    rfl
  rcases ha with ha | ⟨ha, ha0⟩
  · exact hnan (fop_nan_l ha)
  · rcases hb with hb | ⟨hb, hb0⟩
    · exact hnan (fop_nan_r hb)
    · obtain ⟨q, e, hi, hle, _⟩ := fop_mul ha hb
      have hs : (sgn .f32 a ^^ sgn .f32 b) = true → q = 0 := by
        intro hx
        have h0 : fv .f32 a = 0 ∨ fv .f32 b = 0 := by
          cases h1 : sgn .f32 a with
          | true =>
            left
            unfold fv at ha0 ⊢
            rw [h1] at ha0 ⊢
            simp only [if_true] at ha0 ⊢
            omega
          | false =>
            right
            rw [h1] at hx
            have h2 : sgn .f32 b = true := by simpa using hx
            unfold fv at hb0 ⊢
            rw [h2] at hb0 ⊢
            simp only [if_true] at hb0 ⊢
            omega
        refine Nat.le_zero.1 (hle 0 ?_)
        rcases h0 with h0 | h0 <;> rw [h0] <;> simp
      have z1 : isNum .f32 0 = true := by decide
      have z2 : fv .f32 0 = 0 := by decide
      rcases Nat.lt_or_ge q FloatKind.f32.format.infRung with hq | hq
      · obtain ⟨n1, v1⟩ := word_up hq hs
        rw [e]
        obtain ⟨a1, _, _, a4, _⟩ := subB (z := q) z1 n1 (by rw [z2, v1]; omega) hq
        unfold expOk
        rw [fcmp_num_leq a1 z1, z2, decide_eq_true (a4 (by rw [z2, v1]; omega)), Bool.or_true]
      · have hq2 : q = FloatKind.f32.format.infRung := Nat.le_antisymm hi hq
        subst hq2
        have hs2 : (sgn .f32 a ^^ sgn .f32 b) = false := by
          cases hx : (sgn .f32 a ^^ sgn .f32 b) with
          | false => rfl
          | true => exact absurd (hs hx) (by decide)
        rw [e, hs2]
        decide +kernel

theorem at0_up {c : Nat} (h : atLeast0 c = true) : up0 c := by
  unfold atLeast0 at h
  rw [Bool.and_eq_true, fin_isNum] at h
  have z1 : isNum .f32 0 = true := by decide
  have z2 : fv .f32 0 = 0 := by decide
  refine .inr ⟨h.1, ?_⟩
  have h2 := h.2
  rw [fcmp_num_geq h.1 z1, z2] at h2
  exact of_decide_eq_true h2

/-! ### Growth -/
def growX (h w : Nat) (j : Nat) : Nat := fop .quo .f32 (fop .sub .f32 (fop .mul .f32 h (fop .add .f32 (fint .f32 (j : Int)) 1056964608)) 1082130432) w
def growE (h w : Nat) (j : Nat) : Nat := expF (fop .sub .f32 0 (fop .mul .f32 (growX h w j) (growX h w j)))
def growF (d w h : Nat) (j a : Nat) : Nat := fop .add .f32 a (fop .mul .f32 (fop .sub .f32 1065353216 (expF (fop .sub .f32 0 (fop .mul .f32 d (growE h w j))))) h)
def growH (n : Int) : Nat := fop .quo .f32 1090519040 (fint .f32 n)
def growSum (d w : Nat) (n : Int) : Nat := rep (growF d w (growH n)) n.toNat 0 0
def growOk (d w : Nat) (n : Int) : Bool := atLeast0 d && (above w && (within n 2 64 && fin (growSum d w n)))
theorem grow_ok {d : Nat} (h : atLeast0 d = true) (hh w j : Nat) : expOk (fop .sub .f32 0 (fop .mul .f32 d (growE hh w j))) = true :=
  mul_up (at0_up h) (exp_up (neg_sq_ok _))

/-! ### Slits -/
def sineF (x : Nat) : Nat := (fconv .f64 .f32 (sineW (wid x))).getD 0
theorem sineF_narrow (x : Nat) : fconv .f64 .f32 (sineW (wid x)) = some (sineF x) := by
  obtain ⟨r, h⟩ := sineW_narrow (wid x)
  unfold sineF
  rw [h]
  rfl

theorem andNot_abs (c : Nat) : Int.toNat (andNotI .u64 (c : Int) 9223372036854775808) = c % 2 ^ 63 := by
  have e1 : (~~~(BitVec.ofInt 64 9223372036854775808) : BitVec 64) = 9223372036854775807#64 := by decide
  have e2 : (BitVec.ofInt IntKind.u64.bits (c : Int) &&& ~~~(BitVec.ofInt IntKind.u64.bits 9223372036854775808)).toNat = c % 2 ^ 63 := by
    show (BitVec.ofInt 64 (c : Int) &&& ~~~(BitVec.ofInt 64 9223372036854775808)).toNat = c % 2 ^ 63
    rw [e1, BitVec.toNat_and, BitVec.ofInt_natCast, BitVec.toNat_ofNat]
    show c % 2 ^ 64 &&& (2 ^ 63 - 1) = c % 2 ^ 63
    rw [Nat.and_two_pow_sub_one_eq_mod]
    omega
  unfold andNotI
  rw [e2]
  have h : c % 2 ^ 63 < 2 ^ 63 := Nat.mod_lt _ (by decide)
  show Int.toNat (((c % 2 ^ 63 : Nat) : Int) % 18446744073709551616) = c % 2 ^ 63
  omega

theorem fabs_num {c : Nat} (h : isNum .f64 c = true) : isNum .f64 (fabs c) = true ∧ fv .f64 (fabs c) = ((fv .f64 c).natAbs : Int) := by
  have hs : FloatKind.f64.format.signWeight = 2 ^ 63 := by decide
  have hlt := isNum_lt h
  rw [hs] at hlt
  have hm : c % 2 ^ 63 < 2 ^ 63 := Nat.mod_lt _ (by decide)
  have hmm : c % 2 ^ 63 % FloatKind.f64.format.signWeight = c % 2 ^ 63 := by rw [hs]; exact Nat.mod_eq_of_lt hm
  have hn : isNum .f64 (c % 2 ^ 63) = true := isNum_of_lt (by rw [hmm]; exact hlt)
  have hN : isN .f64 (c % 2 ^ 63) = false := by
    obtain ⟨m, e, h3, _⟩ := isNum_read hn
    show (FloatKind.f64.format.read (c % 2 ^ 63)).isNaN = false
    rw [h3]
    rfl
  have hsg : sgn .f64 (c % 2 ^ 63) = false := by
    unfold sgn
    rw [hs]
    have : c % 2 ^ 63 / 2 ^ 63 = 0 := Nat.div_eq_of_lt hm
    rw [this]
    rfl
  have he : fabs c = c % 2 ^ 63 := by
    unfold fabs
    rw [andNot_abs]
    exact cn_num hN
  rw [he]
  refine ⟨hn, ?_⟩
  unfold fv
  rw [hsg, hmm, hs]
  cases sgn .f64 c <;> simp

theorem huge_abs {y : Nat} (h : isNum .f64 y = true) : fcmp .geq .f64 (fabs y) big52 = huge y := by
  obtain ⟨h1, h2⟩ := fabs_num h
  rw [huge_num h, fcmp_num_geq h1 big52_num.1, big52_num.2, h2]
  rw [Bool.eq_iff_iff, decide_eq_true_eq, decide_eq_true_eq]
  omega

theorem isNum_notN {k : FloatKind} {y : Nat} (h : isNum k y = true) : isN k y = false := by
  obtain ⟨m, e, h3, _⟩ := isNum_read h
  show (k.format.read y).isNaN = false
  rw [h3]
  rfl

theorem wid_isNum (x : Nat) : isNum .f64 (wid x) = fin x := by
  rw [fin_isNum]
  rcases word_kind .f32 x with h | ⟨s, h⟩ | h
  · rw [h, (wid_num h).1]
  · have h2 := wid_inf h
    unfold isNum
    rw [h2, h]
  · rw [wid_nan h]
    have : isNum .f32 x = false := by rw [← fin_isNum]; exact isN_fin h
    rw [this]
    decide +kernel

theorem sine_inf {x : Nat} (h : fin x = false) : sineF x = nanOf .f32 := by
  unfold sineF sineW
  rw [sub_self_fin, wid_isNum, h]
  rfl
theorem sine_huge {x : Nat} (h : fin x = true) (hh : huge (wid x) = true) : sineF x = 0 := by
  unfold sineF sineW
  rw [sub_self_fin, wid_isNum, h, hh]
  simp only [Bool.not_true, cond_false, cond_true]
  decide +kernel
theorem sine_part {x : Nat} (h : fin x = true) (hh : huge (wid x) = false) : fconv .f64 .f32 (sinCore (part (wid x))) = some (sineF x) := by
  rw [← sineF_narrow]
  unfold sineW
  rw [sub_self_fin, wid_isNum, h, hh]
  rfl

def slitS (t : Nat) : Nat := sineF (fop .mul .f32 1056964608 t)
def slitQ (t : Nat) (n : Int) : Nat := fop .quo .f32 (sineF (fop .mul .f32 (fop .mul .f32 1056964608 t) (fint .f32 n))) (fop .mul .f32 (fint .f32 n) (slitS t))
def slitX (t : Nat) (n : Int) : Nat := bif fcmp .eql .f32 (slitS t) 0 then 1065353216 else fop .mul .f32 (slitQ t n) (slitQ t n)
def slitOk (t : Nat) (n : Int) : Bool := fin t && (within n 1 64 && (fcmp .eql .f32 (slitS t) 0 || fin (fop .mul .f32 (slitQ t n) (slitQ t n))))

end Go.Sm
