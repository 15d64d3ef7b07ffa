/- The operations on numbers: what the machine says, the model does. -/
import Derived.Test.YtngcejakoaoojaaA3
namespace Go.Sm
open Go Go.RowKit

/-- Nothing that was there has changed. -/
abbrev Same (w w' : World) : Prop := Below w.heap.size w w'

theorem Same.refl (w : World) : Same w w := Below.refl _ _
theorem Same.drew (w : World) : Same w w.drew := (Below.refl _ _).drew
theorem Same.trans {a b c : World} (h : Same a b) (k : Same b c) : Same a c := Below.trans h (k.mono h.size)
theorem same_or {w w' : World} (h : w' = w ∨ w' = w.drew) : Same w w' := by
  rcases h with rfl | rfl
  · exact Same.refl _
  · exact Same.drew _

/-- A step that leaves memory alone and gives a value that fits. -/
def Gives (P : Program) (w : World) (x : Sem Value) (Φ : Value → Prop) : Prop := ∃ r w', x.run P w = .ok r w' ∧ Φ r ∧ Same w w'

theorem Gives.pure {P : Program} {w : World} {v : Value} {Φ : Value → Prop} (h : Φ v) : Gives P w (Pure.pure v) Φ := ⟨v, w, rfl, h, Same.refl w⟩

theorem gives_arith {P : Program} {w : World} {op : BinOp} {k : FloatKind} {x y : Nat} (hop : op = .add ∨ op = .sub ∨ op = .mul ∨ op = .quo) :
    Gives P w (Op.floatArith op k x y) (SCR (.fl k (fop op k (cn k x) (cn k y)))) := by
  obtain ⟨r, w', h1, h2, h3⟩ := run_fop P w op k x y hop
  exact ⟨_, w', h1, ⟨r, rfl, h2⟩, same_or h3⟩

theorem gives_carith {P : Program} {w : World} {op : BinOp} {k : FloatKind} {a b c d : Nat} (hop : op = .add ∨ op = .sub) :
    Gives P w (Op.complexOp op k a b c d) (SCR (.cx k (fop op k (cn k a) (cn k c)) (fop op k (cn k b) (cn k d)))) := by
  have hop' : op = .add ∨ op = .sub ∨ op = .mul ∨ op = .quo := by rcases hop with h | h <;> simp [h]
  obtain ⟨r, w1, h1, h2, h3⟩ := run_fop P w op k a c hop'
  obtain ⟨r', w2, h1', h2', h3'⟩ := run_fop P w1 op k b d hop'
  refine ⟨.complex k r r', w2, ?_, ⟨r, r', rfl, h2, h2'⟩, (same_or h3).trans (same_or h3')⟩
  rcases hop with rfl | rfl <;> simp [Op.complexOp, Op.Complex.arith, h1, h1']

theorem binOp_ff (P : Program) (w : World) (op : BinOp) (t : Nat) (X Y : Operand) (k : FloatKind) (x y : Nat) :
    ((do eqGuard op t X Y (.float k x) (.float k y); binOp op t (.float k x) (.float k y) : Sem Value)).run P w = (binOp op t (.float k x) (.float k y)).run P w := by
  simp [eqGuard_at_float]

theorem binK_ok {tb : Bool} {op : BinOp} {x y : SC} {k : SC → R} {out : Out} (h : binK tb op x y k = some out) :
    ∃ c, k c = some out ∧ ∀ (P : Program) (w : World) (t : Nat) (X Y : Operand) (u v : Value), (tb = true → P.underlying t = some .bool) → SCR x u → SCR y v →
      Gives P w (do eqGuard op t X Y u v; binOp op t u v) (SCR c) := by
  unfold binK at h
  split at h
  · -- integers
    rename_i q a q' b
    cases hq : decide (q = q') with
    | false => rw [hq] at h; cases h
    | true =>
      rw [hq] at h
      replace hq := of_decide_eq_true hq
      subst hq
      simp only [cond_true] at h
      split at h
      case h_4 =>
        cases hb : decide (b = 0) with
        | true => rw [hb] at h; cases h
        | false =>
          rw [hb] at h
          refine ⟨_, h, ?_⟩
          rintro P w t X Y u v ht rfl rfl
          replace hb := of_decide_eq_false hb
          refine ⟨_, w, ?_, rfl, Same.refl w⟩
          simp [eqGuard_at_int, binOp, Op.intDiv, hb]
      case h_5 =>
        cases hb : decide (b = 0) with
        | true => rw [hb] at h; cases h
        | false =>
          rw [hb] at h
          refine ⟨_, h, ?_⟩
          rintro P w t X Y u v ht rfl rfl
          replace hb := of_decide_eq_false hb
          refine ⟨_, w, ?_, rfl, Same.refl w⟩
          simp [eqGuard_at_int, binOp, Op.intDiv, hb]
      case h_12 =>
        refine ⟨_, h, ?_⟩
        rintro P w t X Y u v ht rfl rfl
        refine ⟨_, w, ?_, rfl, Same.refl w⟩
        simp [eqGuard_at_int, binOp, Op.intBits]
      case h_13 => cases h
      all_goals
        refine ⟨_, h, ?_⟩
        rintro P w t X Y u v ht rfl rfl
        refine ⟨_, w, ?_, rfl, Same.refl w⟩
        simp [eqGuard_at_int, binOp, Op.intArith, Op.intCmp]
  · -- floats
    rename_i q a q' b
    cases hq : decide (q = q') with
    | false => rw [hq] at h; cases h
    | true =>
      rw [hq] at h
      replace hq := of_decide_eq_true hq
      subst hq
      simp only [cond_true] at h
      split at h
      case h_11 => cases h
      case h_1 | h_2 | h_3 | h_4 =>
        refine ⟨_, h, ?_⟩
        rintro P w t X Y u v ht ⟨b1, rfl, rfl⟩ ⟨b2, rfl, rfl⟩
        first
          | (obtain ⟨r, w', h1, h2, h3⟩ := gives_arith (P := P) (w := w) (op := .add) (k := q) (x := b1) (y := b2) (.inl rfl)
             exact ⟨r, w', by rw [binOp_ff]; simpa [binOp] using h1, h2, h3⟩)
          | (obtain ⟨r, w', h1, h2, h3⟩ := gives_arith (P := P) (w := w) (op := .sub) (k := q) (x := b1) (y := b2) (.inr (.inl rfl))
             exact ⟨r, w', by rw [binOp_ff]; simpa [binOp] using h1, h2, h3⟩)
          | (obtain ⟨r, w', h1, h2, h3⟩ := gives_arith (P := P) (w := w) (op := .mul) (k := q) (x := b1) (y := b2) (.inr (.inr (.inl rfl)))
             exact ⟨r, w', by rw [binOp_ff]; simpa [binOp] using h1, h2, h3⟩)
          | (obtain ⟨r, w', h1, h2, h3⟩ := gives_arith (P := P) (w := w) (op := .quo) (k := q) (x := b1) (y := b2) (.inr (.inr (.inr rfl)))
             exact ⟨r, w', by rw [binOp_ff]; simpa [binOp] using h1, h2, h3⟩)
      all_goals
        refine ⟨_, h, ?_⟩
        rintro P w t X Y u v ht ⟨b1, rfl, rfl⟩ ⟨b2, rfl, rfl⟩
        refine ⟨_, w, ?_, rfl, Same.refl w⟩
        rw [binOp_ff, fcmp_cn]
        simp [binOp, Op.floatCmp, fcmp]
  · -- bools
    rename_i a b
    cases tb with
    | false => cases h
    | true =>
      simp only [cond_true] at h
      split at h
      case h_3 => cases h
      case h_1 =>
        refine ⟨_, h, ?_⟩
        rintro P w t X Y u v ht rfl rfl
        refine ⟨_, w, ?_, rfl, Same.refl w⟩
        simp only [eqGuard_at_bool, Sem.run_bind, Sem.run_pure, Result.andThen_ok]
        exact run_eql_bool w t a b (ht rfl)
      case h_2 =>
        refine ⟨_, h, ?_⟩
        rintro P w t X Y u v ht rfl rfl
        refine ⟨_, w, ?_, rfl, Same.refl w⟩
        simp only [eqGuard_at_bool, Sem.run_bind, Sem.run_pure, Result.andThen_ok]
        exact run_neq_bool w t a b (ht rfl)
  · -- complex numbers
    rename_i q a b q' c d
    cases hq : decide (q = q') with
    | false => rw [hq] at h; cases h
    | true =>
      rw [hq] at h
      replace hq := of_decide_eq_true hq
      subst hq
      simp only [cond_true] at h
      split at h
      case h_5 => cases h
      case h_1 | h_2 =>
        refine ⟨_, h, ?_⟩
        rintro P w t X Y u v ht ⟨b1, b2, rfl, rfl, rfl⟩ ⟨b3, b4, rfl, rfl, rfl⟩
        first
          | (obtain ⟨r, w', h1, h2, h3⟩ := gives_carith (P := P) (w := w) (op := .add) (k := q) (a := b1) (b := b2) (c := b3) (d := b4) (.inl rfl)
             exact ⟨r, w', by simpa [eqGuard_at_complex, binOp] using h1, h2, h3⟩)
          | (obtain ⟨r, w', h1, h2, h3⟩ := gives_carith (P := P) (w := w) (op := .sub) (k := q) (a := b1) (b := b2) (c := b3) (d := b4) (.inr rfl)
             exact ⟨r, w', by simpa [eqGuard_at_complex, binOp] using h1, h2, h3⟩)
      all_goals
        refine ⟨_, h, ?_⟩
        rintro P w t X Y u v ht ⟨b1, b2, rfl, rfl, rfl⟩ ⟨b3, b4, rfl, rfl, rfl⟩
        refine ⟨_, w, ?_, rfl, Same.refl w⟩
        rw [fcmp_cn, fcmp_cn]
        simp [eqGuard_at_complex, binOp, Op.complexOp, Op.Complex.cmp, Op.floatCmp, fcmp, asBool]
  · cases h

theorem unK_ok {op : UnOp} {x : SC} {k : SC → R} {out : Out} (h : unK op x k = some out) :
    ∃ c, k c = some out ∧ ∀ (P : Program) (w : World) (u : Value), SCR x u → Gives P w (Op.unary op u) (SCR c) := by
  unfold unK at h
  split at h
  case h_5 => cases h
  case h_1 q n =>
    refine ⟨_, h, ?_⟩
    rintro P w u rfl
    refine ⟨.int q (q.wrap (0 - n)), w, ?_, rfl, Same.refl w⟩
    simp [Op.unary, Op.intArith]
  case h_2 q c =>
    refine ⟨_, h, ?_⟩
    rintro P w u ⟨b, rfl, rfl⟩
    exact ⟨_, w, rfl, ⟨_, rfl, cn_neg q b⟩, Same.refl w⟩
  case h_3 q a b =>
    refine ⟨_, h, ?_⟩
    rintro P w u ⟨x, y, rfl, rfl, rfl⟩
    exact ⟨_, w, rfl, ⟨_, _, rfl, cn_neg q x, cn_neg q y⟩, Same.refl w⟩
  case h_4 b =>
    refine ⟨_, h, ?_⟩
    rintro P w u rfl
    exact ⟨_, w, rfl, rfl, Same.refl w⟩

/-! ### Conversions -/

theorem fconv_wid (c : Nat) (h : (fconv .f32 .f64 c).isSome = true) : fconv .f32 .f64 c = some (wid c) := by
  unfold wid
  obtain ⟨r, hr⟩ := Option.isSome_iff_exists.1 h
  rw [hr]
  rfl

theorem log2_lt {m n : Nat} (hm : m ≠ 0) (h : m < 2 ^ n) : m.log2 < n := (Nat.log2_lt hm).2 h

/-- A 64-bit float holds what a 32-bit one does. -/
theorem wide_fits (s : Bool) (m : Nat) (e : Int) (hm : m < 2 ^ 24) (h1 : -149 ≤ e) (h2 : e ≤ 104) : (Ieee.double.read (Ieee.double.nearest s m e)).isInfinity = false := by
  by_cases h0 : m = 0
  · subst h0
    unfold Ieee.Format.nearest
    rw [if_pos rfl]
    cases s <;> rfl
  · have hlog : m.log2 < 24 := log2_lt h0 hm
    have hlp : Ieee.double.leastPlace = -1074 := by decide
    have hfb : Ieee.double.fractionBits = 52 := rfl
    have hb : Ieee.double.binade = 4503599627370496 := by decide
    have hi : Ieee.double.infRung = 9218868437227405312 := by decide
    have hsw : Ieee.double.signWeight = 9223372036854775808 := by decide
    -- the rung
    suffices hr : ∃ rung, Ieee.double.nearest s m e = Ieee.double.word s rung ∧ rung < Ieee.double.infRung by
      obtain ⟨rung, hw, hlt⟩ := hr
      rw [hw]
      have hmod : Ieee.double.word s rung % Ieee.double.signWeight = rung := by
        have h3 : rung < Ieee.double.signWeight := by rw [hsw]; rw [hi] at hlt; omega
        unfold Ieee.Format.word
        cases s
        · exact Nat.mod_eq_of_lt h3
        · simp [Nat.mod_eq_of_lt h3]
      unfold Ieee.Format.read
      dsimp only
      rw [hmod]
      split
      · rfl
      · first | rfl | (rw [if_pos hlt]; rfl)
    unfold Ieee.Format.nearest
    rw [if_neg h0]
    refine ⟨_, rfl, ?_⟩
    refine Nat.lt_of_le_of_lt (Nat.min_le_left ..) ?_
    rw [hlp, hfb, hb, hi]
    -- the last digit's place is the lesser one: nothing is cut
    have hlast : max (e + (m.log2 : Int) - ((52 : Nat) : Int)) (-1074) = e + (m.log2 : Int) - 52 := by omega
    simp only [hlast]
    have hcut : Ieee.Toward.even.cut s (m <<< (e - (e + (m.log2 : Int) - 52)).toNat) (e + (m.log2 : Int) - 52 - e).toNat = m <<< (52 - m.log2) := by
      have e1 : (e - (e + (m.log2 : Int) - 52)).toNat = 52 - m.log2 := by omega
      have e2 : (e + (m.log2 : Int) - 52 - e).toNat = 0 := by omega
      rw [e1, e2]
      unfold Ieee.Toward.cut
      simp [Nat.mod_one]
    rw [hcut]
    have hsh : m <<< (52 - m.log2) < 2 ^ 53 := by
      rw [Nat.shiftLeft_eq]
      have h3 : m < 2 ^ (m.log2 + 1) := (Nat.log2_lt h0).1 (Nat.lt_succ_self _)
      calc m * 2 ^ (52 - m.log2) < 2 ^ (m.log2 + 1) * 2 ^ (52 - m.log2) := Nat.mul_lt_mul_of_pos_right h3 (Nat.two_pow_pos _)
        _ = 2 ^ 53 := by rw [← Nat.pow_add]; congr 1; omega
    have hpl : (e + (m.log2 : Int) - 52 - -1074).toNat ≤ 1149 := by omega
    generalize (e + (m.log2 : Int) - 52 - -1074).toNat = a at hpl
    generalize m <<< (52 - m.log2) = b at hsh
    omega

theorem fconv_some (c : Nat) : (fconv .f32 .f64 c).isSome = true := by
  unfold fconv
  cases hn : isN .f32 c with
  | true => rfl
  | false =>
    show (floatToFloatBits .f32 c .f64).isSome = true
    unfold floatToFloatBits
    rw [if_neg (by decide)]
    cases hd : FloatKind.f32.decode c with
    | nan sg t => simp [isN, hd, Ieee.Datum.isNaN] at hn
    | infinity sg => rfl
    | number sg m e =>
      dsimp only
      have hb : m < 2 ^ 24 ∧ -149 ≤ e ∧ e ≤ 104 := by
        have hlp : Ieee.single.leastPlace = -149 := by decide
        have hbi : Ieee.single.binade = 8388608 := by decide
        have hi : Ieee.single.infRung = 2139095040 := by decide
        have hd' : Ieee.single.read c = .number sg m e := hd
        unfold Ieee.Format.read at hd'
        dsimp only at hd'
        rw [hlp, hbi, hi] at hd'
        generalize c % Ieee.single.signWeight = r at hd'
        split at hd'
        · simp only [Ieee.Datum.number.injEq] at hd'
          obtain ⟨_, rfl, rfl⟩ := hd'
          omega
        · split at hd'
          · simp only [Ieee.Datum.number.injEq] at hd'
            obtain ⟨_, rfl, rfl⟩ := hd'
            have := Nat.mod_lt r (show 0 < 8388608 by decide)
            omega
          · split at hd' <;> cases hd'
      have hf := wide_fits sg m e hb.1 hb.2.1 hb.2.2
      rw [if_neg]
      · rfl
      · show ¬ (Ieee.double.read (Ieee.double.nearest sg m e)).isInfinity = true
        rw [hf]
        decide

theorem gives_wid {P : Program} {w : World} {b : Nat} : Gives P w (Conv.floatToFloat .f32 b .f64) (SCR (.fl .f64 (wid (cn .f32 b)))) := by
  obtain ⟨r, w', h1, h2, h3⟩ := run_fconv P w .f32 .f64 b _ (by decide) (fconv_wid _ (fconv_some (cn .f32 b)))
  exact ⟨_, w', h1, ⟨r, rfl, h2⟩, same_or h3⟩

theorem gives_nar {P : Program} {w : World} {b r : Nat} (h : fconv .f64 .f32 (cn .f64 b) = some r) : Gives P w (Conv.floatToFloat .f64 b .f32) (SCR (.fl .f32 r)) := by
  obtain ⟨r', w', h1, h2, h3⟩ := run_fconv P w .f64 .f32 b _ (by decide) h
  exact ⟨_, w', h1, ⟨r', rfl, h2⟩, same_or h3⟩

/-- What a number's type is. -/
def NK.desc : NK → TypeDesc
  | .bool => .bool
  | .int k => .int k
  | .float k => .float k
  | .complex k => .complex k

theorem fti_cn (s : FloatKind) (b : Nat) (q : IntKind) : floatToIntVal s (cn s b) q = floatToIntVal s b q := by
  cases h : isN s b with
  | false => rw [cn_num h]
  | true =>
    have key : ∀ x, isN s x = true → floatToIntVal s x q = none := by
      intro x hx
      unfold floatToIntVal Ieee.Datum.toInt
      cases hd : s.decode x with
      | nan sg t => rfl
      | infinity sg => simp [isN, hd, Ieee.Datum.isNaN] at hx
      | number sg m e => simp [isN, hd, Ieee.Datum.isNaN] at hx
    rw [key _ h, key _ ((isN_cn s b).trans h)]

end Go.Sm
