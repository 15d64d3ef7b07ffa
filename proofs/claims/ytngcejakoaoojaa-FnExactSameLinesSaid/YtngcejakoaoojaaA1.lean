/- Floats up to the bits of a NaN: the canonical word of a float, and what the operations of the model give of canonical words. -/
import Derived.WalkKit
import Derived.Laws.FloatArith
import Derived.Laws.FloatBits
namespace Go.Sm
open Go

def nanOf : FloatKind → Nat
  | .f32 => 2143289344
  | .f64 => 9221120237041090560

def isN (k : FloatKind) (b : Nat) : Bool := (k.decode b).isNaN

/-- The word of a float, one word for all NaNs. -/
def cn (k : FloatKind) (b : Nat) : Nat := bif isN k b then nanOf k else b

theorem isN_nanOf (k : FloatKind) : isN k (nanOf k) = true := by cases k <;> rfl

theorem isN_cn (k : FloatKind) (b : Nat) : isN k (cn k b) = isN k b := by
  unfold cn
  cases h : isN k b with
  | true => exact isN_nanOf k
  | false => exact h

theorem cn_nan {k : FloatKind} {b : Nat} (h : isN k b = true) : cn k b = nanOf k := by unfold cn; rw [h]; rfl
theorem cn_num {k : FloatKind} {b : Nat} (h : isN k b = false) : cn k b = b := by unfold cn; rw [h]; rfl
theorem cn_cn (k : FloatKind) (b : Nat) : cn k (cn k b) = cn k b := by
  cases h : isN k b with
  | true => rw [cn_nan h, cn_nan (isN_nanOf k)]
  | false => rw [cn_num h, cn_num h]

/-! ### Words that are no NaNs -/

theorem read_word_notNaN (f : Ieee.Format) (neg : Bool) (rung : Nat) (h : rung ≤ f.infRung) : (f.read (f.word neg rung)).isNaN = false := by
  have hlt := f.infRung_lt
  have hm : f.word neg rung % f.signWeight = rung := by
    unfold Ieee.Format.word
    have h2 : rung < f.signWeight := by omega
    cases neg
    · exact Nat.mod_eq_of_lt h2
    · simp [Nat.mod_eq_of_lt h2]
  unfold Ieee.Format.read
  dsimp only
  rw [hm]
  split
  · rfl
  · split
    · rfl
    · split
      · rfl
      · omega

theorem nearest_notNaN (f : Ieee.Format) (neg : Bool) (m : Nat) (e : Int) : (f.read (f.nearest neg m e)).isNaN = false := by
  unfold Ieee.Format.nearest
  split
  · exact read_word_notNaN f neg 0 (Nat.zero_le _)
  · exact read_word_notNaN f neg _ (Nat.min_le_right ..)

theorem write_notNaN (f : Ieee.Format) (d : Ieee.Datum) (h : d.isNaN = false) : (f.read (f.write d)).isNaN = false := by
  cases d with
  | number s m e => exact nearest_notNaN f s m e
  | infinity s => exact read_word_notNaN f s _ (Nat.le_refl _)
  | nan s t => simp [Ieee.Datum.isNaN] at h

theorem sum_notNaN {a b d : Ieee.Datum} (h : a.sum b = some d) : d.isNaN = false := by
  cases a <;> cases b <;> simp only [Ieee.Datum.sum] at h <;> first | (cases h; rfl) | (cases h; done) | (split at h <;> first | (cases h; rfl) | (cases h; done))

theorem product_notNaN {a b d : Ieee.Datum} (h : a.product b = some d) : d.isNaN = false := by
  cases a <;> cases b <;> simp only [Ieee.Datum.product] at h <;> first | (cases h; rfl) | (cases h; done) | (split at h <;> first | (cases h; rfl) | (cases h; done))

theorem quotient_notNaN {n : Nat} {a b d : Ieee.Datum} (h : a.quotient n b = some d) : d.isNaN = false := by
  cases a <;> cases b <;> simp only [Ieee.Datum.quotient] at h <;> first | (cases h; rfl) | (cases h; done) | (split at h <;> first | (cases h; rfl) | (cases h; done) | (split at h <;> first | (cases h; rfl) | (cases h; done)))

theorem map_write_notNaN {f : Ieee.Format} {o : Option Ieee.Datum} {r : Nat} (ho : ∀ d, o = some d → d.isNaN = false) (h : o.map f.write = some r) : (f.read r).isNaN = false := by
  cases o with
  | none => cases h
  | some d => cases h; exact write_notNaN f d (ho d rfl)

theorem floatBits_notNaN {op : BinOp} {k : FloatKind} {x y r : Nat} (h : floatBits op k x y = some r) : isN k r = false := by
  unfold floatBits at h
  unfold isN FloatKind.decode
  split at h
  · exact map_write_notNaN (fun d hd => sum_notNaN hd) h
  · exact map_write_notNaN (fun d hd => sum_notNaN hd) h
  · exact map_write_notNaN (fun d hd => product_notNaN hd) h
  · exact map_write_notNaN (fun d hd => quotient_notNaN hd) h
  · cases h

/-! ### The operations see no difference between NaNs -/

theorem sum_nan_left {a b : Ieee.Datum} (h : a.isNaN = true) : a.sum b = none := by
  cases a <;> simp [Ieee.Datum.isNaN] at h; cases b <;> rfl
theorem sum_nan_right {a b : Ieee.Datum} (h : b.isNaN = true) : a.sum b = none := by
  cases b <;> simp [Ieee.Datum.isNaN] at h; cases a <;> rfl
theorem product_nan_left {a b : Ieee.Datum} (h : a.isNaN = true) : a.product b = none := by
  cases a <;> simp [Ieee.Datum.isNaN] at h; cases b <;> rfl
theorem product_nan_right {a b : Ieee.Datum} (h : b.isNaN = true) : a.product b = none := by
  cases b <;> simp [Ieee.Datum.isNaN] at h; cases a <;> rfl
theorem quotient_nan_left {n : Nat} {a b : Ieee.Datum} (h : a.isNaN = true) : a.quotient n b = none := by
  cases a <;> simp [Ieee.Datum.isNaN] at h; cases b <;> rfl
theorem quotient_nan_right {n : Nat} {a b : Ieee.Datum} (h : b.isNaN = true) : a.quotient n b = none := by
  cases b <;> simp [Ieee.Datum.isNaN] at h; cases a <;> rfl
theorem order_nan_left {a b : Ieee.Datum} (h : a.isNaN = true) : a.order b = none := by
  cases a <;> simp [Ieee.Datum.isNaN] at h; cases b <;> rfl
theorem order_nan_right {a b : Ieee.Datum} (h : b.isNaN = true) : a.order b = none := by
  cases b <;> simp [Ieee.Datum.isNaN] at h; cases a <;> rfl
theorem opposite_isNaN (a : Ieee.Datum) : a.opposite.isNaN = a.isNaN := by cases a <;> rfl

theorem floatBits_nan_left {op : BinOp} {k : FloatKind} {x y : Nat} (h : isN k x = true) : floatBits op k x y = none := by
  unfold isN FloatKind.decode at h
  cases op <;> first | rfl | skip
  · simp only [floatBits, Ieee.Format.add, sum_nan_left h, Option.map_none]
  · simp only [floatBits, Ieee.Format.sub, sum_nan_left h, Option.map_none]
  · simp only [floatBits, Ieee.Format.mul, product_nan_left h, Option.map_none]
  · simp only [floatBits, Ieee.Format.div, quotient_nan_left h, Option.map_none]

theorem floatBits_nan_right {op : BinOp} {k : FloatKind} {x y : Nat} (h : isN k y = true) : floatBits op k x y = none := by
  unfold isN FloatKind.decode at h
  cases op <;> first | rfl | skip
  · simp only [floatBits, Ieee.Format.add, sum_nan_right h, Option.map_none]
  · simp only [floatBits, Ieee.Format.sub, sum_nan_right ((opposite_isNaN _).trans h), Option.map_none]
  · simp only [floatBits, Ieee.Format.mul, product_nan_right h, Option.map_none]
  · simp only [floatBits, Ieee.Format.div, quotient_nan_right h, Option.map_none]

theorem floatBits_cn (op : BinOp) (k : FloatKind) (x y : Nat) : floatBits op k (cn k x) (cn k y) = floatBits op k x y := by
  cases hx : isN k x with
  | true => rw [floatBits_nan_left ((isN_cn k x).trans hx), floatBits_nan_left hx]
  | false =>
    cases hy : isN k y with
    | true => rw [floatBits_nan_right ((isN_cn k y).trans hy), floatBits_nan_right hy]
    | false => rw [cn_num hx, cn_num hy]

/-- A float operation on canonical words. -/
def fop (op : BinOp) (k : FloatKind) (x y : Nat) : Nat := (floatBits op k x y).getD (nanOf k)

theorem order_cn (k : FloatKind) (x y : Nat) : k.format.order (cn k x) (cn k y) = k.format.order x y := by
  unfold Ieee.Format.order
  cases hx : isN k x with
  | true =>
    have h1 : (k.format.read (cn k x)).isNaN = true := (isN_cn k x).trans hx
    have h2 : (k.format.read x).isNaN = true := hx
    rw [order_nan_left h1, order_nan_left h2]
  | false =>
    cases hy : isN k y with
    | true =>
      have h1 : (k.format.read (cn k y)).isNaN = true := (isN_cn k y).trans hy
      have h2 : (k.format.read y).isNaN = true := hy
      rw [order_nan_right h1, order_nan_right h2]
    | false => rw [cn_num hx, cn_num hy]

/-- A comparison of floats. -/
def fcmp (op : BinOp) (k : FloatKind) (x y : Nat) : Bool :=
  let c := k.format.order x y
  match op with
  | .eql => c == some .eq
  | .neq => c != some .eq
  | .lss => c == some .lt
  | .leq => c == some .lt || c == some .eq
  | .gtr => c == some .gt
  | .geq => c == some .gt || c == some .eq
  | _ => false

theorem fcmp_cn (op : BinOp) (k : FloatKind) (x y : Nat) : fcmp op k (cn k x) (cn k y) = fcmp op k x y := by
  unfold fcmp; rw [order_cn]

/-- A chosen NaN is one. -/
theorem isN_chosen (k : FloatKind) (q : Question) (t : Nat) (h : (∃ x y, q = .nanBits k x y) ∨ (∃ b, q = .nanConv k b) ∨ (∃ m x y, q = .nanMinMax k m x y)) : isN k (q.cut t) = true := by
  have key : ∀ n : Nat, k = .f32 → n = (t % 2) * 2 ^ 31 + 0x7f800000 + 1 + (t / 2) % (2 ^ 23 - 1) → isN k n = true := by
    intro n hk hn
    subst hk
    have h1 := Nat.mod_lt (t / 2) (show 0 < 2 ^ 23 - 1 by decide)
    have h2 := Nat.mod_lt t (show 0 < 2 by decide)
    have e : n % 2147483648 = 0x7f800000 + 1 + (t / 2) % (2 ^ 23 - 1) := by omega
    unfold isN FloatKind.decode FloatKind.format Ieee.Format.read
    have hs : Ieee.single.signWeight = 2147483648 := by decide
    have hb : Ieee.single.binade = 8388608 := by decide
    have hi : Ieee.single.infRung = 2139095040 := by decide
    simp only [hs, hb, hi, e]
    rw [if_neg (by omega), if_neg (by omega), if_neg (by omega)]
    rfl
  have key2 : ∀ n : Nat, k = .f64 → n = (t % 2) * 2 ^ 63 + 0x7ff0000000000000 + 1 + (t / 2) % (2 ^ 52 - 1) → isN k n = true := by
    intro n hk hn
    subst hk
    have h1 := Nat.mod_lt (t / 2) (show 0 < 2 ^ 52 - 1 by decide)
    have h2 := Nat.mod_lt t (show 0 < 2 by decide)
    have e : n % 9223372036854775808 = 0x7ff0000000000000 + 1 + (t / 2) % (2 ^ 52 - 1) := by omega
    unfold isN FloatKind.decode FloatKind.format Ieee.Format.read
    have hs : Ieee.double.signWeight = 9223372036854775808 := by decide
    have hb : Ieee.double.binade = 4503599627370496 := by decide
    have hi : Ieee.double.infRung = 9218868437227405312 := by decide
    simp only [hs, hb, hi, e]
    rw [if_neg (by omega), if_neg (by omega), if_neg (by omega)]
    rfl
  rcases h with ⟨x, y, rfl⟩ | ⟨b, rfl⟩ | ⟨m, x, y, rfl⟩ <;> cases k
  · exact key _ rfl rfl
  · exact key2 _ rfl rfl
  · exact key _ rfl rfl
  · exact key2 _ rfl rfl
  · exact key _ rfl rfl
  · exact key2 _ rfl rfl

theorem run_fop (P : Program) (w : World) (op : BinOp) (k : FloatKind) (x y : Nat) (hop : op = .add ∨ op = .sub ∨ op = .mul ∨ op = .quo) :
    ∃ r w', (Op.floatArith op k x y).run P w = .ok (.float k r) w' ∧ cn k r = fop op k (cn k x) (cn k y) ∧ (w' = w ∨ w' = w.drew) := by
  unfold fop
  rw [floatBits_cn]
  have hrun : (Op.floatArith op k x y).run P w = match floatBits op k x y with
      | some r => .ok (.float k r) w
      | none => .ok (.float k ((Question.nanBits k x y).cut (w.tape w.drawn (.nanBits k x y)))) w.drew := by
    rcases hop with rfl | rfl | rfl | rfl
    · cases h : k.format.add x y <;> simp [Op.floatArith, floatBits, h, Question.forced]
    · cases h : k.format.sub x y <;> simp [Op.floatArith, floatBits, h, Question.forced]
    · cases h : k.format.mul x y <;> simp [Op.floatArith, floatBits, h, Question.forced]
    · cases h : k.format.div x y <;> simp [Op.floatArith, floatBits, h, Question.forced]
  rw [hrun]
  cases h : floatBits op k x y with
  | some r => exact ⟨r, w, rfl, cn_num (floatBits_notNaN h), .inl rfl⟩
  | none => exact ⟨_, _, rfl, cn_nan (isN_chosen k _ _ (.inl ⟨x, y, rfl⟩)), .inr rfl⟩

/-- A negated float, on canonical words. -/
def fneg (k : FloatKind) (c : Nat) : Nat := bif isN k c then nanOf k else Op.negFloat k c

theorem negFloat_mod (f : Ieee.Format) (b : Nat) : (b ^^^ f.signWeight) % f.signWeight = b % f.signWeight := by
  unfold Ieee.Format.signWeight
  apply Nat.eq_of_testBit_eq
  intro i
  simp only [Nat.testBit_mod_two_pow, Nat.testBit_xor, Nat.testBit_two_pow]
  by_cases h : i < f.exponentBits + f.fractionBits
  · have : ¬ f.exponentBits + f.fractionBits = i := by omega
    simp [h, this]
  · simp [h]

theorem isN_neg (k : FloatKind) (b : Nat) : isN k (Op.negFloat k b) = isN k b := by
  have e : Op.negFloat k b % k.format.signWeight = b % k.format.signWeight := negFloat_mod k.format b
  unfold isN FloatKind.decode Ieee.Format.read
  dsimp only
  rw [e]
  split
  · rfl
  · split
    · rfl
    · split <;> rfl

theorem cn_neg (k : FloatKind) (b : Nat) : cn k (Op.negFloat k b) = fneg k (cn k b) := by
  unfold fneg
  rw [isN_cn]
  cases h : isN k b with
  | true => exact cn_nan ((isN_neg k b).trans h)
  | false => rw [cn_num h]; exact cn_num ((isN_neg k b).trans h)

/-- An integer as a float. -/
def fint (k : FloatKind) (n : Int) : Nat := k.nearest n

theorem cn_fint (k : FloatKind) (n : Int) : cn k (fint k n) = fint k n := cn_num (nearest_notNaN k.format _ _ _)

/-- A float as one of the other kind; 'none': a finite number too great for it. -/
def fconv (s d : FloatKind) (c : Nat) : Option Nat := bif isN s c then some (nanOf d) else floatToFloatBits s c d

theorem run_fconv (P : Program) (w : World) (s d : FloatKind) (b r : Nat) (hne : s ≠ d) (h : fconv s d (cn s b) = some r) :
    ∃ r' w', (Conv.floatToFloat s b d).run P w = .ok (.float d r') w' ∧ cn d r' = r ∧ (w' = w ∨ w' = w.drew) := by
  unfold fconv at h
  rw [isN_cn] at h
  cases hn : isN s b with
  | true =>
    rw [hn] at h
    cases h
    cases hd : s.decode b with
    | nan sg t =>
      refine ⟨_, _, ?_, cn_nan (isN_chosen d (.nanConv d b) (w.tape w.drawn (.nanConv d b)) (.inr (.inl ⟨b, rfl⟩))), .inr rfl⟩
      simp [Conv.floatToFloat, hne, hd, Question.forced]
    | infinity sg => simp [isN, hd, Ieee.Datum.isNaN] at hn
    | number sg m e => simp [isN, hd, Ieee.Datum.isNaN] at hn
  | false =>
    rw [hn, cn_num hn] at h
    replace h : floatToFloatBits s b d = some r := h
    unfold floatToFloatBits at h
    rw [if_neg hne] at h
    cases hd : s.decode b with
    | nan sg t => rw [hd] at h; cases h
    | infinity sg =>
      rw [hd] at h
      cases h
      exact ⟨_, w, by simp [Conv.floatToFloat, hne, hd], cn_num (write_notNaN d.format (.infinity sg) rfl), .inl rfl⟩
    | number sg m e =>
      rw [hd] at h
      dsimp only at h
      split at h
      · cases h
      · rename_i ho
        cases h
        exact ⟨_, w, by simp [Conv.floatToFloat, hne, hd, ho], cn_num (write_notNaN d.format (.number sg m e) rfl), .inl rfl⟩

end Go.Sm
