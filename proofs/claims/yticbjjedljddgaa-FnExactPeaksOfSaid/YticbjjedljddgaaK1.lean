/- A machine on plain data, its laws: part 1. -/
import Derived.WalkKit
import Derived.Laws.FloatArith
import Derived.Laws.FloatBits
import Derived.Deep.Quiet
import Derived.Carry
import Derived.Laws.Externs
import Derived.Lib.SliceRun
namespace Go.Sm
open Go
def nanOf : FloatKind → Nat
  | .f32 => 2143289344
  | .f64 => 9221120237041090560
def isN (k : FloatKind) (b : Nat) : Bool := (k.decode b).isNaN
def cn (k : FloatKind) (b : Nat) : Nat := bif isN k b then nanOf k else b
theorem isN_nanOf (k : FloatKind) : isN k (nanOf k) = true := by cases k <;> rfl
theorem isN_cn (k : FloatKind) (b : Nat) : isN k (cn k b) = isN k b := by
  unfold cn
  cases h : isN k b with
  | true => exact isN_nanOf k
  | false => exact h
theorem cn_nan {k : FloatKind} {b : Nat} (h : isN k b = true) : cn k b = nanOf k := by unfold cn; rw [h]; rfl
theorem cn_num {k : FloatKind} {b : Nat} (h : isN k b = false) : cn k b = b := by unfold cn; rw [h]; rfl
theorem cn_cn (k : FloatKind) (b : Nat) : cn k (cn k b) = cn k b := by
  cases h : isN k b with
  | true => rw [cn_nan h, cn_nan (isN_nanOf k)]
  | false => rw [cn_num h, cn_num h]
theorem read_word_notNaN (f : Ieee.Format) (neg : Bool) (rung : Nat) (h : rung ≤ f.infRung) : (f.read (f.word neg rung)).isNaN = false := by
  have hlt := f.infRung_lt
  have hm : f.word neg rung % f.signWeight = rung := by
    unfold Ieee.Format.word
    have h2 : rung < f.signWeight := by omega
    cases neg
    · exact Nat.mod_eq_of_lt h2
    · simp [Nat.mod_eq_of_lt h2]
  unfold Ieee.Format.read
  dsimp only
  rw [hm]
  split
  · rfl
  · split
    · rfl
    · split
      · rfl
      · omega
theorem nearest_notNaN (f : Ieee.Format) (neg : Bool) (m : Nat) (e : Int) : (f.read (f.nearest neg m e)).isNaN = false := by
  unfold Ieee.Format.nearest
  split
  · exact read_word_notNaN f neg 0 (Nat.zero_le _)
  · exact read_word_notNaN f neg _ (Nat.min_le_right ..)
theorem write_notNaN (f : Ieee.Format) (d : Ieee.Datum) (h : d.isNaN = false) : (f.read (f.write d)).isNaN = false := by
  cases d with
  | number s m e => exact nearest_notNaN f s m e
  | infinity s => exact read_word_notNaN f s _ (Nat.le_refl _)
  | nan s t => simp [Ieee.Datum.isNaN] at h
theorem sum_notNaN {a b d : Ieee.Datum} (h : a.sum b = some d) : d.isNaN = false := by
  cases a <;> cases b <;> simp only [Ieee.Datum.sum] at h <;> first | (cases h; rfl) | (cases h; done) | (split at h <;> first | (cases h; rfl) | (cases h; done))
theorem product_notNaN {a b d : Ieee.Datum} (h : a.product b = some d) : d.isNaN = false := by
  cases a <;> cases b <;> simp only [Ieee.Datum.product] at h <;> first | (cases h; rfl) | (cases h; done) | (split at h <;> first | (cases h; rfl) | (cases h; done))
theorem quotient_notNaN {n : Nat} {a b d : Ieee.Datum} (h : a.quotient n b = some d) : d.isNaN = false := by
  cases a <;> cases b <;> simp only [Ieee.Datum.quotient] at h <;> first | (cases h; rfl) | (cases h; done) | (split at h <;> first | (cases h; rfl) | (cases h; done) | (split at h <;> first | (cases h; rfl) | (cases h; done)))
theorem map_write_notNaN {f : Ieee.Format} {o : Option Ieee.Datum} {r : Nat} (ho : ∀ d, o = some d → d.isNaN = false) (h : o.map f.write = some r) : (f.read r).isNaN = false := by
  cases o with
  | none => cases h
  | some d => cases h; exact write_notNaN f d (ho d rfl)
theorem floatBits_notNaN {op : BinOp} {k : FloatKind} {x y r : Nat} (h : floatBits op k x y = some r) : isN k r = false := by
  unfold floatBits at h
  unfold isN FloatKind.decode
  split at h
  · exact map_write_notNaN (fun d hd => sum_notNaN hd) h
  · exact map_write_notNaN (fun d hd => sum_notNaN hd) h
  · exact map_write_notNaN (fun d hd => product_notNaN hd) h
  · exact map_write_notNaN (fun d hd => quotient_notNaN hd) h
  · cases h
theorem sum_nan_left {a b : Ieee.Datum} (h : a.isNaN = true) : a.sum b = none := by
  cases a <;> simp [Ieee.Datum.isNaN] at h; cases b <;> rfl
theorem sum_nan_right {a b : Ieee.Datum} (h : b.isNaN = true) : a.sum b = none := by
  cases b <;> simp [Ieee.Datum.isNaN] at h; cases a <;> rfl
theorem product_nan_left {a b : Ieee.Datum} (h : a.isNaN = true) : a.product b = none := by
  cases a <;> simp [Ieee.Datum.isNaN] at h; cases b <;> rfl
theorem product_nan_right {a b : Ieee.Datum} (h : b.isNaN = true) : a.product b = none := by
  cases b <;> simp [Ieee.Datum.isNaN] at h; cases a <;> rfl
theorem quotient_nan_left {n : Nat} {a b : Ieee.Datum} (h : a.isNaN = true) : a.quotient n b = none := by
  cases a <;> simp [Ieee.Datum.isNaN] at h; cases b <;> rfl
theorem quotient_nan_right {n : Nat} {a b : Ieee.Datum} (h : b.isNaN = true) : a.quotient n b = none := by
  cases b <;> simp [Ieee.Datum.isNaN] at h; cases a <;> rfl
theorem order_nan_left {a b : Ieee.Datum} (h : a.isNaN = true) : a.order b = none := by
  cases a <;> simp [Ieee.Datum.isNaN] at h; cases b <;> rfl
theorem order_nan_right {a b : Ieee.Datum} (h : b.isNaN = true) : a.order b = none := by
  cases b <;> simp [Ieee.Datum.isNaN] at h; cases a <;> rfl
theorem opposite_isNaN (a : Ieee.Datum) : a.opposite.isNaN = a.isNaN := by cases a <;> rfl
theorem floatBits_nan_left {op : BinOp} {k : FloatKind} {x y : Nat} (h : isN k x = true) : floatBits op k x y = none := by
  unfold isN FloatKind.decode at h
  cases op <;> first | rfl | skip
  · simp only [floatBits, Ieee.Format.add, sum_nan_left h, Option.map_none]
  · simp only [floatBits, Ieee.Format.sub, sum_nan_left h, Option.map_none]
  · simp only [floatBits, Ieee.Format.mul, product_nan_left h, Option.map_none]
  · simp only [floatBits, Ieee.Format.div, quotient_nan_left h, Option.map_none]
theorem floatBits_nan_right {op : BinOp} {k : FloatKind} {x y : Nat} (h : isN k y = true) : floatBits op k x y = none := by
  unfold isN FloatKind.decode at h
  cases op <;> first | rfl | skip
  · simp only [floatBits, Ieee.Format.add, sum_nan_right h, Option.map_none]
  · simp only [floatBits, Ieee.Format.sub, sum_nan_right ((opposite_isNaN _).trans h), Option.map_none]
  · simp only [floatBits, Ieee.Format.mul, product_nan_right h, Option.map_none]
  · simp only [floatBits, Ieee.Format.div, quotient_nan_right h, Option.map_none]
theorem floatBits_cn (op : BinOp) (k : FloatKind) (x y : Nat) : floatBits op k (cn k x) (cn k y) = floatBits op k x y := by
  cases hx : isN k x with
  | true => rw [floatBits_nan_left ((isN_cn k x).trans hx), floatBits_nan_left hx]
  | false =>
    cases hy : isN k y with
    | true => rw [floatBits_nan_right ((isN_cn k y).trans hy), floatBits_nan_right hy]
    | false => rw [cn_num hx, cn_num hy]
def fop (op : BinOp) (k : FloatKind) (x y : Nat) : Nat := (floatBits op k x y).getD (nanOf k)
theorem order_cn (k : FloatKind) (x y : Nat) : k.format.order (cn k x) (cn k y) = k.format.order x y := by
  unfold Ieee.Format.order
  cases hx : isN k x with
  | true =>
    have h1 : (k.format.read (cn k x)).isNaN = true := (isN_cn k x).trans hx
    have h2 : (k.format.read x).isNaN = true := hx
    rw [order_nan_left h1, order_nan_left h2]
  | false =>
    cases hy : isN k y with
    | true =>
      have h1 : (k.format.read (cn k y)).isNaN = true := (isN_cn k y).trans hy
      have h2 : (k.format.read y).isNaN = true := hy
      rw [order_nan_right h1, order_nan_right h2]
    | false => rw [cn_num hx, cn_num hy]
def fcmp (op : BinOp) (k : FloatKind) (x y : Nat) : Bool :=
  let c := k.format.order x y
  match op with
  | .eql => c == some .eq
  | .neq => c != some .eq
  | .lss => c == some .lt
  | .leq => c == some .lt || c == some .eq
  | .gtr => c == some .gt
  | .geq => c == some .gt || c == some .eq
  | _ => false
theorem fcmp_cn (op : BinOp) (k : FloatKind) (x y : Nat) : fcmp op k (cn k x) (cn k y) = fcmp op k x y := by
  unfold fcmp; rw [order_cn]
theorem isN_chosen (k : FloatKind) (q : Question) (t : Nat) (h : (∃ x y, q = .nanBits k x y) ∨ (∃ b, q = .nanConv k b) ∨ (∃ m x y, q = .nanMinMax k m x y)) : isN k (q.cut t) = true := by
  have key : ∀ n : Nat, k = .f32 → n = (t % 2) * 2 ^ 31 + 0x7f800000 + 1 + (t / 2) % (2 ^ 23 - 1) → isN k n = true := by
    intro n hk hn
    subst hk
    have h1 := Nat.mod_lt (t / 2) (show 0 < 2 ^ 23 - 1 by decide)
    have h2 := Nat.mod_lt t (show 0 < 2 by decide)
    have e : n % 2147483648 = 0x7f800000 + 1 + (t / 2) % (2 ^ 23 - 1) := by omega
    unfold isN FloatKind.decode FloatKind.format Ieee.Format.read
    have hs : Ieee.single.signWeight = 2147483648 := by decide
    have hb : Ieee.single.binade = 8388608 := by decide
    have hi : Ieee.single.infRung = 2139095040 := by decide
    simp only [hs, hb, hi, e]
    rw [if_neg (by omega), if_neg (by omega), if_neg (by omega)]
    rfl
  have key2 : ∀ n : Nat, k = .f64 → n = (t % 2) * 2 ^ 63 + 0x7ff0000000000000 + 1 + (t / 2) % (2 ^ 52 - 1) → isN k n = true := by
    intro n hk hn
    subst hk
    have h1 := Nat.mod_lt (t / 2) (show 0 < 2 ^ 52 - 1 by decide)
    have h2 := Nat.mod_lt t (show 0 < 2 by decide)
    have e : n % 9223372036854775808 = 0x7ff0000000000000 + 1 + (t / 2) % (2 ^ 52 - 1) := by omega
    unfold isN FloatKind.decode FloatKind.format Ieee.Format.read
    have hs : Ieee.double.signWeight = 9223372036854775808 := by decide
    have hb : Ieee.double.binade = 4503599627370496 := by decide
    have hi : Ieee.double.infRung = 9218868437227405312 := by decide
    simp only [hs, hb, hi, e]
    rw [if_neg (by omega), if_neg (by omega), if_neg (by omega)]
    rfl
  rcases h with ⟨x, y, rfl⟩ | ⟨b, rfl⟩ | ⟨m, x, y, rfl⟩ <;> cases k
  · exact key _ rfl rfl
  · exact key2 _ rfl rfl
  · exact key _ rfl rfl
  · exact key2 _ rfl rfl
  · exact key _ rfl rfl
  · exact key2 _ rfl rfl
theorem run_fop (P : Program) (w : World) (op : BinOp) (k : FloatKind) (x y : Nat) (hop : op = .add ∨ op = .sub ∨ op = .mul ∨ op = .quo) :
    ∃ r w', (Op.floatArith op k x y).run P w = .ok (.float k r) w' ∧ cn k r = fop op k (cn k x) (cn k y) ∧ (w' = w ∨ w' = w.drew) := by
  unfold fop
  rw [floatBits_cn]
  have hrun : (Op.floatArith op k x y).run P w = match floatBits op k x y with
      | some r => .ok (.float k r) w
      | none => .ok (.float k ((Question.nanBits k x y).cut (w.tape w.drawn (.nanBits k x y)))) w.drew := by
    rcases hop with rfl | rfl | rfl | rfl
    · cases h : k.format.add x y <;> simp [Op.floatArith, floatBits, h, Question.forced]
    · cases h : k.format.sub x y <;> simp [Op.floatArith, floatBits, h, Question.forced]
    · cases h : k.format.mul x y <;> simp [Op.floatArith, floatBits, h, Question.forced]
    · cases h : k.format.div x y <;> simp [Op.floatArith, floatBits, h, Question.forced]
  rw [hrun]
  cases h : floatBits op k x y with
  | some r => exact ⟨r, w, rfl, cn_num (floatBits_notNaN h), .inl rfl⟩
  | none => exact ⟨_, _, rfl, cn_nan (isN_chosen k _ _ (.inl ⟨x, y, rfl⟩)), .inr rfl⟩
def fneg (k : FloatKind) (c : Nat) : Nat := bif isN k c then nanOf k else Op.negFloat k c
theorem negFloat_mod (f : Ieee.Format) (b : Nat) : (b ^^^ f.signWeight) % f.signWeight = b % f.signWeight := by
  unfold Ieee.Format.signWeight
  apply Nat.eq_of_testBit_eq
  intro i
  simp only [Nat.testBit_mod_two_pow, Nat.testBit_xor, Nat.testBit_two_pow]
  by_cases h : i < f.exponentBits + f.fractionBits
  · have : ¬ f.exponentBits + f.fractionBits = i := by omega
    simp [h, this]
  · simp [h]
theorem isN_neg (k : FloatKind) (b : Nat) : isN k (Op.negFloat k b) = isN k b := by
  have e : Op.negFloat k b % k.format.signWeight = b % k.format.signWeight := negFloat_mod k.format b
  unfold isN FloatKind.decode Ieee.Format.read
  dsimp only
  rw [e]
  split
  · rfl
  · split
    · rfl
    · split <;> rfl
theorem cn_neg (k : FloatKind) (b : Nat) : cn k (Op.negFloat k b) = fneg k (cn k b) := by
  unfold fneg
  rw [isN_cn]
  cases h : isN k b with
  | true => exact cn_nan ((isN_neg k b).trans h)
  | false => rw [cn_num h]; exact cn_num ((isN_neg k b).trans h)
def fint (k : FloatKind) (n : Int) : Nat := k.nearest n
theorem cn_fint (k : FloatKind) (n : Int) : cn k (fint k n) = fint k n := cn_num (nearest_notNaN k.format _ _ _)
def fconv (s d : FloatKind) (c : Nat) : Option Nat := bif isN s c then some (nanOf d) else floatToFloatBits s c d
theorem run_fconv (P : Program) (w : World) (s d : FloatKind) (b r : Nat) (hne : s ≠ d) (h : fconv s d (cn s b) = some r) :
    ∃ r' w', (Conv.floatToFloat s b d).run P w = .ok (.float d r') w' ∧ cn d r' = r ∧ (w' = w ∨ w' = w.drew) := by
  unfold fconv at h
  rw [isN_cn] at h
  cases hn : isN s b with
  | true =>
    rw [hn] at h
    cases h
    cases hd : s.decode b with
    | nan sg t =>
      refine ⟨_, _, ?_, cn_nan (isN_chosen d (.nanConv d b) (w.tape w.drawn (.nanConv d b)) (.inr (.inl ⟨b, rfl⟩))), .inr rfl⟩
      simp [Conv.floatToFloat, hne, hd, Question.forced]
    | infinity sg => simp [isN, hd, Ieee.Datum.isNaN] at hn
    | number sg m e => simp [isN, hd, Ieee.Datum.isNaN] at hn
  | false =>
    rw [hn, cn_num hn] at h
    replace h : floatToFloatBits s b d = some r := h
    unfold floatToFloatBits at h
    rw [if_neg hne] at h
    cases hd : s.decode b with
    | nan sg t => rw [hd] at h; cases h
    | infinity sg =>
      rw [hd] at h
      cases h
      exact ⟨_, w, by simp [Conv.floatToFloat, hne, hd], cn_num (write_notNaN d.format (.infinity sg) rfl), .inl rfl⟩
    | number sg m e =>
      rw [hd] at h
      dsimp only at h
      split at h
      · cases h
      · rename_i ho
        cases h
        exact ⟨_, w, by simp [Conv.floatToFloat, hne, hd, ho], cn_num (write_notNaN d.format (.number sg m e) rfl), .inl rfl⟩
end Go.Sm
namespace Go.Sm
open Go
structure LineV where
  p : Nat
  h : Nat
  w : Nat
  k : Int
structure EdgeV where
  f : Int
  t : Int
  p : Nat
structure PulseV where
  a : Nat
  b : Nat
  c : Nat
  d : Nat
inductive SC where
  | int (k : IntKind) (n : Int)
  | bo (b : Bool)
  | fl (k : FloatKind) (c : Nat)
  | cx (k : FloatKind) (a b : Nat)
  | no
inductive Elt where
  | sc (s : SC)
  | ag (cs : List SC)
def Elt.cells : Elt → List SC
  | .sc s => [s]
  | .ag cs => cs
inductive K where
  | f32 | f64 | i64 | bo | u8 | c64 | line | edge | pulse | ll | lf
  | al
  deriving DecidableEq
@[reducible] def K.ty : K → Type
  | .f32 => Nat
  | .f64 => Nat
  | .i64 => Int
  | .bo => Bool
  | .u8 => Int
  | .c64 => Nat × Nat
  | .line => LineV
  | .edge => EdgeV
  | .pulse => PulseV
  | .ll => List LineV
  | .lf => List Nat
  | .al => Nat × Nat
def K.is2 : K → Bool
  | .ll | .lf => true
  | _ => false
def K.isAl : K → Bool
  | .al => true
  | _ => false
def K.f : (k : K) → k.ty → Elt
  | .f32, c => .sc (.fl .f32 c)
  | .f64, c => .sc (.fl .f64 c)
  | .i64, n => .sc (.int .i64 n)
  | .bo, b => .sc (.bo b)
  | .u8, n => .sc (.int .u8 n)
  | .c64, c => .sc (.cx .f32 c.1 c.2)
  | .line, l => .ag [.fl .f32 l.p, .fl .f32 l.h, .fl .f32 l.w, .int .i64 l.k]
  | .edge, e => .ag [.int .i64 e.f, .int .i64 e.t, .fl .f32 e.p]
  | .pulse, p => .ag [.fl .f32 p.a, .fl .f32 p.b, .fl .f32 p.c, .fl .f32 p.d]
  | .ll, _ => .sc .no
  | .lf, _ => .sc .no
  | .al, _ => .sc .no
def K.g : (k : K) → Elt → Option k.ty
  | .f32, .sc (.fl .f32 c) => some c
  | .f64, .sc (.fl .f64 c) => some c
  | .i64, .sc (.int .i64 n) => some n
  | .bo, .sc (.bo b) => some b
  | .u8, .sc (.int .u8 n) => some n
  | .c64, .sc (.cx .f32 a b) => some (a, b)
  | .line, .ag [.fl .f32 p, .fl .f32 h, .fl .f32 w, .int .i64 k] => some ⟨p, h, w, k⟩
  | .edge, .ag [.int .i64 f, .int .i64 t, .fl .f32 p] => some ⟨f, t, p⟩
  | .pulse, .ag [.fl .f32 a, .fl .f32 b, .fl .f32 c, .fl .f32 d] => some ⟨a, b, c, d⟩
  | _, _ => none
def K.sz : K → Nat
  | .line => 4
  | .edge => 3
  | .pulse => 4
  | _ => 1
def K.agg : K → Bool
  | .line | .edge | .pulse => true
  | _ => false
def K.z : (k : K) → k.ty
  | .f32 => (0 : Nat)
  | .f64 => (0 : Nat)
  | .i64 => (0 : Int)
  | .bo => false
  | .u8 => (0 : Int)
  | .c64 => ((0 : Nat), (0 : Nat))
  | .line => ⟨0, 0, 0, 0⟩
  | .edge => ⟨0, 0, 0⟩
  | .pulse => ⟨0, 0, 0, 0⟩
  | .ll => []
  | .lf => []
  | .al => ((0 : Nat), (0 : Nat))
structure Vec where
  k : K
  xs : List k.ty
def Vec.cast (v : Vec) (k : K) : Option (List k.ty) := if h : v.k = k then some (h ▸ v.xs) else none
def Vec.two (v : Vec) : Option ((k : K) × List (List k.ty)) := match v with
  | ⟨.ll, xss⟩ => some ⟨.line, xss⟩
  | ⟨.lf, xss⟩ => some ⟨.f32, xss⟩
  | _ => none
def K.up : K → Option K
  | .line => some .ll
  | .f32 => some .lf
  | _ => none
def Vec.of2 (k : K) (xss : List (List k.ty)) : Option Vec := match k, xss with
  | .line, xss => some ⟨.ll, xss⟩
  | .f32, xss => some ⟨.lf, xss⟩
  | _, _ => none
def Vec.cells (v : Vec) : List SC := v.xs.flatMap fun a => (v.k.f a).cells
inductive Base where
  | v (vec : Vec)
  | r (r : Nat)
  | w (j : Nat)
  | s (k : K) (xss : List (List k.ty))
structure PT where
  b : Base
  sz : Nat
  i : Nat
  j : Nat
inductive FV where
  | el (e : Elt)
  | nil
  | vw (o : Option Nat) (v : Vec)
  | own (r : Nat)
  | pt (p : PT)
  | fn (f : Nat) (caps : List PT)
  | vv (o : Option Nat) (k : K) (xss : List (List k.ty))
  | pv (k : K) (xss : List (List k.ty)) (i : Nat)
  | ne (k : K)
  | pl (r : Nat) (i : Nat)
  | mv (r e : Nat) (π : List (Option Nat))
  | pm (r e : Nat) (π : List (Option Nat)) (i : Nat)
inductive AV where
  | un
  | fv (x : FV)
  | tup (xs : List FV)
structure Row where
  e : Nat
  v : Vec
abbrev Hp := List (Option Row)
structure St where
  sl : List (Nat × AV)
  H : Hp
inductive Ex where
  | normal
  | exit (id : Nat)
  | ret
inductive RV where
  | el (e : Elt)
  | nil
  | fresh (e : Nat) (v : Vec)
  | arg (i : Nat)
  | new2 (e : Nat) (v : Vec)
  | newv (e i : Nat)
structure Out where
  rs : List RV
  row : Option Row
abbrev R := Option Out
inductive NK where
  | bool
  | int (k : IntKind)
  | float (k : FloatKind)
  | complex (k : FloatKind)
structure TT where
  sl : Nat → Option Nat
  ek : Nat → Option K
  fo : Nat → Nat → Option Nat
  nk : Nat → Option NK
  mutf : Nat → Bool
  S : Nat → List FV → (List RV → R) → R
  M : Nat → Vec → List FV → (List RV → Vec → R) → R
  D : Nat → Vec → List FV → (Vec → R) → R := fun _ _ _ _ => none
def lk : List (Nat × AV) → Nat → Option AV
  | [], _ => none
  | x :: l, n => bif Nat.beq x.1 n then some x.2 else lk l n
def rowAt (H : Hp) (r : Nat) : Option Row :=
  match H[r]? with
  | some (some row) => bif row.v.k.is2 || row.v.k.isAl then none else some row
  | _ => none
def llAt (H : Hp) (r : Nat) : Option Row :=
  match H[r]? with
  | some (some row) => bif row.v.k.is2 then some row else none
  | _ => none
def alAt (H : Hp) (r : Nat) : Option (Nat × Nat) :=
  match H[r]? with
  | some (some ⟨_, ⟨.al, [p]⟩⟩) => some p
  | _ => none
def noAl : Hp → Bool
  | [] => true
  | some ⟨_, ⟨.al, _⟩⟩ :: _ => false
  | _ :: H => noAl H
def constO : Value → Option FV
  | .bool b => some (.el (.sc (.bo b)))
  | .int k n => some (.el (.sc (.int k n)))
  | .float k b => bif isN k b then none else some (.el (.sc (.fl k b)))
  | .complex k a b => bif isN k a || isN k b then none else some (.el (.sc (.cx k a b)))
  | .slice none 0 0 => some .nil
  | _ => none
def evO (s : St) : Operand → Option FV
  | .tmp t => match lk s.sl t with
    | some (.fv v) => some v
    | _ => none
  | .const v => constO v
  | .func f => some (.fn f [])
  | .global _ => none
def evA (s : St) (x : Operand) : Option AV :=
  match x with
  | .tmp t => (match lk s.sl t with
    | some (.fv v) => some (.fv v)
    | some (.tup xs) => some (.tup xs)
    | _ => none)
  | x => match evO s x with
    | some v => some (.fv v)
    | none => none
def baseVec (H : Hp) : Base → Option Vec
  | .v vec => some vec
  | .r r => match rowAt H r with
    | some row => some row.v
    | none => none
  | .w _ => none
  | .s _ _ => none
def slice? (H : Hp) : FV → Option (Base × Vec)
  | .vw _ vec => some (.v vec, vec)
  | .own r => match rowAt H r with
    | some row => some (.r r, row.v)
    | none => none
  | .ne k => some (.v ⟨k, []⟩, ⟨k, []⟩)
  | _ => none
def closeP (H : Hp) (p : PT) : Option PT :=
  match baseVec H p.b with
  | some vec => bif Nat.beq p.sz vec.k.sz then some ⟨.v vec, p.sz, p.i, p.j⟩ else none
  | none => (match p.b with
    | .w j => (match rowAt H j with
      | some row => some ⟨.s row.v.k [row.v.xs], p.sz, p.i, p.j⟩
      | none => none)
    | .s kd xss => some ⟨.s kd xss, p.sz, p.i, p.j⟩
    | _ => none)
def closePs (H : Hp) : List PT → Option (List PT)
  | [] => some []
  | p :: ps => match closeP H p, closePs H ps with
    | some q, some qs => some (q :: qs)
    | _, _ => none
def close (H : Hp) : FV → Option FV
  | .el e => some (.el e)
  | .nil => some .nil
  | .vw _ vec => some (.vw none vec)
  | .own r => match rowAt H r with
    | some row => some (.vw none row.v)
    | none => (match llAt H r with
      | some row => (match row.v.two with
        | some z => some (.vv none z.1 z.2)
        | none => none)
      | none => none)
  | .pt p => match closeP H p with
    | some q => some (.pt q)
    | none => none
  | .fn f caps => match closePs H caps with
    | some qs => some (.fn f qs)
    | none => none
  | .vv _ kd xss => some (.vv none kd xss)
  | .pv kd xss i => some (.pv kd xss i)
  | .ne k => some (.ne k)
  | .pl _ _ => none
  | .mv _ _ _ => none
  | .pm _ _ _ _ => none
def closeAll (H : Hp) : List FV → Option (List FV)
  | [] => some []
  | x :: xs => match close H x, closeAll H xs with
    | some y, some ys => some (y :: ys)
    | _, _ => none
def evAll (s : St) : List Operand → Option (List FV)
  | [] => some []
  | x :: xs => match evO s x, evAll s xs with
    | some y, some ys => some (y :: ys)
    | _, _ => none
def takeBack (args : List FV) (H : Hp) : List RV → Option (List FV × Hp)
  | [] => some ([], H)
  | .el e :: rs => match takeBack args H rs with
    | some (xs, H') => some (.el e :: xs, H')
    | none => none
  | .nil :: rs => match takeBack args H rs with
    | some (xs, H') => some (.nil :: xs, H')
    | none => none
  | .fresh e v :: rs => bif v.k.is2 || v.k.isAl then none else match takeBack args (H ++ [some ⟨e, v⟩]) rs with
    | some (xs, H') => some (.own H.length :: xs, H')
    | none => none
  | .arg i :: rs => match args[i]?, takeBack args H rs with
    | some a, some (xs, H') => some (a :: xs, H')
    | _, _ => none
  | .new2 _ _ :: _ => none
  | .newv _ _ :: _ => none
def packed : List FV → AV
  | [x] => .fv x
  | xs => .tup xs
def isBool : Option NK → Bool
  | some .bool => true
  | _ => false
def binK (tb : Bool) (op : BinOp) (x y : SC) (k : SC → R) : R :=
  match x, y with
  | .int q a, .int q' b => bif decide (q = q') then (match op with
    | .add => k (.int q (q.wrap (a + b)))
    | .sub => k (.int q (q.wrap (a - b)))
    | .mul => k (.int q (q.wrap (a * b)))
    | .quo => bif decide (b = 0) then none else k (.int q (q.wrap (a.tdiv b)))
    | .rem => bif decide (b = 0) then none else k (.int q (a.tmod b))
    | .eql => k (.bo (a == b))
    | .neq => k (.bo (a != b))
    | .lss => k (.bo (decide (a < b)))
    | .leq => k (.bo (decide (a ≤ b)))
    | .gtr => k (.bo (decide (a > b)))
    | .geq => k (.bo (decide (a ≥ b)))
    | .andNot => k (.int q (q.wrap (((BitVec.ofInt q.bits a &&& ~~~(BitVec.ofInt q.bits b)).toNat : Nat) : Int)))
    | _ => none) else none
  | .fl q a, .fl q' b => bif decide (q = q') then (match op with
    | .add => k (.fl q (fop .add q a b))
    | .sub => k (.fl q (fop .sub q a b))
    | .mul => k (.fl q (fop .mul q a b))
    | .quo => k (.fl q (fop .quo q a b))
    | .eql => k (.bo (fcmp .eql q a b))
    | .neq => k (.bo (fcmp .neq q a b))
    | .lss => k (.bo (fcmp .lss q a b))
    | .leq => k (.bo (fcmp .leq q a b))
    | .gtr => k (.bo (fcmp .gtr q a b))
    | .geq => k (.bo (fcmp .geq q a b))
    | _ => none) else none
  | .bo a, .bo b => bif tb then (match op with
    | .eql => k (.bo (a == b))
    | .neq => k (.bo (!(a == b)))
    | _ => none) else none
  | .cx q a b, .cx q' c d => bif decide (q = q') then (match op with
    | .add => k (.cx q (fop .add q a c) (fop .add q b d))
    | .sub => k (.cx q (fop .sub q a c) (fop .sub q b d))
    | .eql => k (.bo (fcmp .eql q a c && fcmp .eql q b d))
    | .neq => k (.bo (!(fcmp .eql q a c && fcmp .eql q b d)))
    | _ => none) else none
  | _, _ => none
def unK (op : UnOp) (x : SC) (k : SC → R) : R :=
  match op, x with
  | .neg, .int q n => k (.int q (q.wrap (0 - n)))
  | .neg, .fl q c => k (.fl q (fneg q c))
  | .neg, .cx q a b => k (.cx q (fneg q a) (fneg q b))
  | .not, .bo b => k (.bo (!b))
  | _, _ => none
def wid (c : Nat) : Nat := (fconv .f32 .f64 c).getD 0
def convK (d : NK) (x : SC) (k : SC → R) : R :=
  match d, x with
  | .int q, .int _ n => k (.int q (q.wrap n))
  | .float q, .int _ n => k (.fl q (fint q n))
  | .float .f32, .fl .f32 c => k (.fl .f32 c)
  | .float .f64, .fl .f64 c => k (.fl .f64 c)
  | .float .f64, .fl .f32 c => k (.fl .f64 (wid c))
  | .float .f32, .fl .f64 c => match fconv .f64 .f32 c with
    | some r => k (.fl .f32 r)
    | none => none
  | .int q, .fl s c => match floatToIntVal s c q with
    | some n => k (.int q n)
    | none => none
  | .complex .f32, .cx .f32 a b => k (.cx .f32 a b)
  | .complex .f64, .cx .f64 a b => k (.cx .f64 a b)
  | .complex .f64, .cx .f32 a b => k (.cx .f64 (wid a) (wid b))
  | .complex .f32, .cx .f64 a b => match fconv .f64 .f32 a with
    | some r => (match fconv .f64 .f32 b with
      | some s => k (.cx .f32 r s)
      | none => none)
    | none => none
  | _, _ => none
def fmax (k : FloatKind) (a b : Nat) : Nat :=
  match k.format.order a b with
  | none => nanOf k
  | some .lt => b
  | some .gt => a
  | some .eq => bif (k.decode a).neg then b else a
def fmin (k : FloatKind) (a b : Nat) : Nat :=
  match k.format.order a b with
  | none => nanOf k
  | some .lt => a
  | some .gt => b
  | some .eq => bif (k.decode a).neg then a else b
def mxK (mx : Bool) (x y : SC) (k : SC → R) : R :=
  match x, y with
  | .int q a, .int q' b => bif decide (q = q') then (bif mx then k (.int q (if b > a then b else a)) else k (.int q (if b < a then b else a))) else none
  | .fl q a, .fl q' b => bif decide (q = q') then (bif mx then k (.fl q (fmax q a b)) else k (.fl q (fmin q a b))) else none
  | _, _ => none
def loadD (T : TT) (H : Hp) (t : Nat) (p : PT) (k : FV → R) : R :=
  match T.ek t, baseVec H p.b with
  | some q, some vec => bif Nat.beq p.sz vec.k.sz then (match vec.xs[p.i]? with
    | some a => bif q.agg then (bif decide (q = vec.k) && Nat.beq p.j 0 then k (.el (vec.k.f a)) else none)
      else (match (vec.k.f a).cells[p.j]? with
        | some s => k (.el (.sc s))
        | none => none)
    | none => none) else none
  | _, _ => none
def loadK (T : TT) (H : Hp) (t : Nat) (p : PT) (k : FV → R) : R :=
  match p.b with
  | .w j => (match T.sl t with
    | some _ => bif Nat.beq (p.i * p.sz + p.j) 0 then k (.own j) else none
    | none => none)
  | .s kd xss => (match T.sl t with
    | some _ => (match xss[p.i * p.sz + p.j]? with
      | some xs => k (.vw none ⟨kd, xs⟩)
      | none => none)
    | none => none)
  | _ => loadD T H t p k
def setElt (k : K) (a : k.ty) (whole : Bool) (j : Nat) (x : Elt) : Option k.ty :=
  bif whole then k.g x else match x with
    | .sc s => k.g (.ag ((k.f a).cells.set j s))
    | _ => none
def storeK (T : TT) (H : Hp) (t : Nat) (p : PT) (x : FV) (k : Hp → R) : R :=
  match T.ek t, p.b, x with
  | some q, .r r, .el e => match rowAt H r with
    | some row => match row.v.xs[p.i]? with
      | some a => (match setElt row.v.k a (decide (q = row.v.k) && Nat.beq p.j 0) p.j e with
        | some b => bif Nat.beq e.cells.length q.sz && Nat.beq p.sz row.v.k.sz && decide (p.j < row.v.k.sz) then k (H.set r (some ⟨row.e, ⟨row.v.k, row.v.xs.set p.i b⟩⟩)) else none
        | none => none)
      | none => none
    | none => none
  | _, _, _ => none
def fillCells (T : TT) (t : Nat) : List (Nat × SC) → List SC → Option (List SC)
  | [], cs => some cs
  | (f, s) :: ps, cs => match T.fo t f with
    | some o => fillCells T t ps (cs.set o s)
    | none => none
def fillVec (k : K) : List (Nat × FV) → List k.ty → Option (List k.ty)
  | [], xs => some xs
  | (i, .el e) :: ps, xs => match k.g e with
    | some a => bif decide (i < xs.length) then fillVec k ps (xs.set i a) else none
    | none => none
  | _ :: _, _ => none
def evParts (s : St) : List (Nat × Operand) → Option (List (Nat × FV))
  | [] => some []
  | (i, x) :: ps => match evO s x, evParts s ps with
    | some v, some vs => some ((i, v) :: vs)
    | _, _ => none
def scParts : List (Nat × FV) → Option (List (Nat × SC))
  | [] => some []
  | (i, .el (.sc s)) :: ps => match scParts ps with
    | some vs => some ((i, s) :: vs)
    | none => none
  | _ :: _ => none
def pts? : List FV → Option (List PT)
  | [] => some []
  | .pt p :: xs => match pts? xs with
    | some ps => some (p :: ps)
    | none => none
  | _ :: _ => none
def lenLL (H : Hp) : FV → Option Int
  | .own r => match llAt H r with
    | some row => some (row.v.xs.length : Int)
    | none => none
  | _ => none
def lenO (H : Hp) : FV → Option Int
  | .nil => some 0
  | .vv _ _ xss => some (xss.length : Int)
  | .mv _ _ π => some (π.length : Int)
  | x => match slice? H x with
    | some (_, v) => some (v.xs.length : Int)
    | none => lenLL H x
def Vec.cat2 : Vec → Vec → Option Vec
  | ⟨.ll, a⟩, ⟨.ll, b⟩ => some ⟨.ll, a ++ b⟩
  | ⟨.lf, a⟩, ⟨.lf, b⟩ => some ⟨.lf, a ++ b⟩
  | _, _ => none
def appendLLK (T : TT) (H : Hp) (e : Nat) (d x : FV) (k : FV → Hp → R) : R :=
  match T.sl e, d, x with
  | some _, .own r, .own r2 => (match llAt H r, llAt H r2 with
    | some row, some row2 => bif (Nat.beq row.e e && Nat.beq row2.e e) && (noAl H && (!Nat.beq r r2 && decide (row.v.xs.length + row2.v.xs.length ≤ 1099511627776))) then (match row.v.cat2 row2.v with
      | some vec => k (.own H.length) ((H.set r none).set r2 none ++ [some ⟨e, vec⟩])
      | none => none) else none
    | _, _ => none)
  | _, _, _ => none
def appendK (T : TT) (H : Hp) (t : Nat) (d x : FV) (k : FV → Hp → R) : R :=
  match T.sl t with
  | none => none
  | some e => match T.ek e with
    | none => appendLLK T H e d x k
    | some q => match slice? H x with
      | none => none
      | some (_, v) => match v.cast q with
        | none => none
        | some ys => match d with
          | .nil => bif decide (ys.length ≤ 1099511627776) then k (.own H.length) (H ++ [some ⟨e, ⟨q, ys⟩⟩]) else none
          | .own r => (match rowAt H r with
            | none => none
            | some row => match row.v.cast q with
              | none => none
              | some zs => bif Nat.beq row.e e && decide (zs.length + ys.length ≤ 1099511627776) then k (.own H.length) (H.set r none ++ [some ⟨e, ⟨q, zs ++ ys⟩⟩]) else none)
          | _ => none
def putK (T : TT) (H : Hp) (t : Nat) (r i r2 : Nat) (k : Hp → R) : R :=
  match T.sl t, llAt H r, rowAt H r2 with
  | some _, some row, some row2 => (match row.v.two with
    | some z => (match row2.v.cast z.1 with
      | some ys => bif noAl H && decide (i < z.2.length) then (match Vec.of2 z.1 (z.2.set i ys) with
        | some vec => k ((H.set r2 none).set r (some ⟨row.e, vec⟩))
        | none => none) else none
      | none => none)
    | none => none)
  | _, _, _ => none
def copyK (T : TT) (H : Hp) (t : Nat) (d x : FV) (k : FV → Hp → R) : R :=
  match T.sl t with
  | none => none
  | some e => match T.ek e with
    | none => none
    | some q => match slice? H x with
      | none => none
      | some (_, v) => match v.cast q with
        | none => none
        | some ys => match d with
          | .own r => (match rowAt H r with
            | none => none
            | some row => match row.v.cast q with
              | none => none
              | some zs => bif decide (ys.length ≤ zs.length) then k (.el (.sc (.int .i64 (ys.length : Int)))) (H.set r (some ⟨row.e, ⟨q, ys ++ zs.drop ys.length⟩⟩)) else none)
          | _ => none
def buildLLK (T : TT) (H : Hp) (e n : Nat) (ps : List (Nat × FV)) (k : FV → Hp → R) : R :=
  match T.sl e with
  | none => none
  | some e2 => match T.ek e2 with
    | none => none
    | some kd => match n, ps with
      | 0, [] => (match Vec.of2 kd [] with
        | some vec => k (.own H.length) (H ++ [some ⟨e, vec⟩])
        | none => none)
      | 1, [(0, .own r)] => (match rowAt H r with
        | some row => (match row.v.cast kd with
          | some ys => bif noAl H then (match Vec.of2 kd [ys] with
            | some vec => k (.own H.length) (H.set r none ++ [some ⟨e, vec⟩])
            | none => none) else none
          | none => none)
        | none => none)
      | _, _ => none
def boundO (s : St) : Option Operand → Int → Option Int
  | none, d => some d
  | some x, _ => match evO s x with
    | some (.el (.sc (.int _ n))) => some n
    | _ => none
def quietRV : List RV → Bool
  | [] => true
  | .el _ :: rs => quietRV rs
  | _ :: _ => false
def allEl : List FV → Bool
  | [] => true
  | .el _ :: xs => allEl xs
  | _ :: _ => false
def goneE : Vec → Nat
  | ⟨.al, (e, _) :: _⟩ => e
  | _ => 0
def callLLK (T : TT) (H : Hp) (g r : Nat) (xs zs : List FV) (k : List FV → Hp → R) : R :=
  match alAt H r with
  | some p => (match llAt H p.1 with
    | some row => bif Nat.blt p.1 r then (match row.v.two with
      | some z => (match z.2[p.2]? with
        | some ys => T.M g ⟨z.1, ys⟩ zs fun rs v => bif quietRV rs then (match v.cast z.1 with
          | some ys' => (match Vec.of2 z.1 (z.2.set p.2 ys') with
            | some vec => (match takeBack xs (H.set p.1 (some ⟨row.e, vec⟩)) rs with
              | some (vs, H') => k vs H'
              | none => none)
            | none => none)
          | none => none) else none
        | none => none)
      | none => none) else none
    | none => none)
  | none => (match llAt H r with
    | some row => T.M g row.v zs fun rs v => bif v.k.isAl then (bif noAl H && (zs.isEmpty && Nat.beq row.e (goneE v)) then (match takeBack xs (H.set r none) rs with
        | some (vs, H') => k vs H'
        | none => none) else none) else bif quietRV rs && noAl H then (match takeBack xs (H.set r (some ⟨row.e, v⟩)) rs with
        | some (vs, H') => k vs H'
        | none => none) else none
    | none => none)
def dataPs (H : Hp) : List PT → Option (List PT)
  | [] => some []
  | p :: ps => match baseVec H p.b, dataPs H ps with
    | some vec, some qs => bif Nat.beq p.sz vec.k.sz then some (⟨.v vec, p.sz, p.i, p.j⟩ :: qs) else none
    | _, _ => none
def cutK (T : TT) (H : Hp) (g r : Nat) (row : Row) (ys : List FV) (k : FV → Hp → R) : R :=
  match ys with
  | [.fn f caps] => (match dataPs (H.set r none) caps with
    | some qs => T.D g row.v [.fn f qs] fun v => bif v.k.is2 || v.k.isAl then none else k (.own H.length) (H.set r none ++ [some ⟨row.e, v⟩])
    | none => none)
  | _ => none
def opK (T : TT) (q : Bool) (op : Op) (s : St) (k : AV → Hp → R) : R :=
  match op with
  | .move x => match evA s x with
    | some v => k v s.H
    | none => none
  | .assign x => match evO s x with
    | some v => k (.fv v) s.H
    | none => none
  | .pick c a b => match evO s c with
    | some (.el (.sc (.bo t))) => bif t then (match evO s a with
        | some v => k (.fv v) s.H
        | none => none)
      else (match evO s b with
        | some v => k (.fv v) s.H
        | none => none)
    | _ => none
  | .binOp o t x y _ => match evO s x, evO s y with
    | some (.el (.sc a)), some (.el (.sc b)) => binK (isBool (T.nk t)) o a b fun c => k (.fv (.el (.sc c))) s.H
    | some (.vw _ vec), some .nil => (match o, T.sl t with
      | .eql, some _ => bif Nat.ble 1 vec.xs.length then k (.fv (.el (.sc (.bo false)))) s.H else none
      | _, _ => none)
    | some (.ne _), some .nil => (match o, T.sl t with
      | .eql, some _ => k (.fv (.el (.sc (.bo false)))) s.H
      | _, _ => none)
    | some .nil, some .nil => (match o, T.sl t with
      | .eql, some _ => k (.fv (.el (.sc (.bo true)))) s.H
      | _, _ => none)
    | _, _ => none
  | .unOp o _ x => match evO s x with
    | some (.el (.sc a)) => unK o a fun c => k (.fv (.el (.sc c))) s.H
    | _ => none
  | .convert c d x => match T.nk c, T.nk d, evO s x with
    | some _, some n, some (.el (.sc a)) => convK n a fun c => k (.fv (.el (.sc c))) s.H
    | _, _, _ => none
  | .nilCheck x => match evO s x with
    | some (.pt p) => k (.fv (.pt p)) s.H
    | some (.fn f caps) => k (.fv (.fn f caps)) s.H
    | _ => none
  | .load t x => match evO s x with
    | some (.pt p) => loadK T s.H t p fun v => k (.fv v) s.H
    | some (.pv kd xss i) => (match T.sl t with
      | some _ => (match xss[i]? with
        | some xs => k (.fv (.vw none ⟨kd, xs⟩)) s.H
        | none => none)
      | none => none)
    | some (.pm _ _ π i) => (match T.sl t with
      | some _ => (match π[i]? with
        | some (some j) => k (.fv (.own j)) s.H
        | _ => none)
      | none => none)
    | some (.pl r i) => bif q then none else (match T.sl t, llAt s.H r with
      | some _, some row => (match row.v.two with
        | some z => (match z.2[i]? with
          | some _ => k (.fv (.own s.H.length)) (s.H ++ [some ⟨0, ⟨.al, [(r, i)]⟩⟩])
          | none => none)
        | none => none)
      | _, _ => none)
    | _ => none
  | .fieldAddr t x f => match evO s x, T.fo t f with
    | some (.pt p), some o => k (.fv (.pt ⟨p.b, p.sz, p.i, p.j + o⟩)) s.H
    | _, _ => none
  | .indexAddr t x i => match T.sl t, evO s x, evO s i with
    | some e, some (.vv _ kd xss), some n => (match T.sl e, n with
      | some _, .el (.sc (.int _ n)) => bif decide (0 ≤ n ∧ n < (xss.length : Int)) then k (.fv (.pv kd xss n.toNat)) s.H else none
      | _, _ => none)
    | some e, some (.mv r e' π), some n => (match T.sl e, n with
      | some _, .el (.sc (.int _ n)) => bif decide (0 ≤ n ∧ n < (π.length : Int)) then k (.fv (.pm r e' π n.toNat)) s.H else none
      | _, _ => none)
    | some e, some (.own r), some n => (match llAt s.H r with
      | some row => (match T.sl e, n with
        | some _, .el (.sc (.int _ n)) => bif decide (0 ≤ n ∧ n < (row.v.xs.length : Int)) then k (.fv (.pl r n.toNat)) s.H else none
        | _, _ => none)
      | none => (match T.ek e, slice? s.H (.own r), n with
        | some kd, some (b, vec), .el (.sc (.int _ n)) => bif decide (0 ≤ n ∧ n < (vec.xs.length : Int)) && decide (kd = vec.k) then k (.fv (.pt ⟨b, vec.k.sz, n.toNat, 0⟩)) s.H else none
        | _, _, _ => none))
    | some e, some v, some n => (match T.ek e, slice? s.H v, n with
      | some kd, some (b, vec), .el (.sc (.int _ n)) => bif decide (0 ≤ n ∧ n < (vec.xs.length : Int)) && decide (kd = vec.k) then k (.fv (.pt ⟨b, vec.k.sz, n.toNat, 0⟩)) s.H else none
      | _, _, _ => none)
    | _, _, _ => none
  | .extract x i => match x with
    | .tmp t => (match lk s.sl t with
      | some (.tup xs) => (match xs[i]? with
        | some v => k (.fv v) s.H
        | none => none)
      | _ => none)
    | _ => none
  | .field t x f => match evO s x, T.fo t f with
    | some (.el (.ag cs)), some o => (match cs[o]? with
      | some c => k (.fv (.el (.sc c))) s.H
      | none => none)
    | _, _ => none
  | .slice t x lo hi none => (match T.sl t, evO s x with
    | some e, some (.vw _ vec) => (match T.ek e, boundO s lo 0, boundO s hi (vec.xs.length : Int) with
      | some kd, some l, some h => bif decide (0 ≤ l ∧ l ≤ h ∧ h ≤ (vec.xs.length : Int)) && decide (kd = vec.k) then k (.fv (.vw none ⟨vec.k, (vec.xs.drop l.toNat).take (h.toNat - l.toNat)⟩)) s.H else none
      | _, _, _ => none)
    | _, _ => none)
  | .makeFunc fn first caps => match fn, first.toList, evAll s caps.toList with
    | .func f, [], some xs => (match pts? xs with
      | some ps => k (.fv (.fn f ps)) s.H
      | none => none)
    | _, _, _ => none
  | .store t a x => bif q then none else match evO s a, evO s x with
    | some (.pt p), some v => storeK T s.H t p v fun H => k .un H
    | some (.pl r i), some (.own r2) => putK T s.H t r i r2 fun H => k .un H
    | _, _ => none
  | .box t x => bif q then none else match T.ek t, evO s x with
    | some kd, some (.el e) => (match kd.g e with
      | some a => k (.fv (.pt ⟨.r s.H.length, kd.sz, 0, 0⟩)) (s.H ++ [some ⟨t, ⟨kd, [a]⟩⟩])
      | none => none)
    | _, _ => none
  | .alloc t => bif q then none else match T.ek t with
    | some kd => k (.fv (.pt ⟨.r s.H.length, kd.sz, 0, 0⟩)) (s.H ++ [some ⟨t, ⟨kd, [kd.z]⟩⟩])
    | none => none
  | .build t parts => match T.ek t, evParts s parts.toList with
    | some kd, some ps => (match scParts ps with
      | some ss => (match fillCells T t ss (kd.f kd.z).cells with
        | some cs => bif kd.agg then k (.fv (.el (.ag cs))) s.H else none
        | none => none)
      | none => none)
    | _, _ => none
  | .buildSlice t n parts => bif q then none else match T.sl t, evParts s parts.toList with
    | some e, some ps => (match T.ek e with
      | some kd => (match fillVec kd ps (List.replicate n kd.z) with
        | some xs => bif decide (n ≤ 65536) then k (.fv (.own s.H.length)) (s.H ++ [some ⟨e, ⟨kd, xs⟩⟩]) else none
        | none => none)
      | none => buildLLK T s.H e n ps fun v H => k (.fv v) H)
    | _, _ => none
  | .makeSlice t l c => bif q then none else match T.sl t, evO s l, evO s c with
    | some e, some (.el (.sc (.int _ n))), some (.el (.sc (.int _ m))) => (match T.ek e with
      | some kd => bif decide (0 ≤ n ∧ n = m ∧ n ≤ 1099511627776) then k (.fv (.own s.H.length)) (s.H ++ [some ⟨e, ⟨kd, List.replicate n.toNat kd.z⟩⟩]) else none
      | none => (match T.sl e with
        | some e2 => (match T.ek e2 with
          | some kd => (match Vec.of2 kd (List.replicate n.toNat []) with
            | some vec => bif decide (0 ≤ n ∧ n = m ∧ n ≤ 1099511627776) then k (.fv (.own s.H.length)) (s.H ++ [some ⟨e, vec⟩]) else none
            | none => none)
          | none => none)
        | none => none))
    | _, _, _ => none
  | .call c => match c.callee with
    | .builtin b => (match evAll s c.args.toList with
      | none => none
      | some xs => match b, xs with
        | .len, [x] => (match c.argTypes.toList with
          | [t] => (match T.sl t, lenO s.H x with
            | some _, some n => k (.fv (.el (.sc (.int .i64 n)))) s.H
            | _, _ => none)
          | _ => none)
        | .max, [.el (.sc a), .el (.sc b)] => mxK true a b fun c => k (.fv (.el (.sc c))) s.H
        | .min, [.el (.sc a), .el (.sc b)] => mxK false a b fun c => k (.fv (.el (.sc c))) s.H
        | .real, [.el (.sc (.cx q a _))] => k (.fv (.el (.sc (.fl q a)))) s.H
        | .imag, [.el (.sc (.cx q _ b))] => k (.fv (.el (.sc (.fl q b)))) s.H
        | .complex, [.el (.sc (.fl p a)), .el (.sc (.fl p' b))] => bif decide (p = p') then k (.fv (.el (.sc (.cx p a b)))) s.H else none
        | .copy, [d, x] => bif q then none else (match c.argTypes.toList with
          | t :: _ => copyK T s.H t d x fun v H => k (.fv v) H
          | _ => none)
        | .append, [d, x] => bif q then none else (match c.argTypes.toList with
          | [t, t'] => bif Nat.beq t t' then appendK T s.H t d x fun v H => k (.fv v) H else none
          | _ => none)
        | _, _ => none)
    | .value f => (match evO s f, evAll s c.args.toList with
      | some (.fn g caps), some xs =>
        bif T.mutf g then (bif q then none else match xs, caps with
          | .own r :: ys, [] => (match rowAt s.H r, closeAll s.H ys with
            | some row, some zs => bif allEl zs then T.M g row.v zs fun rs v => bif quietRV rs && decide (v.k = row.v.k) then (match takeBack xs (s.H.set r (some ⟨row.e, v⟩)) rs with
              | some (vs, H) => k (packed vs) H
              | none => none) else none
              else cutK T s.H g r row ys fun v H => k (.fv v) H
            | none, some zs => bif allEl zs then callLLK T s.H g r xs zs fun vs H => k (packed vs) H else none
            | _, _ => none)
          | _, _ => none)
        else (match closeAll s.H (xs ++ caps.map .pt) with
          | some zs => T.S g zs fun rs => bif q && !quietRV rs then none else match takeBack xs s.H rs with
            | some (vs, H) => k (packed vs) H
            | none => (match rs with
              | [.new2 e v] => k (.fv (.own s.H.length)) (s.H ++ [some ⟨e, v⟩])
              | _ => none)
          | none => none)
      | _, _ => none)
    | _ => none
  | _ => none
def guardK (ops : List Oper) (g : Option (Nat × Bool)) (s : St) (yes no : St → R) : R :=
  match g with
  | none => yes s
  | some (j, want) => match ops[j]? with
    | none => none
    | some o => match o.dst with
      | none => none
      | some d => match lk s.sl d with
        | some (.fv (.el (.sc (.bo b)))) =>
          bif b then (bif want then yes else no) ⟨(d, .fv (.el (.sc (.bo true)))) :: s.sl, s.H⟩
          else (bif want then no else yes) ⟨(d, .fv (.el (.sc (.bo false)))) :: s.sl, s.H⟩
        | some .un => no s
        | _ => none
def putS (s : St) (dst : Option Nat) (v : AV) (H : Hp) : St :=
  match dst with
  | some d => ⟨(d, v) :: s.sl, H⟩
  | none => ⟨s.sl, H⟩
def dstOk (nt : Nat) : Option Nat → Bool
  | some d => decide (d < nt)
  | none => true
def opsK (T : TT) (q : Bool) (nt : Nat) (all : List Oper) : List Oper → St → (St → R) → R
  | [], s, k => k s
  | o :: os, s, k => bif dstOk nt o.dst then
      guardK all o.guard s (fun s => opK T q o.op s fun v H => opsK T q nt all os (putS s o.dst v H) k) (fun s => opsK T q nt all os (putS s o.dst .un s.H) k)
    else none
def memN (n : Nat) : List Nat → Bool
  | [] => false
  | m :: l => Nat.beq n m || memN n l
def edgeTo (o : Oper) (i : Nat) : Bool := o.after.toList.any fun e => Region.binds .any e && Nat.beq e.on i
def optIn : Option Nat → List Nat → Bool
  | none, _ => false
  | some d, l => memN d l
def sameDst : Option Nat → Option Nat → Bool
  | some a, some b => Nat.beq a b
  | _, _ => false
def pairOk (all : Array Oper) (i : Nat) (o o' : Oper) : Bool :=
  (edgeTo o' i || (!optIn o.dst (o'.looksAt all) && !optIn o'.dst (o.looksAt all))) && !sameDst o.dst o'.dst
def laterOk (all : Array Oper) (i : Nat) (o : Oper) : List Oper → Bool
  | [] => true
  | o' :: os => pairOk all i o o' && laterOk all i o os
def drawFrom (all : Array Oper) : Nat → List Oper → Bool
  | _, [] => true
  | i, o :: os => (o.after.toList.all fun e => !Region.binds .any e || Nat.blt e.on i) && laterOk all i o os && drawFrom all (i + 1) os
def drawOk (ops : Array Oper) : Bool := drawFrom ops 0 ops.toList
def idle (o : Oper) : Oper := { dst := none, op := .move (.const (.bool false)), type := o.type, pos := o.pos, after := o.after, guard := none }
def idleL (ia is : Nat) : Nat → List Oper → List Oper
  | _, [] => []
  | i, o :: os => (bif Nat.beq i ia || Nat.beq i is then idle o else o) :: idleL ia is (i + 1) os
def findA : Nat → List Oper → Option (Nat × Nat × Nat)
  | _, [] => none
  | i, o :: os => match o.op, o.dst, o.guard with
    | .alloc t, some d, none => some (i, d, t)
    | _, _, _ => findA (i + 1) os
def findS (d : Nat) : Nat → List Oper → Option (Nat × Nat × Nat)
  | _, [] => none
  | i, o :: os => match o.op, o.dst, o.guard with
    | .store t (.tmp d') (.tmp x), none, none => bif Nat.beq d d' then some (i, x, t) else findS d (i + 1) os
    | _, _, _ => findS d (i + 1) os
def clearOf (d x ia is : Nat) (all : Array Oper) : Nat → List Oper → Bool
  | _, [] => true
  | i, o :: os => (Nat.beq i ia || (!sameDst (some d) o.dst && (Nat.beq i is || !memN d (o.looksAt all)))) && (Nat.ble i is || !sameDst (some x) o.dst) && clearOf d x ia is all (i + 1) os
def uni : List Nat → List Nat → List Nat
  | [], b => b
  | n :: a, b => bif memN n (uni a b) then uni a b else n :: uni a b
def ancsL (acc : List (List Nat)) : List Go.Edge → List Nat
  | [] => []
  | e :: es => bif Region.binds .any e then uni (e.on :: acc.getD e.on []) (ancsL acc es) else ancsL acc es
def behindFrom (p : Nat) : Nat → List (List Nat) → List Oper → Bool
  | _, _, [] => true
  | i, acc, o :: os => (Nat.blt i p || (List.range i).all fun j => memN j (ancsL acc o.after.toList)) && behindFrom p (i + 1) (acc ++ [ancsL acc o.after.toList]) os
def findB : Nat → List Oper → Option (Nat × Nat × Nat × Nat)
  | _, [] => none
  | i, o :: os => match o.op, o.dst, o.guard with
    | .buildSlice t 1 parts, some b, none => (match parts.toList with
      | [(0, .tmp x)] => some (i, t, x, b)
      | _ => findB (i + 1) os)
    | _, _, _ => findB (i + 1) os
def effOp : Op → Bool
  | .store .. => true
  | .alloc .. => true
  | .box .. => true
  | .makeSlice .. => true
  | .buildSlice .. => true
  | .call c => match c.callee with
    | .builtin .append => true
    | .builtin .copy => true
    | _ => false
  | _ => false
def sufAt (all : Array Oper) (ib b : Nat) : Nat → List Oper → Nat
  | i, [] => i
  | i, o :: os => bif !Nat.beq i ib && (effOp o.op || (Nat.blt ib i && memN b (o.looksAt all))) then i else sufAt all ib b (i + 1) os
def statB (ops : Array Oper) (ib p b x nt : Nat) : Bool :=
  Nat.ble p ops.toList.length && behindFrom p 0 [] ops.toList && (!Nat.blt ib p || (!Nat.beq b x && Nat.blt b nt && clearOf b x ib ib ops 0 (ops.toList.take p)))
def bldK (T : TT) (ib p t x b : Nat) (s : St) (k : St → R) : R :=
  bif Nat.blt ib p then (match T.sl t with
    | some e => (match T.ek e, lk s.sl x with
      | some kd, some (.fv (.el el)) => (match kd.g el with
        | some a => k ⟨(b, .fv (.own s.H.length)) :: s.sl, s.H ++ [some ⟨e, ⟨kd, [a]⟩⟩]⟩
        | none => none)
      | _, _ => none)
    | none => none) else k s
def drawnP (T : TT) (nt : Nat) (ops : Array Oper) (ib p t x b : Nat) (s : St) (k : St → R) : R :=
  bif statB ops ib p b x nt then
    opsK T true nt (idleL ib ib 0 (ops.toList.take p)) (idleL ib ib 0 (ops.toList.take p)) s fun s' => bldK T ib p t x b s' fun s2 => opsK T false nt ops.toList (ops.toList.drop p) s2 k
  else none
def accsOf : List (List Nat) → List Oper → List (List Nat)
  | acc, [] => acc
  | acc, o :: os => accsOf (acc ++ [ancsL acc o.after.toList]) os
def ancsAt (ops : Array Oper) (i : Nat) : List Nat := (accsOf [] (ops.toList.take (i + 1))).getD i []
def closedS (ops : Array Oper) (is1 : Nat) (A : List Nat) : Bool := (is1 :: A).all fun j => match ops.toList[j]? with
  | some o => o.after.toList.all fun e => !Region.binds .any e || memN e.on A
  | none => true
def effAt (q : Nat) : Nat → List Oper → Nat
  | i, [] => i
  | i, o :: os => bif Nat.blt q i && effOp o.op then i else effAt q (i + 1) os
def statS (ops : Array Oper) (is1 p : Nat) (A : List Nat) : Bool :=
  Nat.ble p ops.toList.length && (Nat.blt is1 p && (behindFrom p 0 [] ops.toList && closedS ops is1 A))
def restOf (p is1 : Nat) (A : List Nat) : List Nat := (List.range p).filter fun j => !(memN j A || Nat.beq j is1)
def idleM (is : List Nat) : Nat → List Oper → List Oper
  | _, [] => []
  | i, o :: os => (bif memN i is then idle o else o) :: idleM is (i + 1) os
def drawnS (T : TT) (nt : Nat) (ops : Array Oper) (is1 p : Nat) (s : St) (k : St → R) : R :=
  match ops.toList[is1]? with
  | some o => (match o.op, o.dst, o.guard with
    | .store t (.tmp a) y, none, none => bif statS ops is1 p (ancsAt ops is1) then
        opsK T true nt (idleM (is1 :: restOf p is1 (ancsAt ops is1)) 0 (ops.toList.take p)) (idleM (is1 :: restOf p is1 (ancsAt ops is1)) 0 (ops.toList.take p)) s fun s1 => match lk s1.sl a with
          | some (.fv (.pt ⟨.r r, _, _, _⟩)) => opsK T true nt (idleM (is1 :: ancsAt ops is1) 0 (ops.toList.take p)) (idleM (is1 :: ancsAt ops is1) 0 (ops.toList.take p)) ⟨s1.sl, s1.H.set r none⟩ fun s2 =>
              opK T false (.store t (.tmp a) y) s1 fun _ H' => opsK T false nt ops.toList (ops.toList.drop p) ⟨s2.sl, H'⟩ k
          | _ => none
      else none
    | _, _, _ => none)
  | none => none
def drawnK (T : TT) (nt : Nat) (ops : Array Oper) (s : St) (k : St → R) : R :=
  match findB 0 ops.toList with
  | some (ib, t, x, b) => drawnP T nt ops ib (sufAt ops ib b 0 ops.toList) t x b s k
  | none => bif Nat.beq (sufAt ops ops.size 0 0 ops.toList) ops.size then opsK T true nt ops.toList ops.toList s k
      else bif behindFrom (sufAt ops ops.size 0 0 ops.toList) 0 [] ops.toList then drawnP T nt ops ops.size (sufAt ops ops.size 0 0 ops.toList) 0 0 0 s k
      else drawnS T nt ops (sufAt ops ops.size 0 0 ops.toList) (effAt (sufAt ops ops.size 0 0 ops.toList) 0 ops.toList) s k
inductive SpK where
  | mk (t x : Nat)
  | gh (t : Nat)
  | cp (b : Nat)
  | bs (t n : Nat) (ps : List (Nat × Nat))
  | mc (t : Nat) (n : Int)
structure Sp where
  i : Nat
  d : Nat
  k : SpK
def slotsOf : List (Nat × Operand) → Option (List (Nat × Nat))
  | [] => some []
  | (i, .tmp x) :: ps => match slotsOf ps with
    | some qs => some ((i, x) :: qs)
    | none => none
  | _ :: _ => none
def isEl (T : TT) (t : Nat) : Bool := match T.sl t with
  | some e => (match T.ek e with
    | some _ => true
    | none => false)
  | none => false
def elsOf (sl : List (Nat × AV)) : List (Nat × Nat) → Option (List (Nat × Elt))
  | [] => some []
  | (i, x) :: ps => match lk sl x, elsOf sl ps with
    | some (.fv (.el e)), some r => some ((i, e) :: r)
    | _, _ => none
def specials (T : TT) : Nat → List Nat → List Oper → List Sp
  | _, _, [] => []
  | i, ms, o :: os => match o.op, o.dst, o.guard with
    | .makeSlice t (.tmp x) (.tmp y), some d, none => bif Nat.beq x y then ⟨i, d, .mk t x⟩ :: specials T (i + 1) (d :: ms) os else specials T (i + 1) ms os
    | .makeSlice t (.const (.int _ n)) (.const (.int _ m)), some d, none => bif decide (n = m) && isEl T t then ⟨i, d, .mc t n⟩ :: specials T (i + 1) (d :: ms) os else specials T (i + 1) ms os
    | .alloc t, some d, none => (match T.ek t with
      | none => ⟨i, d, .gh t⟩ :: specials T (i + 1) ms os
      | some _ => specials T (i + 1) ms os)
    | .assign (.tmp b), some d, none => bif memN b ms then ⟨i, d, .cp b⟩ :: specials T (i + 1) ms os else specials T (i + 1) ms os
    | .buildSlice t n parts, some d, none => (match slotsOf parts.toList with
      | some ps => bif isEl T t then ⟨i, d, .bs t n ps⟩ :: specials T (i + 1) (d :: ms) os else specials T (i + 1) ms os
      | none => specials T (i + 1) ms os)
    | _, _, _ => specials T (i + 1) ms os
def newsN : List Sp → Nat
  | [] => 0
  | ⟨_, _, .cp _⟩ :: l => newsN l
  | _ :: l => newsN l + 1
def everyOp (ops : Array Oper) (p : Nat) (f : Nat → Oper → Bool) : Bool := (List.range p).all fun i => match ops.toList[i]? with
  | some o => f i o
  | none => true
def spkOk (ops : Array Oper) (p' : Nat) (sps : List Sp) (i : Nat) : SpK → Bool
  | .mk _ x => (sps.all fun q => !Nat.beq q.d x) && everyOp ops p' fun j o => Nat.ble j i || !sameDst (some x) o.dst
  | .gh _ => true
  | .mc _ _ => true
  | .bs _ _ ps => ps.all fun p => (sps.all fun q => !Nat.beq q.d p.2) && everyOp ops p' fun j o => Nat.ble j i || !sameDst (some p.2) o.dst
  | .cp b => sps.any fun m => Nat.beq m.d b && (Nat.blt m.i i && (match m.k with
    | .mk _ _ => true
    | .bs _ _ _ => true
    | .mc _ _ => true
    | _ => false))
def statSp (ops : Array Oper) (nt p : Nat) (sps : List Sp) : Bool := sps.all fun sp => (Nat.blt sp.i p && Nat.blt sp.d nt) && (spkOk ops p sps sp.i sp.k &&
    everyOp ops p fun j o => memN j (sps.map Sp.i) || (!sameDst (some sp.d) o.dst && !memN sp.d (o.looksAt ops)))
def statG (ops : Array Oper) (nt p : Nat) (sps : List Sp) : Bool :=
  Nat.ble p ops.toList.length && (behindFrom p 0 [] ops.toList && statSp ops nt p sps)
def behindQ (p q : Nat) : Nat → List (List Nat) → List Oper → Bool
  | _, _, [] => true
  | i, acc, o :: os => (Nat.blt i p || (List.range (bif Nat.blt i q then i else q)).all fun j => memN j (ancsL acc o.after.toList)) && behindQ p q (i + 1) (acc ++ [ancsL acc o.after.toList]) os
def freezeAt (ops : Array Oper) (sps : List Sp) : Option (Nat × Nat × Nat) :=
  match ops.toList[ops.toList.length - 1]? with
  | some o => (match o.op, o.dst, o.guard with
    | .store t (.tmp d) (.tmp x), none, none => bif sps.any (fun sp => Nat.beq sp.d d && (match sp.k with
        | .gh t' => Nat.beq t t'
        | _ => false)) then some (d, t, x) else none
    | _, _, _ => none)
  | none => none
def noGhost : List Sp → Bool
  | [] => true
  | ⟨_, _, .gh _⟩ :: _ => false
  | _ :: l => noGhost l
def makeG (T : TT) (s' : St) : List Sp → List (Nat × AV) → List Row → (List (Nat × AV) → List Row → R) → R
  | [], sl, rows, k => k sl rows
  | ⟨_, d, .mk t x⟩ :: l, sl, rows, k => (match T.sl t, lk s'.sl x with
    | some e, some (.fv (.el (.sc (.int _ n)))) => (match T.ek e with
      | some kd => bif decide (0 ≤ n ∧ n ≤ 1099511627776) then makeG T s' l ((d, .fv (.own (s'.H.length + rows.length))) :: sl) (rows ++ [⟨e, ⟨kd, List.replicate n.toNat kd.z⟩⟩]) k else none
      | none => none)
    | _, _ => none)
  | ⟨_, d, .mc t n⟩ :: l, sl, rows, k => (match T.sl t with
    | some e => (match T.ek e with
      | some kd => bif decide (0 ≤ n ∧ n ≤ 1099511627776) then makeG T s' l ((d, .fv (.own (s'.H.length + rows.length))) :: sl) (rows ++ [⟨e, ⟨kd, List.replicate n.toNat kd.z⟩⟩]) k else none
      | none => none)
    | none => none)
  | ⟨_, d, .bs t n ps⟩ :: l, sl, rows, k => (match T.sl t, elsOf s'.sl ps with
    | some e, some els => (match T.ek e with
      | some kd => (match fillVec kd (els.map fun p => (p.1, .el p.2)) (List.replicate n kd.z) with
        | some xs => bif decide (n ≤ 65536) then makeG T s' l ((d, .fv (.own (s'.H.length + rows.length))) :: sl) (rows ++ [⟨e, ⟨kd, xs⟩⟩]) k else none
        | none => none)
      | none => none)
    | _, _ => none)
  | ⟨_, d, .cp b⟩ :: l, sl, rows, k => (match lk sl b with
    | some (.fv (.own r)) => bif Nat.ble s'.H.length r then makeG T s' l ((d, .fv (.own r)) :: sl) rows k else none
    | _ => none)
  | ⟨_, d, .gh t⟩ :: l, sl, rows, k => (match T.sl t, lk sl d with
    | some _, none => makeG T s' l sl rows k
    | _, _ => none)
def drawnG (T : TT) (nt : Nat) (ops : Array Oper) (sps : List Sp) (s : St) (k : St → R) : R :=
  match freezeAt ops sps with
  | some (d, t, x) => bif statG ops nt (ops.toList.length - 1) sps then
      opsK T true nt (idleM (sps.map Sp.i) 0 (ops.toList.take (ops.toList.length - 1))) (idleM (sps.map Sp.i) 0 (ops.toList.take (ops.toList.length - 1))) s fun s' => makeG T s' sps s'.sl [] fun sl rows => match T.sl t, lk sl x with
        | some _, some (.fv (.own j)) => bif Nat.ble s'.H.length j then k ⟨(d, .fv (.pt ⟨.w j, 1, 0, 0⟩)) :: sl, s'.H ++ rows.map some⟩ else none
        | _, _ => none
      else none
  | none => bif noGhost sps && statG ops nt ops.toList.length sps then
      opsK T true nt (idleM (sps.map Sp.i) 0 (ops.toList.take ops.toList.length)) (idleM (sps.map Sp.i) 0 (ops.toList.take ops.toList.length)) s fun s' => makeG T s' sps s'.sl [] fun sl rows => k ⟨sl, s'.H ++ rows.map some⟩
      else none
def keepSlots (l : List (Nat × AV)) : List Nat → Option (List (Nat × AV))
  | [] => some []
  | t :: ts => match lk l t, keepSlots l ts with
    | some v, some r => some ((t, v) :: r)
    | _, _ => none
structure Ann where
  lp : Nat → Option (List Nat × List Nat)
  rets : List Nat
  nf : Nat := 0
  lm : Nat → Option (St → Option Nat → (Ex → St → Option Nat → R) → R) := fun _ => none
def refsP (p : PT) : List Nat :=
  match p.b with
  | .r r => [r]
  | .v _ => []
  | .w j => [j]
  | .s _ _ => []
def refsF : FV → List Nat
  | .own r => [r]
  | .pl r _ => [r]
  | .mv r _ π => r :: π.filterMap id
  | .pm r _ π _ => r :: π.filterMap id
  | .pt p => refsP p
  | .fn _ caps => caps.flatMap refsP
  | _ => []
def refsA : AV → List Nat
  | .un => []
  | .fv x => refsF x
  | .tup xs => xs.flatMap refsF
def once : List Nat → List Nat
  | [] => []
  | n :: l => bif memN n l then once l else n :: once l
def place (n : Nat) : List Nat → Nat
  | [] => 0
  | m :: l => bif Nat.beq n m then 0 else place n l + 1
def renP (ids : List Nat) (p : PT) : PT :=
  match p.b with
  | .r r => ⟨.r (place r ids), p.sz, p.i, p.j⟩
  | .v vec => ⟨.v vec, p.sz, p.i, p.j⟩
  | .w j => ⟨.w (place j ids), p.sz, p.i, p.j⟩
  | .s kd xss => ⟨.s kd xss, p.sz, p.i, p.j⟩
def renF (ids : List Nat) : FV → FV
  | .own r => .own (place r ids)
  | .pt p => .pt (renP ids p)
  | .fn f caps => .fn f (caps.map (renP ids))
  | .el e => .el e
  | .nil => .nil
  | .vw o v => .vw o v
  | .vv o kd xss => .vv o kd xss
  | .pv kd xss i => .pv kd xss i
  | .ne k => .ne k
  | .pl r i => .pl (place r ids) i
  | .mv r e π => .mv (place r ids) e (π.map fun x => x.map fun j => place j ids)
  | .pm r e π i => .pm (place r ids) e (π.map fun x => x.map fun j => place j ids) i
def renA (ids : List Nat) : AV → AV
  | .un => .un
  | .fv x => .fv (renF ids x)
  | .tup xs => .tup (xs.map (renF ids))
def rowOf (H : Hp) (r : Nat) : Option Row :=
  match H[r]? with
  | some (some row) => bif row.v.k.isAl then none else some row
  | _ => none
def stays : Nat → List Nat → Bool
  | 0, _ => true
  | n + 1, ids => stays n ids && (match ids[n]? with
    | some m => Nat.beq m n
    | none => false)
def normS (nf : Nat) (ts : List Nat) (s : St) : Option St :=
  match keepSlots s.sl ts with
  | some l => bif stays nf (once (l.flatMap fun x => refsA x.2)) then some ⟨l.map fun x => (x.1, renA (once (l.flatMap fun x => refsA x.2)) x.2), (once (l.flatMap fun x => refsA x.2)).map (rowOf s.H)⟩ else none
  | none => none
def idsS (ts : List Nat) (s : St) : Option (List Nat) :=
  match keepSlots s.sl ts with
  | some l => some (once (l.flatMap fun x => refsA x.2))
  | none => none
def renM (ids : List Nat) : Option Nat → Option Nat
  | some r => bif memN r ids then some (place r ids) else none
  | none => none
def normU (ts : List Nat) (s : St) (M : Option Nat) : Option (St × Option Nat) :=
  match idsS ts s, normS 0 ts s with
  | some ids, some s' => some (s', renM ids M)
  | _, _ => none
def exU (A : Ann) (outs : List Nat) (k : Ex → St → Option Nat → R) : Ex → St → Option Nat → R
  | .ret, s, M => match normU A.rets s M with
    | some (s', M') => k .ret s' M'
    | none => none
  | .exit i, s, M => match normU outs s M with
    | some (s', M') => k (.exit i) s' M'
    | none => none
  | .normal, _, _ => none
def iterN (A : Ann) (ins outs : List Nat) (body : St → Option Nat → (Ex → St → Option Nat → R) → R) : Nat → St → Option Nat → (Ex → St → Option Nat → R) → R
  | 0, _, _, _ => none
  | n + 1, s, M, k => body s M fun e s' M' => match e with
    | .normal => (match normU ins s' M' with
      | some (s'', M'') => iterN A ins outs body n s'' M'' k
      | none => none)
    | e => exU A outs k e s' M'
def exK (A : Ann) (outs : List Nat) (k : Ex → St → R) : Ex → St → R
  | .ret, s => match normS A.nf A.rets s with
    | some s' => k .ret s'
    | none => none
  | .exit i, s => match normS A.nf outs s with
    | some s' => k (.exit i) s'
    | none => none
  | .normal, _ => none
def iterK (A : Ann) (ins outs : List Nat) (body : St → (Ex → St → R) → R) : Nat → St → (Ex → St → R) → R
  | 0, _, _ => none
  | n + 1, s, k => body s fun e s' => match e with
    | .normal => (match normS A.nf ins s' with
      | some s'' => iterK A ins outs body n s'' k
      | none => none)
    | e => exK A outs k e s'
def firstRegion : Code → Nat
  | .region id _ _ => id
  | .seq a _ => firstRegion a
  | .block _ a => firstRegion a
  | _ => 0
abbrev Loops := Nat → St → (Ex → St → R) → R
structure Jn where
  x0 : Operand
  x2 : Operand
  f : Nat
  t : Nat
  d0 : Nat
  d1 : Nat
  d2 : Nat
  d3 : Nat
  d4 : Nat
def mvOp (o : Oper) : Option (Operand × Nat) := match o.op, o.dst, o.guard with
  | .move x, some d, none => some (x, d)
  | _, _, _ => none
def clOp (o : Oper) : Option (Nat × Nat × Nat) := match o.op, o.dst, o.guard with
  | .call c, some d, none => (match c.callee, c.args.toList with
    | .value (.func f), [.tmp a] => some (f, a, d)
    | _, _ => none)
  | _, _, _ => none
def b1Op (o : Oper) : Option (Nat × Nat × Nat) := match o.op, o.dst, o.guard with
  | .buildSlice t n parts, some d, none => (match parts.toList with
    | [(0, .tmp b)] => bif Nat.beq n 1 then some (t, b, d) else none
    | _ => none)
  | _, _, _ => none
def apOp (o : Oper) : Option (Nat × Nat × Nat × Nat) := match o.op, o.dst, o.guard with
  | .call c, some d, none => (match c.callee, c.args.toList, c.argTypes.toList with
    | .builtin .append, [.tmp x, .tmp y], [t1, t2] => bif Nat.beq t1 t2 then some (t1, x, y, d) else none
    | _, _, _ => none)
  | _, _, _ => none
def joinAt : List Oper → Option (Jn × List Oper)
  | o0 :: o1 :: o2 :: o3 :: o4 :: rest => (match mvOp o0, clOp o1, mvOp o2, b1Op o3, apOp o4 with
    | some (x0, d0), some (f, a, d1), some (x2, d2), some (t, b, d3), some (t', x, y, d4) =>
      bif (Nat.beq a d0 && Nat.beq b d2) && ((Nat.beq x d1 && Nat.beq y d3) && (Nat.beq t t' && (!Nat.beq d1 d2 && !Nat.beq d1 d3))) then some (⟨x0, x2, f, t, d0, d1, d2, d3, d4⟩, rest) else none
    | _, _, _, _, _ => none)
  | _ => none
def less (ds : List Nat) (l : List (Nat × AV)) : List (Nat × AV) := l.filter fun p => !memN p.1 ds
def joinK (T : TT) (nt : Nat) (ops : Array Oper) (j : Jn) (rest : List Oper) (s : St) (k : St → R) : R :=
  match T.sl j.t, evO s j.x0, evO ⟨less [j.d0, j.d1] s.sl, s.H⟩ j.x2 with
  | some e, some (.vv _ kd xss), some (.vw _ vec) => (match T.sl e, vec.cast kd with
    | some _, some ys => T.S j.f [.vv none kd xss] fun rs => (match rs with
      | [.newv e' i] => bif (Nat.beq e' e && Nat.beq i 0) && (decide (xss.length < 1099511627776) && ((Nat.blt j.d0 nt && Nat.blt j.d1 nt) && (Nat.blt j.d2 nt && (Nat.blt j.d3 nt && Nat.blt j.d4 nt)))) then
          opsK T false nt ops.toList rest ⟨(j.d4, .fv (.vv none kd (xss ++ [ys]))) :: less [j.d0, j.d1, j.d2, j.d3] s.sl, s.H⟩ k else none
      | _ => none)
    | _, _ => none)
  | _, _, _ => none
def codeK (T : TT) (A : Ann) (L : Loops) (nt : Nat) : Code → St → (Ex → St → R) → R
  | .skip, s, k => k .normal s
  | .region _ ops d, s, k => bif d then (bif drawOk ops then (bif Nat.ble 2 (newsN (specials T 0 [] ops.toList)) then drawnG T nt ops (specials T 0 [] ops.toList) s (k .normal) else match findA 0 ops.toList with
      | none => drawnK T nt ops s (k .normal)
      | some (ia, d, t) => match findS d 0 ops.toList with
        | none => none
        | some (is, x, t') => bif Nat.beq t t' && !Nat.beq d x && Nat.blt d nt && Nat.blt ia is && clearOf d x ia is ops 0 ops.toList then
            opsK T true nt (idleL ia is 0 ops.toList) (idleL ia is 0 ops.toList) s fun s' => match T.ek t, lk s'.sl x with
              | some kd, some (.fv (.el e)) => (match kd.g e with
                | some a => k .normal ⟨(d, .fv (.pt ⟨.r s'.H.length, kd.sz, 0, 0⟩)) :: s'.sl, s'.H ++ [some ⟨t, ⟨kd, [a]⟩⟩]⟩
                | none => none)
              | _, _ => none
          else none) else none) else (match joinAt ops.toList with
    | some (j, rest) => joinK T nt ops j rest s (k .normal)
    | none => opsK T false nt ops.toList ops.toList s (k .normal))
  | .seq a b, s, k => codeK T A L nt a s fun e s' => match e with
    | .normal => codeK T A L nt b s' k
    | e => k e s'
  | .cond c a b, s, k => match evO s c with
    | some (.el (.sc (.bo t))) => bif t then codeK T A L nt a s k else codeK T A L nt b s k
    | _ => none
  | .block id a, s, k => codeK T A L nt a s fun e s' => match e with
    | .exit i => bif Nat.beq i id then k .normal s' else k (.exit i) s'
    | e => k e s'
  | .loop a, s, k => match A.lp (firstRegion a) with
    | some (ins, _) => (match normS A.nf ins s with
      | some s' => L (firstRegion a) s' k
      | none => none)
    | none => none
  | .ret, s, k => k .ret s
  | .exit id, s, k => k (.exit id) s
  | _, _, _ => none
end Go.Sm
namespace Go.Sm
open Go Go.RowKit
def AllR {α β : Type} (R : α → β → Prop) : List α → List β → Prop
  | [], [] => True
  | a :: as, b :: bs => R a b ∧ AllR R as bs
  | _, _ => False
section
variable {α β : Type} {R R' : α → β → Prop}
theorem AllR.length : ∀ {as : List α} {bs : List β}, AllR R as bs → as.length = bs.length
  | [], [], _ => rfl
  | _ :: _, _ :: _, h => congrArg (· + 1) h.2.length
  | [], _ :: _, h => h.elim
  | _ :: _, [], h => h.elim
theorem AllR.mono (hm : ∀ a b, R a b → R' a b) : ∀ {as : List α} {bs : List β}, AllR R as bs → AllR R' as bs
  | [], [], _ => trivial
  | _ :: _, _ :: _, h => ⟨hm _ _ h.1, h.2.mono hm⟩
  | [], _ :: _, h => h.elim
  | _ :: _, [], h => h.elim
theorem AllR.get : ∀ {as : List α} {bs : List β}, AllR R as bs → ∀ (i : Nat) (a : α), as[i]? = some a → ∃ b, bs[i]? = some b ∧ R a b
  | [], [], _, i, a, hi => by simp at hi
  | x :: as, y :: bs, h, 0, a, hi => by simp at hi; subst hi; exact ⟨y, rfl, h.1⟩
  | x :: as, y :: bs, h, i + 1, a, hi => by simpa using h.2.get i a (by simpa using hi)
  | [], _ :: _, h, _, _, _ => h.elim
  | _ :: _, [], h, _, _, _ => h.elim
theorem AllR.getR : ∀ {as : List α} {bs : List β}, AllR R as bs → ∀ (i : Nat) (b : β), bs[i]? = some b → ∃ a, as[i]? = some a ∧ R a b
  | [], [], _, i, a, hi => by simp at hi
  | x :: as, y :: bs, h, 0, a, hi => by simp at hi; subst hi; exact ⟨x, rfl, h.1⟩
  | x :: as, y :: bs, h, i + 1, a, hi => by simpa using h.2.getR i a (by simpa using hi)
  | [], _ :: _, h, _, _, _ => h.elim
  | _ :: _, [], h, _, _, _ => h.elim
theorem AllR.append : ∀ {as : List α} {bs : List β} {cs : List α} {ds : List β}, AllR R as bs → AllR R cs ds → AllR R (as ++ cs) (bs ++ ds)
  | [], [], _, _, _, h2 => h2
  | _ :: _, _ :: _, _, _, h, h2 => ⟨h.1, h.2.append h2⟩
  | [], _ :: _, _, _, h, _ => h.elim
  | _ :: _, [], _, _, h, _ => h.elim
theorem AllR.of_get : ∀ {as : List α} {bs : List β}, as.length = bs.length → (∀ (i : Nat) (a : α) (b : β), as[i]? = some a → bs[i]? = some b → R a b) → AllR R as bs
  | [], [], _, _ => trivial
  | a :: as, b :: bs, hl, h => ⟨h 0 a b rfl rfl, AllR.of_get (by simpa using hl) fun i x y hx hy => h (i + 1) x y (by simpa using hx) (by simpa using hy)⟩
  | [], _ :: _, hl, _ => by simp at hl
  | _ :: _, [], hl, _ => by simp at hl
theorem AllR.take {as : List α} {bs : List β} (h : AllR R as bs) (n : Nat) : AllR R (as.take n) (bs.take n) := by
  refine AllR.of_get (by simp [h.length]) fun i a b ha hb => ?_
  rw [List.getElem?_take] at ha hb
  split at ha
  · rename_i hi
    rw [if_pos hi] at hb
    obtain ⟨b', hb', hr⟩ := h.get i a ha
    rw [hb] at hb'
    cases hb'
    exact hr
  · cases ha
theorem AllR.drop {as : List α} {bs : List β} (h : AllR R as bs) (n : Nat) : AllR R (as.drop n) (bs.drop n) := by
  refine AllR.of_get (by simp [h.length]) fun i a b ha hb => ?_
  rw [List.getElem?_drop] at ha hb
  obtain ⟨b', hb', hr⟩ := h.get _ a ha
  rw [hb] at hb'
  cases hb'
  exact hr
theorem AllR.set {as : List α} {bs : List β} (h : AllR R as bs) (i : Nat) {a : α} {b : β} (hr : R a b) : AllR R (as.set i a) (bs.set i b) := by
  refine AllR.of_get (by simp [h.length]) fun j x y hx hy => ?_
  rw [List.getElem?_set] at hx hy
  by_cases e : i = j
  · rw [if_pos e] at hx hy
    split at hx
    · cases hx
      split at hy
      · cases hy; exact hr
      · cases hy
    · cases hx
  · rw [if_neg e] at hx hy
    obtain ⟨b', hb', hr⟩ := h.get _ x hx
    rw [hy] at hb'
    cases hb'
    exact hr
theorem AllR.replicate {a : α} {b : β} (h : R a b) : ∀ n : Nat, AllR R (List.replicate n a) (List.replicate n b)
  | 0 => trivial
  | n + 1 => ⟨h, AllR.replicate h n⟩
end
def SCR : SC → Value → Prop
  | .int k n, v => v = .int k n
  | .bo b, v => v = .bool b
  | .fl k c, v => ∃ b, v = .float k b ∧ cn k b = c
  | .cx k a b, v => ∃ x y, v = .complex k x y ∧ cn k x = a ∧ cn k y = b
  | .no, _ => False
def ElR : Elt → Value → Prop
  | .sc s, v => SCR s v
  | .ag cs, v => ∃ vs, v = .agg vs.toArray ∧ AllR SCR cs vs
theorem SCR.one {s : SC} {v : Value} (h : SCR s v) : v.oneCell' = true := by
  cases s with
  | int k n => rw [show v = .int k n from h]; rfl
  | bo b => rw [show v = .bool b from h]; rfl
  | fl k c => obtain ⟨b, rfl, _⟩ := h; rfl
  | cx k a b => obtain ⟨x, y, rfl, _⟩ := h; rfl
  | no => exact h.elim
theorem SCR.cells {s : SC} {v : Value} (h : SCR s v) : v.cells = #[v] := by
  cases s with
  | int k n => rw [show v = .int k n from h]; rfl
  | bo b => rw [show v = .bool b from h]; rfl
  | fl k c => obtain ⟨b, rfl, _⟩ := h; rfl
  | cx k a b => obtain ⟨x, y, rfl, _⟩ := h; rfl
  | no => exact h.elim
theorem ElR.cells {e : Elt} {v : Value} (h : ElR e v) : ∃ vs, v.cells = vs.toArray ∧ AllR SCR e.cells vs := by
  cases e with
  | sc s => exact ⟨[v], by rw [SCR.cells h], ⟨h, trivial⟩⟩
  | ag cs => obtain ⟨vs, rfl, hv⟩ := h; exact ⟨vs, rfl, hv⟩
theorem K.len_f (k : K) (a : k.ty) : (k.f a).cells.length = k.sz := by cases k <;> rfl
theorem K.g_f {k : K} {e : Elt} {a : k.ty} (h : k.g e = some a) : k.f a = e := by
  unfold K.g at h
  split at h <;> first | (cases h; rfl) | (cases h; done)
theorem K.agg_f {k : K} (h : k.agg = true) (a : k.ty) : ∃ cs, k.f a = .ag cs := by
  cases k <;> simp [K.agg] at h <;> exact ⟨_, rfl⟩
theorem K.sz_pos (k : K) : 0 < k.sz := by cases k <;> decide
theorem K.sz_le (k : K) : k.sz ≤ 4 := by cases k <;> decide
theorem flat_len {α β : Type} (f : α → List β) (n : Nat) (hf : ∀ a, (f a).length = n) : ∀ xs : List α, (xs.flatMap f).length = xs.length * n
  | [] => by simp
  | x :: xs => by simp [hf, flat_len f n hf xs, Nat.add_mul, Nat.add_comm]
theorem flat_get {α β : Type} (f : α → List β) (n : Nat) (hf : ∀ a, (f a).length = n) : ∀ (xs : List α) (i j : Nat) (a : α), xs[i]? = some a → j < n → (xs.flatMap f)[i * n + j]? = (f a)[j]?
  | [], i, j, a, h, _ => by simp at h
  | x :: xs, 0, j, a, h, hj => by
    simp at h
    subst h
    simp [List.getElem?_append, hf, hj]
  | x :: xs, i + 1, j, a, h, hj => by
    have ih := flat_get f n hf xs i j a (by simpa using h) hj
    have e : (i + 1) * n + j = n + (i * n + j) := by rw [Nat.add_mul]; omega
    rw [e, List.flatMap_cons, List.getElem?_append, if_neg (by rw [hf]; omega), hf, Nat.add_sub_cancel_left]
    exact ih
theorem flat_set {α β : Type} (f : α → List β) (n : Nat) (hf : ∀ a, (f a).length = n) : ∀ (xs : List α) (i : Nat) (a : α), i < xs.length →
    (xs.set i a).flatMap f = (xs.flatMap f).take (i * n) ++ f a ++ (xs.flatMap f).drop (i * n + n)
  | [], i, a, h => by simp at h
  | x :: xs, 0, a, h => by
    have : (f x ++ xs.flatMap f).drop n = xs.flatMap f := by rw [← hf x]; simp
    simp [this]
  | x :: xs, i + 1, a, h => by
    have ih := flat_set f n hf xs i a (by simpa using h)
    have e : (i + 1) * n = n + i * n := by rw [Nat.add_mul]; omega
    have e2 : n + i * n + n = n + (i * n + n) := by omega
    have t1 : (f x ++ xs.flatMap f).take (n + i * n) = f x ++ (xs.flatMap f).take (i * n) := by
      rw [List.take_append, hf]; simp [hf, List.take_of_length_le, Nat.le_add_right]
    have t2 : (f x ++ xs.flatMap f).drop (n + (i * n + n)) = (xs.flatMap f).drop (i * n + n) := by
      rw [List.drop_append, hf]; simp [hf, List.drop_of_length_le, Nat.le_add_right]
    rw [List.set_cons_succ, List.flatMap_cons, ih, List.flatMap_cons, e, e2, t1, t2]
    simp
theorem Vec.len_cells (v : Vec) : v.cells.length = v.xs.length * v.k.sz := flat_len _ _ v.k.len_f v.xs
theorem Vec.get_cells (v : Vec) (i j : Nat) (a : v.k.ty) (h : v.xs[i]? = some a) (hj : j < v.k.sz) : v.cells[i * v.k.sz + j]? = (v.k.f a).cells[j]? :=
  flat_get _ _ v.k.len_f v.xs i j a h hj
theorem add_add (a : Addr) (m n : Nat) : (a.add m).add n = a.add (m + n) := by
  cases m with
  | zero => simp [Addr.add]
  | succ m =>
    cases n with
    | zero => simp [Addr.add]
    | succ n =>
      have h : ¬ m + 1 + (n + 1) = 0 := by omega
      simp only [Addr.add, h, if_false, Nat.add_eq_zero_iff, Nat.succ_ne_self, and_false]
      simp
theorem add_block (a : Addr) (n : Nat) : (a.add n).block = a.block := by unfold Addr.add; split <;> rfl
def CellsR (w : World) (a : Addr) (cs : List SC) : Prop := ∀ i s, cs[i]? = some s → ∃ u, w.cell? (a.add i) = some u ∧ SCR s u
theorem CellsR.keep {w w' : World} {a : Addr} {cs : List SC} (h : CellsR w a cs) (hb : w'.heap[a.block]? = w.heap[a.block]?) : CellsR w' a cs := by
  intro i s hi
  obtain ⟨u, hu, hs⟩ := h i s hi
  refine ⟨u, ?_, hs⟩
  rw [World.cell?_of_block (w := w) (by rw [add_block]; exact hb)]
  exact hu
def VwR (w : World) (Pr : Nat → Prop) (v : Value) (vec : Vec) : Prop :=
  (v = .slice none 0 0 ∧ vec.xs = []) ∨ ∃ a cap, v = .slice (some a) vec.xs.length cap ∧ vec.xs.length ≤ cap ∧ (vec.xs = [] ∨ Pr a.block) ∧ CellsR w a vec.cells
theorem VwR.mono {Pr' : Nat → Prop} {w : World} {Pr : Nat → Prop} {v : Value} {vec : Vec} (h : VwR w Pr v vec) (hp : ∀ k, Pr k → Pr' k) : VwR w Pr' v vec := by
  rcases h with h | ⟨a, cap, h1, h2, h3, h4⟩
  · exact .inl h
  · exact .inr ⟨a, cap, h1, h2, h3.imp id (hp _), h4⟩
def InR (w : World) (Pr : Nat → Prop) (a : Addr) (k : K) (xss : List (List k.ty)) : Prop := ∀ i xs, xss[i]? = some xs → ∃ u, w.cell? (a.add i) = some u ∧ VwR w Pr u ⟨k, xs⟩
def VvR (w : World) (Pr : Nat → Prop) (v : Value) (k : K) (xss : List (List k.ty)) : Prop :=
  (v = .slice none 0 0 ∧ xss = []) ∨ ∃ a cap, v = .slice (some a) xss.length cap ∧ xss.length ≤ cap ∧ (xss = [] ∨ Pr a.block) ∧ InR w Pr a k xss
def RowR (w : World) (Pr : Nat → Prop) (v : Value) (e : Nat) (vec : Vec) : Prop :=
  ∃ vs, w.ownsRow 0 e vec.k.sz v vec.xs.length vs ∧ AllR SCR vec.cells vs ∧ ∀ g, v.ownBlock = some g → ¬ Pr g
def PtR (w : World) (Pr : Nat → Prop) (ρ : List Value) (p : PT) (v : Value) : Prop :=
  match p.b with
  | .v vec => ∃ a, Pr a.block ∧ CellsR w a vec.cells ∧ p.sz = vec.k.sz ∧ v = .pointer (some (a.add (p.i * p.sz + p.j)))
  | .r r => ∃ vr g, ρ[r]? = some vr ∧ vr.ownBlock = some g ∧ v = .pointer (some ⟨g, p.i * p.sz + p.j, none⟩)
  | .w j => ∃ a u, Pr a.block ∧ ρ[j]? = some u ∧ w.cell? a = some u ∧ v = .pointer (some (a.add (p.i * p.sz + p.j)))
  | .s kd xss => ∃ a, Pr a.block ∧ InR w Pr a kd xss ∧ v = .pointer (some (a.add (p.i * p.sz + p.j)))
def MR (w : World) (Pr : Nat → Prop) (ρ : List Value) (r e : Nat) (π : List (Option Nat)) : Prop :=
  ∃ v g us, ρ[r]? = some v ∧ v.ownBlock = some g ∧ Pr g ∧ w.ownsRow 0 e 1 v π.length us ∧ ∀ (i j : Nat), π[i]? = some (some j) → ∃ u, us[i]? = some u ∧ ρ[j]? = some u
def FVR (w : World) (Pr : Nat → Prop) (ρ cargs : List Value) : FV → Value → Prop
  | .el e, v => ElR e v
  | .nil, v => v = .slice none 0 0
  | .vw o vec, v => VwR w Pr v vec ∧ ∀ i, o = some i → cargs[i]? = some v
  | .own r, v => ρ[r]? = some v
  | .pt p, v => PtR w Pr ρ p v
  | .fn f caps, v => ∃ cs, v = .func (.func f) #[] cs.toArray ∧ AllR (PtR w Pr ρ) caps cs
  | .vv o kd xss, v => VvR w Pr v kd xss ∧ ∀ i, o = some i → cargs[i]? = some v
  | .pv kd xss i, v => ∃ a, Pr a.block ∧ InR w Pr a kd xss ∧ v = .pointer (some (a.add i))
  | .ne _, v => ∃ a cap, v = .slice (some a) 0 cap
  | .pl r i, v => ∃ vr g, ρ[r]? = some vr ∧ vr.ownBlock = some g ∧ v = .pointer (some ⟨g, i, none⟩)
  | .mv r e π, v => ρ[r]? = some v ∧ MR w Pr ρ r e π
  | .pm r e π i, v => (∃ vr g, ρ[r]? = some vr ∧ vr.ownBlock = some g ∧ v = .pointer (some ⟨g, i, none⟩)) ∧ MR w Pr ρ r e π
def AVR (w : World) (Pr : Nat → Prop) (ρ cargs : List Value) : AV → Value → Prop
  | .un, v => v = undef
  | .fv x, v => FVR w Pr ρ cargs x v
  | .tup xs, v => ∃ vs, v = .tuple vs.toArray ∧ AllR (FVR w Pr ρ cargs) xs vs
def InnR (w : World) (I : Nat → Prop) (k : K) (xs : List k.ty) (u : Value) : Prop :=
  ∃ e vs, w.ownsRow 0 e k.sz u xs.length vs ∧ AllR SCR (Vec.cells ⟨k, xs⟩) vs ∧ ∀ g, u.ownBlock = some g → I g
def DistR (us : List Value) : Prop := ∀ (i j : Nat) (u u' : Value) (g : Nat), i ≠ j → us[i]? = some u → us[j]? = some u' → u.ownBlock = some g → u'.ownBlock ≠ some g
def AliR (ρ : List Value) (H : Hp) (r : Nat) (us : List Value) : Prop := ∀ j i, alAt H j = some (r, i) → r < j → ∃ u, ρ[j]? = some u ∧ us[i]? = some u
def LLI (I : Nat → Nat → Prop) (w : World) (Pr : Nat → Prop) (ρ : List Value) (H : Hp) : Prop :=
  ∀ (r : Nat) (row : Row) (z : (k : K) × List (List k.ty)), llAt H r = some row → row.v.two = some z → ∃ v us, ρ[r]? = some v ∧ w.ownsRow 0 row.e 1 v z.2.length us ∧
    AllR (fun xs u => InnR w (I r) z.1 xs u) z.2 us ∧ DistR us ∧ AliR ρ H r us ∧ (∀ g, v.ownBlock = some g → ¬ I r g) ∧
    ∀ g, (I r g ∨ v.ownBlock = some g) → g < w.heap.size ∧ ¬ Pr g ∧ (∀ (r' : Nat) (row' : Row) (v' : Value), rowAt H r' = some row' → ρ[r']? = some v' → v'.ownBlock ≠ some g) ∧
      (∀ (r' : Nat) (row' : Row) (v' : Value), r' ≠ r → llAt H r' = some row' → ρ[r']? = some v' → ¬ I r' g ∧ v'.ownBlock ≠ some g)
def LLR (w : World) (Pr : Nat → Prop) (ρ : List Value) (H : Hp) : Prop := ∃ I : Nat → Nat → Prop, LLI I w Pr ρ H
structure HR (w : World) (Pr : Nat → Prop) (ρ : List Value) (H : Hp) : Prop where
  len : ρ.length = H.length
  row : ∀ r row, rowAt H r = some row → ∃ v, ρ[r]? = some v ∧ RowR w Pr v row.e row.v
  apart : ∀ r r' row row' v v' g, r ≠ r' → rowAt H r = some row → rowAt H r' = some row' → ρ[r]? = some v → ρ[r']? = some v' → v.ownBlock = some g → v'.ownBlock ≠ some g
  ll : LLR w Pr ρ H
structure Keep (Pr : Nat → Prop) (w w' : World) : Prop where
  os : w'.os = w.os
  tape : w'.tape = w.tape
  output : w'.output = w.output
  size : w.heap.size ≤ w'.heap.size
  block : ∀ k, Pr k → w'.heap[k]? = w.heap[k]?
theorem Keep.refl (Pr : Nat → Prop) (w : World) : Keep Pr w w := ⟨rfl, rfl, rfl, Nat.le_refl _, fun _ _ => rfl⟩
theorem Keep.trans {Pr : Nat → Prop} {a b c : World} (h : Keep Pr a b) (k : Keep Pr b c) : Keep Pr a c :=
  ⟨k.os.trans h.os, k.tape.trans h.tape, k.output.trans h.output, Nat.le_trans h.size k.size, fun i hi => (k.block i hi).trans (h.block i hi)⟩
theorem Keep.of_below {Pr : Nat → Prop} {w w' : World} (h : Below w.heap.size w w') (hp : ∀ k, Pr k → k < w.heap.size) : Keep Pr w w' :=
  ⟨h.os, h.tape, h.output, h.size, fun k hk => h.block k (hp k hk)⟩
section
variable {w w' : World} {Pr : Nat → Prop} {ρ ρ' cargs : List Value}
theorem VwR.keep (hk : ∀ k, Pr k → w'.heap[k]? = w.heap[k]?) {v : Value} {vec : Vec} (h : VwR w Pr v vec) : VwR w' Pr v vec := by
  rcases h with h | ⟨a, cap, h1, h2, h3, h4⟩
  · exact .inl h
  · refine .inr ⟨a, cap, h1, h2, h3, ?_⟩
    rcases h3 with h3 | h3
    · intro i s hi; simp [Vec.cells, h3] at hi
    · exact h4.keep (hk _ h3)
theorem InR.keep (hk : ∀ k, Pr k → w'.heap[k]? = w.heap[k]?) {a : Addr} {k : K} {xss : List (List k.ty)} (ha : Pr a.block) (h : InR w Pr a k xss) : InR w' Pr a k xss := by
  intro i xs hi
  obtain ⟨u, hu, hv⟩ := h i xs hi
  refine ⟨u, ?_, hv.keep hk⟩
  rw [World.cell?_of_block (w := w) (by rw [add_block]; exact hk _ ha)]
  exact hu
theorem VvR.keep (hk : ∀ k, Pr k → w'.heap[k]? = w.heap[k]?) {v : Value} {k : K} {xss : List (List k.ty)} (h : VvR w Pr v k xss) : VvR w' Pr v k xss := by
  rcases h with h | ⟨a, cap, h1, h2, h3, h4⟩
  · exact .inl h
  · refine .inr ⟨a, cap, h1, h2, h3, ?_⟩
    rcases h3 with h3 | h3
    · intro i xs hi; simp [h3] at hi
    · exact h4.keep hk h3
theorem PtR.keep (hk : ∀ k, Pr k → w'.heap[k]? = w.heap[k]?) (hr : ∀ (r : Nat) (v : Value), ρ[r]? = some v → ρ'[r]? = some v) {p : PT} {v : Value} (h : PtR w Pr ρ p v) : PtR w' Pr ρ' p v := by
  unfold PtR at *
  split
  · rename_i vec hb
    rw [hb] at h
    obtain ⟨a, h1, h2, h3⟩ := h
    exact ⟨a, h1, h2.keep (hk _ h1), h3⟩
  · rename_i r hb
    rw [hb] at h
    obtain ⟨vr, g, h1, h2⟩ := h
    exact ⟨vr, g, hr _ _ h1, h2⟩
  · rename_i j hb
    rw [hb] at h
    obtain ⟨a, u, h1, h2, h3, h4⟩ := h
    exact ⟨a, u, h1, hr _ _ h2, (World.cell?_of_block (w := w) (hk _ h1)).trans h3, h4⟩
  · rename_i kd xss hb
    rw [hb] at h
    obtain ⟨a, h1, h2, h3⟩ := h
    exact ⟨a, h1, h2.keep hk h1, h3⟩
theorem ownsRow_keep0 {b e s n : Nat} {v : Value} {xs : List Value} (hk : ∀ g, v.ownBlock = some g → w'.heap[g]? = w.heap[g]?) (h : w.ownsRow b e s v n xs) : w'.ownsRow b e s v n xs := by
  refine ⟨h.1, ?_⟩
  rcases h.2 with h2 | ⟨g, cap, cur, rfl, hb, hg, rest⟩
  · exact .inl h2
  · exact .inr ⟨g, cap, cur, rfl, hb, (hk g rfl).trans hg, rest⟩
theorem MR.keep (hk : ∀ k, Pr k → w'.heap[k]? = w.heap[k]?) (hr : ∀ (r : Nat) (v : Value), ρ[r]? = some v → ρ'[r]? = some v) {r e : Nat} {π : List (Option Nat)} (h : MR w Pr ρ r e π) : MR w' Pr ρ' r e π := by
  obtain ⟨v, g, us, h1, h2, h3, h4, h5⟩ := h
  exact ⟨v, g, us, hr _ _ h1, h2, h3, ownsRow_keep0 (fun g' hg' => by rw [h2] at hg'; cases hg'; exact hk g h3) h4, fun i j hij => by obtain ⟨u, hu, hj⟩ := h5 i j hij; exact ⟨u, hu, hr _ _ hj⟩⟩
theorem FVR.keep (hk : ∀ k, Pr k → w'.heap[k]? = w.heap[k]?) (hr : ∀ (r : Nat) (v : Value), ρ[r]? = some v → ρ'[r]? = some v) {x : FV} {v : Value} (h : FVR w Pr ρ cargs x v) : FVR w' Pr ρ' cargs x v := by
  cases x with
  | el e => exact h
  | nil => exact h
  | vw o vec => exact ⟨h.1.keep hk, h.2⟩
  | own r => exact hr _ _ h
  | pt p => exact PtR.keep hk hr h
  | fn f caps => obtain ⟨cs, h1, h2⟩ := h; exact ⟨cs, h1, h2.mono fun _ _ => PtR.keep hk hr⟩
  | vv o kd xss => exact ⟨h.1.keep hk, h.2⟩
  | pv kd xss i => obtain ⟨a, h1, h2, h3⟩ := h; exact ⟨a, h1, h2.keep hk h1, h3⟩
  | ne k => exact h
  | pl r i => obtain ⟨vr, g, h1, h2⟩ := h; exact ⟨vr, g, hr _ _ h1, h2⟩
  | mv r e π => exact ⟨hr _ _ h.1, h.2.keep hk hr⟩
  | pm r e π i => obtain ⟨⟨vr, g, h1, h2⟩, h3⟩ := h; exact ⟨⟨vr, g, hr _ _ h1, h2⟩, h3.keep hk hr⟩
theorem AVR.keep (hk : ∀ k, Pr k → w'.heap[k]? = w.heap[k]?) (hr : ∀ (r : Nat) (v : Value), ρ[r]? = some v → ρ'[r]? = some v) {x : AV} {v : Value} (h : AVR w Pr ρ cargs x v) : AVR w' Pr ρ' cargs x v := by
  cases x with
  | un => exact h
  | fv x => exact FVR.keep hk hr h
  | tup xs => obtain ⟨vs, h1, h2⟩ := h; exact ⟨vs, h1, h2.mono fun _ _ => FVR.keep hk hr⟩
theorem ownsRow_keep {b e s n : Nat} {v : Value} {xs : List Value} (hk : ∀ g, v.ownBlock = some g → w'.heap[g]? = w.heap[g]?) (h : w.ownsRow b e s v n xs) : w'.ownsRow b e s v n xs := by
  refine ⟨h.1, ?_⟩
  rcases h.2 with h2 | ⟨g, cap, cur, rfl, hb, hg, rest⟩
  · exact .inl h2
  · exact .inr ⟨g, cap, cur, rfl, hb, (hk g rfl).trans hg, rest⟩
theorem RowR.keep {v : Value} {e : Nat} {vec : Vec} (hk : ∀ g, v.ownBlock = some g → w'.heap[g]? = w.heap[g]?) (h : RowR w Pr v e vec) : RowR w' Pr v e vec := by
  obtain ⟨vs, h1, h2, h3⟩ := h
  exact ⟨vs, ownsRow_keep hk h1, h2, h3⟩
theorem RowR.lt {v : Value} {e : Nat} {vec : Vec} (h : RowR w Pr v e vec) {g : Nat} (hg : v.ownBlock = some g) : g < w.heap.size := by
  obtain ⟨vs, h1, _⟩ := h
  exact (h1.lt g hg).2
theorem InnR.keep {I : Nat → Prop} {k : K} {xs : List k.ty} {u : Value} (hk : ∀ g, I g → w'.heap[g]? = w.heap[g]?) (h : InnR w I k xs u) : InnR w' I k xs u := by
  obtain ⟨e, vs, h1, h2, h3⟩ := h
  exact ⟨e, vs, ownsRow_keep (fun g hg => hk g (h3 g hg)) h1, h2, h3⟩
theorem InnR.mono {I I' : Nat → Prop} {k : K} {xs : List k.ty} {u : Value} (hk : ∀ g, I g → I' g) (h : InnR w I k xs u) : InnR w I' k xs u := by
  obtain ⟨e, vs, h1, h2, h3⟩ := h
  exact ⟨e, vs, h1, h2, fun g hg => hk g (h3 g hg)⟩
theorem InnR.vw {I : Nat → Prop} {k : K} {xs : List k.ty} {u : Value} (h : InnR w I k xs u) : VwR w I u ⟨k, xs⟩ := by
  obtain ⟨e, vs, hown, hvs, hI⟩ := h
  rcases hown.2 with ⟨h1, h2⟩ | ⟨g, cap, cur, h1, _, h3, h4, _⟩
  · exact .inl ⟨h1, List.eq_nil_of_length_eq_zero h2⟩
  · refine .inr ⟨⟨g, 0, none⟩, cap, h1, h4, .inr (hI g (by rw [h1]; rfl)), ?_⟩
    intro i c hi
    obtain ⟨u', hu, hc⟩ := hvs.get i c hi
    exact ⟨u', hown.cells (by rw [h1]; rfl) i u' hu, hc⟩
theorem LLR.step {ρ ρ' : List Value} {H H' : Hp} (h : LLR w Pr ρ H) (hsz : w.heap.size ≤ w'.heap.size)
    (hheap : ∀ g, g < w.heap.size → (∀ (r : Nat) (row : Row) (v : Value), rowAt H r = some row → ρ[r]? = some v → v.ownBlock ≠ some g) → w'.heap[g]? = w.heap[g]?)
    (hll : ∀ (r : Nat) (row : Row), llAt H' r = some row → llAt H r = some row ∧ ρ'[r]? = ρ[r]?)
    (hal : ∀ (r : Nat) (p : Nat × Nat), alAt H' r = some p → alAt H r = some p ∧ ρ'[r]? = ρ[r]?)
    (hrow : ∀ (r : Nat) (row : Row) (v : Value) (g : Nat), rowAt H' r = some row → ρ'[r]? = some v → v.ownBlock = some g → w.heap.size ≤ g ∨ ∃ r0 row0 v0, rowAt H r0 = some row0 ∧ ρ[r0]? = some v0 ∧ v0.ownBlock = some g) : LLR w' Pr ρ' H' := by
  obtain ⟨I, hI⟩ := h
  refine ⟨I, fun r row z h1 h2 => ?_⟩
  obtain ⟨h3, h4⟩ := hll r row h1
  obtain ⟨v, us, a1, a2, a3, ad, aa, a4, a5⟩ := hI r row z h3 h2
  have hk : ∀ g, (I r g ∨ v.ownBlock = some g) → w'.heap[g]? = w.heap[g]? := fun g hg => hheap g (a5 g hg).1 (a5 g hg).2.2.1
  refine ⟨v, us, h4.trans a1, ownsRow_keep (fun g hg => hk g (.inr hg)) a2, a3.mono fun xs u h => h.keep fun g hg => hk g (.inl hg), ad, fun j i hj hlt => ?_, a4, fun g hg => ?_⟩
  · obtain ⟨c1, c2⟩ := hal j (r, i) hj
    obtain ⟨u, c3, c4⟩ := aa j i c1 hlt
    exact ⟨u, c2.trans c3, c4⟩
  obtain ⟨b1, b2, b3, b4⟩ := a5 g hg
  refine ⟨by omega, b2, fun r' row' v' c1 c2 c3 => ?_, fun r' row' v' c0 c1 c2 => ?_⟩
  · rcases hrow r' row' v' g c1 c2 c3 with d | ⟨r0, row0, v0, d1, d2, d3⟩
    · omega
    · exact b3 r0 row0 v0 d1 d2 d3
  · obtain ⟨e1, e2⟩ := hll r' row' c1
    exact b4 r' row' v' c0 e1 (e2.symm.trans c2)
theorem LLR.noRow {H : Hp} (h : ∀ r, llAt H r = none) : LLR w Pr ρ H := ⟨fun _ _ => False, fun r row z h1 _ => by rw [h r] at h1; cases h1⟩
theorem of2_two {k : K} {xss : List (List k.ty)} {vec : Vec} (h : Vec.of2 k xss = some vec) : vec.two = some ⟨k, xss⟩ := by
  cases k <;> simp [Vec.of2] at h <;> subst h <;> rfl
theorem g_is2 {k : K} {e : Elt} {y : k.ty} (h : k.g e = some y) : (k.is2 || k.isAl) = false := by
  cases k <;> first | rfl | (simp [K.g] at h)
theorem two_len {v : Vec} {z : (k : K) × List (List k.ty)} (h : v.two = some z) : z.2.length = v.xs.length := by
  obtain ⟨k, xs⟩ := v
  cases k <;> simp [Vec.two] at h <;> subst h <;> rfl
theorem two_flat {v : Vec} {z : (k : K) × List (List k.ty)} (h : v.two = some z) : z.1.is2 = false := by
  obtain ⟨k, xs⟩ := v
  cases k <;> simp [Vec.two] at h <;> subst h <;> rfl
theorem two_some {v : Vec} (h : v.k.is2 = true) : ∃ z, v.two = some z := by
  obtain ⟨k, xs⟩ := v
  cases k <;> simp [K.is2] at h <;> exact ⟨_, rfl⟩
theorem two_is2 {v : Vec} {z : (k : K) × List (List k.ty)} (h : v.two = some z) : v.k.is2 = true := by
  obtain ⟨k, xs⟩ := v
  cases k <;> simp [Vec.two] at h <;> rfl
theorem llAt_is2 {H : Hp} {r : Nat} {row : Row} (h : llAt H r = some row) : row.v.k.is2 = true ∧ H[r]? = some (some row) := by
  unfold llAt at h
  split at h
  · rename_i row' hr
    cases hk : row'.v.k.is2 with
    | true => rw [hk] at h; cases h; exact ⟨hk, hr⟩
    | false => rw [hk] at h; cases h
  · cases h
theorem rowAt_no {H : Hp} {r : Nat} {row : Row} (h : rowAt H r = some row) : (row.v.k.is2 || row.v.k.isAl) = false ∧ H[r]? = some (some row) := by
  unfold rowAt at h
  split at h
  · rename_i row' hr
    cases hk : (row'.v.k.is2 || row'.v.k.isAl) with
    | true => rw [hk] at h; cases h
    | false => rw [hk] at h; cases h; exact ⟨hk, hr⟩
  · cases h
theorem rowAt_is2 {H : Hp} {r : Nat} {row : Row} (h : rowAt H r = some row) : row.v.k.is2 = false ∧ H[r]? = some (some row) :=
  ⟨(Bool.or_eq_false_iff.1 (rowAt_no h).1).1, (rowAt_no h).2⟩
theorem alAt_at {H : Hp} {r : Nat} {p : Nat × Nat} (h : alAt H r = some p) : ∃ e, H[r]? = some (some ⟨e, ⟨.al, [p]⟩⟩) := by
  unfold alAt at h
  split at h
  · rename_i e q hr
    cases h
    exact ⟨e, hr⟩
  · cases h
theorem alAt_of {H : Hp} {r e : Nat} {p : Nat × Nat} (h : H[r]? = some (some ⟨e, ⟨.al, [p]⟩⟩)) : alAt H r = some p := by
  unfold alAt
  rw [h]
theorem alAt_same {H H' : Hp} {r r' : Nat} (h : H[r]? = H'[r']?) : alAt H r = alAt H' r' := by
  unfold alAt
  rw [h]
theorem llAt_of {H : Hp} {r : Nat} {row : Row} (h : H[r]? = some (some row)) (hk : row.v.k.is2 = true) : llAt H r = some row := by
  unfold llAt
  rw [h]
  dsimp only
  rw [hk]
  rfl
theorem rowAt_of {H : Hp} {r : Nat} {row : Row} (h : H[r]? = some (some row)) (hk : (row.v.k.is2 || row.v.k.isAl) = false) : rowAt H r = some row := by
  unfold rowAt
  rw [h]
  dsimp only
  rw [hk]
  rfl
theorem size_same (hs : ∀ k, k < w.heap.size → w'.heap[k]? = w.heap[k]?) : w.heap.size ≤ w'.heap.size := by
  rcases Nat.lt_or_ge w'.heap.size w.heap.size with h | h
  · have h1 := hs _ h
    rw [Array.getElem?_eq_none (Nat.le_refl _), Array.getElem?_eq_getElem h] at h1
    cases h1
  · exact h
theorem HR.keep {H : Hp} (hs : ∀ k, k < w.heap.size → w'.heap[k]? = w.heap[k]?) (h : HR w Pr ρ H) : HR w' Pr ρ H := by
  refine ⟨h.len, fun r row hr => ?_, h.apart, h.ll.step (size_same hs) (fun g hg _ => hs g hg) (fun r row hr => ⟨hr, rfl⟩) (fun r p hr => ⟨hr, rfl⟩) fun r row v g h1 h2 h3 => .inr ⟨r, row, v, h1, h2, h3⟩⟩
  obtain ⟨v, h1, h2⟩ := h.row r row hr
  exact ⟨v, h1, h2.keep fun g hg => hs g (h2.lt hg)⟩
end
def Ext (nf : Nat) (ρ ρ' : List Value) : Prop := ∀ (r : Nat) (u : Value), r < nf → ρ[r]? = some u → ρ'[r]? = some u
theorem Ext.refl (nf : Nat) (ρ : List Value) : Ext nf ρ ρ := fun _ _ _ h => h
theorem Ext.trans {nf : Nat} {a b c : List Value} (h : Ext nf a b) (k : Ext nf b c) : Ext nf a c := fun r u hr hu => k r u hr (h r u hr hu)
structure SR (Pr : Nat → Prop) (w0 : World) (cargs : List Value) (nt : Nat) (s : St) (a : Act) (w : World) (ρ : List Value) : Prop where
  size : a.tmps.size = nt
  defers : a.defers = []
  slots : ∀ t v, lk s.sl t = some v → AVR w Pr ρ cargs v (a.tmps.getD t undef)
  heap : HR w Pr ρ s.H
  keep : Keep Pr w0 w
end Go.Sm
namespace Go.Sm
open Go Go.RowKit
abbrev Same (w w' : World) : Prop := Below w.heap.size w w'
theorem Same.refl (w : World) : Same w w := Below.refl _ _
theorem Same.drew (w : World) : Same w w.drew := (Below.refl _ _).drew
theorem Same.trans {a b c : World} (h : Same a b) (k : Same b c) : Same a c := Below.trans h (k.mono h.size)
theorem same_or {w w' : World} (h : w' = w ∨ w' = w.drew) : Same w w' := by
  rcases h with rfl | rfl
  · exact Same.refl _
  · exact Same.drew _
def Gives (P : Program) (w : World) (x : Sem Value) (Φ : Value → Prop) : Prop := ∃ r w', x.run P w = .ok r w' ∧ Φ r ∧ Same w w'
theorem Gives.pure {P : Program} {w : World} {v : Value} {Φ : Value → Prop} (h : Φ v) : Gives P w (Pure.pure v) Φ := ⟨v, w, rfl, h, Same.refl w⟩
theorem gives_arith {P : Program} {w : World} {op : BinOp} {k : FloatKind} {x y : Nat} (hop : op = .add ∨ op = .sub ∨ op = .mul ∨ op = .quo) :
    Gives P w (Op.floatArith op k x y) (SCR (.fl k (fop op k (cn k x) (cn k y)))) := by
  obtain ⟨r, w', h1, h2, h3⟩ := run_fop P w op k x y hop
  exact ⟨_, w', h1, ⟨r, rfl, h2⟩, same_or h3⟩
theorem gives_carith {P : Program} {w : World} {op : BinOp} {k : FloatKind} {a b c d : Nat} (hop : op = .add ∨ op = .sub) :
    Gives P w (Op.complexOp op k a b c d) (SCR (.cx k (fop op k (cn k a) (cn k c)) (fop op k (cn k b) (cn k d)))) := by
  have hop' : op = .add ∨ op = .sub ∨ op = .mul ∨ op = .quo := by rcases hop with h | h <;> simp [h]
  obtain ⟨r, w1, h1, h2, h3⟩ := run_fop P w op k a c hop'
  obtain ⟨r', w2, h1', h2', h3'⟩ := run_fop P w1 op k b d hop'
  refine ⟨.complex k r r', w2, ?_, ⟨r, r', rfl, h2, h2'⟩, (same_or h3).trans (same_or h3')⟩
  rcases hop with rfl | rfl <;> simp [Op.complexOp, Op.Complex.arith, h1, h1']
theorem binOp_ff (P : Program) (w : World) (op : BinOp) (t : Nat) (X Y : Operand) (k : FloatKind) (x y : Nat) :
    ((do eqGuard op t X Y (.float k x) (.float k y); binOp op t (.float k x) (.float k y) : Sem Value)).run P w = (binOp op t (.float k x) (.float k y)).run P w := by
  simp [eqGuard_at_float]
theorem binK_ok {tb : Bool} {op : BinOp} {x y : SC} {k : SC → R} {out : Out} (h : binK tb op x y k = some out) :
    ∃ c, k c = some out ∧ ∀ (P : Program) (w : World) (t : Nat) (X Y : Operand) (u v : Value), (tb = true → P.underlying t = some .bool) → SCR x u → SCR y v →
      Gives P w (do eqGuard op t X Y u v; binOp op t u v) (SCR c) := by
  unfold binK at h
  split at h
  · -- integers
    rename_i q a q' b
    cases hq : decide (q = q') with
    | false => rw [hq] at h; cases h
    | true =>
      rw [hq] at h
      replace hq := of_decide_eq_true hq
      subst hq
      simp only [cond_true] at h
      split at h
      case h_4 =>
        cases hb : decide (b = 0) with
        | true => rw [hb] at h; cases h
        | false =>
          rw [hb] at h
          refine ⟨_, h, ?_⟩
          rintro P w t X Y u v ht rfl rfl
          replace hb := of_decide_eq_false hb
          refine ⟨_, w, ?_, rfl, Same.refl w⟩
          simp [eqGuard_at_int, binOp, Op.intDiv, hb]
      case h_5 =>
        cases hb : decide (b = 0) with
        | true => rw [hb] at h; cases h
        | false =>
          rw [hb] at h
          refine ⟨_, h, ?_⟩
          rintro P w t X Y u v ht rfl rfl
          replace hb := of_decide_eq_false hb
          refine ⟨_, w, ?_, rfl, Same.refl w⟩
          simp [eqGuard_at_int, binOp, Op.intDiv, hb]
      case h_12 =>
        refine ⟨_, h, ?_⟩
        rintro P w t X Y u v ht rfl rfl
        refine ⟨_, w, ?_, rfl, Same.refl w⟩
        simp [eqGuard_at_int, binOp, Op.intBits]
      case h_13 => cases h
      all_goals
        refine ⟨_, h, ?_⟩
        rintro P w t X Y u v ht rfl rfl
        refine ⟨_, w, ?_, rfl, Same.refl w⟩
        simp [eqGuard_at_int, binOp, Op.intArith, Op.intCmp]
  · -- floats
    rename_i q a q' b
    cases hq : decide (q = q') with
    | false => rw [hq] at h; cases h
    | true =>
      rw [hq] at h
      replace hq := of_decide_eq_true hq
      subst hq
      simp only [cond_true] at h
      split at h
      case h_11 => cases h
      case h_1 | h_2 | h_3 | h_4 =>
        refine ⟨_, h, ?_⟩
        rintro P w t X Y u v ht ⟨b1, rfl, rfl⟩ ⟨b2, rfl, rfl⟩
        first
          | (obtain ⟨r, w', h1, h2, h3⟩ := gives_arith (P := P) (w := w) (op := .add) (k := q) (x := b1) (y := b2) (.inl rfl)
             exact ⟨r, w', by rw [binOp_ff]; simpa [binOp] using h1, h2, h3⟩)
          | (obtain ⟨r, w', h1, h2, h3⟩ := gives_arith (P := P) (w := w) (op := .sub) (k := q) (x := b1) (y := b2) (.inr (.inl rfl))
             exact ⟨r, w', by rw [binOp_ff]; simpa [binOp] using h1, h2, h3⟩)
          | (obtain ⟨r, w', h1, h2, h3⟩ := gives_arith (P := P) (w := w) (op := .mul) (k := q) (x := b1) (y := b2) (.inr (.inr (.inl rfl)))
             exact ⟨r, w', by rw [binOp_ff]; simpa [binOp] using h1, h2, h3⟩)
          | (obtain ⟨r, w', h1, h2, h3⟩ := gives_arith (P := P) (w := w) (op := .quo) (k := q) (x := b1) (y := b2) (.inr (.inr (.inr rfl)))
             exact ⟨r, w', by rw [binOp_ff]; simpa [binOp] using h1, h2, h3⟩)
      all_goals
        refine ⟨_, h, ?_⟩
        rintro P w t X Y u v ht ⟨b1, rfl, rfl⟩ ⟨b2, rfl, rfl⟩
        refine ⟨_, w, ?_, rfl, Same.refl w⟩
        rw [binOp_ff, fcmp_cn]
        simp [binOp, Op.floatCmp, fcmp]
  · -- bools
    rename_i a b
    cases tb with
    | false => cases h
    | true =>
      simp only [cond_true] at h
      split at h
      case h_3 => cases h
      case h_1 =>
        refine ⟨_, h, ?_⟩
        rintro P w t X Y u v ht rfl rfl
        refine ⟨_, w, ?_, rfl, Same.refl w⟩
        simp only [eqGuard_at_bool, Sem.run_bind, Sem.run_pure, Result.andThen_ok]
        exact run_eql_bool w t a b (ht rfl)
      case h_2 =>
        refine ⟨_, h, ?_⟩
        rintro P w t X Y u v ht rfl rfl
        refine ⟨_, w, ?_, rfl, Same.refl w⟩
        simp only [eqGuard_at_bool, Sem.run_bind, Sem.run_pure, Result.andThen_ok]
        exact run_neq_bool w t a b (ht rfl)
  · -- complex numbers
    rename_i q a b q' c d
    cases hq : decide (q = q') with
    | false => rw [hq] at h; cases h
    | true =>
      rw [hq] at h
      replace hq := of_decide_eq_true hq
      subst hq
      simp only [cond_true] at h
      split at h
      case h_5 => cases h
      case h_1 | h_2 =>
        refine ⟨_, h, ?_⟩
        rintro P w t X Y u v ht ⟨b1, b2, rfl, rfl, rfl⟩ ⟨b3, b4, rfl, rfl, rfl⟩
        first
          | (obtain ⟨r, w', h1, h2, h3⟩ := gives_carith (P := P) (w := w) (op := .add) (k := q) (a := b1) (b := b2) (c := b3) (d := b4) (.inl rfl)
             exact ⟨r, w', by simpa [eqGuard_at_complex, binOp] using h1, h2, h3⟩)
          | (obtain ⟨r, w', h1, h2, h3⟩ := gives_carith (P := P) (w := w) (op := .sub) (k := q) (a := b1) (b := b2) (c := b3) (d := b4) (.inr rfl)
             exact ⟨r, w', by simpa [eqGuard_at_complex, binOp] using h1, h2, h3⟩)
      all_goals
        refine ⟨_, h, ?_⟩
        rintro P w t X Y u v ht ⟨b1, b2, rfl, rfl, rfl⟩ ⟨b3, b4, rfl, rfl, rfl⟩
        refine ⟨_, w, ?_, rfl, Same.refl w⟩
        rw [fcmp_cn, fcmp_cn]
        simp [eqGuard_at_complex, binOp, Op.complexOp, Op.Complex.cmp, Op.floatCmp, fcmp, asBool]
  · cases h
theorem unK_ok {op : UnOp} {x : SC} {k : SC → R} {out : Out} (h : unK op x k = some out) :
    ∃ c, k c = some out ∧ ∀ (P : Program) (w : World) (u : Value), SCR x u → Gives P w (Op.unary op u) (SCR c) := by
  unfold unK at h
  split at h
  case h_5 => cases h
  case h_1 q n =>
    refine ⟨_, h, ?_⟩
    rintro P w u rfl
    refine ⟨.int q (q.wrap (0 - n)), w, ?_, rfl, Same.refl w⟩
    simp [Op.unary, Op.intArith]
  case h_2 q c =>
    refine ⟨_, h, ?_⟩
    rintro P w u ⟨b, rfl, rfl⟩
    exact ⟨_, w, rfl, ⟨_, rfl, cn_neg q b⟩, Same.refl w⟩
  case h_3 q a b =>
    refine ⟨_, h, ?_⟩
    rintro P w u ⟨x, y, rfl, rfl, rfl⟩
    exact ⟨_, w, rfl, ⟨_, _, rfl, cn_neg q x, cn_neg q y⟩, Same.refl w⟩
  case h_4 b =>
    refine ⟨_, h, ?_⟩
    rintro P w u rfl
    exact ⟨_, w, rfl, rfl, Same.refl w⟩
theorem fconv_wid (c : Nat) (h : (fconv .f32 .f64 c).isSome = true) : fconv .f32 .f64 c = some (wid c) := by
  unfold wid
  obtain ⟨r, hr⟩ := Option.isSome_iff_exists.1 h
  rw [hr]
  rfl
theorem log2_lt {m n : Nat} (hm : m ≠ 0) (h : m < 2 ^ n) : m.log2 < n := (Nat.log2_lt hm).2 h
theorem wide_fits (s : Bool) (m : Nat) (e : Int) (hm : m < 2 ^ 24) (h1 : -149 ≤ e) (h2 : e ≤ 104) : (Ieee.double.read (Ieee.double.nearest s m e)).isInfinity = false := by
  by_cases h0 : m = 0
  · subst h0
    unfold Ieee.Format.nearest
    rw [if_pos rfl]
    cases s <;> rfl
  · have hlog : m.log2 < 24 := log2_lt h0 hm
    have hlp : Ieee.double.leastPlace = -1074 := by decide
    have hfb : Ieee.double.fractionBits = 52 := rfl
    have hb : Ieee.double.binade = 4503599627370496 := by decide
    have hi : Ieee.double.infRung = 9218868437227405312 := by decide
    have hsw : Ieee.double.signWeight = 9223372036854775808 := by decide
    suffices hr : ∃ rung, Ieee.double.nearest s m e = Ieee.double.word s rung ∧ rung < Ieee.double.infRung by
      obtain ⟨rung, hw, hlt⟩ := hr
      rw [hw]
      have hmod : Ieee.double.word s rung % Ieee.double.signWeight = rung := by
        have h3 : rung < Ieee.double.signWeight := by rw [hsw]; rw [hi] at hlt; omega
        unfold Ieee.Format.word
        cases s
        · exact Nat.mod_eq_of_lt h3
        · simp [Nat.mod_eq_of_lt h3]
      unfold Ieee.Format.read
      dsimp only
      rw [hmod]
      split
      · rfl
      · first | rfl | (rw [if_pos hlt]; rfl)
    unfold Ieee.Format.nearest
    rw [if_neg h0]
    refine ⟨_, rfl, ?_⟩
    refine Nat.lt_of_le_of_lt (Nat.min_le_left ..) ?_
    rw [hlp, hfb, hb, hi]
    have hlast : max (e + (m.log2 : Int) - ((52 : Nat) : Int)) (-1074) = e + (m.log2 : Int) - 52 := by omega
    simp only [hlast]
    have hcut : Ieee.Toward.even.cut s (m <<< (e - (e + (m.log2 : Int) - 52)).toNat) (e + (m.log2 : Int) - 52 - e).toNat = m <<< (52 - m.log2) := by
      have e1 : (e - (e + (m.log2 : Int) - 52)).toNat = 52 - m.log2 := by omega
      have e2 : (e + (m.log2 : Int) - 52 - e).toNat = 0 := by omega
      rw [e1, e2]
      unfold Ieee.Toward.cut
      simp [Nat.mod_one]
    rw [hcut]
    have hsh : m <<< (52 - m.log2) < 2 ^ 53 := by
      rw [Nat.shiftLeft_eq]
      have h3 : m < 2 ^ (m.log2 + 1) := (Nat.log2_lt h0).1 (Nat.lt_succ_self _)
      calc m * 2 ^ (52 - m.log2) < 2 ^ (m.log2 + 1) * 2 ^ (52 - m.log2) := Nat.mul_lt_mul_of_pos_right h3 (Nat.two_pow_pos _)
        _ = 2 ^ 53 := by rw [← Nat.pow_add]; congr 1; omega
    have hpl : (e + (m.log2 : Int) - 52 - -1074).toNat ≤ 1149 := by omega
    generalize (e + (m.log2 : Int) - 52 - -1074).toNat = a at hpl
    generalize m <<< (52 - m.log2) = b at hsh
    omega
theorem fconv_some (c : Nat) : (fconv .f32 .f64 c).isSome = true := by
  unfold fconv
  cases hn : isN .f32 c with
  | true => rfl
  | false =>
    show (floatToFloatBits .f32 c .f64).isSome = true
    unfold floatToFloatBits
    rw [if_neg (by decide)]
    cases hd : FloatKind.f32.decode c with
    | nan sg t => simp [isN, hd, Ieee.Datum.isNaN] at hn
    | infinity sg => rfl
    | number sg m e =>
      dsimp only
      have hb : m < 2 ^ 24 ∧ -149 ≤ e ∧ e ≤ 104 := by
        have hlp : Ieee.single.leastPlace = -149 := by decide
        have hbi : Ieee.single.binade = 8388608 := by decide
        have hi : Ieee.single.infRung = 2139095040 := by decide
        have hd' : Ieee.single.read c = .number sg m e := hd
        unfold Ieee.Format.read at hd'
        dsimp only at hd'
        rw [hlp, hbi, hi] at hd'
        generalize c % Ieee.single.signWeight = r at hd'
        split at hd'
        · simp only [Ieee.Datum.number.injEq] at hd'
          obtain ⟨_, rfl, rfl⟩ := hd'
          omega
        · split at hd'
          · simp only [Ieee.Datum.number.injEq] at hd'
            obtain ⟨_, rfl, rfl⟩ := hd'
            have := Nat.mod_lt r (show 0 < 8388608 by decide)
            omega
          · split at hd' <;> cases hd'
      have hf := wide_fits sg m e hb.1 hb.2.1 hb.2.2
      rw [if_neg]
      · rfl
      · show ¬ (Ieee.double.read (Ieee.double.nearest sg m e)).isInfinity = true
        rw [hf]
        decide
theorem gives_wid {P : Program} {w : World} {b : Nat} : Gives P w (Conv.floatToFloat .f32 b .f64) (SCR (.fl .f64 (wid (cn .f32 b)))) := by
  obtain ⟨r, w', h1, h2, h3⟩ := run_fconv P w .f32 .f64 b _ (by decide) (fconv_wid _ (fconv_some (cn .f32 b)))
  exact ⟨_, w', h1, ⟨r, rfl, h2⟩, same_or h3⟩
theorem gives_nar {P : Program} {w : World} {b r : Nat} (h : fconv .f64 .f32 (cn .f64 b) = some r) : Gives P w (Conv.floatToFloat .f64 b .f32) (SCR (.fl .f32 r)) := by
  obtain ⟨r', w', h1, h2, h3⟩ := run_fconv P w .f64 .f32 b _ (by decide) h
  exact ⟨_, w', h1, ⟨r', rfl, h2⟩, same_or h3⟩
def NK.desc : NK → TypeDesc
  | .bool => .bool
  | .int k => .int k
  | .float k => .float k
  | .complex k => .complex k
theorem fti_cn (s : FloatKind) (b : Nat) (q : IntKind) : floatToIntVal s (cn s b) q = floatToIntVal s b q := by
  cases h : isN s b with
  | false => rw [cn_num h]
  | true =>
    have key : ∀ x, isN s x = true → floatToIntVal s x q = none := by
      intro x hx
      unfold floatToIntVal Ieee.Datum.toInt
      cases hd : s.decode x with
      | nan sg t => rfl
      | infinity sg => simp [isN, hd, Ieee.Datum.isNaN] at hx
      | number sg m e => simp [isN, hd, Ieee.Datum.isNaN] at hx
    rw [key _ h, key _ ((isN_cn s b).trans h)]
end Go.Sm
namespace Go.Sm
open Go Go.RowKit
section
variable {P : Program} {w : World} {src dst : Nat} {sd : TypeDesc}
theorem convert_int_int {q q' : IntKind} {n : Int} (hs : P.underlying src = some sd) (hd : P.underlying dst = some (.int q)) : (convert src dst (.int q' n)).run P w = .ok (.int q (q.wrap n)) w := by
  cases sd <;> simp [convert, run_underlying hs, run_underlying hd, Conv.intToInt]
theorem convert_int_float {q : FloatKind} {q' : IntKind} {n : Int} (hs : P.underlying src = some sd) (hd : P.underlying dst = some (.float q)) : (convert src dst (.int q' n)).run P w = .ok (.float q (fint q n)) w := by
  cases sd <;> simp [convert, run_underlying hs, run_underlying hd, Conv.intToFloat, fint]
theorem convert_float_float {q s : FloatKind} {b : Nat} (hs : P.underlying src = some sd) (hd : P.underlying dst = some (.float q)) : (convert src dst (.float s b)).run P w = (Conv.floatToFloat s b q).run P w := by
  cases sd <;> simp [convert, run_underlying hs, run_underlying hd]
theorem convert_cx {q s : FloatKind} {a b : Nat} (hs : P.underlying src = some sd) (hd : P.underlying dst = some (.complex q)) : (convert src dst (.complex s a b)).run P w = (Conv.complexToComplex s a b q).run P w := by
  cases sd <;> simp [convert, run_underlying hs, run_underlying hd]
end
theorem same_kind {P : Program} {w : World} {k : FloatKind} {b : Nat} : (Conv.floatToFloat k b k).run P w = .ok (.float k b) w := by simp [Conv.floatToFloat]
theorem Gives.float {P : Program} {w : World} {x : Sem Value} {k : FloatKind} {c : Nat} (h : Gives P w x (SCR (.fl k c))) : ∃ r w', x.run P w = .ok (.float k r) w' ∧ cn k r = c ∧ Same w w' := by
  obtain ⟨_, w', h1, ⟨b, rfl, h2⟩, h3⟩ := h
  exact ⟨b, w', h1, h2, h3⟩
theorem gives_cconv {P : Program} {w : World} {s d : FloatKind} {a b x y : Nat} (h1 : ∀ w, Gives P w (Conv.floatToFloat s a d) (SCR (.fl d x))) (h2 : ∀ w, Gives P w (Conv.floatToFloat s b d) (SCR (.fl d y))) :
    Gives P w (Conv.complexToComplex s a b d) (SCR (.cx d x y)) := by
  obtain ⟨r, w1, e1, c1, s1⟩ := (h1 w).float
  obtain ⟨r', w2, e2, c2, s2⟩ := (h2 w1).float
  exact ⟨.complex d r r', w2, by simp [Conv.complexToComplex, e1, e2], ⟨r, r', rfl, c1, c2⟩, s1.trans s2⟩
theorem Gives.of_eq {P : Program} {w : World} {x y : Sem Value} {Φ : Value → Prop} (h : Gives P w y Φ) (e : x.run P w = y.run P w) : Gives P w x Φ := by
  obtain ⟨r, w', h1, h2, h3⟩ := h
  exact ⟨r, w', e.trans h1, h2, h3⟩
theorem convK_ok {n : NK} {x : SC} {k : SC → R} {out : Out} (h : convK n x k = some out) :
    ∃ c, k c = some out ∧ ∀ (P : Program) (w : World) (src dst : Nat) (sd : TypeDesc) (u : Value), P.underlying src = some sd → P.underlying dst = some n.desc → SCR x u → Gives P w (convert src dst u) (SCR c) := by
  unfold convK at h
  split at h
  · refine ⟨_, h, ?_⟩
    rintro P w src dst sd u hs hd rfl
    exact ⟨_, w, convert_int_int hs hd, rfl, Same.refl w⟩
  · refine ⟨_, h, ?_⟩
    rintro P w src dst sd u hs hd rfl
    exact ⟨_, w, convert_int_float hs hd, ⟨_, rfl, cn_fint _ _⟩, Same.refl w⟩
  · refine ⟨_, h, ?_⟩
    rintro P w src dst sd u hs hd ⟨b, rfl, rfl⟩
    exact ⟨_, w, (convert_float_float hs hd).trans same_kind, ⟨_, rfl, rfl⟩, Same.refl w⟩
  · refine ⟨_, h, ?_⟩
    rintro P w src dst sd u hs hd ⟨b, rfl, rfl⟩
    exact ⟨_, w, (convert_float_float hs hd).trans same_kind, ⟨_, rfl, rfl⟩, Same.refl w⟩
  · refine ⟨_, h, ?_⟩
    rintro P w src dst sd u hs hd ⟨b, rfl, rfl⟩
    exact gives_wid.of_eq (convert_float_float hs hd)
  · split at h
    · rename_i r hr
      refine ⟨_, h, ?_⟩
      rintro P w src dst sd u hs hd ⟨b, rfl, rfl⟩
      exact (gives_nar hr).of_eq (convert_float_float hs hd)
    · cases h
  · rename_i q s c
    split at h
    · rename_i m hm
      refine ⟨_, h, ?_⟩
      rintro P w src dst sd u hs hd ⟨b, rfl, rfl⟩
      rw [fti_cn] at hm
      exact ⟨_, w, run_convert_float_int w src dst _ _ b m (by rw [hs]; rfl) hd hm, rfl, Same.refl w⟩
    · cases h
  · refine ⟨_, h, ?_⟩
    rintro P w src dst sd u hs hd ⟨a, b, rfl, rfl, rfl⟩
    refine (gives_cconv (x := cn .f32 a) (y := cn .f32 b) (fun w => ⟨_, w, same_kind, ⟨_, rfl, rfl⟩, Same.refl w⟩) (fun w => ⟨_, w, same_kind, ⟨_, rfl, rfl⟩, Same.refl w⟩)).of_eq (convert_cx hs hd)
  · refine ⟨_, h, ?_⟩
    rintro P w src dst sd u hs hd ⟨a, b, rfl, rfl, rfl⟩
    refine (gives_cconv (x := cn .f64 a) (y := cn .f64 b) (fun w => ⟨_, w, same_kind, ⟨_, rfl, rfl⟩, Same.refl w⟩) (fun w => ⟨_, w, same_kind, ⟨_, rfl, rfl⟩, Same.refl w⟩)).of_eq (convert_cx hs hd)
  · refine ⟨_, h, ?_⟩
    rintro P w src dst sd u hs hd ⟨a, b, rfl, rfl, rfl⟩
    exact (gives_cconv (fun _ => gives_wid) (fun _ => gives_wid)).of_eq (convert_cx hs hd)
  · split at h
    · rename_i r hr
      split at h
      · rename_i t ht
        refine ⟨_, h, ?_⟩
        rintro P w src dst sd u hs hd ⟨a, b, rfl, rfl, rfl⟩
        exact (gives_cconv (fun _ => gives_nar hr) (fun _ => gives_nar ht)).of_eq (convert_cx hs hd)
      · cases h
    · cases h
  · cases h
theorem order_some_num {k : FloatKind} {x y : Nat} {o : Ordering} (h : k.format.order x y = some o) : isN k x = false ∧ isN k y = false := by
  unfold Ieee.Format.order at h
  constructor
  · cases hx : isN k x with
    | false => rfl
    | true => rw [order_nan_left (show (k.format.read x).isNaN = true from hx)] at h; cases h
  · cases hy : isN k y with
    | false => rfl
    | true => rw [order_nan_right (show (k.format.read y).isNaN = true from hy)] at h; cases h
theorem gives_max {P : Program} {w : World} {k : FloatKind} {x y : Nat} : Gives P w (Builtin.max2 (.float k x) (.float k y)) (SCR (.fl k (fmax k (cn k x) (cn k y)))) := by
  unfold fmax
  rw [order_cn]
  cases ho : k.format.order x y with
  | none => exact ⟨_, w.drew, by simp [Builtin.max2, ho, Question.forced]; rfl, ⟨_, rfl, cn_nan (isN_chosen k _ _ (.inr (.inr ⟨true, x, y, rfl⟩)))⟩, Same.drew w⟩
  | some o =>
    obtain ⟨hx, hy⟩ := order_some_num ho
    rw [cn_num hx, cn_num hy]
    cases o with
    | lt => exact ⟨_, w, by simp [Builtin.max2, ho], ⟨_, rfl, cn_num hy⟩, Same.refl w⟩
    | gt => exact ⟨_, w, by simp [Builtin.max2, ho], ⟨_, rfl, cn_num hx⟩, Same.refl w⟩
    | eq =>
      cases hn : (k.decode x).neg with
      | true => exact ⟨_, w, by simp [Builtin.max2, ho, hn], ⟨_, rfl, cn_num hy⟩, Same.refl w⟩
      | false => exact ⟨_, w, by simp [Builtin.max2, ho, hn], ⟨_, rfl, cn_num hx⟩, Same.refl w⟩
theorem gives_min {P : Program} {w : World} {k : FloatKind} {x y : Nat} : Gives P w (Builtin.min2 (.float k x) (.float k y)) (SCR (.fl k (fmin k (cn k x) (cn k y)))) := by
  unfold fmin
  rw [order_cn]
  cases ho : k.format.order x y with
  | none => exact ⟨_, w.drew, by simp [Builtin.min2, ho, Question.forced]; rfl, ⟨_, rfl, cn_nan (isN_chosen k _ _ (.inr (.inr ⟨false, x, y, rfl⟩)))⟩, Same.drew w⟩
  | some o =>
    obtain ⟨hx, hy⟩ := order_some_num ho
    rw [cn_num hx, cn_num hy]
    cases o with
    | lt => exact ⟨_, w, by simp [Builtin.min2, ho], ⟨_, rfl, cn_num hx⟩, Same.refl w⟩
    | gt => exact ⟨_, w, by simp [Builtin.min2, ho], ⟨_, rfl, cn_num hy⟩, Same.refl w⟩
    | eq =>
      cases hn : (k.decode x).neg with
      | true => exact ⟨_, w, by simp [Builtin.min2, ho, hn], ⟨_, rfl, cn_num hx⟩, Same.refl w⟩
      | false => exact ⟨_, w, by simp [Builtin.min2, ho, hn], ⟨_, rfl, cn_num hy⟩, Same.refl w⟩
theorem mxK_ok {mx : Bool} {x y : SC} {k : SC → R} {out : Out} (h : mxK mx x y k = some out) :
    ∃ c, k c = some out ∧ ∀ (P : Program) (w : World) (u v : Value), SCR x u → SCR y v → Gives P w (bif mx then Builtin.max2 u v else Builtin.min2 u v) (SCR c) := by
  unfold mxK at h
  split at h
  · rename_i q a q' b
    cases hq : decide (q = q') with
    | false => rw [hq] at h; cases h
    | true =>
      rw [hq] at h
      replace hq := of_decide_eq_true hq
      subst hq
      cases mx
      · refine ⟨_, h, ?_⟩
        rintro P w u v rfl rfl
        exact ⟨_, w, rfl, rfl, Same.refl w⟩
      · refine ⟨_, h, ?_⟩
        rintro P w u v rfl rfl
        exact ⟨_, w, rfl, rfl, Same.refl w⟩
  · rename_i q a q' b
    cases hq : decide (q = q') with
    | false => rw [hq] at h; cases h
    | true =>
      rw [hq] at h
      replace hq := of_decide_eq_true hq
      subst hq
      cases mx
      · refine ⟨_, h, ?_⟩
        rintro P w u v ⟨b1, rfl, rfl⟩ ⟨b2, rfl, rfl⟩
        exact gives_min
      · refine ⟨_, h, ?_⟩
        rintro P w u v ⟨b1, rfl, rfl⟩ ⟨b2, rfl, rfl⟩
        exact gives_max
  · cases h
end Go.Sm
namespace Go.Sm
open Go Go.RowKit
def packV : List Value → Value
  | [v] => v
  | vs => .tuple vs.toArray
def RVR (w w' : World) (cargs : List Value) : RV → Value → Prop
  | .el e, v => ElR e v
  | .nil, v => v = .slice none 0 0
  | .fresh e vec, v => ∃ vs, w'.ownsRow 0 e vec.k.sz v vec.xs.length vs ∧ AllR SCR vec.cells vs ∧ ∀ g, v.ownBlock = some g → w.heap.size ≤ g
  | .arg i, v => cargs[i]? = some v
  | .new2 e vec, v => ∃ (z : (k : K) × List (List k.ty)) (us : List Value) (I : Nat → Prop), vec.two = some z ∧ w'.ownsRow 0 e 1 v z.2.length us ∧ AllR (fun xs u => InnR w' I z.1 xs u) z.2 us ∧ DistR us ∧
      (∀ g, v.ownBlock = some g → ¬ I g) ∧ ∀ g, (I g ∨ v.ownBlock = some g) → w.heap.size ≤ g ∧ g < w'.heap.size
  | .newv e i, v => ∃ us : List Value, w'.ownsRow 0 e 1 v us.length us ∧ (∀ g, v.ownBlock = some g → w.heap.size ≤ g) ∧
      ((cargs[i]? = some (.slice none 0 0) ∧ us = []) ∨ ∃ a n cap, cargs[i]? = some (.slice (some a) n cap) ∧ us.length = n ∧ ∀ j u, us[j]? = some u → w.cell? (a.add j) = some u)
def RV.isFresh : RV → Bool
  | .fresh _ _ => true
  | _ => false
structure RVs (w w' : World) (cargs : List Value) (rs : List RV) (vs : List Value) : Prop where
  all : AllR (RVR w w' cargs) rs vs
  apart : ∀ (i j : Nat) (r r' : RV) (v v' : Value) (g : Nat), i ≠ j → rs[i]? = some r → rs[j]? = some r' → r.isFresh = true → r'.isFresh = true → vs[i]? = some v → vs[j]? = some v' → v.ownBlock = some g → v'.ownBlock ≠ some g
def Real (P : Program) (f : Nat) : Prop := ∃ fn, P.funcs[f]? = some fn ∧ fn.body.isSome = true ∧ (fn.name == "runtime.NumGoroutine") = false
def COK (P : Program) (f : Nat) (args : List FV) (rs : List RV) : Prop :=
  ∀ (w : World) (cargs : List Value), AllR (FVR w (fun k => k < w.heap.size) [] []) args cargs →
    Calls P f cargs.toArray w fun e w' => ∃ vs, e = .returned (packV vs) ∧ Same w w' ∧ RVs w w' cargs rs vs
def XR (P : Program) (f : Nat) (args : List FV) (rs : List RV) : Prop :=
  ∃ fn e c, P.funcs[f]? = some fn ∧ (fn.name == "runtime.NumGoroutine") = false ∧ fn.body.isNone = true ∧ Extern.findNext fn = none ∧ Extern.find fn = some e ∧ rs = [.el c] ∧
    ∀ (w : World) (cargs : List Value), AllR (FVR w (fun k => k < w.heap.size) [] []) args cargs → ∃ v w', (e cargs.toArray).run P w = .ok v w' ∧ ElR c v ∧ Same w w'
def CallOK (P : Program) (f : Nat) (args : List FV) (rs : List RV) : Prop := (Real P f ∧ COK P f args rs) ∨ XR P f args rs
def LL2 (I : Nat → Prop) (w : World) (v : Value) (e : Nat) (z : (k : K) × List (List k.ty)) : Prop :=
  ∃ us, w.ownsRow 0 e 1 v z.2.length us ∧ AllR (fun xs u => InnR w I z.1 xs u) z.2 us ∧ DistR us ∧ (∀ g, v.ownBlock = some g → ¬ I g) ∧ ∀ g, (I g ∨ v.ownBlock = some g) → g < w.heap.size
def CM2OK (P : Program) (f : Nat) (z : (k : K) × List (List k.ty)) (args : List FV) (rs : List RV) (z' : (k : K) × List (List k.ty)) : Prop :=
  ∀ (w : World) (e : Nat) (v : Value) (I : Nat → Prop) (cargs : List Value), LL2 I w v e z →
    AllR (FVR w (fun k => k < w.heap.size ∧ v.ownBlock ≠ some k ∧ ¬ I k) [] []) args cargs →
    Calls P f (v :: cargs).toArray w fun en w' => ∃ vs, en = .returned (packV vs) ∧ Keep (fun k => k < w.heap.size ∧ v.ownBlock ≠ some k ∧ ¬ I k) w w' ∧
      (∃ I', LL2 I' w' v e z' ∧ ∀ g, I' g → I g ∨ w.heap.size ≤ g) ∧ RVs w w' (v :: cargs) rs vs
def CM1OK (P : Program) (f : Nat) (vec : Vec) (args : List FV) (rs : List RV) (vec' : Vec) : Prop :=
  ∀ (w : World) (e : Nat) (v : Value) (cargs : List Value), (∃ vs, w.ownsRow 0 e vec.k.sz v vec.xs.length vs ∧ AllR SCR vec.cells vs) →
    AllR (FVR w (fun k => k < w.heap.size ∧ v.ownBlock ≠ some k) [] []) args cargs →
    Calls P f (v :: cargs).toArray w fun en w' => ∃ vs, en = .returned (packV vs) ∧ Keep (fun k => k < w.heap.size ∧ v.ownBlock ≠ some k) w w' ∧
      (∃ vs', w'.ownsRow 0 e vec'.k.sz v vec'.xs.length vs' ∧ AllR SCR vec'.cells vs') ∧ RVs w w' (v :: cargs) rs vs
def RVN (N : Nat → Prop) (w' : World) (cargs : List Value) : RV → Value → Prop
  | .el e, v => ElR e v
  | .nil, v => v = .slice none 0 0
  | .fresh e vec, v => ∃ vs, w'.ownsRow 0 e vec.k.sz v vec.xs.length vs ∧ AllR SCR vec.cells vs ∧ ∀ g, v.ownBlock = some g → N g
  | .arg i, v => cargs[i]? = some v
  | _, _ => False
def CXOK (P : Program) (f e : Nat) (z : (k : K) × List (List k.ty)) (rs : List RV) : Prop :=
  ∀ (w : World) (v : Value) (I : Nat → Prop), LL2 I w v e z →
    Calls P f #[v] w fun en w' => ∃ vs, en = .returned (packV vs) ∧ Keep (fun k => k < w.heap.size ∧ v.ownBlock ≠ some k ∧ ¬ I k) w w' ∧ AllR (RVN (fun g => w.heap.size ≤ g ∨ v.ownBlock = some g ∨ I g) w' [v]) rs vs ∧
      ∀ (i j : Nat) (r r' : RV) (v v' : Value) (g : Nat), i ≠ j → rs[i]? = some r → rs[j]? = some r' → r.isFresh = true → r'.isFresh = true → vs[i]? = some v → vs[j]? = some v' → v.ownBlock = some g → v'.ownBlock ≠ some g
def CMOK (P : Program) (f : Nat) (vec : Vec) (args : List FV) (rs : List RV) (vec' : Vec) : Prop :=
  (vec.k.is2 = false → CM1OK P f vec args rs vec') ∧ ∀ z, vec.two = some z → bif vec'.k.isAl then args = [] ∧ CXOK P f (goneE vec') z rs else ∃ z', vec'.two = some z' ∧ CM2OK P f z args rs z'
def CutOK (P : Program) (f : Nat) (vec : Vec) (args : List FV) (vec' : Vec) : Prop :=
  ∀ (w : World) (e : Nat) (v : Value) (cargs : List Value), (∃ vs, w.ownsRow 0 e vec.k.sz v vec.xs.length vs ∧ AllR SCR vec.cells vs) →
    AllR (FVR w (fun k => k < w.heap.size ∧ v.ownBlock ≠ some k) [] []) args cargs →
    Calls P f (v :: cargs).toArray w fun en w' => ∃ u, en = .returned u ∧ Keep (fun k => k < w.heap.size ∧ v.ownBlock ≠ some k) w w' ∧
      (∃ vs', w'.ownsRow 0 e vec'.k.sz u vec'.xs.length vs' ∧ AllR SCR vec'.cells vs') ∧ ∀ g, u.ownBlock = some g → v.ownBlock = some g ∨ w.heap.size ≤ g
def aggD : TypeDesc → Bool
  | .struct _ | .array _ _ => true
  | _ => false
structure TOK (P : Program) (T : TT) : Prop where
  mo : P.follows .mixedOrders = true
  sl : ∀ t e, T.sl t = some e → P.underlying t = some (.slice e)
  s1 : ∀ t e, T.sl t = some e → ∃ i, P.info? t = some i ∧ i.size = 1 ∧ i.zero = some (.slice none 0 0) ∧ i.bytes ≤ 64
  ek : ∀ t k, T.ek t = some k → ∃ i z d, P.info? t = some i ∧ i.size = k.sz ∧ i.zero = some z ∧ ElR (k.f k.z) z ∧ i.bytes ≤ 64 ∧ P.underlying t = some d ∧
    aggD d = k.agg
  fo : ∀ t f o, T.fo t f = some o → ∃ fs fd i d, P.underlying t = some (.struct fs) ∧ fs[f]? = some fd ∧ fd.offset = o ∧ P.info? fd.type = some i ∧ i.size = 1 ∧
    P.underlying fd.type = some d ∧ aggD d = false
  bd : ∀ t k, T.ek t = some k → k.agg = true → ∃ (fs : Array Field) (places : Array (Nat × Nat)), P.underlying t = some (.struct fs) ∧
    (∀ w : World, (fs.mapM fun f => (do pure (f.offset, ← sizeOf f.type) : Sem (Nat × Nat))).run P w = .ok places w) ∧ ∀ f o, T.fo t f = some o → places[f]? = some (o, 1) ∧ o < k.sz
  nk : ∀ t n, T.nk t = some n → P.underlying t = some n.desc
  S : ∀ f args k out, T.S f args k = some out → ∃ rs, CallOK P f args rs ∧ k rs = some out
  M : ∀ f vec args k out, T.M f vec args k = some out → ∃ rs vec', Real P f ∧ CMOK P f vec args rs vec' ∧ k rs vec' = some out
  D : ∀ f vec args k out, T.D f vec args k = some out → ∃ vec', Real P f ∧ CutOK P f vec args vec' ∧ k vec' = some out
def Yields (P : Program) (o : Oper) (a : Act) (w : World) (Φ : Value → World → Prop) : Prop :=
  match (execOp a.eval o).run P w with
  | .ok (.value v) w' => Φ v w'
  | .ok .skip w' => Φ undef w'
  | .ok (.enter f args) w' => Calls P f args w' fun e w'' => ∃ v, e = .returned v ∧ Φ v w''
  | _ => False
theorem Yields.wp {P : Program} {o : Oper} {a : Act} {w : World} {Φ : Value → World → Prop} {K : Act → World → Prop} {Q : Exit → Act → World → Prop}
    (h : Yields P o a w Φ) (hk : ∀ v w', Φ v w' → K (a.put o.dst v) w') : o.wp P a w K Q := by
  unfold Yields at h
  unfold Oper.wp
  generalize (execOp a.eval o).run P w = r at *
  cases r with
  | ok n w' =>
    cases n <;> simp only at h <;> simp only [Oper.upon]
    case value v => exact hk _ _ h
    case skip => exact hk _ _ h
    case enter f args =>
      exact h.mono fun e w'' ⟨v, he, hv⟩ => by subst he; exact hk _ _ hv
  | halt x w' => exact h.elim
theorem Yields.mono {P : Program} {o : Oper} {a : Act} {w : World} {Φ Φ' : Value → World → Prop} (h : Yields P o a w Φ) (hm : ∀ v w', Φ v w' → Φ' v w') : Yields P o a w Φ' := by
  unfold Yields at *
  generalize (execOp a.eval o).run P w = r at *
  cases r with
  | ok n w' =>
    cases n <;> simp only at h ⊢
    case value v => exact hm _ _ h
    case skip => exact hm _ _ h
    case enter f args => exact h.mono fun e w'' ⟨v, he, hv⟩ => ⟨v, he, hm _ _ hv⟩
  | halt x w' => exact h.elim
theorem yields_value {P : Program} {o : Oper} {a : Act} {w w' : World} {x : Sem Value} {v : Value} {Φ : Value → World → Prop} (he : execOp a.eval o = (do pure (.value (← x)))) (hx : x.run P w = .ok v w') (h : Φ v w') : Yields P o a w Φ := by
  unfold Yields
  rw [he]
  simp only [Sem.run_bind, hx, Result.andThen_ok, Sem.run_pure]
  exact h
theorem yields_gives {P : Program} {o : Oper} {a : Act} {w : World} {x : Sem Value} {Ψ : Value → Prop} (he : execOp a.eval o = (do pure (.value (← x)))) (hx : Gives P w x Ψ) : Yields P o a w (fun v w' => Ψ v ∧ Same w w') := by
  obtain ⟨v, w', h1, h2, h3⟩ := hx
  exact yields_value he h1 ⟨h2, h3⟩
structure Opd (Pr : Nat → Prop) (w : World) (ρ cargs : List Value) (s : St) (a : Act) (op : Op) : Prop where
  fv : ∀ x ∈ op.operands, ∀ v, evO s x = some v → FVR w Pr ρ cargs v (a.eval x)
  tup : ∀ t, .tmp t ∈ op.operands → ∀ xs, lk s.sl t = some (.tup xs) → ∃ vs, a.eval (.tmp t) = .tuple vs.toArray ∧ AllR (FVR w Pr ρ cargs) xs vs
theorem constO_ok {v : Value} {x : FV} (h : constO v = some x) (w : World) (Pr : Nat → Prop) (ρ cargs : List Value) : FVR w Pr ρ cargs x v := by
  unfold constO at h
  split at h
  · cases h; exact rfl
  · cases h; exact rfl
  · rename_i k b
    cases hn : isN k b with
    | true => rw [hn] at h; cases h
    | false => rw [hn] at h; cases h; exact ⟨b, rfl, cn_num hn⟩
  · rename_i k a b
    cases hn : isN k a || isN k b with
    | true => rw [hn] at h; cases h
    | false =>
      rw [hn] at h
      cases h
      rw [Bool.or_eq_false_iff] at hn
      exact ⟨a, b, rfl, cn_num hn.1, cn_num hn.2⟩
  · cases h; exact rfl
  · cases h
theorem Opd.of_slots {Pr : Nat → Prop} {w : World} {ρ cargs : List Value} {s : St} {a : Act} {op : Op}
    (h : ∀ t, .tmp t ∈ op.operands → ∀ v, lk s.sl t = some v → AVR w Pr ρ cargs v (a.tmps.getD t undef)) : Opd Pr w ρ cargs s a op := by
  refine ⟨fun x hx v hv => ?_, fun t ht xs hxs => h t ht _ hxs⟩
  cases x with
  | tmp t =>
    unfold evO at hv
    dsimp only at hv
    split at hv
    · rename_i u hu
      cases hv
      exact h t hx _ hu
    · cases hv
  | const c => exact constO_ok hv w Pr ρ cargs
  | global g => cases hv
  | func f =>
    simp only [evO, Option.some.injEq] at hv
    subst hv
    exact ⟨[], rfl, trivial⟩
section
variable {P : Program} {T : TT} {w : World} {Pr : Nat → Prop} {ρ cargs : List Value} {H : Hp}
theorem base_cells (hH : HR w Pr ρ H) (hp : ∀ k, Pr k → k < w.heap.size) {p : PT} {v : Value} {vec : Vec} (hv : PtR w Pr ρ p v) (hb : baseVec H p.b = some vec) :
    ∃ a, v = .pointer (some (a.add (p.i * p.sz + p.j))) ∧ CellsR w a vec.cells ∧ a.block < w.heap.size := by
  unfold PtR at hv
  split at hv
  · rename_i vec' hpv
    rw [hpv] at hb
    cases hb
    obtain ⟨a, h1, h2, _, h4⟩ := hv
    exact ⟨a, h4, h2, hp _ h1⟩
  · rename_i r hpr
    rw [hpr] at hb
    obtain ⟨vr, g, h1, h2, h3⟩ := hv
    unfold baseVec at hb
    dsimp only at hb
    split at hb
    · rename_i row hrow
      cases hb
      obtain ⟨v', hv', vs, hown, hvs, _⟩ := hH.row r row hrow
      rw [h1] at hv'
      cases hv'
      refine ⟨⟨g, 0, none⟩, ?_, ?_, (hown.lt g h2).2⟩
      · rw [h3]
        unfold Addr.add
        split
        · rename_i h0; rw [h0]
        · simp
      · intro i c hi
        obtain ⟨u, hu, hc⟩ := hvs.get i c hi
        exact ⟨u, hown.cells h2 i u hu, hc⟩
    · cases hb
  · rename_i j hpj
    rw [hpj] at hb
    cases hb
  · rename_i kd xss hpj
    rw [hpj] at hb
    cases hb
theorem cells_list {a : Addr} {cs : List SC} {n m : Nat} (h : CellsR w a cs) (hn : n + m ≤ cs.length) :
    ∃ vs, vs.length = m ∧ AllR SCR ((cs.drop n).take m) vs ∧ ∀ j u, vs[j]? = some u → w.cell? ((a.add n).add j) = some u := by
  induction m with
  | zero => exact ⟨[], rfl, by simp [AllR], by simp⟩
  | succ m ih =>
    obtain ⟨vs, h1, h2, h3⟩ := ih (by omega)
    have hlt : n + m < cs.length := by omega
    obtain ⟨u, hu, hs⟩ := h (n + m) cs[n + m] (List.getElem?_eq_getElem hlt)
    refine ⟨vs ++ [u], by simp [h1], ?_, ?_⟩
    · have e : (cs.drop n).take (m + 1) = (cs.drop n).take m ++ [cs[n + m]] := by
        rw [List.take_add_one, List.getElem?_drop, List.getElem?_eq_getElem hlt]; rfl
      rw [e]
      exact h2.append ⟨hs, trivial⟩
    · intro j x hx
      rw [List.getElem?_append] at hx
      split at hx
      · exact h3 j x hx
      · rename_i hj
        have : j = m := by
          rw [h1] at hj hx
          by_cases e : j - m = 0
          · omega
          · obtain ⟨q, hq⟩ : ∃ q, j - m = q + 1 := ⟨j - m - 1, by omega⟩
            rw [hq] at hx
            simp at hx
        subst this
        rw [h1] at hx
        simp at hx
        subst hx
        rw [add_add]
        exact hu
theorem isAgg_run {t : Nat} {d : TypeDesc} {b : Bool} (hu : P.underlying t = some d) (hd : aggD d = b) : (isAgg t).run P w = .ok b w := by
  unfold isAgg
  rw [Sem.run_bind, run_underlying hu w]
  cases d <;> simp [aggD] at hd <;> simp [← hd]
theorem elt_cells {a : Addr} {vec : Vec} {x : vec.k.ty} {i : Nat} (h : CellsR w a vec.cells) (hx : vec.xs[i]? = some x) :
    ∃ vs, vs.length = vec.k.sz ∧ AllR SCR (vec.k.f x).cells vs ∧ ∀ j u, vs[j]? = some u → w.cell? ((a.add (i * vec.k.sz)).add j) = some u := by
  have hi : i < vec.xs.length := by
    rcases Nat.lt_or_ge i vec.xs.length with h' | h'
    · exact h'
    · rw [List.getElem?_eq_none h'] at hx; cases hx
  have hle : i * vec.k.sz + vec.k.sz ≤ vec.cells.length := by
    rw [vec.len_cells]
    calc i * vec.k.sz + vec.k.sz = (i + 1) * vec.k.sz := by rw [Nat.add_mul]; omega
      _ ≤ vec.xs.length * vec.k.sz := Nat.mul_le_mul_right _ hi
  obtain ⟨vs, h1, h2, h3⟩ := cells_list h hle
  refine ⟨vs, h1, ?_, h3⟩
  have e : (vec.cells.drop (i * vec.k.sz)).take vec.k.sz = (vec.k.f x).cells := by
    apply List.ext_getElem?
    intro j
    rw [List.getElem?_take]
    split
    · rename_i hj
      rw [List.getElem?_drop]
      exact vec.get_cells i j x hx hj
    · rename_i hj
      rw [List.getElem?_eq_none]
      rw [vec.k.len_f]
      omega
  rw [e] at h2
  exact h2
theorem loadD_ok (hT : TOK P T) {t : Nat} {p : PT} {k : FV → R} {out : Out} (h : loadD T H t p k = some out) :
    ∃ x, k x = some out ∧ ∀ (w : World) (Pr : Nat → Prop) (ρ cargs : List Value) (v : Value), (∀ k, Pr k → k < w.heap.size) → HR w Pr ρ H → PtR w Pr ρ p v → ∃ u, (Instr.loadAt t v).run P w = .ok u w ∧ FVR w Pr ρ cargs x u := by
  unfold loadD at h
  split at h
  · rename_i q vec hq hb
    obtain ⟨i, z, d, hi, hsz, _, _, _, hd, hagg⟩ := hT.ek t q hq
    cases hs : Nat.beq p.sz vec.k.sz with
    | false => rw [hs] at h; cases h
    | true =>
    rw [hs] at h
    replace hs := Nat.eq_of_beq_eq_true hs
    simp only [cond_true] at h
    split at h
    · rename_i a ha
      cases hqa : q.agg with
      | true =>
        rw [hqa] at h hagg
        simp only [cond_true] at h
        cases hc : (decide (q = vec.k) && Nat.beq p.j 0) with
        | false => rw [hc] at h; cases h
        | true =>
          rw [hc] at h
          rw [Bool.and_eq_true] at hc
          have hqk : q = vec.k := of_decide_eq_true hc.1
          have hj : p.j = 0 := Nat.eq_of_beq_eq_true hc.2
          refine ⟨_, h, ?_⟩
          intro w Pr ρ cargs v hp hH hv
          obtain ⟨b, rfl, hcells, _⟩ := base_cells hH hp hv hb
          obtain ⟨vs, h1, h2, h3⟩ := elt_cells hcells ha
          obtain ⟨cs, hcs⟩ := K.agg_f (by rw [← hqk]; exact hqa) a
          refine ⟨.agg vs.toArray, ?_, ?_⟩
          · have hl := run_loadCells_list (P := P) w (b.add (p.i * p.sz + p.j)) vs (by rw [hj, hs, Nat.add_zero]; exact h3)
            rw [h1, ← hqk, ← hsz] at hl
            simp [Instr.loadAt, Instr.sureAddr, loadVar, isAgg_run hd hagg, sizeOf, typeInfo, hi, hl]
          · show ElR (vec.k.f a) _
            rw [hcs] at h2 ⊢
            exact ⟨vs, rfl, h2⟩
      | false =>
        rw [hqa] at h hagg
        simp only [cond_false] at h
        split at h
        · rename_i c hc
          refine ⟨_, h, ?_⟩
          intro w Pr ρ cargs v hp hH hv
          obtain ⟨b, rfl, hcells, _⟩ := base_cells hH hp hv hb
          obtain ⟨vs, h1, h2, h3⟩ := elt_cells hcells ha
          obtain ⟨u, hu, hcu⟩ := h2.get p.j c hc
          have h4 := h3 p.j u hu
          rw [add_add, ← hs] at h4
          refine ⟨u, ?_, hcu⟩
          simp [Instr.loadAt, Instr.sureAddr, loadVar, isAgg_run hd hagg, h4]
        · cases h
    · cases h
  · cases h
theorem loadK_ok (hT : TOK P T) {t : Nat} {p : PT} {k : FV → R} {out : Out} (h : loadK T H t p k = some out) :
    ∃ x, k x = some out ∧ ∀ (w : World) (Pr : Nat → Prop) (ρ cargs : List Value) (v : Value), (∀ k, Pr k → k < w.heap.size) → HR w Pr ρ H → PtR w Pr ρ p v → ∃ u, (Instr.loadAt t v).run P w = .ok u w ∧ FVR w Pr ρ cargs x u := by
  unfold loadK at h
  have hagg : ∀ e, aggD (.slice e) = false := fun _ => rfl
  split at h
  · rename_i j hb
    split at h
    · rename_i e he
      cases hz : Nat.beq (p.i * p.sz + p.j) 0 with
      | false => rw [hz] at h; cases h
      | true =>
        rw [hz] at h
        refine ⟨_, h, ?_⟩
        intro w Pr ρ cargs v hp hH hv
        unfold PtR at hv
        rw [hb] at hv
        obtain ⟨a, u, h1, h2, h3, rfl⟩ := hv
        rw [Nat.eq_of_beq_eq_true hz]
        exact ⟨u, by simp [Instr.loadAt, Instr.sureAddr, loadVar, isAgg_run (hT.sl t e he) (hagg e), Addr.add, h3], h2⟩
    · cases h
  · rename_i kd xss hb
    split at h
    · rename_i e he
      split at h
      · rename_i xs hi
        refine ⟨_, h, ?_⟩
        intro w Pr ρ cargs v hp hH hv
        unfold PtR at hv
        rw [hb] at hv
        obtain ⟨a, h1, h2, rfl⟩ := hv
        obtain ⟨u, hu, hw⟩ := h2 _ xs hi
        exact ⟨u, by simp [Instr.loadAt, Instr.sureAddr, loadVar, isAgg_run (hT.sl t e he) (hagg e), hu], hw, fun i hi => by cases hi⟩
      · cases h
    · cases h
  · exact loadD_ok hT h
theorem fieldAddr_ok (hT : TOK P T) {t f o : Nat} (h : T.fo t f = some o) (a : Addr) : (Instr.fieldAt t (.pointer (some a)) f).run P w = .ok (.pointer (some (a.add o))) w := by
  obtain ⟨fs, fd, i, d, h1, h2, h3, h4, h5, _, _⟩ := hT.fo t f o h
  simp [Instr.fieldAt, run_underlying h1, h2, Instr.sureAddr, fieldPlace, sizeOf, typeInfo, h4, h5, h3]
theorem PtR.add {p : PT} {v : Value} {o : Nat} (h : PtR w Pr ρ p v) : ∃ a, v = .pointer (some a) ∧ PtR w Pr ρ ⟨p.b, p.sz, p.i, p.j + o⟩ (.pointer (some (a.add o))) := by
  unfold PtR at *
  split at h
  · rename_i vec hb
    obtain ⟨a, h1, h2, h3, h4⟩ := h
    refine ⟨_, h4, ?_⟩
    simp only [hb]
    exact ⟨a, h1, h2, h3, by rw [add_add, Nat.add_assoc]⟩
  · rename_i r hb
    obtain ⟨vr, g, h1, h2, h3⟩ := h
    refine ⟨_, h3, ?_⟩
    simp only [hb]
    refine ⟨vr, g, h1, h2, ?_⟩
    unfold Addr.add
    split
    · rename_i h0; subst h0; rfl
    · simp [Nat.add_assoc]
  · rename_i j hb
    obtain ⟨a, u, h1, h2, h3, h4⟩ := h
    refine ⟨_, h4, ?_⟩
    simp only [hb]
    exact ⟨a, u, h1, h2, h3, by rw [add_add, Nat.add_assoc]⟩
  · rename_i kd xss hb
    obtain ⟨a, h1, h2, h3⟩ := h
    refine ⟨_, h3, ?_⟩
    simp only [hb]
    exact ⟨a, h1, h2, by rw [add_add, Nat.add_assoc]⟩
theorem slice_ok (hH : HR w Pr ρ H) {x : FV} {v : Value} {b : Base} {vec : Vec} (hx : FVR w Pr ρ cargs x v) (hs : slice? H x = some (b, vec)) :
    baseVec H b = some vec ∧ ((v = .slice none 0 0 ∧ vec.xs = []) ∨ ∃ a cap, v = .slice (some a) vec.xs.length cap ∧ vec.xs.length ≤ cap ∧ CellsR w a vec.cells ∧
      ∀ i j : Nat, vec.xs ≠ [] → PtR w Pr ρ ⟨b, vec.k.sz, i, j⟩ (.pointer (some (a.add (i * vec.k.sz + j))))) := by
  unfold slice? at hs
  split at hs
  · rename_i o vc
    simp only [Option.some.injEq, Prod.mk.injEq] at hs
    obtain ⟨rfl, rfl⟩ := hs
    refine ⟨rfl, ?_⟩
    rcases hx.1 with h | ⟨a, cap, h1, h2, h3, h4⟩
    · exact .inl h
    · exact .inr ⟨a, cap, h1, h2, h4, fun i j hne => ⟨a, h3.resolve_left hne, h4, rfl, rfl⟩⟩
  · rename_i r
    split at hs
    · rename_i row hrow
      simp only [Option.some.injEq, Prod.mk.injEq] at hs
      obtain ⟨rfl, rfl⟩ := hs
      refine ⟨by simp [baseVec, hrow], ?_⟩
      obtain ⟨v', hv', vs, hown, hvs, _⟩ := hH.row r row hrow
      have hx' : ρ[r]? = some v := hx
      rw [hx'] at hv'
      cases hv'
      rcases hown.2 with ⟨h1, h2⟩ | ⟨g, cap, cur, h1, _, h3, h4, _⟩
      · exact .inl ⟨h1, List.eq_nil_of_length_eq_zero h2⟩
      · refine .inr ⟨⟨g, 0, none⟩, cap, h1, h4, ?_, ?_⟩
        · intro i c hi
          obtain ⟨u, hu, hc⟩ := hvs.get i c hi
          exact ⟨u, hown.cells (by rw [h1]; rfl) i u hu, hc⟩
        · intro i j _
          refine ⟨v, g, hx', by rw [h1]; rfl, ?_⟩
          unfold Addr.add
          split
          · rename_i h0; rw [h0]
          · simp
    · cases hs
  · rename_i kd
    simp only [Option.some.injEq, Prod.mk.injEq] at hs
    obtain ⟨rfl, rfl⟩ := hs
    obtain ⟨a, cap, h⟩ := hx
    exact ⟨rfl, .inr ⟨a, cap, h, Nat.zero_le _, fun i s hi => by simp [Vec.cells] at hi, fun i j hne => absurd rfl hne⟩⟩
  · cases hs
theorem indexAddr_ok (hT : TOK P T) (hH : HR w Pr ρ H) {t e : Nat} {kd : K} {x : FV} {v : Value} {b : Base} {vec : Vec} {q : IntKind} {n : Int} (ht : T.sl t = some e) (he : T.ek e = some kd) (hk : kd = vec.k)
    (hx : FVR w Pr ρ cargs x v) (hs : slice? H x = some (b, vec)) (h0 : 0 ≤ n) (h1 : n < (vec.xs.length : Int)) :
    ∃ u, (Instr.indexAt t v (.int q n)).run P w = .ok u w ∧ PtR w Pr ρ ⟨b, vec.k.sz, n.toNat, 0⟩ u := by
  obtain ⟨_, h⟩ := slice_ok hH hx hs
  obtain ⟨i, z, d, hi, hsz, _⟩ := hT.ek e kd he
  rcases h with ⟨_, h2⟩ | ⟨a, cap, rfl, _, _, h4⟩
  · rw [h2] at h1
    simp at h1
    omega
  · refine ⟨_, ?_, by have := h4 n.toNat 0 (by intro e; rw [e] at h1; simp at h1; omega); rw [Nat.add_zero] at this; exact this⟩
    subst hk
    simp [Instr.indexAt, asIntOf, run_underlying (hT.sl t e ht), h0, h1, sizeOf, typeInfo, hi, hsz]
theorem indexIn_ok (hT : TOK P T) {t e e2 : Nat} {kd : K} {xss : List (List kd.ty)} {v : Value} {q : IntKind} {n : Int} (ht : T.sl t = some e) (he : T.sl e = some e2)
    (hx : VvR w Pr v kd xss) (h0 : 0 ≤ n) (h1 : n < (xss.length : Int)) :
    ∃ u, (Instr.indexAt t v (.int q n)).run P w = .ok u w ∧ ∃ a, Pr a.block ∧ InR w Pr a kd xss ∧ u = .pointer (some (a.add n.toNat)) := by
  obtain ⟨i, hi, hsz, _⟩ := hT.s1 e e2 he
  rcases hx with ⟨_, h2⟩ | ⟨a, cap, rfl, _, h3, h4⟩
  · rw [h2] at h1
    simp at h1
    omega
  · refine ⟨.pointer (some (a.add n.toNat)), ?_, a, h3.resolve_left (by intro e; rw [e] at h1; simp at h1; omega), h4, rfl⟩
    simp [Instr.indexAt, asIntOf, run_underlying (hT.sl t e ht), h0, h1, sizeOf, typeInfo, hi, hsz]
theorem loadIn_ok (hT : TOK P T) {t e i : Nat} {kd : K} {xss : List (List kd.ty)} {xs : List kd.ty} {v : Value} (ht : T.sl t = some e) (hx : ∃ a, Pr a.block ∧ InR w Pr a kd xss ∧ v = .pointer (some (a.add i))) (hi : xss[i]? = some xs) :
    ∃ u, (Instr.loadAt t v).run P w = .ok u w ∧ VwR w Pr u ⟨kd, xs⟩ := by
  obtain ⟨a, _, h2, rfl⟩ := hx
  obtain ⟨u, hu, hv⟩ := h2 i xs hi
  have hagg : aggD (.slice e) = false := rfl
  exact ⟨u, by simp [Instr.loadAt, Instr.sureAddr, loadVar, isAgg_run (hT.sl t e ht) hagg, hu], hv⟩
theorem indexM_ok (hT : TOK P T) {t e e2 r e' : Nat} {π : List (Option Nat)} {v : Value} {q : IntKind} {n : Int} (ht : T.sl t = some e) (he : T.sl e = some e2)
    (hx : FVR w Pr ρ cargs (.mv r e' π) v) (h0 : 0 ≤ n) (h1 : n < (π.length : Int)) :
    ∃ u, (Instr.indexAt t v (.int q n)).run P w = .ok u w ∧ FVR w Pr ρ cargs (.pm r e' π n.toNat) u := by
  obtain ⟨i, hi, hsz, _⟩ := hT.s1 e e2 he
  obtain ⟨hv, hM⟩ := hx
  have hM2 := hM
  obtain ⟨v', g, us, a1, a2, a3, a4, a5⟩ := hM2
  rw [hv] at a1
  cases a1
  rcases a4.2 with ⟨rfl, _⟩ | ⟨g', cap, cur, rfl, _⟩
  · cases a2
  · refine ⟨.pointer (some ((⟨g', 0, none⟩ : Addr).add n.toNat)), ?_, ⟨_, g', hv, rfl, ?_⟩, hM⟩
    · simp [Instr.indexAt, asIntOf, run_underlying (hT.sl t e ht), h0, h1, sizeOf, typeInfo, hi, hsz]
    · unfold Addr.add
      split
      · rename_i h5; rw [h5]
      · simp
theorem loadM_ok (hT : TOK P T) {t e r e' i j : Nat} {π : List (Option Nat)} {v : Value} (ht : T.sl t = some e) (hx : FVR w Pr ρ cargs (.pm r e' π i) v) (hi : π[i]? = some (some j)) :
    ∃ u, (Instr.loadAt t v).run P w = .ok u w ∧ FVR w Pr ρ cargs (.own j) u := by
  obtain ⟨⟨vr, g, h1, h2, h3⟩, v', g', us, a1, a2, a3, a4, a5⟩ := hx
  rw [h1] at a1
  cases a1
  rw [h2] at a2
  cases a2
  obtain ⟨u, hu, hj⟩ := a5 i j hi
  have hc := a4.cells h2 i u hu
  have hcell : w.cell? ⟨g, i, none⟩ = some u := by
    first
      | exact hc
      | (unfold Addr.add at hc; split at hc <;> simp_all)
  have hagg : aggD (.slice e) = false := rfl
  subst h3
  exact ⟨u, by simp [Instr.loadAt, Instr.sureAddr, loadVar, isAgg_run (hT.sl t e ht) hagg, hcell], hj⟩
theorem indexOwn_ok (hT : TOK P T) (hH : HR w Pr ρ H) {t e e2 r : Nat} {row : Row} {v : Value} {q : IntKind} {n : Int} (ht : T.sl t = some e) (he : T.sl e = some e2) (hrow : llAt H r = some row)
    (hx : ρ[r]? = some v) (h0 : 0 ≤ n) (h1 : n < (row.v.xs.length : Int)) :
    ∃ u, (Instr.indexAt t v (.int q n)).run P w = .ok u w ∧ ∃ vr g, ρ[r]? = some vr ∧ vr.ownBlock = some g ∧ u = .pointer (some ⟨g, n.toNat, none⟩) := by
  obtain ⟨i, hi, hsz, _⟩ := hT.s1 e e2 he
  obtain ⟨z, hz⟩ := two_some (llAt_is2 hrow).1
  obtain ⟨I, hI⟩ := hH.ll
  obtain ⟨v', us, h2, h3, _⟩ := hI r row z hrow hz
  rw [hx] at h2
  cases h2
  rw [← two_len hz] at h1
  rcases h3.2 with ⟨_, h4⟩ | ⟨g, cap, cur, rfl, _⟩
  · omega
  · refine ⟨.pointer (some ((⟨g, 0, none⟩ : Addr).add n.toNat)), ?_, _, g, hx, rfl, ?_⟩
    · simp [Instr.indexAt, asIntOf, run_underlying (hT.sl t e ht), h0, h1, sizeOf, typeInfo, hi, hsz]
    · unfold Addr.add
      split
      · rename_i h5; rw [h5]
      · simp
theorem len_ok (hT : TOK P T) (hH : HR w Pr ρ H) {t e ty : Nat} {x : FV} {v : Value} {n : Int} (ht : T.sl t = some e) (hx : FVR w Pr ρ cargs x v) (hn : lenO H x = some n) :
    (Builtin.len_ #[t] ty #[v]).run P w = .ok (.int .i64 n) w := by
  have key : ∀ a l cap, v = .slice a l cap → n = (l : Int) → (Builtin.len_ #[t] ty #[v]).run P w = .ok (.int .i64 n) w := by
    rintro a l cap rfl rfl
    simp [Builtin.len_, run_underlying (hT.sl t e ht), goInt]
  unfold lenO at hn
  split at hn
  · cases hn
    have hv : v = .slice none 0 0 := hx
    exact key _ _ _ hv rfl
  · cases hn
    rcases hx.1 with ⟨h1, h2⟩ | ⟨a, cap, h1, _⟩
    · exact key _ _ _ h1 (by rw [h2]; rfl)
    · exact key _ _ _ h1 rfl
  · cases hn
    obtain ⟨hv, v', g, us, a1, a2, a3, a4, a5⟩ := hx
    rw [hv] at a1
    cases a1
    rcases a4.2 with ⟨rfl, _⟩ | ⟨g', cap, cur, rfl, _⟩
    · cases a2
    · exact key _ _ _ rfl rfl
  · split at hn
    · rename_i b vec hs
      cases hn
      rcases (slice_ok hH hx hs).2 with ⟨h1, h2⟩ | ⟨a, cap, h1, _⟩
      · exact key _ _ _ h1 (by rw [h2]; rfl)
      · exact key _ _ _ h1 rfl
    · unfold lenLL at hn
      split at hn
      · rename_i r _ _ _ _
        split at hn
        · rename_i row hrow
          cases hn
          obtain ⟨z, hz⟩ := two_some (llAt_is2 hrow).1
          obtain ⟨I, hI⟩ := hH.ll
          obtain ⟨v', us, h1, h2, _⟩ := hI r row z hrow hz
          have hx' : ρ[r]? = some v := hx
          rw [hx'] at h1
          cases h1
          have hlen := two_len hz
          rcases h2.2 with ⟨h3, h4⟩ | ⟨g, cap, cur, h3, _⟩
          · exact key _ _ _ h3 (by rw [← hlen, h4])
          · exact key _ _ _ h3 (by rw [hlen])
        · cases hn
      · cases hn
end
end Go.Sm
namespace Go.Sm
open Go Go.RowKit
section
variable {P : Program} {T : TT}
theorem FVR.same {w w' : World} {Pr : Nat → Prop} {ρ cargs : List Value} {x : FV} {v : Value} (h : FVR w Pr ρ cargs x v) (hs : Same w w') (hp : ∀ k, Pr k → k < w.heap.size) : FVR w' Pr ρ cargs x v :=
  h.keep (fun k hk => hs.block k (hp k hk)) (fun _ _ h => h)
theorem AVR.same {w w' : World} {Pr : Nat → Prop} {ρ cargs : List Value} {x : AV} {v : Value} (h : AVR w Pr ρ cargs x v) (hs : Same w w') (hp : ∀ k, Pr k → k < w.heap.size) : AVR w' Pr ρ cargs x v :=
  h.keep (fun k hk => hs.block k (hp k hk)) (fun _ _ h => h)
def Quiet (P : Program) (o : Oper) (s : St) (av : AV) : Prop :=
  ∀ (a : Act) (w : World) (Pr : Nat → Prop) (ρ cargs : List Value), (∀ k, Pr k → k < w.heap.size) → HR w Pr ρ s.H → Opd Pr w ρ cargs s a o.op →
    Yields P o a w fun v w' => AVR w Pr ρ cargs av v ∧ Same w w'
theorem quiet_fv {o : Oper} {s : St} {x : FV}
    (h : ∀ (a : Act) (w : World) (Pr : Nat → Prop) (ρ cargs : List Value), (∀ k, Pr k → k < w.heap.size) → HR w Pr ρ s.H → Opd Pr w ρ cargs s a o.op →
      ∃ X : Sem Value, execOp a.eval o = (do pure (.value (← X))) ∧ Gives P w X (FVR w Pr ρ cargs x)) : Quiet P o s (.fv x) := by
  intro a w Pr ρ cargs hp hH ho
  obtain ⟨X, h1, h2⟩ := h a w Pr ρ cargs hp hH ho
  exact (yields_gives h1 h2).mono fun v w' ⟨h3, h4⟩ => ⟨h3, h4⟩
theorem gives_ok {w : World} {X : Sem Value} {v : Value} {Φ : Value → Prop} (h : X.run P w = .ok v w) (hv : Φ v) : Gives P w X Φ := ⟨v, w, h, hv, Same.refl w⟩
theorem evAll_mem {s : St} : ∀ {xs : List Operand} {vs : List FV}, evAll s xs = some vs → ∀ {Pr : Nat → Prop} {w : World} {ρ cargs : List Value} {a : Act}, (∀ x ∈ xs, ∀ v, evO s x = some v → FVR w Pr ρ cargs v (a.eval x)) → AllR (FVR w Pr ρ cargs) vs (xs.map a.eval)
  | [], vs, h, _, _, _, _, _, _ => by simp [evAll] at h; subst h; trivial
  | x :: xs, vs, h, Pr, w, ρ, cargs, a, hm => by
    unfold evAll at h
    split at h
    · rename_i y ys hy hys
      cases h
      exact ⟨hm x (by simp) y hy, evAll_mem hys fun z hz => hm z (by simp [hz])⟩
    · cases h
theorem evParts_mem {s : St} : ∀ {ps : List (Nat × Operand)} {vs : List (Nat × FV)}, evParts s ps = some vs → ∀ {Pr : Nat → Prop} {w : World} {ρ cargs : List Value} {a : Act}, (∀ p ∈ ps, ∀ v, evO s p.2 = some v → FVR w Pr ρ cargs v (a.eval p.2)) →
    AllR (fun (x : Nat × FV) (y : Nat × Value) => x.1 = y.1 ∧ FVR w Pr ρ cargs x.2 y.2) vs (ps.map fun p => (p.1, a.eval p.2))
  | [], vs, h, _, _, _, _, _, _ => by simp [evParts] at h; subst h; trivial
  | (i, x) :: ps, vs, h, Pr, w, ρ, cargs, a, hm => by
    unfold evParts at h
    split at h
    · rename_i y ys hy hys
      cases h
      exact ⟨⟨rfl, hm (i, x) (by simp) y hy⟩, evParts_mem hys fun z hz => hm z (by simp [hz])⟩
    · cases h
theorem AllR.one {α β : Type} {R : α → β → Prop} {a : α} {bs : List β} (h : AllR R [a] bs) : ∃ b, bs = [b] ∧ R a b := by
  match bs, h with
  | [b], h => exact ⟨b, rfl, h.1⟩
theorem AllR.two {α β : Type} {R : α → β → Prop} {a a' : α} {bs : List β} (h : AllR R [a, a'] bs) : ∃ b b', bs = [b, b'] ∧ R a b ∧ R a' b' := by
  match bs, h with
  | [b, b'], h => exact ⟨b, b', rfl, h.1, h.2.1⟩
theorem foldl_set (off : Nat) : ∀ (vs : List Value) (n : Nat) (cells : Array Value), off + n + vs.length ≤ cells.size →
    ((vs.zipIdx n).foldl (fun (cs : Array Value) (x : Value × Nat) => cs.setIfInBounds (off + x.2) x.1) cells).toList = cells.toList.take (off + n) ++ vs ++ cells.toList.drop (off + n + vs.length)
  | [], n, cells, _ => by simp
  | v :: vs, n, cells, h => by
    have ih := foldl_set off vs (n + 1) (cells.setIfInBounds (off + n) v) (by simp at h ⊢; omega)
    simp only [List.zipIdx_cons, List.foldl_cons]
    rw [ih]
    have e := list_seg_step cells.toList (off + n) v vs (by simp at h ⊢; omega)
    rw [Array.toList_setIfInBounds, List.length_cons, ← e]
    rw [show off + (n + 1) = off + n + 1 from by omega]
theorem fill_step (off : Nat) (vs : List Value) (cells : Array Value) (h : off + vs.length ≤ cells.size) :
    (vs.toArray.zipIdx.foldl (fun cs (x : Value × Nat) => cs.setIfInBounds (off + x.2) x.1) cells) = (cells.toList.take off ++ vs ++ cells.toList.drop (off + vs.length)).toArray := by
  apply Array.ext'
  have := foldl_set off vs 0 cells (by simpa using h)
  simp only [Nat.add_zero] at this
  rw [← this]
  simp
theorem fill_ok {t sz : Nat} {places : Array (Nat × Nat)} (hp : ∀ f o, T.fo t f = some o → places[f]? = some (o, 1) ∧ o < sz) : ∀ (ps : List (Nat × SC)) (vs : List (Nat × Value)) (cs : List SC) (us : Array Value) (cs' : List SC),
    fillCells T t ps cs = some cs' → AllR (fun (x : Nat × SC) (y : Nat × Value) => x.1 = y.1 ∧ SCR x.2 y.2) ps vs → AllR SCR cs us.toList → us.size = sz →
    ∃ us' : Array Value, Instr.fill (places[·]?) us vs = some us' ∧ AllR SCR cs' us'.toList
  | [], [], cs, us, cs', h, _, hc, _ => by simp [fillCells] at h; subst h; exact ⟨us, rfl, hc⟩
  | (f, c) :: ps, (f', v) :: vs, cs, us, cs', h, hv, hc, hs => by
    obtain ⟨⟨hf, hcv⟩, hr⟩ := hv
    dsimp only at hf hcv
    subst hf
    unfold fillCells at h
    split at h
    · rename_i o ho
      obtain ⟨h1, h2⟩ := hp f o ho
      have hset : us.toList.take o ++ [v] ++ us.toList.drop (o + 1) = us.toList.set o v := by
        rw [List.set_eq_take_append_cons_drop, if_pos (by simp; omega)]
        simp
      obtain ⟨us', h3, h4⟩ := fill_ok hp ps vs (cs.set o c) (us.toList.set o v).toArray cs' h hr (by simpa using hc.set o hcv) (by simpa using hs)
      refine ⟨us', ?_, h4⟩
      unfold Instr.fill
      rw [h1]
      dsimp only
      rw [SCR.cells hcv]
      have hle : ¬ (#[v] : Array Value).size ≠ 1 ∧ ¬ o + (#[v] : Array Value).size > us.size := ⟨by simp, by simp; omega⟩
      rw [if_neg (by simp; omega)]
      have hst := fill_step o [v] us (by simp; omega)
      simp only [List.length_cons, List.length_nil, Nat.zero_add] at hst
      rw [hset] at hst
      rw [show (#[v] : Array Value) = [v].toArray from rfl, hst]
      exact h3
    · cases h
  | [], _ :: _, _, _, _, _, h, _, _ => h.elim
  | _ :: _, [], _, _, _, _, h, _, _ => h.elim
theorem fillVec_ok {k : K} : ∀ (ps : List (Nat × FV)) (vs : List (Nat × Value)) (xs : List k.ty) (us : Array Value) (ys : List k.ty) {Pr : Nat → Prop} {w : World} {ρ cargs : List Value},
    fillVec k ps xs = some ys → AllR (fun (x : Nat × FV) (y : Nat × Value) => x.1 = y.1 ∧ FVR w Pr ρ cargs x.2 y.2) ps vs → AllR SCR (xs.flatMap fun a => (k.f a).cells) us.toList →
    ∃ us' : Array Value, Instr.fill (fun i => some (i * k.sz, k.sz)) us vs = some us' ∧ AllR SCR (ys.flatMap fun a => (k.f a).cells) us'.toList ∧ ys.length = xs.length
  | [], [], xs, us, ys, _, _, _, _, h, _, hc => by simp [fillVec] at h; subst h; exact ⟨us, rfl, hc, rfl⟩
  | (i, x) :: ps, (i', v) :: vs, xs, us, ys, Pr, w, ρ, cargs, h, hv, hc => by
    obtain ⟨⟨hf, hcv⟩, hr⟩ := hv
    dsimp only at hf hcv
    subst hf
    cases x with
    | el e =>
      unfold fillVec at h
      split at h
      · rename_i a ha
        cases hi : decide (i < xs.length) with
        | false => rw [hi] at h; cases h
        | true =>
          rw [hi] at h
          replace hi := of_decide_eq_true hi
          have hfa := K.g_f ha
          subst hfa
          obtain ⟨cs, hcs, hcv⟩ := ElR.cells hcv
          have hl1 : cs.length = k.sz := by rw [← hcv.length, K.len_f]
          have hl2 : us.size = xs.length * k.sz := by rw [← Array.length_toList, ← hc.length, flat_len _ _ k.len_f]
          have hle : i * k.sz + k.sz ≤ us.size := by
            rw [hl2]
            calc i * k.sz + k.sz = (i + 1) * k.sz := by rw [Nat.add_mul]; omega
              _ ≤ xs.length * k.sz := Nat.mul_le_mul_right _ hi
          have hst := fill_step (i * k.sz) cs us (by rw [hl1]; exact hle)
          have hnew : AllR SCR ((xs.set i a).flatMap fun a => (k.f a).cells) (us.toList.take (i * k.sz) ++ cs ++ us.toList.drop (i * k.sz + cs.length)) := by
            rw [flat_set _ _ k.len_f xs i a hi, hl1]
            exact ((hc.take _).append hcv).append (hc.drop _)
          obtain ⟨us', h3, h4, h5⟩ := fillVec_ok ps vs (xs.set i a) (us.toList.take (i * k.sz) ++ cs ++ us.toList.drop (i * k.sz + cs.length)).toArray ys h hr (by simpa using hnew)
          refine ⟨us', ?_, h4, by rw [h5]; simp⟩
          unfold Instr.fill
          dsimp only
          rw [hcs, if_neg (by simp [hl1]; omega), hst]
          exact h3
      · cases h
    | nil => simp [fillVec] at h
    | vw o vec => simp [fillVec] at h
    | own r => simp [fillVec] at h
    | pt p => simp [fillVec] at h
    | fn f caps => simp [fillVec] at h
    | vv o kd xss => simp [fillVec] at h
    | pv kd xss i => simp [fillVec] at h
    | ne k => simp [fillVec] at h
    | pl r i => simp [fillVec] at h
    | mv r e π => simp [fillVec] at h
    | pm r e π i => simp [fillVec] at h
  | [], _ :: _, _, _, _, _, _, _, _, _, h, _ => h.elim
  | _ :: _, [], _, _, _, _, _, _, _, _, h, _ => h.elim
theorem execOp_call {a : Act} {o : Oper} {c : Call} (h : o.op = .call c) : execOp a.eval o = (do let d ← resolve a.eval c o.type; invoke d.target d.args) := by
  unfold execOp; rw [h]
theorem yields_builtin {o : Oper} {a : Act} {w w' : World} {b : Builtin} {args : Array Operand} {ts : Array TypeId} {v : Value} {Φ : Value → World → Prop}
    (ho : o.op = .call { callee := .builtin b, args := args, argTypes := ts })
    (h : ∀ consts, (builtin b ts o.type consts (args.map a.eval)).run P w = .ok (.value v) w') (hv : Φ v w') : Yields P o a w Φ := by
  unfold Yields
  rw [execOp_call ho]
  simp only [resolve, invoke, Sem.run_bind, Sem.run_pure, Result.andThen_ok, h]
  exact hv
theorem run_real' (w : World) (ts : Array TypeId) (t : TypeId) (k : FloatKind) (a b : Nat) : (Builtin.real_ ts t #[.complex k a b]).run P w = .ok (.float k a) w := rfl
theorem run_imag' (w : World) (ts : Array TypeId) (t : TypeId) (k : FloatKind) (a b : Nat) : (Builtin.imag_ ts t #[.complex k a b]).run P w = .ok (.float k b) w := rfl
theorem run_complex' (w : World) (ts : Array TypeId) (t : TypeId) (k : FloatKind) (a b : Nat) : (Builtin.complex_ ts t #[.float k a, .float k b]).run P w = .ok (.complex k a b) w := by cases k <;> rfl
theorem map_args {a : Act} {args : Array Operand} {xs : List Value} (h : args.toList.map a.eval = xs) : args.map a.eval = xs.toArray := by
  subst h
  apply Array.ext'
  rw [Array.toList_map]
theorem quiet_builtin (hT : TOK P T) {o : Oper} {s : St} {k : AV → Hp → R} {out : Out} {b : Builtin} {args : Array Operand} {ts : Array TypeId}
    (ho : o.op = .call { callee := .builtin b, args := args, argTypes := ts }) (q : Bool) (hb : q = true ∨ (b ≠ .append ∧ b ≠ .copy))
    (h : opK T q (.call { callee := .builtin b, args := args, argTypes := ts }) s k = some out) : ∃ av, k av s.H = some out ∧ Quiet P o s av := by
  unfold opK at h
  dsimp only at h
  split at h
  · cases h
  rename_i xs hxs
  have hev : ∀ {Pr : Nat → Prop} {w : World} {ρ cargs : List Value} {a : Act}, Opd Pr w ρ cargs s a o.op → AllR (FVR w Pr ρ cargs) xs (args.toList.map a.eval) := by
    intro Pr w ρ cargs a hop
    refine evAll_mem hxs fun x hx v hv => hop.fv x ?_ v hv
    rw [ho]
    simpa [Op.operands, Call.operands] using hx
  split at h
  · -- len
    rename_i x
    split at h
    · rename_i t ht
      split at h
      · rename_i e n he hn
        refine ⟨_, h, ?_⟩
        intro a w Pr ρ cargs hp hH hop
        obtain ⟨v, hv, hxv⟩ := (hev hop).one
        refine yields_builtin ho (v := .int .i64 n) (w' := w) ?_ ⟨rfl, Same.refl w⟩
        intro consts
        have hts : ts = #[t] := by rw [← Array.toArray_toList (xs := ts), ht]
        rw [map_args hv, hts]
        have := len_ok hT hH (ty := o.type) he hxv hn
        simp [builtin, this]
      · cases h
    · cases h
  · -- max
    rename_i c d
    obtain ⟨r, hr, hm⟩ := mxK_ok h
    refine ⟨_, hr, ?_⟩
    intro a w Pr ρ cargs hp hH hop
    obtain ⟨u, v, hv, hu1, hu2⟩ := (hev hop).two
    obtain ⟨z, w', h1, h2, h3⟩ := hm P w u v hu1 hu2
    simp only [cond_true] at h1
    refine yields_builtin ho (v := z) (w' := w') ?_ ⟨h2, h3⟩
    intro consts
    rw [map_args hv]
    simp [builtin, Builtin.max_, h1]
  · -- min
    rename_i c d
    obtain ⟨r, hr, hm⟩ := mxK_ok h
    refine ⟨_, hr, ?_⟩
    intro a w Pr ρ cargs hp hH hop
    obtain ⟨u, v, hv, hu1, hu2⟩ := (hev hop).two
    obtain ⟨z, w', h1, h2, h3⟩ := hm P w u v hu1 hu2
    simp only [cond_false] at h1
    refine yields_builtin ho (v := z) (w' := w') ?_ ⟨h2, h3⟩
    intro consts
    rw [map_args hv]
    simp [builtin, Builtin.min_, h1]
  · -- real
    refine ⟨_, h, ?_⟩
    intro a w Pr ρ cargs hp hH hop
    obtain ⟨v, hv, x, y, rfl, hx, hy⟩ := (hev hop).one
    refine yields_builtin ho (v := .float _ x) (w' := w) ?_ ⟨⟨x, rfl, hx⟩, Same.refl w⟩
    intro consts
    rw [map_args hv]
    simp [builtin, run_real' w]
  · -- imag
    refine ⟨_, h, ?_⟩
    intro a w Pr ρ cargs hp hH hop
    obtain ⟨v, hv, x, y, rfl, hx, hy⟩ := (hev hop).one
    refine yields_builtin ho (v := .float _ y) (w' := w) ?_ ⟨⟨y, rfl, hy⟩, Same.refl w⟩
    intro consts
    rw [map_args hv]
    simp [builtin, run_imag' w]
  · -- complex
    rename_i q1 a1 q2 b1
    cases hq : decide (q1 = q2) with
    | false => rw [hq] at h; cases h
    | true =>
      rw [hq] at h
      replace hq := of_decide_eq_true hq
      subst hq
      refine ⟨_, h, ?_⟩
      intro a w Pr ρ cargs hp hH hop
      obtain ⟨u, v, hv, ⟨x, rfl, hx⟩, ⟨y, rfl, hy⟩⟩ := (hev hop).two
      refine yields_builtin ho (v := .complex _ x y) (w' := w) ?_ ⟨⟨x, y, rfl, hx, hy⟩, Same.refl w⟩
      intro consts
      rw [map_args hv]
      simp [builtin, run_complex' w]
  · -- copy
    rcases hb with rfl | hb
    · cases h
    · exact absurd rfl hb.2
  · -- append
    rcases hb with rfl | hb
    · cases h
    · exact absurd rfl hb.1
  · cases h
section
variable {w : World} {Pr : Nat → Prop} {ρ cargs : List Value} {H : Hp}
theorem VwR.wide {v : Value} {vec : Vec} (hp : ∀ k, Pr k → k < w.heap.size) (h : VwR w Pr v vec) : VwR w (fun k => k < w.heap.size) v vec := by
  rcases h with h | ⟨a, cap, h1, h2, h3, h4⟩
  · exact .inl h
  · exact .inr ⟨a, cap, h1, h2, h3.imp id (hp _), h4⟩
theorem RowR.view {v : Value} {e : Nat} {vec : Vec} (h : RowR w Pr v e vec) : VwR w (fun k => k < w.heap.size) v vec := by
  obtain ⟨vs, hown, hvs, _⟩ := h
  rcases hown.2 with ⟨h1, h2⟩ | ⟨g, cap, cur, h1, _, h3, h4, _⟩
  · exact .inl ⟨h1, List.eq_nil_of_length_eq_zero h2⟩
  · refine .inr ⟨⟨g, 0, none⟩, cap, h1, h4, .inr (hown.lt g (by rw [h1]; rfl)).2, ?_⟩
    intro i c hi
    obtain ⟨u, hu, hc⟩ := hvs.get i c hi
    exact ⟨u, hown.cells (by rw [h1]; rfl) i u hu, hc⟩
theorem InR.wide (hp : ∀ k, Pr k → k < w.heap.size) {a : Addr} {kd : K} {xss : List (List kd.ty)} (h : InR w Pr a kd xss) : InR w (fun k => k < w.heap.size) a kd xss := by
  intro i xs hi
  obtain ⟨u, hu, hv⟩ := h i xs hi
  exact ⟨u, hu, hv.wide hp⟩
theorem closeP_ok (hH : HR w Pr ρ H) (hp : ∀ k, Pr k → k < w.heap.size) {p q : PT} {v : Value} (hv : PtR w Pr ρ p v) (h : closeP H p = some q) : PtR w (fun k => k < w.heap.size) [] q v := by
  unfold closeP at h
  split at h
  · rename_i vec hb
    cases hs : Nat.beq p.sz vec.k.sz with
    | false => rw [hs] at h; cases h
    | true =>
      rw [hs] at h
      cases h
      obtain ⟨a, h1, h2, h3⟩ := base_cells hH hp hv hb
      exact ⟨a, h3, h2, Nat.eq_of_beq_eq_true hs, h1⟩
  · split at h
    · rename_i j hb
      split at h
      · rename_i row hrow
        cases h
        unfold PtR at hv
        rw [hb] at hv
        obtain ⟨a, u, h1, h2, h3, h4⟩ := hv
        obtain ⟨v', hv', hr⟩ := hH.row j row hrow
        rw [h2] at hv'
        cases hv'
        refine ⟨a, hp _ h1, fun i xs hi => ?_, h4⟩
        cases i with
        | zero =>
          simp at hi
          subst hi
          exact ⟨u, by simpa [Addr.add] using h3, hr.view⟩
        | succ i => simp at hi
      · cases h
    · rename_i kd xss hb
      cases h
      unfold PtR at hv
      rw [hb] at hv
      obtain ⟨a, h1, h2, h3⟩ := hv
      exact ⟨a, hp _ h1, h2.wide hp, h3⟩
    · cases h
theorem closePs_ok (hH : HR w Pr ρ H) (hp : ∀ k, Pr k → k < w.heap.size) : ∀ {ps qs : List PT} {vs : List Value}, AllR (PtR w Pr ρ) ps vs → closePs H ps = some qs → AllR (PtR w (fun k => k < w.heap.size) []) qs vs
  | [], qs, [], _, h => by simp [closePs] at h; subst h; trivial
  | p :: ps, qs, v :: vs, hv, h => by
    unfold closePs at h
    split at h
    · rename_i q qs' hq hqs
      cases h
      exact ⟨closeP_ok hH hp hv.1 hq, closePs_ok hH hp hv.2 hqs⟩
    · cases h
  | [], _, _ :: _, hv, _ => hv.elim
  | _ :: _, _, [], hv, _ => hv.elim
theorem LLR.view (hl : LLR w Pr ρ H) {r : Nat} {row : Row} {z : (k : K) × List (List k.ty)} {v : Value} (h : llAt H r = some row) (hz : row.v.two = some z) (hv : ρ[r]? = some v) : VvR w (fun k => k < w.heap.size) v z.1 z.2 := by
  obtain ⟨I, hI⟩ := hl
  obtain ⟨v', us, h1, hown, hin, _, _, _, hb⟩ := hI r row z h hz
  rw [hv] at h1
  cases h1
  rcases hown.2 with ⟨h1, h2⟩ | ⟨g, cap, cur, h1, _, h3, h4, _⟩
  · exact .inl ⟨h1, List.eq_nil_of_length_eq_zero h2⟩
  · refine .inr ⟨⟨g, 0, none⟩, cap, h1, h4, .inr (hown.lt g (by rw [h1]; rfl)).2, fun i xs hi => ?_⟩
    obtain ⟨u, hu, hvw⟩ := hin.get i xs hi
    exact ⟨u, hown.cells (by rw [h1]; rfl) i u hu, hvw.vw.wide fun k hk => (hb k (.inl hk)).1⟩
theorem close_ok (hH : HR w Pr ρ H) (hp : ∀ k, Pr k → k < w.heap.size) {x y : FV} {v : Value} (hv : FVR w Pr ρ cargs x v) (h : close H x = some y) : FVR w (fun k => k < w.heap.size) [] [] y v := by
  unfold close at h
  split at h
  · cases h; exact hv
  · cases h; exact hv
  · cases h; exact ⟨hv.1.wide hp, fun i hi => by cases hi⟩
  · rename_i r
    split at h
    · rename_i row hrow
      cases h
      obtain ⟨v', hv', hr⟩ := hH.row r row hrow
      have hv2 : ρ[r]? = some v := hv
      rw [hv2] at hv'
      cases hv'
      exact ⟨hr.view, fun i hi => by cases hi⟩
    · split at h
      · rename_i row hrow
        split at h
        · rename_i z hz
          cases h
          exact ⟨hH.ll.view hrow hz hv, fun i hi => by cases hi⟩
        · cases h
      · cases h
  · split at h
    · rename_i q hq
      cases h
      exact closeP_ok hH hp hv hq
    · cases h
  · split at h
    · rename_i qs hqs
      cases h
      obtain ⟨cs, h1, h2⟩ := hv
      exact ⟨cs, h1, closePs_ok hH hp h2 hqs⟩
    · cases h
  · cases h
    refine ⟨?_, fun i hi => by cases hi⟩
    rcases hv.1 with h | ⟨a, cap, h1, h2, h3, h4⟩
    · exact .inl h
    · exact .inr ⟨a, cap, h1, h2, h3.imp id (hp _), h4.wide hp⟩
  · cases h
    obtain ⟨a, h1, h2, h3⟩ := hv
    exact ⟨a, hp _ h1, h2.wide hp, h3⟩
  · cases h
    exact hv
  · cases h
  · cases h
  · cases h
theorem closeAll_ok (hH : HR w Pr ρ H) (hp : ∀ k, Pr k → k < w.heap.size) : ∀ {xs ys : List FV} {vs : List Value}, AllR (FVR w Pr ρ cargs) xs vs → closeAll H xs = some ys → AllR (FVR w (fun k => k < w.heap.size) [] []) ys vs
  | [], ys, [], _, h => by simp [closeAll] at h; subst h; trivial
  | x :: xs, ys, v :: vs, hv, h => by
    unfold closeAll at h
    split at h
    · rename_i y ys' hy hys
      cases h
      exact ⟨close_ok hH hp hv.1 hy, closeAll_ok hH hp hv.2 hys⟩
    · cases h
  | [], _, _ :: _, hv, _ => hv.elim
  | _ :: _, _, [], hv, _ => hv.elim
theorem takeBack_quiet {w w' w'' : World} {args : List FV} {cargs2 : List Value} : ∀ {rs : List RV} {vs : List Value} {xs : List FV} {H' : Hp}, quietRV rs = true → AllR (RVR w w' cargs2) rs vs → takeBack args H rs = some (xs, H') → H' = H ∧ AllR (FVR w'' Pr ρ cargs) xs vs
  | [], [], xs, H', _, _, h => by simp [takeBack] at h; obtain ⟨rfl, rfl⟩ := h; exact ⟨rfl, trivial⟩
  | .el e :: rs, v :: vs, xs, H', hq, hv, h => by
    unfold takeBack at h
    split at h
    · rename_i ys H2 h2
      cases h
      obtain ⟨h3, h4⟩ := takeBack_quiet (rs := rs) hq hv.2 h2
      exact ⟨h3, hv.1, h4⟩
    · cases h
  | .nil :: _, _, _, _, hq, _, _ => by cases hq
  | .fresh _ _ :: _, _, _, _, hq, _, _ => by cases hq
  | .arg _ :: _, _, _, _, hq, _, _ => by cases hq
  | [], _ :: _, _, _, _, hv, _ => hv.elim
  | .el _ :: _, [], _, _, _, hv, _ => hv.elim
theorem packed_ok {xs : List FV} {vs : List Value} (h : AllR (FVR w Pr ρ cargs) xs vs) : AVR w Pr ρ cargs (packed xs) (packV vs) := by
  match xs, vs, h with
  | [], [], h => exact ⟨[], rfl, trivial⟩
  | [x], [v], h => exact h.1
  | x :: y :: xs, v :: u :: vs, h => exact ⟨_, rfl, h⟩
end
theorem callFunc_run {f : Nat} (h : Real P f) (args : Array Value) (w : World) : (callFunc f args).run P w = .ok (.enter f args) w := by
  obtain ⟨fn, h1, h2, h3⟩ := h
  have h4 : fn.body.isNone = false := by cases hb : fn.body <;> simp [hb] at h2 ⊢
  simp only [callFunc, Sem.run_bind, run_program, Result.andThen_ok, h1, h3, h4, Bool.false_eq_true, if_false, Sem.run_pure]
theorem yields_call {o : Oper} {a : Act} {w : World} {x : Operand} {args : Array Operand} {ts : Array TypeId} {f : Nat} {cs : List Value} {Φ : Value → World → Prop}
    (ho : o.op = .call { callee := .value x, args := args, argTypes := ts }) (hx : a.eval x = .func (.func f) #[] cs.toArray) (hr : Real P f)
    (h : Calls P f (args.toList.map a.eval ++ cs).toArray w fun e w' => ∃ v, e = .returned v ∧ Φ v w') : Yields P o a w Φ := by
  unfold Yields
  rw [execOp_call ho]
  have e : (#[] ++ args.map a.eval) ++ cs.toArray = (args.toList.map a.eval ++ cs).toArray := by
    apply Array.ext'
    simp
  simp only [resolve, hx, Deferred.ofValue, invoke, Sem.run_bind, Sem.run_pure, Result.andThen_ok, e, callFunc_run hr]
  exact h
theorem yields_callOK {o : Oper} {a : Act} {w : World} {x : Operand} {args : Array Operand} {ts : Array TypeId} {f : Nat} {cs : List Value} {zs : List FV} {rs : List RV}
    (ho : o.op = .call { callee := .value x, args := args, argTypes := ts }) (hx : a.eval x = .func (.func f) #[] cs.toArray) (h : CallOK P f zs rs)
    (hall : AllR (FVR w (fun k => k < w.heap.size) [] []) zs (args.toList.map a.eval ++ cs)) : Yields P o a w fun v w' => ∃ us, v = packV us ∧ Same w w' ∧ RVs w w' (args.toList.map a.eval ++ cs) rs us := by
  rcases h with ⟨hr, hc⟩ | ⟨fn, e, c, h1, h2, h3, h4, h5, rfl, h6⟩
  · exact yields_call ho hx hr ((hc w _ hall).mono fun e w' ⟨us, h1, h2, h3⟩ => ⟨_, h1, us, rfl, h2, h3⟩)
  · obtain ⟨v, w', h7, h8, h9⟩ := h6 w _ hall
    unfold Yields
    rw [execOp_call ho]
    have e1 : (#[] ++ args.map a.eval) ++ cs.toArray = (args.toList.map a.eval ++ cs).toArray := by
      apply Array.ext'
      simp
    simp only [resolve, hx, Deferred.ofValue, invoke, Sem.run_bind, Sem.run_pure, Result.andThen_ok, e1, run_callFunc_extern h1 h2 h3 h4 h5, h7]
    refine ⟨[v], rfl, h9, ⟨⟨h8, trivial⟩, fun i j r r' u u' g _ hi hj hf => ?_⟩⟩
    cases i with
    | zero => simp at hi; subst hi; cases hf
    | succ i => simp at hi
theorem operands_call {x : Operand} {args : Array Operand} {ts : Array TypeId} {y : Operand} (h : y = x ∨ y ∈ args.toList) : y ∈ (Op.call { callee := .value x, args := args, argTypes := ts }).operands := by
  rcases h with rfl | h
  · simp [Op.operands, Call.operands]
  · have : y ∈ args := by simpa using h
    simp [Op.operands, Call.operands, this]
theorem quiet_call (hT : TOK P T) {o : Oper} {s : St} {k : AV → Hp → R} {out : Out} {x : Operand} {args : Array Operand} {ts : Array TypeId}
    (ho : o.op = .call { callee := .value x, args := args, argTypes := ts })
    (h : opK T true (.call { callee := .value x, args := args, argTypes := ts }) s k = some out) : ∃ av, k av s.H = some out ∧ Quiet P o s av := by
  unfold opK at h
  dsimp only at h
  split at h
  · rename_i g caps xs hg hxs
    cases hm : T.mutf g with
    | true => rw [hm] at h; cases h
    | false =>
      rw [hm] at h
      simp only [cond_false] at h
      split at h
      · rename_i zs hzs
        obtain ⟨rs, hcok, hk⟩ := hT.S _ _ _ _ h
        cases hq : quietRV rs with
        | false => rw [hq] at hk; cases hk
        | true =>
          rw [hq] at hk
          simp only [Bool.not_true, Bool.and_false, cond_false] at hk
          split at hk
          · rename_i vs H' htb
            have hH' : H' = s.H := by
              have key : ∀ (rs : List RV) (vs : List FV) (H' : Hp), quietRV rs = true → takeBack xs s.H rs = some (vs, H') → H' = s.H := by
                intro rs
                induction rs with
                | nil => intro vs H' _ h; simp [takeBack] at h; exact h.2.symm
                | cons r rs ih =>
                  intro vs H' hq h
                  cases r with
                  | el e =>
                    unfold takeBack at h
                    split at h
                    · rename_i ys H2 h2
                      cases h
                      exact ih _ _ hq h2
                    · cases h
                  | nil => cases hq
                  | fresh e v => cases hq
                  | arg i => cases hq
                  | new2 e v => cases hq
                  | newv e i => cases hq
              exact key rs vs H' hq htb
            subst hH'
            refine ⟨_, hk, ?_⟩
            intro a w Pr ρ cargs hp hH hop
            have hfn := hop.fv x (by rw [ho]; exact operands_call (.inl rfl)) _ hg
            obtain ⟨cs, hcs, hcaps⟩ := hfn
            have hargs : AllR (FVR w Pr ρ cargs) xs (args.toList.map a.eval) := evAll_mem hxs fun y hy v hv => hop.fv y (by rw [ho]; exact operands_call (.inr hy)) v hv
            have hcaps' : AllR (FVR w Pr ρ cargs) (caps.map .pt) cs := by
              refine AllR.of_get (by simp [hcaps.length]) fun i y v hy hv => ?_
              rw [List.getElem?_map] at hy
              obtain ⟨p, hp1, hp2⟩ := Option.map_eq_some_iff.1 hy
              subst hp2
              obtain ⟨v', hv', hr⟩ := hcaps.get i p hp1
              rw [hv] at hv'
              cases hv'
              exact hr
            have hall := closeAll_ok hH hp (hargs.append hcaps') hzs
            refine (yields_callOK ho hcs hcok hall).mono ?_
            rintro e w' ⟨us, rfl, hsame, hrv⟩
            obtain ⟨_, h5⟩ := takeBack_quiet (H := s.H) (w'' := w) (Pr := Pr) (ρ := ρ) (cargs := cargs) hq hrv.all htb
            exact ⟨packed_ok h5, hsame⟩
          · split at hk
            · cases hq
            · cases hk
      · cases h
  · cases h
end
end Go.Sm
namespace Go.Sm
open Go Go.RowKit
section
variable {P : Program} {T : TT}
theorem exec_eq {o : Oper} {op : Op} (h : o.op = op) (ρ : Operand → Value) : execOp ρ o = execOp ρ { o with op := op } := by
  rw [← h]
theorem cells_sub {w : World} {a : Addr} {vec : Vec} {l n : Nat} (h : CellsR w a vec.cells) : CellsR w (a.add (l * vec.k.sz)) (Vec.cells ⟨vec.k, (vec.xs.drop l).take n⟩) := by
  intro i c hi
  have hsz := vec.k.sz_pos
  have hdm : i = (i / vec.k.sz) * vec.k.sz + i % vec.k.sz := by rw [Nat.mul_comm]; exact (Nat.div_add_mod i vec.k.sz).symm
  have hmod : i % vec.k.sz < vec.k.sz := Nat.mod_lt _ hsz
  have hlt : i < (Vec.cells ⟨vec.k, (vec.xs.drop l).take n⟩).length := by
    rcases Nat.lt_or_ge i (Vec.cells ⟨vec.k, (vec.xs.drop l).take n⟩).length with h' | h'
    · exact h'
    · rw [List.getElem?_eq_none h'] at hi; cases hi
  rw [Vec.len_cells] at hlt
  dsimp only at hlt
  have hq : i / vec.k.sz < ((vec.xs.drop l).take n).length := (Nat.div_lt_iff_lt_mul hsz).2 hlt
  obtain ⟨x, hx⟩ : ∃ x, ((vec.xs.drop l).take n)[i / vec.k.sz]? = some x := ⟨_, List.getElem?_eq_getElem hq⟩
  have h1 := Vec.get_cells ⟨vec.k, (vec.xs.drop l).take n⟩ (i / vec.k.sz) (i % vec.k.sz) x hx hmod
  dsimp only at h1
  rw [← hdm] at h1
  have hx2 : vec.xs[l + i / vec.k.sz]? = some x := by
    rw [List.getElem?_take] at hx
    split at hx
    · rwa [List.getElem?_drop] at hx
    · cases hx
  have h2 := vec.get_cells (l + i / vec.k.sz) (i % vec.k.sz) x hx2 hmod
  have e : (l + i / vec.k.sz) * vec.k.sz + i % vec.k.sz = l * vec.k.sz + i := by rw [Nat.add_mul]; omega
  rw [e] at h2
  rw [hi] at h1
  obtain ⟨u, hu, hs⟩ := h (l * vec.k.sz + i) c (h2.trans h1.symm)
  exact ⟨u, by rw [add_add]; exact hu, hs⟩
theorem boundO_ok {s : St} {x : Option Operand} {d n : Int} (h : boundO s x d = some n) {Pr : Nat → Prop} {w : World} {ρ cargs : List Value} {a : Act}
    (hm : ∀ y, x = some y → ∀ v, evO s y = some v → FVR w Pr ρ cargs v (a.eval y)) : (x = none ∧ n = d) ∨ ∃ y q, x = some y ∧ a.eval y = .int q n := by
  cases x with
  | none => cases h; exact .inl ⟨rfl, rfl⟩
  | some y =>
    unfold boundO at h
    dsimp only at h
    split at h
    · rename_i q m hm2
      cases h
      exact .inr ⟨y, q, rfl, hm y rfl _ hm2⟩
    · cases h
theorem sliceAt_ok (hT : TOK P T) {w : World} {Pr : Nat → Prop} {t e : Nat} {kd : K} {v : Value} {vec : Vec} {lo hi : Option Value} {l h : Int} (ht : T.sl t = some e) (he : T.ek e = some kd) (hk : kd = vec.k)
    (hv : VwR w Pr v vec) (hlo : (lo = none ∧ l = 0) ∨ ∃ q, lo = some (.int q l)) (hhi : (hi = none ∧ h = (vec.xs.length : Int)) ∨ ∃ q, hi = some (.int q h))
    (h0 : 0 ≤ l) (h1 : l ≤ h) (h2 : h ≤ (vec.xs.length : Int)) :
    ∃ u, (Instr.sliceAt t v lo hi none).run P w = .ok u w ∧ VwR w Pr u ⟨vec.k, (vec.xs.drop l.toNat).take (h.toNat - l.toNat)⟩ := by
  obtain ⟨i, z, d, hinfo, hsz, _⟩ := hT.ek e kd he
  subst hk
  have hu := hT.sl t e ht
  have key : ∀ (a : Option Addr) (cap : Nat), vec.xs.length ≤ cap → v = .slice a vec.xs.length cap →
      (Instr.sliceAt t v lo hi none).run P w = .ok (.slice (if cap = l.toNat then a else a.map (·.add (l.toNat * vec.k.sz))) (h.toNat - l.toNat) (cap - l.toNat)) w := by
    rintro a cap hcap rfl
    have hbh : ∀ q, 0 ≤ h ∧ h ≤ (cap : Int) ∧ q = q := fun _ => ⟨by omega, by omega, rfl⟩
    have h3 : 0 ≤ h := by omega
    have h4 : h ≤ (cap : Int) := by omega
    have h5 : l ≤ max h 0 := by omega
    have h6 : l ≤ ((vec.xs.length : Nat) : Int) := by omega
    rcases hlo with ⟨rfl, rfl⟩ | ⟨q1, rfl⟩ <;> rcases hhi with ⟨rfl, rfl⟩ | ⟨q2, rfl⟩ <;>
      simp [Instr.sliceAt, run_underlying hu, Instr.slice, Instr.sliceBounds, Instr.sliceBound, asIntOf, sizeOf, typeInfo, hinfo, hsz, h0, h3, h4, h5, h6]
  rcases hv with ⟨rfl, hx⟩ | ⟨a, cap, rfl, hcap, hpr, hcells⟩
  · rw [hx] at h2
    simp at h2
    have hl : l = 0 := by omega
    have hh : h = 0 := by omega
    subst hl hh
    refine ⟨.slice none 0 0, ?_, .inl ⟨rfl, by simp⟩⟩
    have := key none 0 (by rw [hx]; simp) (by rw [hx]; rfl)
    simpa using this
  · refine ⟨_, key (some a) cap hcap rfl, .inr ⟨if cap = l.toNat then a else a.add (l.toNat * vec.k.sz), cap - l.toNat, ?_, ?_, ?_, ?_⟩⟩
    · split
      · simp; omega
      · simp; omega
    · simp; omega
    · rcases hpr with hpr | hpr
      · exact .inl (by simp [hpr])
      · refine .inr ?_
        split
        · exact hpr
        · rw [add_block]; exact hpr
    · split
      · rename_i hc
        have hz : h.toNat - l.toNat = 0 := by omega
        rw [hz]
        intro i c hi
        simp [Vec.cells] at hi
      · exact cells_sub hcells
theorem Opd.av {w : World} {Pr : Nat → Prop} {ρ cargs : List Value} {s : St} {a : Act} {op : Op} (ho : Opd Pr w ρ cargs s a op) {x : Operand} (hx : x ∈ op.operands) {v : AV} (h : evA s x = some v) : AVR w Pr ρ cargs v (a.eval x) := by
  unfold evA at h
  split at h
  · rename_i t
    split at h
    · rename_i u hu
      cases h
      exact ho.fv (.tmp t) hx u (by unfold evO; dsimp only; rw [hu])
    · rename_i xs hxs
      cases h
      exact ho.tup t hx xs hxs
    · cases h
  · split at h
    · rename_i u hu
      cases h
      exact ho.fv _ hx u hu
    · cases h
theorem opK_quiet (hT : TOK P T) {o : Oper} {s : St} {k : AV → Hp → R} {out : Out} (h : opK T true o.op s k = some out) : ∃ av, k av s.H = some out ∧ Quiet P o s av := by
  cases hop : o.op with
  | move x =>
    rw [hop] at h
    unfold opK at h
    dsimp only at h
    split at h
    · rename_i v hv
      refine ⟨_, h, ?_⟩
      intro a w Pr ρ cargs hp hH ho
      unfold Yields
      rw [exec_eq hop]
      exact ⟨ho.av (by rw [hop]; simp [Op.operands]) hv, Same.refl w⟩
    · cases h
  | assign x =>
    rw [hop] at h
    unfold opK at h
    dsimp only at h
    split at h
    · rename_i v hv
      refine ⟨_, h, ?_⟩
      intro a w Pr ρ cargs hp hH ho
      unfold Yields
      rw [exec_eq hop]
      exact ⟨ho.fv x (by rw [hop]; simp [Op.operands]) v hv, Same.refl w⟩
    · cases h
  | pick c x y =>
    rw [hop] at h
    unfold opK at h
    dsimp only at h
    split at h
    · rename_i t ht
      cases t with
      | true =>
        simp only [cond_true] at h
        split at h
        · rename_i v hv
          refine ⟨_, h, ?_⟩
          intro a w Pr ρ cargs hp hH ho
          have hc : a.eval c = .bool true := ho.fv c (by rw [hop]; simp [Op.operands]) _ ht
          refine yields_value (x := (do pure (if ← asBool (a.eval c) then a.eval x else a.eval y))) (w' := w) (v := a.eval x) (by rw [exec_eq hop]; simp [execOp]) (by simp [hc, asBool]) ?_
          exact ⟨ho.fv x (by rw [hop]; simp [Op.operands]) v hv, Same.refl w⟩
        · cases h
      | false =>
        simp only [cond_false] at h
        split at h
        · rename_i v hv
          refine ⟨_, h, ?_⟩
          intro a w Pr ρ cargs hp hH ho
          have hc : a.eval c = .bool false := ho.fv c (by rw [hop]; simp [Op.operands]) _ ht
          refine yields_value (x := (do pure (if ← asBool (a.eval c) then a.eval x else a.eval y))) (w' := w) (v := a.eval y) (by rw [exec_eq hop]; simp [execOp]) (by simp [hc, asBool]) ?_
          exact ⟨ho.fv y (by rw [hop]; simp [Op.operands]) v hv, Same.refl w⟩
        · cases h
    · cases h
  | binOp b t x y t' =>
    rw [hop] at h
    unfold opK at h
    dsimp only at h
    split at h
    · rename_i c d hc hd
      obtain ⟨r, hr, hb⟩ := binK_ok h
      refine ⟨_, hr, quiet_fv ?_⟩
      intro a w Pr ρ cargs hp hH ho
      refine ⟨_, by rw [exec_eq hop]; rfl, hb P w t x y _ _ ?_ (ho.fv x (by rw [hop]; simp [Op.operands]) _ hc) (ho.fv y (by rw [hop]; simp [Op.operands]) _ hd)⟩
      intro hbool
      cases hn : T.nk t with
      | none => rw [hn] at hbool; cases hbool
      | some n =>
        rw [hn] at hbool
        cases n <;> first | (cases hbool; done) | exact hT.nk t _ hn
    · rename_i o' vec hc hd
      split at h
      · rename_i e he
        cases hb : Nat.ble 1 vec.xs.length with
        | false => rw [hb] at h; cases h
        | true =>
          rw [hb] at h
          have hl := Nat.le_of_ble_eq_true hb
          refine ⟨_, h, quiet_fv ?_⟩
          intro a w Pr ρ cargs hp hH ho
          have h1 := ho.fv x (by rw [hop]; simp [Op.operands]) _ hc
          have h2 : a.eval y = .slice none 0 0 := ho.fv y (by rw [hop]; simp [Op.operands]) _ hd
          have hu := hT.sl t e he
          refine ⟨_, by rw [exec_eq hop]; rfl, gives_ok (v := .bool false) ?_ rfl⟩
          rcases h1.1 with ⟨_, h4⟩ | ⟨ad, cap, h3, _⟩
          · rw [h4] at hl; simp at hl
          · rw [h2, h3, eqGuard_at_slice]
            simp only [Sem.run_bind, Sem.run_pure, Result.andThen_ok]
            rw [Go.Lib.run_eql_slice_nil w t e (some ad) _ _ 0 0 hu]
            rfl
      · cases h
    · rename_i o' kd hc hd
      split at h
      · rename_i e he
        refine ⟨_, h, quiet_fv ?_⟩
        intro a w Pr ρ cargs hp hH ho
        obtain ⟨ad, cap, h3⟩ := ho.fv x (by rw [hop]; simp [Op.operands]) _ hc
        have h2 : a.eval y = .slice none 0 0 := ho.fv y (by rw [hop]; simp [Op.operands]) _ hd
        have hu := hT.sl t e he
        refine ⟨_, by rw [exec_eq hop]; rfl, gives_ok (v := .bool false) ?_ rfl⟩
        rw [h2, h3, eqGuard_at_slice]
        simp only [Sem.run_bind, Sem.run_pure, Result.andThen_ok]
        rw [Go.Lib.run_eql_slice_nil w t e (some ad) _ _ 0 0 hu]
        rfl
      · cases h
    · rename_i o' hc hd
      split at h
      · rename_i e he
        refine ⟨_, h, quiet_fv ?_⟩
        intro a w Pr ρ cargs hp hH ho
        have h3 : a.eval x = .slice none 0 0 := ho.fv x (by rw [hop]; simp [Op.operands]) _ hc
        have h2 : a.eval y = .slice none 0 0 := ho.fv y (by rw [hop]; simp [Op.operands]) _ hd
        have hu := hT.sl t e he
        refine ⟨_, by rw [exec_eq hop]; rfl, gives_ok (v := .bool true) ?_ rfl⟩
        rw [h2, h3, eqGuard_at_slice]
        simp only [Sem.run_bind, Sem.run_pure, Result.andThen_ok]
        rw [Go.Lib.run_eql_slice_nil w t e none _ _ 0 0 hu]
        rfl
      · cases h
    · cases h
  | unOp b t x =>
    rw [hop] at h
    unfold opK at h
    dsimp only at h
    split at h
    · rename_i c hc
      obtain ⟨r, hr, hb⟩ := unK_ok h
      refine ⟨_, hr, quiet_fv ?_⟩
      intro a w Pr ρ cargs hp hH ho
      exact ⟨_, by rw [exec_eq hop]; rfl, hb P w _ (ho.fv x (by rw [hop]; simp [Op.operands]) _ hc)⟩
    · cases h
  | convert src d x =>
    rw [hop] at h
    unfold opK at h
    dsimp only at h
    split at h
    · rename_i n0 n c hn0 hn hc
      obtain ⟨r, hr, hb⟩ := convK_ok h
      refine ⟨_, hr, quiet_fv ?_⟩
      intro a w Pr ρ cargs hp hH ho
      exact ⟨_, by rw [exec_eq hop]; rfl, hb P w src d _ _ (hT.nk _ _ hn0) (hT.nk _ _ hn) (ho.fv x (by rw [hop]; simp [Op.operands]) _ hc)⟩
    · cases h
  | nilCheck x =>
    rw [hop] at h
    unfold opK at h
    dsimp only at h
    split at h
    · rename_i p hc
      refine ⟨_, h, ?_⟩
      intro a w Pr ρ cargs hp hH ho
      have hv := ho.fv x (by rw [hop]; simp [Op.operands]) _ hc
      have hpt : ∃ b, a.eval x = .pointer (some b) := by
        obtain ⟨b, hb, _⟩ := PtR.add (o := 0) (show PtR w Pr ρ p (a.eval x) from hv)
        exact ⟨b, hb⟩
      obtain ⟨b, hb⟩ := hpt
      unfold Yields
      rw [exec_eq hop]
      simp only [execOp, hb, Sem.run_pure]
      exact ⟨by rw [← hb]; exact hv, Same.refl w⟩
    · rename_i f caps hc
      refine ⟨_, h, ?_⟩
      intro a w Pr ρ cargs hp hH ho
      have hv := ho.fv x (by rw [hop]; simp [Op.operands]) _ hc
      obtain ⟨cs, hb, hcs⟩ := hv
      unfold Yields
      rw [exec_eq hop]
      simp only [execOp, hb, Sem.run_pure]
      exact ⟨⟨cs, rfl, hcs⟩, Same.refl w⟩
    · cases h
  | load t x =>
    rw [hop] at h
    unfold opK at h
    dsimp only at h
    split at h
    · rename_i p hc
      obtain ⟨r, hr, hl⟩ := loadK_ok hT h
      refine ⟨_, hr, quiet_fv ?_⟩
      intro a w Pr ρ cargs hp hH ho
      obtain ⟨u, hu, hx⟩ := hl w Pr ρ cargs _ hp hH (ho.fv x (by rw [hop]; simp [Op.operands]) _ hc)
      exact ⟨_, by rw [exec_eq hop]; rfl, gives_ok hu hx⟩
    · rename_i kd xss i hc
      split at h
      · rename_i e he
        split at h
        · rename_i xs hi
          refine ⟨_, h, quiet_fv ?_⟩
          intro a w Pr ρ cargs hp hH ho
          obtain ⟨u, hu, hx⟩ := loadIn_ok hT he (show ∃ b, Pr b.block ∧ InR w Pr b kd xss ∧ a.eval x = .pointer (some (b.add i)) from ho.fv x (by rw [hop]; simp [Op.operands]) _ hc) hi
          exact ⟨_, by rw [exec_eq hop]; rfl, gives_ok hu ⟨hx, fun i hi => by cases hi⟩⟩
        · cases h
      · cases h
    · rename_i r e' π i hc
      split at h
      · rename_i e he
        split at h
        · rename_i j hi
          refine ⟨_, h, quiet_fv ?_⟩
          intro a w Pr ρ cargs hp hH ho
          obtain ⟨u, hu, hx⟩ := loadM_ok hT he (ho.fv x (by rw [hop]; simp [Op.operands]) _ hc) hi
          exact ⟨_, by rw [exec_eq hop]; rfl, gives_ok hu hx⟩
        · cases h
      · cases h
    · cases h
    · cases h
  | fieldAddr t x f =>
    rw [hop] at h
    unfold opK at h
    dsimp only at h
    split at h
    · rename_i p off hc hoff
      refine ⟨_, h, quiet_fv ?_⟩
      intro a w Pr ρ cargs hp hH ho
      obtain ⟨b, hb, hb2⟩ := PtR.add (o := off) (show PtR w Pr ρ p (a.eval x) from ho.fv x (by rw [hop]; simp [Op.operands]) _ hc)
      exact ⟨_, by rw [exec_eq hop]; rfl, gives_ok (by rw [hb]; exact fieldAddr_ok hT hoff b) hb2⟩
    · cases h
  | indexAddr t x i =>
    rw [hop] at h
    unfold opK at h
    dsimp only at h
    split at h
    · rename_i e o kd xss n he hv hn
      split at h
      · rename_i e2 q m he2
        cases hc : decide (0 ≤ m ∧ m < (xss.length : Int)) with
        | false => rw [hc] at h; cases h
        | true =>
          rw [hc] at h
          rw [decide_eq_true_eq] at hc
          refine ⟨_, h, quiet_fv ?_⟩
          intro a w Pr ρ cargs hp hH ho
          have hi : a.eval i = .int q m := ho.fv i (by rw [hop]; simp [Op.operands]) _ hn
          obtain ⟨u, hu, hx⟩ := indexIn_ok hT (q := q) he he2 (ho.fv x (by rw [hop]; simp [Op.operands]) _ hv).1 hc.1 hc.2
          exact ⟨_, by rw [exec_eq hop]; rfl, gives_ok (by rw [hi]; exact hu) hx⟩
      · cases h
    · rename_i e r e' π n he hv hn
      split at h
      · rename_i e2 q m he2
        cases hc : decide (0 ≤ m ∧ m < (π.length : Int)) with
        | false => rw [hc] at h; cases h
        | true =>
          rw [hc] at h
          rw [decide_eq_true_eq] at hc
          refine ⟨_, h, quiet_fv ?_⟩
          intro a w Pr ρ cargs hp hH ho
          have hi : a.eval i = .int q m := ho.fv i (by rw [hop]; simp [Op.operands]) _ hn
          obtain ⟨u, hu, hx⟩ := indexM_ok hT (q := q) he he2 (ho.fv x (by rw [hop]; simp [Op.operands]) _ hv) hc.1 hc.2
          exact ⟨_, by rw [exec_eq hop]; rfl, gives_ok (by rw [hi]; exact hu) hx⟩
      · cases h
    · rename_i e r n he hv hn
      split at h
      · rename_i row hrow
        split at h
        · rename_i e2 q m he2
          cases hc : decide (0 ≤ m ∧ m < (row.v.xs.length : Int)) with
          | false => rw [hc] at h; cases h
          | true =>
            rw [hc] at h
            rw [decide_eq_true_eq] at hc
            refine ⟨_, h, quiet_fv ?_⟩
            intro a w Pr ρ cargs hp hH ho
            have hi : a.eval i = .int q m := ho.fv i (by rw [hop]; simp [Op.operands]) _ hn
            obtain ⟨u, hu, hx⟩ := indexOwn_ok hT hH (q := q) he he2 hrow (show ρ[r]? = some (a.eval x) from ho.fv x (by rw [hop]; simp [Op.operands]) _ hv) hc.1 hc.2
            exact ⟨_, by rw [exec_eq hop]; rfl, gives_ok (by rw [hi]; exact hu) hx⟩
        · cases h
      · split at h
        · rename_i kd b vec q m hkd hsl
          cases hc : (decide (0 ≤ m ∧ m < (vec.xs.length : Int)) && decide (kd = vec.k)) with
          | false => rw [hc] at h; cases h
          | true =>
            rw [hc] at h
            rw [Bool.and_eq_true, decide_eq_true_eq, decide_eq_true_eq] at hc
            refine ⟨_, h, quiet_fv ?_⟩
            intro a w Pr ρ cargs hp hH ho
            have hi : a.eval i = .int q m := ho.fv i (by rw [hop]; simp [Op.operands]) _ hn
            obtain ⟨u, hu, hx⟩ := indexAddr_ok hT hH (q := q) he hkd hc.2 (ho.fv x (by rw [hop]; simp [Op.operands]) _ hv) hsl hc.1.1 hc.1.2
            exact ⟨_, by rw [exec_eq hop]; rfl, gives_ok (by rw [hi]; exact hu) hx⟩
        · cases h
    · rename_i e v n _ _ _ he hv hn
      split at h
      · rename_i kd b vec q m hkd hsl
        cases hc : (decide (0 ≤ m ∧ m < (vec.xs.length : Int)) && decide (kd = vec.k)) with
        | false => rw [hc] at h; cases h
        | true =>
          rw [hc] at h
          rw [Bool.and_eq_true, decide_eq_true_eq, decide_eq_true_eq] at hc
          refine ⟨_, h, quiet_fv ?_⟩
          intro a w Pr ρ cargs hp hH ho
          have hi : a.eval i = .int q m := ho.fv i (by rw [hop]; simp [Op.operands]) _ hn
          obtain ⟨u, hu, hx⟩ := indexAddr_ok hT hH (q := q) he hkd hc.2 (ho.fv x (by rw [hop]; simp [Op.operands]) _ hv) hsl hc.1.1 hc.1.2
          exact ⟨_, by rw [exec_eq hop]; rfl, gives_ok (by rw [hi]; exact hu) hx⟩
      · cases h
    · cases h
  | extract x i =>
    rw [hop] at h
    unfold opK at h
    dsimp only at h
    split at h
    · rename_i t
      split at h
      · rename_i xs hxs
        split at h
        · rename_i v hv
          refine ⟨_, h, quiet_fv ?_⟩
          intro a w Pr ρ cargs hp hH ho
          obtain ⟨vs, h1, h2⟩ := ho.tup t (by rw [hop]; simp [Op.operands]) xs hxs
          obtain ⟨u, hu, hr⟩ := h2.get i v hv
          exact ⟨_, by rw [exec_eq hop]; rfl, gives_ok (v := u) (by rw [h1]; simp [Instr.extract, hu]) hr⟩
        · cases h
      · cases h
    · cases h
  | field t x f =>
    rw [hop] at h
    unfold opK at h
    dsimp only at h
    split at h
    · rename_i cs off hc hoff
      split at h
      · rename_i c hcc
        refine ⟨_, h, quiet_fv ?_⟩
        intro a w Pr ρ cargs hp hH ho
        obtain ⟨vs, h1, h2⟩ := ho.fv x (by rw [hop]; simp [Op.operands]) _ hc
        obtain ⟨u, hu, hr⟩ := h2.get off c hcc
        obtain ⟨fs, fd, i, d, f1, f2, f3, f4, f5, f6, f7⟩ := hT.fo t f off hoff
        refine ⟨_, by rw [exec_eq hop]; rfl, gives_ok (v := u) ?_ hr⟩
        rw [h1]
        simp [Instr.field, run_underlying f1, f2, asAgg, part, isAgg_run f6 f7, f3, hu]
      · cases h
    · cases h
  | slice t x lo hi mx =>
    rw [hop] at h
    unfold opK at h
    cases mx with
    | some m => cases h
    | none =>
      dsimp only at h
      split at h
      · rename_i e og vec he hv
        split at h
        · rename_i kd l hh hkd hl hhi
          cases hc : (decide (0 ≤ l ∧ l ≤ hh ∧ hh ≤ (vec.xs.length : Int)) && decide (kd = vec.k)) with
          | false => rw [hc] at h; cases h
          | true =>
            rw [hc] at h
            rw [Bool.and_eq_true, decide_eq_true_eq, decide_eq_true_eq] at hc
            refine ⟨_, h, quiet_fv ?_⟩
            intro a w Pr ρ cargs hp hH ho
            have hx := ho.fv x (by rw [hop]; simp [Op.operands]) _ hv
            have hb1 := boundO_ok hl (a := a) (w := w) (Pr := Pr) (ρ := ρ) (cargs := cargs) fun y hy v hv => ho.fv y (by rw [hop]; simp [Op.operands, hy]) v hv
            have hb2 := boundO_ok hhi (a := a) (w := w) (Pr := Pr) (ρ := ρ) (cargs := cargs) fun y hy v hv => ho.fv y (by rw [hop]; simp [Op.operands, hy]) v hv
            have hb1' : (lo.map a.eval = none ∧ l = 0) ∨ ∃ q, lo.map a.eval = some (.int q l) := by
              rcases hb1 with ⟨rfl, h⟩ | ⟨y, q, rfl, h⟩
              · exact .inl ⟨rfl, h⟩
              · exact .inr ⟨q, by rw [Option.map_some, h]⟩
            have hb2' : (hi.map a.eval = none ∧ hh = (vec.xs.length : Int)) ∨ ∃ q, hi.map a.eval = some (.int q hh) := by
              rcases hb2 with ⟨rfl, h⟩ | ⟨y, q, rfl, h⟩
              · exact .inl ⟨rfl, h⟩
              · exact .inr ⟨q, by rw [Option.map_some, h]⟩
            obtain ⟨u, hu, hr⟩ := sliceAt_ok hT he hkd hc.2 hx.1 hb1' hb2' hc.1.1 hc.1.2.1 hc.1.2.2
            exact ⟨_, by rw [exec_eq hop]; rfl, gives_ok hu ⟨hr, fun i hi => by cases hi⟩⟩
        · cases h
      · cases h
  | makeFunc fn first captured =>
    rw [hop] at h
    unfold opK at h
    dsimp only at h
    split at h
    · rename_i f xs hf hxs
      split at h
      · rename_i ps hps
        refine ⟨_, h, quiet_fv ?_⟩
        intro a w Pr ρ cargs hp hH ho
        have hall := evAll_mem hxs (Pr := Pr) (w := w) (ρ := ρ) (cargs := cargs) (a := a) fun y hy v hv => ho.fv y (by rw [hop]; simp only [Op.operands]; simp; exact .inr (by simpa using hy)) v hv
        have hpts : AllR (PtR w Pr ρ) ps (captured.toList.map a.eval) := by
          have key : ∀ (xs : List FV) (ps : List PT) (vs : List Value), pts? xs = some ps → AllR (FVR w Pr ρ cargs) xs vs → AllR (PtR w Pr ρ) ps vs := by
            intro xs
            induction xs with
            | nil => intro ps vs h1 h2; simp [pts?] at h1; subst h1; cases vs with
              | nil => trivial
              | cons v vs => exact h2.elim
            | cons x xs ih =>
              intro ps vs h1 h2
              cases vs with
              | nil => exact h2.elim
              | cons v vs =>
                cases x with
                | pt p =>
                  unfold pts? at h1
                  split at h1
                  · rename_i ps' hps'
                    cases h1
                    exact ⟨h2.1, ih _ _ hps' h2.2⟩
                  · cases h1
                | el e => cases h1
                | nil => cases h1
                | vw o v => cases h1
                | own r => cases h1
                | fn f c => cases h1
                | vv o kd xss => cases h1
                | pv kd xss i => cases h1
                | ne k => cases h1
                | pl r i => cases h1
                | mv r e π => cases h1
                | pm r e π i => cases h1
          exact key xs ps _ hps hall
        refine ⟨Instr.makeFunc (.func f) (first.map a.eval) (captured.map a.eval), by rw [exec_eq hop]; rfl, gives_ok (v := .func (.func f) #[] (captured.toList.map a.eval).toArray) ?_ ⟨_, rfl, hpts⟩⟩
        have h1 : first.map a.eval = #[] := by
          apply Array.ext'
          simp [hf]
        have h2 : captured.map a.eval = (captured.toList.map a.eval).toArray := by apply Array.ext'; simp
        rw [h1, h2]
        rfl
      · cases h
    · cases h
  | build t parts =>
    rw [hop] at h
    unfold opK at h
    dsimp only at h
    split at h
    · rename_i kd ps hkd hps
      split at h
      · rename_i ss hss
        split at h
        · rename_i cs hcs
          cases hagg : kd.agg with
          | false => rw [hagg] at h; cases h
          | true =>
            rw [hagg] at h
            refine ⟨_, h, quiet_fv ?_⟩
            intro a w Pr ρ cargs hp hH ho
            obtain ⟨fs, places, b1, b2, b3⟩ := hT.bd t kd hkd hagg
            obtain ⟨i, z, d, hi, hsz, hz, hze, _⟩ := hT.ek t kd hkd
            obtain ⟨zs, hz1, hz2⟩ := ElR.cells hze
            have hparts := evParts_mem hps (Pr := Pr) (w := w) (ρ := ρ) (cargs := cargs) (a := a) fun p hpm v hv => ho.fv p.2 (by rw [hop]; simp only [Op.operands]; simp; exact ⟨p.1, by simpa using hpm⟩) v hv
            have hsc : AllR (fun (x : Nat × SC) (y : Nat × Value) => x.1 = y.1 ∧ SCR x.2 y.2) ss (parts.toList.map fun p => (p.1, a.eval p.2)) := by
              have key : ∀ (ps : List (Nat × FV)) (ss : List (Nat × SC)) (vs : List (Nat × Value)), scParts ps = some ss → AllR (fun (x : Nat × FV) (y : Nat × Value) => x.1 = y.1 ∧ FVR w Pr ρ cargs x.2 y.2) ps vs →
                  AllR (fun (x : Nat × SC) (y : Nat × Value) => x.1 = y.1 ∧ SCR x.2 y.2) ss vs := by
                intro ps
                induction ps with
                | nil => intro ss vs h1 h2; simp [scParts] at h1; subst h1; cases vs with
                  | nil => trivial
                  | cons v vs => exact h2.elim
                | cons p ps ih =>
                  intro ss vs h1 h2
                  cases vs with
                  | nil => exact h2.elim
                  | cons v vs =>
                    obtain ⟨j, x⟩ := p
                    cases x with
                    | el e =>
                      cases e with
                      | sc c =>
                        unfold scParts at h1
                        split at h1
                        · rename_i ss' hss'
                          cases h1
                          exact ⟨h2.1, ih _ _ hss' h2.2⟩
                        · cases h1
                      | ag cs => cases h1
                    | nil => cases h1
                    | vw o v => cases h1
                    | own r => cases h1
                    | pt p => cases h1
                    | fn f c => cases h1
                    | vv o kd xss => cases h1
                    | pv kd xss i => cases h1
                    | ne k => cases h1
                    | pl r i => cases h1
                    | mv r e π => cases h1
                    | pm r e π i => cases h1
              exact key ps ss _ hss hparts
            obtain ⟨us', hf1, hf2⟩ := fill_ok (T := T) (t := t) (sz := kd.sz) b3 ss _ _ z.cells cs hcs hsc (by rw [hz1]; exact hz2) (by rw [hz1, List.size_toArray, ← hz2.length, K.len_f])
            refine ⟨Instr.build t (parts.map fun p => (p.1, a.eval p.2)), by rw [exec_eq hop]; rfl, gives_ok (v := .agg us') ?_ ⟨us'.toList, by simp, hf2⟩⟩
            have hpm : (parts.map fun p => (p.1, a.eval p.2)).toList = parts.toList.map fun p => (p.1, a.eval p.2) := by simp
            simp only [Instr.build, Sem.run_bind, zeroValue, typeInfo, run_program, Result.andThen_ok, hi, Sem.run_pure, hz, run_underlying b1, b2, hpm, hf1]
        · cases h
      · cases h
    · cases h
  | call c =>
    obtain ⟨callee, args, ts⟩ := c
    rw [hop] at h
    cases callee with
    | value x => exact quiet_call hT hop h
    | builtin b => exact quiet_builtin hT hop true (.inl rfl) h
    | invoke r m => unfold opK at h; cases h
  | store t a x => rw [hop] at h; unfold opK at h; cases h
  | box t x => rw [hop] at h; unfold opK at h; cases h
  | alloc t => rw [hop] at h; unfold opK at h; cases h
  | buildSlice t n ps => rw [hop] at h; unfold opK at h; cases h
  | makeSlice t l c => rw [hop] at h; unfold opK at h; cases h
  | _ => rw [hop] at h; unfold opK at h; cases h
end
end Go.Sm
