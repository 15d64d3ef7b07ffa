/- Plain functions over the floats' laws. -/
import Derived.Test.YtngcejakoaoojaaC3
import Derived.Test.YtngcejakoaoojaaF7
namespace Go.Sm
open Go

def andNotI (q : IntKind) (a b : Int) : Int := q.wrap (((BitVec.ofInt q.bits a &&& ~~~(BitVec.ofInt q.bits b)).toNat : Nat) : Int)
def infOf (n : Int) : Nat := bif decide (n ≥ 0) then 9218868437227405312 else 18442240474082181120
/-- The absolute value, by the bits. -/
def fabs (c : Nat) : Nat := cn .f64 (Int.toNat (andNotI .u64 (c : Int) 9223372036854775808))
def signF (c : Nat) : Bool := decide (IntKind.i64.wrap (c : Int) < 0)

/-! ### Lines -/

/-- The square of a number is not below zero. -/
theorem neg_sq_ok (u : Nat) : expOk (fop .sub .f32 0 (fop .mul .f32 u u)) = true := by
  have z1 : isNum .f32 0 = true := by decide
  have z2 : fv .f32 0 = 0 := by decide
  unfold expOk
  rcases word_kind .f32 u with h | ⟨s, h⟩ | h
  · obtain ⟨q, e, hi, _, _⟩ := fop_mul h h
    rw [Bool.xor_self] at e
    rw [e]
    rcases Nat.lt_or_ge q FloatKind.f32.format.infRung with hq | hq
    · have n1 : isNum .f32 (FloatKind.f32.format.word false q) = true := word_isNum _ hq
      have v1 : fv .f32 (FloatKind.f32.format.word false q) = (rv FloatKind.f32.format q : Int) := by rw [fv_word _ (Nat.lt_trans hq FloatKind.f32.format.infRung_lt)]; rfl
      obtain ⟨a1, _, _, a4, _⟩ := subB (z := q) z1 n1 (by rw [z2, v1]; omega) hq
      rw [fcmp_num_leq a1 z1, z2, decide_eq_true (a4 (by rw [z2, v1]; omega)), Bool.or_true]
    · have : q = FloatKind.f32.format.infRung := Nat.le_antisymm hi hq
      subst this
      decide +kernel
  · have e : fop .mul .f32 u u = 2139095040 := by
      have h2 : floatBits .mul .f32 u u = some 2139095040 := by
        show FloatKind.f32.format.mul u u = _
        unfold Ieee.Format.mul
        rw [h]
        cases s <;> decide +kernel
      exact fop_some h2
    rw [e]
    decide +kernel
  · rw [fop_nan_l h, fop_nan_r (isN_nanOf .f32), isN_nanOf]
    rfl

def lineU (l : LineV) (x : Nat) : Nat := fop .quo .f32 (fop .sub .f32 x l.p) l.w
def bellV (l : LineV) (x : Nat) : Nat := fop .mul .f32 l.h (expF (fop .sub .f32 0 (fop .mul .f32 (lineU l x) (lineU l x))))
def hillV (l : LineV) (x : Nat) : Nat := fop .quo .f32 l.h (fop .add .f32 1065353216 (fop .mul .f32 (lineU l x) (lineU l x)))
/-- How high a line is at a place. -/
def lineV (l : LineV) (x : Nat) : Nat :=
  bif l.k == 0 then bellV l x else bif l.k == 1 then hillV l x else bif l.k == 2 then fop .mul .f32 1056964608 (fop .add .f32 (bellV l x) (hillV l x))
  else bif fcmp .gtr .f32 (mag (lineU l x)) 1065353216 then 0 else fop .mul .f32 l.h (fop .sub .f32 1065353216 (mag (lineU l x)))
def lineOk (l : LineV) (x : Nat) : Bool := okLine l && (fin x && fin (lineV l x))

/-! ### Noise -/
def slice (xs : List Nat) (a b : Int) : List Nat := (xs.drop a.toNat).take (b.toNat - a.toNat)
def noiseX (xs : List Nat) (a b : Int) : Nat := fop .quo .f32 (sumF (slice xs a b)) (rootF (sumF (slice xs a b)))
def noiseOk (xs : List Nat) (a b : Int) : Bool :=
  bins xs 1 && (xs.all atLeast0 && (decide (0 ≤ a ∧ a < b ∧ b ≤ (xs.length : Int)) && (above (sumF (slice xs a b)) && fin (noiseX xs a b))))

def notNeg (c : Nat) : Bool := !fcmp .lss .f32 c 0
theorem rot_all : ∀ {xs : List Nat}, xs.all fin = true → xs.all atLeast0 = xs.all notNeg
  | [], _ => rfl
  | x :: xs, h => by
    rw [List.all_cons, Bool.and_eq_true] at h
    rw [List.all_cons, List.all_cons, rot_all h.2]
    congr 1
    have := notRot_eq x
    unfold notRot at this
    unfold notNeg
    rw [h.1] at this
    cases hl : fcmp .lss .f32 x 0 <;> rw [hl] at this <;> simpa using this.symm

theorem inf_noise {x : Nat} (h : fcmp .gtr .f32 x 0 = true) (hf : fin x = false) : fin (fop .quo .f32 x (rootF x)) = false := by
  rw [fin_isNum] at hf
  rcases word_kind .f32 x with h1 | ⟨s, h1⟩ | h1
  · rw [h1] at hf; cases hf
  · have hx : ∀ y, FloatKind.f32.format.read y = .infinity s → fop .quo .f32 x y = nanOf .f32 := by
      intro y hy
      have h2 : floatBits .quo .f32 x y = none := by
        show FloatKind.f32.format.div x y = none
        unfold Ieee.Format.div
        rw [h1, hy]
        rfl
      unfold fop
      rw [h2]
      rfl
    cases s with
    | true =>
      exfalso
      unfold fcmp Ieee.Format.order at h
      rw [h1] at h
      cases h
    | false =>
      have hr : FloatKind.f32.format.read (rootF x) = .infinity false := by
        have hw := wid_inf h1
        have : fsqrt (wid x) = inf64 := by
          unfold fsqrt
          have : FloatKind.f64.format.sqrt (wid x) = some inf64 := by
            unfold Ieee.Format.sqrt
            rw [hw]
            decide +kernel
          rw [this]
          rfl
        unfold rootF
        rw [this]
        decide +kernel
      rw [hx _ hr]
      decide +kernel
  · rw [fop_nan_l h1]
    decide +kernel

end Go.Sm
