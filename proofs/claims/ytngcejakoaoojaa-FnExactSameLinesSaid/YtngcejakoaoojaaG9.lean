/- Pulses: what they turn. -/
import Derived.Test.YtngcejakoaoojaaG8
namespace Go.Sm
open Go

def turns (k w : Nat) : Nat := fop .quo .f64 (wid (fop .mul .f32 k w)) 4618760256179416344
def wholeR (a b : Nat) : Nat := rootF (fop .add .f32 (fop .mul .f32 a a) (fop .mul .f32 b b))
def pulT (p : PulseV) : Nat := turns (fop .mul .f32 1056964608 p.d) (wholeR p.a p.b)
def pulX (p : PulseV) : Nat := bif fcmp .neq .f32 (wholeR p.a p.b) 0 then fop .mul .f32 (fop .quo .f32 p.b (wholeR p.a p.b)) (phIm (pulT p)) else 0
def pulY (p : PulseV) : Nat := bif fcmp .neq .f32 (wholeR p.a p.b) 0 then fop .mul .f32 (fop .quo .f32 p.a (wholeR p.a p.b)) (phIm (pulT p)) else 0
def pulQ (re im y : Nat) : Nat × Nat := (fop .mul .f32 (mulRe re im 0 3212836864) y, fop .mul .f32 (mulIm re im 0 3212836864) y)
def pulList (p : PulseV) : List (Nat × Nat) := [(phRe (pulT p), fop .sub .f32 0 (pulX p)), pulQ (phRe (wid p.c)) (fneg .f32 (phIm (wid p.c))) (pulY p), pulQ (phRe (wid p.c)) (phIm (wid p.c)) (pulY p), (phRe (pulT p), pulX p)]
def finC (z : Nat × Nat) : Bool := fin z.1 && fin z.2
def notFinC (z : Nat × Nat) : Bool := !finC z
def pulIs (p : PulseV) : Bool := atLeast0 p.a && (fin p.b && (fin p.c && atLeast0 p.d))
def pulOk (p : PulseV) : Bool := pulIs p && (pulList p).all finC
theorem pulList_len (p : PulseV) : (pulList p).length = 4 := rfl
theorem not_anyC (xs : List (Nat × Nat)) : (!xs.any notFinC) = xs.all finC := by
  induction xs with
  | nil => rfl
  | cons x xs ih =>
    rw [List.any_cons, List.all_cons, ← ih]
    unfold notFinC
    cases finC x <;> rfl

theorem pul_fin {p : PulseV} (h : pulIs p = true) : fin p.c = true := by
  unfold pulIs at h
  simp only [Bool.and_eq_true] at h
  exact h.2.2.1
/-- The products that the turns of a pulse need can be narrowed. -/
theorem pul_ok {p : PulseV} (h : pulIs p = true) :
    (fconv .f64 .f32 (fop .sub .f64 (fop .mul .f64 (wid (phRe (wid p.c))) (wid 0)) (fop .mul .f64 (wid (fneg .f32 (phIm (wid p.c)))) (wid 3212836864))) = some (mulRe (phRe (wid p.c)) (fneg .f32 (phIm (wid p.c))) 0 3212836864)
      ∧ fconv .f64 .f32 (fop .add .f64 (fop .mul .f64 (wid (phRe (wid p.c))) (wid 3212836864)) (fop .mul .f64 (wid (fneg .f32 (phIm (wid p.c)))) (wid 0))) = some (mulIm (phRe (wid p.c)) (fneg .f32 (phIm (wid p.c))) 0 3212836864))
    ∧ (fconv .f64 .f32 (fop .sub .f64 (fop .mul .f64 (wid (phRe (wid p.c))) (wid 0)) (fop .mul .f64 (wid (phIm (wid p.c))) (wid 3212836864))) = some (mulRe (phRe (wid p.c)) (phIm (wid p.c)) 0 3212836864)
      ∧ fconv .f64 .f32 (fop .add .f64 (fop .mul .f64 (wid (phRe (wid p.c))) (wid 3212836864)) (fop .mul .f64 (wid (phIm (wid p.c))) (wid 0))) = some (mulIm (phRe (wid p.c)) (phIm (wid p.c)) 0 3212836864)) := by
  have hn : isNum .f64 (wid p.c) = true := by rw [wid_isNum]; exact pul_fin h
  obtain ⟨a, b⟩ := ph_small hn
  exact ⟨down_ok a (small_neg b), down_ok a b⟩

end Go.Sm
