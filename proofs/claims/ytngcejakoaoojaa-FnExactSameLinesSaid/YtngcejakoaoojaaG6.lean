/- Depths: small helps. -/
import Derived.Test.YtngcejakoaoojaaG5
namespace Go.Sm
open Go

theorem above_getD {xs : List Nat} (h : xs.all above = true) {j : Nat} (hj : j < xs.length) : above (xs.getD j 0) = true := by
  have e : xs.getD j 0 = xs[j] := by simp [List.getD, hj]
  rw [e]
  exact List.all_eq_true.1 h _ (List.getElem_mem hj)
theorem above_fin {xs : List Nat} (h : xs.all above = true) : xs.all fin = true := by
  rw [List.all_eq_true] at h ⊢
  intro x hx
  have := h x hx
  unfold above at this
  rw [Bool.and_eq_true] at this
  exact this.1
theorem len_beq (m n : Nat) : ((m : Int) == (n : Int)) = decide (m = n) := by
  rw [Bool.eq_iff_iff, beq_iff_eq, decide_eq_true_eq]
  omega

end Go.Sm
