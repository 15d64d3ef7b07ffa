/- What a logarithm meets. -/
import Derived.Test.YtngcejakoaoojaaG4
namespace Go.Sm
open Go

theorem zero32 : isNum .f32 0 = true ∧ fv .f32 0 = 0 := by decide
theorem neq_num {k : FloatKind} {x : Nat} (h : isNum k x = true) : fcmp .neq k x x = false := by rw [fcmp_neq_self]; exact isNum_notN h
theorem lss_num {k : FloatKind} {x y : Nat} (h1 : isNum k x = true) (h2 : isNum k y = true) : fcmp .lss k x y = decide (fv k x < fv k y) := by
  unfold fcmp
  rw [order_fv h1 h2]
  exact cmp_lss _ _
theorem log_zero {z : Nat} (n : isNum .f32 z = true) (v : fv .f32 z = 0) : fcmp .eql .f32 z 0 = true ∧ fcmp .neq .f64 (wid z) (wid z) = false ∧ fcmp .lss .f64 (wid z) 0 = false ∧ fcmp .eql .f64 (wid z) 0 = true := by
  obtain ⟨w1, w2, w3, _⟩ := wid_num n
  have a := w2 (by omega)
  have b := w3 (by omega)
  refine ⟨?_, neq_num w1, ?_, ?_⟩
  · rw [fcmp_num_eql n zero32.1, zero32.2, v]; rfl
  · rw [lss_num w1 zero64_num.1, zero64_num.2]; exact decide_eq_false (by omega)
  · rw [fcmp_num_eql w1 zero64_num.1, zero64_num.2]; exact decide_eq_true (by omega)
theorem log_pos {z : Nat} (n : isNum .f32 z = true) (v : 0 < fv .f32 z) : fcmp .eql .f32 z 0 = false ∧ fcmp .neq .f32 z z = false ∧ fcmp .lss .f32 z 0 = false ∧ fin z = true ∧ lgIn (wid z) = true
    ∧ fcmp .neq .f64 (wid z) (wid z) = false ∧ fcmp .lss .f64 (wid z) 0 = false ∧ fcmp .eql .f64 (wid z) 0 = false ∧ fcmp .gtr .f64 (wid z) 9218868437227405311 = false ∧ fconv .f64 .f32 (logV (wid z)) = some (nar (logV (wid z))) := by
  obtain ⟨p1, p2⟩ := wid_pos n v
  have hin : lgIn (wid z) = true := by
    unfold lgIn
    rw [Nat.ble_eq_true_of_le p1, Nat.ble_eq_true_of_le p2]
    rfl
  have hi := inf_rung64
  have hB : (9218868437227405311 : Nat) < FloatKind.f64.format.infRung := by decide
  obtain ⟨r1, r2, _⟩ := rung_num (show wid z < FloatKind.f64.format.infRung by omega)
  obtain ⟨s1, s2, _⟩ := rung_num hB
  have hpos : rv FloatKind.f64.format 0 < rv FloatKind.f64.format (wid z) := rv_lt (by omega)
  rw [rv_zero] at hpos
  have hle : rv FloatKind.f64.format (wid z) ≤ rv FloatKind.f64.format 9218868437227405311 := rv_le (by omega)
  refine ⟨?_, neq_num n, ?_, by rw [fin_isNum]; exact n, hin, neq_num r1, ?_, ?_, ?_, logV_narrow (lgIn_of hin).1 (lgIn_of hin).2⟩
  · rw [fcmp_num_eql n zero32.1, zero32.2]; exact decide_eq_false (by omega)
  · rw [lss_num n zero32.1, zero32.2]; exact decide_eq_false (by omega)
  · rw [lss_num r1 zero64_num.1, zero64_num.2, r2]; exact decide_eq_false (by omega)
  · rw [fcmp_num_eql r1 zero64_num.1, zero64_num.2, r2]; exact decide_eq_false (by omega)
  · rw [gtr_fv r1 s1, r2, s2]; exact decide_eq_false (by omega)
theorem log_inf : wid 2139095040 = 9218868437227405312 := by decide +kernel

end Go.Sm
