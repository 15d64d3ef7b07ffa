/- The phasor. -/
import Derived.Test.YtngcejakoaoojaaC9
namespace Go.Sm
open Go

def qrun : Nat → Nat → Int → Nat × Int
  | 0, f, q => (f, q)
  | m + 1, f, q => bif fcmp .geq .f64 f 4598175219545276416 then qrun m (fop .sub .f64 f 4598175219545276416) (q + 1) else (f, q)

def inTo (z f : Nat) : Prop := isNum .f64 f = true ∧ 0 ≤ fv .f64 f ∧ fv .f64 f ≤ (rv FloatKind.f64.format z : Int)
def zt : Nat → Nat
  | 0 => 0
  | 1 => 4598175219545276416
  | 2 => 4602678819172646912
  | 3 => 4604930618986332160
  | _ => 4607182418800017408
theorem zt_step : ∀ m, m < 4 → rv FloatKind.f64.format (zt (m + 1)) = rv FloatKind.f64.format (zt m) + rv FloatKind.f64.format 4598175219545276416 := by decide +kernel
theorem zt_lt : ∀ m, m < 5 → zt m < FloatKind.f64.format.infRung := by decide +kernel
theorem zt_four : rv FloatKind.f64.format (zt 4) = U := by decide +kernel
theorem quarter_rv : fv .f64 4598175219545276416 = (rv FloatKind.f64.format 4598175219545276416 : Int) := by decide +kernel
theorem quarter_isNum : isNum .f64 4598175219545276416 = true := by decide +kernel
theorem quarter_pos : 0 < rv FloatKind.f64.format 4598175219545276416 := by decide +kernel
theorem quarter_le : 4 * rv FloatKind.f64.format 4598175219545276416 = U := by decide +kernel

theorem qstep {m f : Nat} (hm : m < 4) (h : inTo (zt (m + 1)) f) (hq : fcmp .geq .f64 f 4598175219545276416 = true) : inTo (zt m) (fop .sub .f64 f 4598175219545276416) := by
  obtain ⟨h1, h2, h3⟩ := h
  rw [fcmp_num_geq h1 quarter_isNum, quarter_rv, decide_eq_true_eq] at hq
  rw [zt_step m hm] at h3
  have hz := zt_lt m (by omega)
  obtain ⟨a1, _, a3, _, _, a6⟩ := subB (z := zt m) h1 quarter_isNum (by rw [quarter_rv]; omega) hz
  rw [quarter_rv] at a3 a6
  exact ⟨a1, a3 (by omega), a6 (zt m) hz (by omega) (by omega)⟩

theorem qrun_ok : ∀ (m : Nat), m ≤ 4 → ∀ (f : Nat) (q : Int), inTo (zt m) f → isNum .f64 (qrun m f q).1 = true ∧ 0 ≤ fv .f64 (qrun m f q).1 ∧ fcmp .geq .f64 (qrun m f q).1 4598175219545276416 = false := by
  intro m
  induction m with
  | zero =>
    intro _ f q h
    obtain ⟨h1, h2, h3⟩ := h
    have h0 : rv FloatKind.f64.format (zt 0) = 0 := rv_zero _
    have hp := quarter_pos
    refine ⟨h1, h2, ?_⟩
    show fcmp .geq .f64 f 4598175219545276416 = false
    rw [fcmp_num_geq h1 quarter_isNum, quarter_rv]
    exact decide_eq_false (by omega)
  | succ m ih =>
    intro hm f q h
    unfold qrun
    cases hg : fcmp .geq .f64 f 4598175219545276416 with
    | true => exact ih (by omega) _ _ (qstep (by omega) h hg)
    | false => exact ⟨h.1, h.2.1, hg⟩

def phF (t : Nat) : Nat := (qrun 4 (part t) 0).1
def phQ (t : Nat) : Int := (qrun 4 (part t) 0).2
def phC (t : Nat) : Nat := sinCore (part (fop .sub .f64 4598175219545276416 (phF t)))
def phS (t : Nat) : Nat := sinCore (part (phF t))
def nar (c : Nat) : Nat := (fconv .f64 .f32 c).getD 0

theorem sineW_small {y : Nat} (h : isNum .f64 y = true) (h1 : 0 ≤ fv .f64 y) (h2 : fv .f64 y ≤ (U : Int)) : sineW y = sinCore (part y) ∧ isNum .f64 (sinCore (part y)) = true ∧ (fv .f64 (sinCore (part y))).natAbs ≤ 2 * U := by
  have hU := U_pos
  have hh : huge y = false := by
    rw [huge_num h]
    exact decide_eq_false (by omega)
  obtain ⟨p1, p2, p3⟩ := part_in h hh
  refine ⟨?_, sinCore_in p1 p2 p3⟩
  unfold sineW
  rw [sub_self_fin, h, hh]
  rfl

theorem nar_ok {c : Nat} (h : isNum .f64 c = true) (hb : (fv .f64 c).natAbs ≤ 2 * U) : fconv .f64 .f32 c = some (nar c) ∧ fconv .f64 .f32 (fop .sub .f64 0 c) = some (nar (fop .sub .f64 0 c)) := by
  have hU := U_pos
  have one : ∀ {c : Nat}, isNum .f64 c = true → (fv .f64 c).natAbs ≤ 2 * U → fconv .f64 .f32 c = some (nar c) := by
    intro c h hb
    obtain ⟨r, hr⟩ := narrow_two h hb
    unfold nar
    rw [hr]
    rfl
  refine ⟨one h hb, ?_⟩
  obtain ⟨a1, a2, _⟩ := subB (z := two64) zero64_num.1 h (by rw [zero64_num.2, rv_two]; omega) two_inf
  rw [rv_two] at a2
  exact one a1 a2

theorem ph_ok {t : Nat} (h : isNum .f64 t = true) (hh : huge t = false) :
    fcmp .geq .f64 (qrun 4 (part t) 0).1 4598175219545276416 = false ∧ sineW (phF t) = phS t ∧ sineW (fop .sub .f64 4598175219545276416 (phF t)) = phC t
      ∧ isNum .f64 (phS t) = true ∧ (fv .f64 (phS t)).natAbs ≤ 2 * U ∧ isNum .f64 (phC t) = true ∧ (fv .f64 (phC t)).natAbs ≤ 2 * U := by
  have hU := U_pos
  have hp := quarter_pos
  have hq4 := quarter_le
  obtain ⟨p1, p2, p3⟩ := part_in h hh
  obtain ⟨r1, r2, r3⟩ := qrun_ok 4 (by omega) (part t) 0 ⟨p1, p2, by rw [zt_four]; exact p3⟩
  have r4 : fv .f64 (qrun 4 (part t) 0).1 < (rv FloatKind.f64.format 4598175219545276416 : Int) := by
    rw [fcmp_num_geq r1 quarter_isNum, quarter_rv] at r3
    have := of_decide_eq_false r3
    omega
  obtain ⟨s1, s2, s3⟩ := sineW_small r1 r2 (by omega)
  have hz := zt_lt 1 (by omega)
  obtain ⟨a1, a2, a3, _⟩ := subB (z := 4598175219545276416) quarter_isNum r1 (by rw [quarter_rv]; omega) hz
  rw [quarter_rv] at a3
  obtain ⟨c1, c2, c3⟩ := sineW_small a1 (a3 (by omega)) (by omega)
  exact ⟨r3, s1, c1, s2, s3, c2, c3⟩

def phRe (t : Nat) : Nat := bif !isNum .f64 t then nanOf .f32 else bif huge t then 1065353216 else bif phQ t == 1 then nar (fop .sub .f64 0 (phS t)) else bif phQ t == 2 then nar (fop .sub .f64 0 (phC t)) else bif phQ t == 3 then nar (phS t) else nar (phC t)
def phIm (t : Nat) : Nat := bif !isNum .f64 t then nanOf .f32 else bif huge t then 0 else bif phQ t == 1 then nar (phC t) else bif phQ t == 2 then nar (fop .sub .f64 0 (phS t)) else bif phQ t == 3 then nar (fop .sub .f64 0 (phC t)) else nar (phS t)

end Go.Sm
