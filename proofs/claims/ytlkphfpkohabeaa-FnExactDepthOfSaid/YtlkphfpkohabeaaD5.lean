/- What the functions hand back: level 4. -/
import Derived.Test.YtlkphfpkohabeaaD4
namespace Go.Sm.Ytlkphfpkohabeaa
open Go Go.Sm Go.RowKit Go.Proofs

/-! impl.areFinite -/
theorem e70 (xs : List Nat) : runFn T4 none0 noL Try.f70 [.vw none ⟨.f32, xs⟩] = (match (Nat.ble xs.length big : Bool) with
  | true => some ⟨[.el (.sc (.bo (!(xs.any notFin))))], none⟩
  | false => none) := by kernel_rfl
theorem s70 (xs : List Nat) : runFn T4 none0 noL Try.f70 [.vw none ⟨.f32, xs⟩] = (match (Nat.ble xs.length big : Bool) with
  | true => some ⟨[.el (.sc (.bo (xs.all fin)))], none⟩
  | false => none) := by
  rw [e70]
  rw [notFin_fun, not_any]
theorem c70 (xs : List Nat) (k : List RV → R) (out : Out) (h : (match (Nat.ble xs.length big : Bool) with
  | true => k [.el (.sc (.bo (xs.all fin)))]
  | false => none) = some out) : ∃ rs, Real Try.prog 70 ∧ COK Try.prog 70 [.vw none ⟨.f32, xs⟩] rs ∧ k rs = some out := by
  cases g0 : (Nat.ble xs.length big : Bool) with
  | true =>
    rw [g0] at h
    exact ⟨_, real Try.func70 (by kernel_rfl), fn_ok tok4 (A := none0) (L := noL) (r := none) Try.func70 (by kernel_rfl) (by kernel_rfl) (loops0 (by kernel_rfl)) (by rw [s70, g0]), h⟩
  | false =>
    rw [g0] at h
    cases h

/-! spec.l01Log -/
theorem e87 (z : Nat) : runFn T4 none0 noL Try.f87 [.el (.sc (.fl .f32 z))] = (match ((fcmp .neq .f64 (wid z) (wid z) || fcmp .lss .f64 (wid z) 0) || (fcmp .eql .f64 (wid z) 0 || (fcmp .gtr .f64 (wid z) 9218868437227405311 || lgIn (wid z))) : Bool) with
  | true => (match (fcmp .neq .f64 (wid z) (wid z) || fcmp .lss .f64 (wid z) 0 : Bool) with
    | true => (match fconv .f64 .f32 (nanOf .f64) with
      | some rn3 => some ⟨[.el (.sc (.fl .f32 rn3))], none⟩
      | none => none)
    | false => (match (fcmp .eql .f64 (wid z) 0 : Bool) with
      | true => (match fconv .f64 .f32 (infOf (-1)) with
        | some rn4 => some ⟨[.el (.sc (.fl .f32 rn4))], none⟩
        | none => none)
      | false => (match (fcmp .gtr .f64 (wid z) 9218868437227405311 : Bool) with
        | true => (match fconv .f64 .f32 (wid z) with
          | some rn5 => some ⟨[.el (.sc (.fl .f32 rn5))], none⟩
          | none => none)
        | false => (match fconv .f64 .f32 (logV (wid z)) with
          | some rn6 => some ⟨[.el (.sc (.fl .f32 rn6))], none⟩
          | none => none))))
  | false => none) := by kernel_rfl
theorem s87 (z : Nat) (hg : (logOk z) = true) : runFn T4 none0 noL Try.f87 [.el (.sc (.fl .f32 z))] = some ⟨[.el (.sc (.fl .f32 (logF z)))], none⟩ := by
  rw [e87]
  rcases logOk_cases hg with ⟨n, v⟩ | ⟨n, v⟩ | e
  · obtain ⟨a1, a2, a3, a4⟩ := log_zero n v
    have hc : fconv .f64 .f32 (infOf (-1)) = some 4286578688 := by decide +kernel
    unfold logF
    simp only [a1, a2, a3, a4, hc, Bool.or_self, Bool.true_or, Bool.or_true, Bool.false_or, cond_true]
  · obtain ⟨a1, a2, a3, a4, a5, a6, a7, a8, a9, a10⟩ := log_pos n v
    unfold logF
    simp only [a1, a2, a3, a4, a5, a6, a7, a8, a9, a10, Bool.or_self, Bool.true_or, Bool.or_true, Bool.false_or, Bool.not_true, cond_true, cond_false]
  · subst e
    kernel_rfl
theorem c87 (z : Nat) (k : List RV → R) (out : Out) (h : (match (logOk z : Bool) with
  | true => k [.el (.sc (.fl .f32 (logF z)))]
  | false => none) = some out) : ∃ rs, Real Try.prog 87 ∧ COK Try.prog 87 [.el (.sc (.fl .f32 z))] rs ∧ k rs = some out := by
  cases g0 : (logOk z : Bool) with
  | true =>
    rw [g0] at h
    exact ⟨_, real Try.func87 (by kernel_rfl), fn_ok tok4 (A := none0) (L := noL) (r := none) Try.func87 (by kernel_rfl) (by kernel_rfl) (loops0 (by kernel_rfl)) (by rw [s87 _ g0]), h⟩
  | false =>
    rw [g0] at h
    cases h

/-! impl.arePositive -/
theorem e88 (xs : List Nat) : runFn T4 none0 noL Try.f88 [.vw none ⟨.f32, xs⟩] = (match (Nat.ble xs.length big : Bool) with
  | true => some ⟨[.el (.sc (.bo (!(xs.any notPos))))], none⟩
  | false => none) := by kernel_rfl
theorem s88 (xs : List Nat) : runFn T4 none0 noL Try.f88 [.vw none ⟨.f32, xs⟩] = (match (Nat.ble xs.length big : Bool) with
  | true => some ⟨[.el (.sc (.bo (xs.all above)))], none⟩
  | false => none) := by
  rw [e88]
  rw [notPos_fun, not_any]
theorem c88 (xs : List Nat) (k : List RV → R) (out : Out) (h : (match (Nat.ble xs.length big : Bool) with
  | true => k [.el (.sc (.bo (xs.all above)))]
  | false => none) = some out) : ∃ rs, Real Try.prog 88 ∧ COK Try.prog 88 [.vw none ⟨.f32, xs⟩] rs ∧ k rs = some out := by
  cases g0 : (Nat.ble xs.length big : Bool) with
  | true =>
    rw [g0] at h
    exact ⟨_, real Try.func88 (by kernel_rfl), fn_ok tok4 (A := none0) (L := noL) (r := none) Try.func88 (by kernel_rfl) (by kernel_rfl) (loops0 (by kernel_rfl)) (by rw [s88, g0]), h⟩
  | false =>
    rw [g0] at h
    cases h

def S5 : SFn := fun f args k => match f, args with
  | 70, [.vw none ⟨.f32, xs⟩] => (match (Nat.ble xs.length big : Bool) with
    | true => k [.el (.sc (.bo (xs.all fin)))]
    | false => none)
  | 87, [.el (.sc (.fl .f32 z))] => (match (logOk z : Bool) with
    | true => k [.el (.sc (.fl .f32 (logF z)))]
    | false => none)
  | 88, [.vw none ⟨.f32, xs⟩] => (match (Nat.ble xs.length big : Bool) with
    | true => k [.el (.sc (.bo (xs.all above)))]
    | false => none)
  | _, _ => S4 f args k
abbrev M5 : MFn := M4
def T5 : TT := tab.T S5 muts M5
theorem tok5 : TOK Try.prog T5 := by
  refine (tab_ok tabok).tok (fun f args k out h => ?_) (fun f vec args k out h => ?_)
  · change S5 f args k = some out at h
    unfold S5 at h
    split at h
    · exact (fun k out h => cok_call (c70 _ k out h)) k out h
    · exact (fun k out h => cok_call (c87 _ k out h)) k out h
    · exact (fun k out h => cok_call (c88 _ k out h)) k out h
    · exact tok4.S f args k out h
  · exact tok4.M f vec args k out h

end Go.Sm.Ytlkphfpkohabeaa
