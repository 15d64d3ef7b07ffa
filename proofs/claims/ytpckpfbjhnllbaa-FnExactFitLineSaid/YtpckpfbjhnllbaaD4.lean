/- What the functions hand back: level 3. -/
import Derived.Test.YtpckpfbjhnllbaaD3
namespace Go.Sm.Ytpckpfbjhnllbaa
open Go Go.Sm Go.RowKit Go.Proofs

/-! spec.l01Exp -/
theorem e52 (z : Nat) : runFn T3 none0 noL Try.f52 [.el (.sc (.fl .f32 z))] = (match fconv .f64 .f32 (expS (wid z)) with | some rn3 => some ⟨[.el (.sc (.fl .f32 rn3))], none⟩ | none => none) := by kernel_rfl
theorem s52 (z : Nat) (hg : (expOk z) = true) : runFn T3 none0 noL Try.f52 [.el (.sc (.fl .f32 z))] = some ⟨[.el (.sc (.fl .f32 (expF z)))], none⟩ := by
  rw [e52]
  rw [(exp_narrow hg).2]
theorem c52 (z : Nat) (k : List RV → R) (out : Out) (h : (match (expOk z : Bool) with | true => k [.el (.sc (.fl .f32 (expF z)))] | false => none) = some out) : ∃ rs, Real Try.prog 52 ∧ COK Try.prog 52 [.el (.sc (.fl .f32 z))] rs ∧ k rs = some out := by
  cases g0 : (expOk z : Bool) with
  | true =>
    rw [g0] at h
    exact ⟨_, real Try.func52 (by kernel_rfl), fn_ok tok3 (A := none0) (L := noL) (r := none) Try.func52 (by kernel_rfl) (by kernel_rfl) (loops0 (by kernel_rfl)) (by rw [s52 _ g0]), h⟩
  | false =>
    rw [g0] at h
    cases h

/-! slices.ContainsFunc[[]float32,float32] -/
theorem e54 (xs : List Nat) : runFn T3 none0 noL Try.f54 [.vw none ⟨.f32, xs⟩, .fn 55 []] = (match (Nat.ble xs.length big : Bool) with | true => some ⟨[.el (.sc (.bo (decide ((firstAt notFin xs : Int) ≥ 0))))], none⟩ | false => none) := by kernel_rfl
theorem s54 (xs : List Nat) : runFn T3 none0 noL Try.f54 [.vw none ⟨.f32, xs⟩, .fn 55 []] = (match (Nat.ble xs.length big : Bool) with | true => some ⟨[.el (.sc (.bo (xs.any notFin)))], none⟩ | false => none) := by
  rw [e54]
  rw [any_firstAt]
theorem c54 (xs : List Nat) (k : List RV → R) (out : Out) (h : (match (Nat.ble xs.length big : Bool) with | true => k [.el (.sc (.bo (xs.any notFin)))] | false => none) = some out) : ∃ rs, Real Try.prog 54 ∧ COK Try.prog 54 [.vw none ⟨.f32, xs⟩, .fn 55 []] rs ∧ k rs = some out := by
  cases g0 : (Nat.ble xs.length big : Bool) with
  | true =>
    rw [g0] at h
    exact ⟨_, real Try.func54 (by kernel_rfl), fn_ok tok3 (A := none0) (L := noL) (r := none) Try.func54 (by kernel_rfl) (by kernel_rfl) (loops0 (by kernel_rfl)) (by rw [s54, g0]), h⟩
  | false =>
    rw [g0] at h
    cases h

/-! slices.ContainsFunc[[]float32,float32] -/
theorem e54b (xs : List Nat) : runFn T3 none0 noL Try.f54 [.vw none ⟨.f32, xs⟩, .fn 64 []] = (match (Nat.ble xs.length big : Bool) with | true => some ⟨[.el (.sc (.bo (decide ((firstAt notPos xs : Int) ≥ 0))))], none⟩ | false => none) := by kernel_rfl
theorem s54b (xs : List Nat) : runFn T3 none0 noL Try.f54 [.vw none ⟨.f32, xs⟩, .fn 64 []] = (match (Nat.ble xs.length big : Bool) with | true => some ⟨[.el (.sc (.bo (xs.any notPos)))], none⟩ | false => none) := by
  rw [e54b]
  rw [any_firstAt]
theorem c54b (xs : List Nat) (k : List RV → R) (out : Out) (h : (match (Nat.ble xs.length big : Bool) with | true => k [.el (.sc (.bo (xs.any notPos)))] | false => none) = some out) : ∃ rs, Real Try.prog 54 ∧ COK Try.prog 54 [.vw none ⟨.f32, xs⟩, .fn 64 []] rs ∧ k rs = some out := by
  cases g0 : (Nat.ble xs.length big : Bool) with
  | true =>
    rw [g0] at h
    exact ⟨_, real Try.func54 (by kernel_rfl), fn_ok tok3 (A := none0) (L := noL) (r := none) Try.func54 (by kernel_rfl) (by kernel_rfl) (loops0 (by kernel_rfl)) (by rw [s54b, g0]), h⟩
  | false =>
    rw [g0] at h
    cases h

/-! impl.ExpNumber -/
theorem e68 (z : Nat) : runFn T3 none0 noL Try.f68 [.el (.sc (.fl .f32 z))] = (match fconv .f64 .f32 (expI (wid z)) with | some r1 => some ⟨[.el (.sc (.fl .f32 r1))], none⟩ | none => none) := by kernel_rfl
theorem s68 (z : Nat) (hg : (expOk z) = true) : runFn T3 none0 noL Try.f68 [.el (.sc (.fl .f32 z))] = some ⟨[.el (.sc (.fl .f32 (expF z)))], none⟩ := by
  rw [e68]
  rw [(exp_narrow hg).1]
theorem c68 (z : Nat) (k : List RV → R) (out : Out) (h : (match (expOk z : Bool) with | true => k [.el (.sc (.fl .f32 (expF z)))] | false => none) = some out) : ∃ rs, Real Try.prog 68 ∧ COK Try.prog 68 [.el (.sc (.fl .f32 z))] rs ∧ k rs = some out := by
  cases g0 : (expOk z : Bool) with
  | true =>
    rw [g0] at h
    exact ⟨_, real Try.func68 (by kernel_rfl), fn_ok tok3 (A := none0) (L := noL) (r := none) Try.func68 (by kernel_rfl) (by kernel_rfl) (loops0 (by kernel_rfl)) (by rw [s68 _ g0]), h⟩
  | false =>
    rw [g0] at h
    cases h

def S4 : SFn := fun f args k => match f, args with
  | 52, [.el (.sc (.fl .f32 z))] => (match (expOk z : Bool) with | true => k [.el (.sc (.fl .f32 (expF z)))] | false => none)
  | 54, [.vw none ⟨.f32, xs⟩, .fn 55 []] => (match (Nat.ble xs.length big : Bool) with | true => k [.el (.sc (.bo (xs.any notFin)))] | false => none)
  | 54, [.vw none ⟨.f32, xs⟩, .fn 64 []] => (match (Nat.ble xs.length big : Bool) with | true => k [.el (.sc (.bo (xs.any notPos)))] | false => none)
  | 68, [.el (.sc (.fl .f32 z))] => (match (expOk z : Bool) with | true => k [.el (.sc (.fl .f32 (expF z)))] | false => none)
  | _, _ => S3 f args k
abbrev M4 : MFn := M3
def T4 : TT := tab.T S4 muts M4
theorem tok4 : TOK Try.prog T4 := by
  refine (tab_ok tabok).tok (fun f args k out h => ?_) (fun f vec args k out h => ?_)
  · change S4 f args k = some out at h
    unfold S4 at h
    split at h
    · exact (fun k out h => cok_call (c52 _ k out h)) k out h
    · exact (fun k out h => cok_call (c54 _ k out h)) k out h
    · exact (fun k out h => cok_call (c54b _ k out h)) k out h
    · exact (fun k out h => cok_call (c68 _ k out h)) k out h
    · exact tok3.S f args k out h
  · exact tok3.M f vec args k out h

end Go.Sm.Ytpckpfbjhnllbaa
