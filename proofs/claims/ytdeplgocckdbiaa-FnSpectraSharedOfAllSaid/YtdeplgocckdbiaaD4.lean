/- What the functions hand back: level 3. -/
import Derived.Test.YtdeplgocckdbiaaD3
namespace Go.Sm.Ytdeplgocckdbiaa
open Go Go.Sm Go.RowKit Go.Proofs

/-! slices.ContainsFunc[[]float32,float32] -/
theorem e156 (xs : List Nat) : runFn T3 none0 noL Try.f156 [.vw none ⟨.f32, xs⟩, .fn 157 []] = (match (Nat.ble xs.length big : Bool) with
  | true => some ⟨[.el (.sc (.bo (decide ((firstAt notFin xs : Int) ≥ 0))))], none⟩
  | false => none) := by kernel_rfl
theorem s156 (xs : List Nat) : runFn T3 none0 noL Try.f156 [.vw none ⟨.f32, xs⟩, .fn 157 []] = (match (Nat.ble xs.length big : Bool) with
  | true => some ⟨[.el (.sc (.bo (xs.any notFin)))], none⟩
  | false => none) := by
  rw [e156]
  rw [any_firstAt]
theorem c156 (xs : List Nat) (k : List RV → R) (out : Out) (h : (match (Nat.ble xs.length big : Bool) with
  | true => k [.el (.sc (.bo (xs.any notFin)))]
  | false => none) = some out) : ∃ rs, Real Try.prog 156 ∧ COK Try.prog 156 [.vw none ⟨.f32, xs⟩, .fn 157 []] rs ∧ k rs = some out := by
  cases g0 : (Nat.ble xs.length big : Bool) with
  | true =>
    rw [g0] at h
    exact ⟨_, real Try.func156 (by kernel_rfl), fn_ok tok3 (A := none0) (L := noL) (r := none) Try.func156 (by kernel_rfl) (by kernel_rfl) (loops0 (by kernel_rfl)) (by rw [s156, g0]), h⟩
  | false =>
    rw [g0] at h
    cases h

/-! slices.ContainsFunc[[]float32,float32] -/
theorem e156b (xs : List Nat) : runFn T3 none0 noL Try.f156 [.vw none ⟨.f32, xs⟩, .fn 201 []] = (match (Nat.ble xs.length big : Bool) with
  | true => some ⟨[.el (.sc (.bo (decide ((firstAt notPos xs : Int) ≥ 0))))], none⟩
  | false => none) := by kernel_rfl
theorem s156b (xs : List Nat) : runFn T3 none0 noL Try.f156 [.vw none ⟨.f32, xs⟩, .fn 201 []] = (match (Nat.ble xs.length big : Bool) with
  | true => some ⟨[.el (.sc (.bo (xs.any notPos)))], none⟩
  | false => none) := by
  rw [e156b]
  rw [any_firstAt]
theorem c156b (xs : List Nat) (k : List RV → R) (out : Out) (h : (match (Nat.ble xs.length big : Bool) with
  | true => k [.el (.sc (.bo (xs.any notPos)))]
  | false => none) = some out) : ∃ rs, Real Try.prog 156 ∧ COK Try.prog 156 [.vw none ⟨.f32, xs⟩, .fn 201 []] rs ∧ k rs = some out := by
  cases g0 : (Nat.ble xs.length big : Bool) with
  | true =>
    rw [g0] at h
    exact ⟨_, real Try.func156 (by kernel_rfl), fn_ok tok3 (A := none0) (L := noL) (r := none) Try.func156 (by kernel_rfl) (by kernel_rfl) (loops0 (by kernel_rfl)) (by rw [s156b, g0]), h⟩
  | false =>
    rw [g0] at h
    cases h

/-! spec.l01Exp -/
theorem e176 (z : Nat) : runFn T3 none0 noL Try.f176 [.el (.sc (.fl .f32 z))] = (match fconv .f64 .f32 (expS (wid z)) with
  | some rn3 => some ⟨[.el (.sc (.fl .f32 rn3))], none⟩
  | none => none) := by kernel_rfl
theorem s176 (z : Nat) (hg : (expOk z) = true) : runFn T3 none0 noL Try.f176 [.el (.sc (.fl .f32 z))] = some ⟨[.el (.sc (.fl .f32 (expF z)))], none⟩ := by
  rw [e176]
  rw [(exp_narrow hg).2]
theorem c176 (z : Nat) (k : List RV → R) (out : Out) (h : (match (expOk z : Bool) with
  | true => k [.el (.sc (.fl .f32 (expF z)))]
  | false => none) = some out) : ∃ rs, Real Try.prog 176 ∧ COK Try.prog 176 [.el (.sc (.fl .f32 z))] rs ∧ k rs = some out := by
  cases g0 : (expOk z : Bool) with
  | true =>
    rw [g0] at h
    exact ⟨_, real Try.func176 (by kernel_rfl), fn_ok tok3 (A := none0) (L := noL) (r := none) Try.func176 (by kernel_rfl) (by kernel_rfl) (loops0 (by kernel_rfl)) (by rw [s176 _ g0]), h⟩
  | false =>
    rw [g0] at h
    cases h

/-! impl.ExpNumber -/
theorem e220 (z : Nat) : runFn T3 none0 noL Try.f220 [.el (.sc (.fl .f32 z))] = (match fconv .f64 .f32 (expI (wid z)) with
  | some r1 => some ⟨[.el (.sc (.fl .f32 r1))], none⟩
  | none => none) := by kernel_rfl
theorem s220 (z : Nat) (hg : (expOk z) = true) : runFn T3 none0 noL Try.f220 [.el (.sc (.fl .f32 z))] = some ⟨[.el (.sc (.fl .f32 (expF z)))], none⟩ := by
  rw [e220]
  rw [(exp_narrow hg).1]
theorem c220 (z : Nat) (k : List RV → R) (out : Out) (h : (match (expOk z : Bool) with
  | true => k [.el (.sc (.fl .f32 (expF z)))]
  | false => none) = some out) : ∃ rs, Real Try.prog 220 ∧ COK Try.prog 220 [.el (.sc (.fl .f32 z))] rs ∧ k rs = some out := by
  cases g0 : (expOk z : Bool) with
  | true =>
    rw [g0] at h
    exact ⟨_, real Try.func220 (by kernel_rfl), fn_ok tok3 (A := none0) (L := noL) (r := none) Try.func220 (by kernel_rfl) (by kernel_rfl) (loops0 (by kernel_rfl)) (by rw [s220 _ g0]), h⟩
  | false =>
    rw [g0] at h
    cases h

def S4 : SFn := fun f args k => match f, args with
  | 156, [.vw none ⟨.f32, xs⟩, .fn 157 []] => (match (Nat.ble xs.length big : Bool) with
    | true => k [.el (.sc (.bo (xs.any notFin)))]
    | false => none)
  | 156, [.vw none ⟨.f32, xs⟩, .fn 201 []] => (match (Nat.ble xs.length big : Bool) with
    | true => k [.el (.sc (.bo (xs.any notPos)))]
    | false => none)
  | 176, [.el (.sc (.fl .f32 z))] => (match (expOk z : Bool) with
    | true => k [.el (.sc (.fl .f32 (expF z)))]
    | false => none)
  | 220, [.el (.sc (.fl .f32 z))] => (match (expOk z : Bool) with
    | true => k [.el (.sc (.fl .f32 (expF z)))]
    | false => none)
  | _, _ => S3 f args k
abbrev M4 : MFn := M3
def T4 : TT := tab.T S4 muts M4
theorem tok4 : TOK Try.prog T4 := by
  refine (tab_ok tabok).tok (fun f args k out h => ?_) (fun f vec args k out h => ?_)
  · change S4 f args k = some out at h
    unfold S4 at h
    split at h
    · exact (fun k out h => cok_call (c156 _ k out h)) k out h
    · exact (fun k out h => cok_call (c156b _ k out h)) k out h
    · exact (fun k out h => cok_call (c176 _ k out h)) k out h
    · exact (fun k out h => cok_call (c220 _ k out h)) k out h
    · exact tok3.S f args k out h
  · exact tok3.M f vec args k out h

end Go.Sm.Ytdeplgocckdbiaa
