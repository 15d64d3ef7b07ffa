/- What the functions hand back: level 5. -/
import Derived.Test.YtdeplgocckdbiaaD5
namespace Go.Sm.Ytdeplgocckdbiaa
open Go Go.Sm Go.RowKit Go.Proofs

/-! spec.PulseTurns -/
theorem e32 (pa : Nat) (pb : Nat) (pc : Nat) (pd : Nat) : runFn T5 none0 noL Try.f32 [.el (.ag [(.fl .f32 pa), (.fl .f32 pb), (.fl .f32 pc), (.fl .f32 pd)])] = (match (!(pulIs ((⟨pa, pb, pc, pd⟩ : PulseV))) : Bool) with
  | true => some ⟨[.nil, .el (.sc (.bo false))], none⟩
  | false => (match (pulIs ((⟨pa, pb, pc, pd⟩ : PulseV)) : Bool) with
    | true => (match (Nat.ble (pulList ((⟨pa, pb, pc, pd⟩ : PulseV))).length big : Bool) with
      | true => (match ((pulList ((⟨pa, pb, pc, pd⟩ : PulseV))).all finC : Bool) with
        | true => some ⟨[.fresh 102 ⟨.c64, pulList ((⟨pa, pb, pc, pd⟩ : PulseV))⟩, .el (.sc (.bo true))], none⟩
        | false => some ⟨[.nil, .el (.sc (.bo false))], none⟩)
      | false => none)
    | false => none)) := by kernel_rfl
theorem s32 (pa : Nat) (pb : Nat) (pc : Nat) (pd : Nat) : runFn T5 none0 noL Try.f32 [.el (.ag [(.fl .f32 pa), (.fl .f32 pb), (.fl .f32 pc), (.fl .f32 pd)])] = (match (pulOk ((⟨pa, pb, pc, pd⟩ : PulseV)) : Bool) with
  | true => some ⟨[.fresh 102 ⟨.c64, pulList ((⟨pa, pb, pc, pd⟩ : PulseV))⟩, .el (.sc (.bo true))], none⟩
  | false => some ⟨[.nil, .el (.sc (.bo false))], none⟩) := by
  rw [e32]
  unfold pulOk
  have hb : Nat.ble (pulList (⟨pa, pb, pc, pd⟩ : PulseV)).length big = true := by rw [pulList_len]; rfl
  rw [hb]
  cases h1 : pulIs (⟨pa, pb, pc, pd⟩ : PulseV) <;> cases h2 : (pulList (⟨pa, pb, pc, pd⟩ : PulseV)).all finC <;> rfl
theorem c32 (pa : Nat) (pb : Nat) (pc : Nat) (pd : Nat) (k : List RV → R) (out : Out) (h : k [.fresh 102 ⟨.c64, orNil (pulOk ((⟨pa, pb, pc, pd⟩ : PulseV))) (pulList ((⟨pa, pb, pc, pd⟩ : PulseV)))⟩, .el (.sc (.bo (pulOk ((⟨pa, pb, pc, pd⟩ : PulseV)))))] = some out) : ∃ rs, Real Try.prog 32 ∧ COK Try.prog 32 [.el (.ag [(.fl .f32 pa), (.fl .f32 pb), (.fl .f32 pc), (.fl .f32 pd)])] rs ∧ k rs = some out := by
  cases g0 : (pulOk ((⟨pa, pb, pc, pd⟩ : PulseV)) : Bool) with
  | true =>
    rw [g0] at h
    exact ⟨_, real Try.func32 (by kernel_rfl), fn_ok tok5 (A := none0) (L := noL) (r := none) Try.func32 (by kernel_rfl) (by kernel_rfl) (loops0 (by kernel_rfl)) (by rw [s32, g0]; rfl), h⟩
  | false =>
    rw [g0] at h
    exact ⟨_, real Try.func32 (by kernel_rfl), COK.nil (fn_ok tok5 (A := none0) (L := noL) (r := none) Try.func32 (by kernel_rfl) (by kernel_rfl) (loops0 (by kernel_rfl)) (by rw [s32, g0] <;> rfl)), h⟩

/-! impl.ValidPulse -/
theorem e102 (pa : Nat) (pb : Nat) (pc : Nat) (pd : Nat) : runFn T5 none0 noL Try.f102 [.el (.ag [(.fl .f32 pa), (.fl .f32 pb), (.fl .f32 pc), (.fl .f32 pd)])] = (match (([pa, pb, pc, pd]).all fin : Bool) with
  | true => (match (fcmp .geq .f32 pa 0 : Bool) with
    | true => some ⟨[.el (.sc (.bo (fcmp .geq .f32 pd 0)))], none⟩
    | false => some ⟨[.el (.sc (.bo false))], none⟩)
  | false => some ⟨[.el (.sc (.bo false))], none⟩) := by kernel_rfl
theorem s102 (pa : Nat) (pb : Nat) (pc : Nat) (pd : Nat) : runFn T5 none0 noL Try.f102 [.el (.ag [(.fl .f32 pa), (.fl .f32 pb), (.fl .f32 pc), (.fl .f32 pd)])] = some ⟨[.el (.sc (.bo (pulIs ((⟨pa, pb, pc, pd⟩ : PulseV)))))], none⟩ := by
  rw [e102]
  unfold pulIs atLeast0
  simp only [List.all_cons, List.all_nil, Bool.and_true]
  cases fin pa <;> cases fin pb <;> cases fin pc <;> cases fin pd <;> cases fcmp .geq .f32 pa 0 <;> simp
theorem c102 (pa : Nat) (pb : Nat) (pc : Nat) (pd : Nat) (k : List RV → R) (out : Out) (h : k [.el (.sc (.bo (pulIs ((⟨pa, pb, pc, pd⟩ : PulseV)))))] = some out) : ∃ rs, Real Try.prog 102 ∧ COK Try.prog 102 [.el (.ag [(.fl .f32 pa), (.fl .f32 pb), (.fl .f32 pc), (.fl .f32 pd)])] rs ∧ k rs = some out := by
  exact ⟨_, real Try.func102 (by kernel_rfl), fn_ok tok5 (A := none0) (L := noL) (r := none) Try.func102 (by kernel_rfl) (by kernel_rfl) (loops0 (by kernel_rfl)) (by rw [s102]), h⟩

/-! impl.IsFiniteComplex -/
theorem e199 (a : Nat) (b : Nat) : runFn T5 none0 noL Try.f199 [.el (.sc (.cx .f32 a b))] = some ⟨[.el (.sc (.bo (([a, b]).all fin)))], none⟩ := by kernel_rfl
theorem s199 (a : Nat) (b : Nat) : runFn T5 none0 noL Try.f199 [.el (.sc (.cx .f32 a b))] = some ⟨[.el (.sc (.bo (finC (a, b))))], none⟩ := by
  rw [e199]
  unfold finC
  cases h1 : fin a <;> cases h2 : fin b <;> simp [h1, h2]
theorem c199 (a : Nat) (b : Nat) (k : List RV → R) (out : Out) (h : k [.el (.sc (.bo (finC (a, b))))] = some out) : ∃ rs, Real Try.prog 199 ∧ COK Try.prog 199 [.el (.sc (.cx .f32 a b))] rs ∧ k rs = some out := by
  exact ⟨_, real Try.func199 (by kernel_rfl), fn_ok tok5 (A := none0) (L := noL) (r := none) Try.func199 (by kernel_rfl) (by kernel_rfl) (loops0 (by kernel_rfl)) (by rw [s199]), h⟩

def S6 : SFn := fun f args k => match f, args with
  | 32, [.el (.ag [(.fl .f32 pa), (.fl .f32 pb), (.fl .f32 pc), (.fl .f32 pd)])] => k [.fresh 102 ⟨.c64, orNil (pulOk ((⟨pa, pb, pc, pd⟩ : PulseV))) (pulList ((⟨pa, pb, pc, pd⟩ : PulseV)))⟩, .el (.sc (.bo (pulOk ((⟨pa, pb, pc, pd⟩ : PulseV)))))]
  | 102, [.el (.ag [(.fl .f32 pa), (.fl .f32 pb), (.fl .f32 pc), (.fl .f32 pd)])] => k [.el (.sc (.bo (pulIs ((⟨pa, pb, pc, pd⟩ : PulseV)))))]
  | 199, [.el (.sc (.cx .f32 a b))] => k [.el (.sc (.bo (finC (a, b))))]
  | _, _ => S5 f args k
abbrev M6 : MFn := M5
def T6 : TT := tab.T S6 muts M6
theorem tok6 : TOK Try.prog T6 := by
  refine (tab_ok tabok).tok (fun f args k out h => ?_) (fun f vec args k out h => ?_)
  · change S6 f args k = some out at h
    unfold S6 at h
    split at h
    · exact (fun k out h => cok_call (c32 _ _ _ _ k out h)) k out h
    · exact (fun k out h => cok_call (c102 _ _ _ _ k out h)) k out h
    · exact (fun k out h => cok_call (c199 _ _ k out h)) k out h
    · exact tok5.S f args k out h
  · exact tok5.M f vec args k out h

end Go.Sm.Ytdeplgocckdbiaa
