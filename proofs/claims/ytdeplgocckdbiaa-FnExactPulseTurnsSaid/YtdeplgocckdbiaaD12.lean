/- What the functions hand back: level 11. -/
import Derived.Test.YtdeplgocckdbiaaD11
namespace Go.Sm.Ytdeplgocckdbiaa
open Go Go.Sm Go.RowKit Go.Proofs

/-! impl.PulseTurns -/
theorem e34 (pa : Nat) (pb : Nat) (pc : Nat) (pd : Nat) : runFn T11 none0 noL Try.f34 [.el (.ag [(.fl .f32 pa), (.fl .f32 pb), (.fl .f32 pc), (.fl .f32 pd)])] = (match (!(pulIs ((⟨pa, pb, pc, pd⟩ : PulseV))) : Bool) with
  | true => some ⟨[.nil, .el (.sc (.bo false))], none⟩
  | false => (match (fcmp .neq .f32 (wholeR pa pb) 0 : Bool) with
    | true => (match fconv .f64 .f32 (fop .sub .f64 (fop .mul .f64 (wid (phRe (wid pc))) (wid 0)) (fop .mul .f64 (wid (fneg .f32 (phIm (wid pc)))) (wid 3212836864))) with
      | some rn50 => (match fconv .f64 .f32 (fop .add .f64 (fop .mul .f64 (wid (phRe (wid pc))) (wid 3212836864)) (fop .mul .f64 (wid (fneg .f32 (phIm (wid pc)))) (wid 0))) with
        | some rn51 => (match fconv .f64 .f32 (fop .sub .f64 (fop .mul .f64 (wid (phRe (wid pc))) (wid 0)) (fop .mul .f64 (wid (phIm (wid pc))) (wid 3212836864))) with
          | some rn52 => (match fconv .f64 .f32 (fop .add .f64 (fop .mul .f64 (wid (phRe (wid pc))) (wid 3212836864)) (fop .mul .f64 (wid (phIm (wid pc))) (wid 0))) with
            | some rn53 => (match (([(phRe (turns (fop .mul .f32 1056964608 pd) (wholeR pa pb)), fop .sub .f32 0 (fop .mul .f32 (fop .quo .f32 pb (wholeR pa pb)) (phIm (turns (fop .mul .f32 1056964608 pd) (wholeR pa pb))))), (fop .mul .f32 rn50 (fop .mul .f32 (fop .quo .f32 pa (wholeR pa pb)) (phIm (turns (fop .mul .f32 1056964608 pd) (wholeR pa pb)))), fop .mul .f32 rn51 (fop .mul .f32 (fop .quo .f32 pa (wholeR pa pb)) (phIm (turns (fop .mul .f32 1056964608 pd) (wholeR pa pb))))), (fop .mul .f32 rn52 (fop .mul .f32 (fop .quo .f32 pa (wholeR pa pb)) (phIm (turns (fop .mul .f32 1056964608 pd) (wholeR pa pb)))), fop .mul .f32 rn53 (fop .mul .f32 (fop .quo .f32 pa (wholeR pa pb)) (phIm (turns (fop .mul .f32 1056964608 pd) (wholeR pa pb))))), (phRe (turns (fop .mul .f32 1056964608 pd) (wholeR pa pb)), fop .mul .f32 (fop .quo .f32 pb (wholeR pa pb)) (phIm (turns (fop .mul .f32 1056964608 pd) (wholeR pa pb))))]).all finC : Bool) with
              | true => some ⟨[.fresh 102 ⟨.c64, [(phRe (turns (fop .mul .f32 1056964608 pd) (wholeR pa pb)), fop .sub .f32 0 (fop .mul .f32 (fop .quo .f32 pb (wholeR pa pb)) (phIm (turns (fop .mul .f32 1056964608 pd) (wholeR pa pb))))), (fop .mul .f32 rn50 (fop .mul .f32 (fop .quo .f32 pa (wholeR pa pb)) (phIm (turns (fop .mul .f32 1056964608 pd) (wholeR pa pb)))), fop .mul .f32 rn51 (fop .mul .f32 (fop .quo .f32 pa (wholeR pa pb)) (phIm (turns (fop .mul .f32 1056964608 pd) (wholeR pa pb))))), (fop .mul .f32 rn52 (fop .mul .f32 (fop .quo .f32 pa (wholeR pa pb)) (phIm (turns (fop .mul .f32 1056964608 pd) (wholeR pa pb)))), fop .mul .f32 rn53 (fop .mul .f32 (fop .quo .f32 pa (wholeR pa pb)) (phIm (turns (fop .mul .f32 1056964608 pd) (wholeR pa pb))))), (phRe (turns (fop .mul .f32 1056964608 pd) (wholeR pa pb)), fop .mul .f32 (fop .quo .f32 pb (wholeR pa pb)) (phIm (turns (fop .mul .f32 1056964608 pd) (wholeR pa pb))))]⟩, .el (.sc (.bo true))], none⟩
              | false => some ⟨[.nil, .el (.sc (.bo false))], none⟩)
            | none => none)
          | none => none)
        | none => none)
      | none => none)
    | false => (match fconv .f64 .f32 (fop .sub .f64 (fop .mul .f64 (wid (phRe (wid pc))) (wid 0)) (fop .mul .f64 (wid (fneg .f32 (phIm (wid pc)))) (wid 3212836864))) with
      | some rn54 => (match fconv .f64 .f32 (fop .add .f64 (fop .mul .f64 (wid (phRe (wid pc))) (wid 3212836864)) (fop .mul .f64 (wid (fneg .f32 (phIm (wid pc)))) (wid 0))) with
        | some rn55 => (match fconv .f64 .f32 (fop .sub .f64 (fop .mul .f64 (wid (phRe (wid pc))) (wid 0)) (fop .mul .f64 (wid (phIm (wid pc))) (wid 3212836864))) with
          | some rn56 => (match fconv .f64 .f32 (fop .add .f64 (fop .mul .f64 (wid (phRe (wid pc))) (wid 3212836864)) (fop .mul .f64 (wid (phIm (wid pc))) (wid 0))) with
            | some rn57 => (match (([(phRe (turns (fop .mul .f32 1056964608 pd) (wholeR pa pb)), fop .sub .f32 0 0), (fop .mul .f32 rn54 0, fop .mul .f32 rn55 0), (fop .mul .f32 rn56 0, fop .mul .f32 rn57 0), (phRe (turns (fop .mul .f32 1056964608 pd) (wholeR pa pb)), 0)]).all finC : Bool) with
              | true => some ⟨[.fresh 102 ⟨.c64, [(phRe (turns (fop .mul .f32 1056964608 pd) (wholeR pa pb)), fop .sub .f32 0 0), (fop .mul .f32 rn54 0, fop .mul .f32 rn55 0), (fop .mul .f32 rn56 0, fop .mul .f32 rn57 0), (phRe (turns (fop .mul .f32 1056964608 pd) (wholeR pa pb)), 0)]⟩, .el (.sc (.bo true))], none⟩
              | false => some ⟨[.nil, .el (.sc (.bo false))], none⟩)
            | none => none)
          | none => none)
        | none => none)
      | none => none))) := by kernel_rfl
theorem s34 (pa : Nat) (pb : Nat) (pc : Nat) (pd : Nat) : runFn T11 none0 noL Try.f34 [.el (.ag [(.fl .f32 pa), (.fl .f32 pb), (.fl .f32 pc), (.fl .f32 pd)])] = (match (pulOk ((⟨pa, pb, pc, pd⟩ : PulseV)) : Bool) with
  | true => some ⟨[.fresh 102 ⟨.c64, pulList ((⟨pa, pb, pc, pd⟩ : PulseV))⟩, .el (.sc (.bo true))], none⟩
  | false => some ⟨[.nil, .el (.sc (.bo false))], none⟩) := by
  rw [e34]
  unfold pulOk
  cases h1 : pulIs (⟨pa, pb, pc, pd⟩ : PulseV) with
  | false => rfl
  | true =>
    have hp := pul_ok h1
    dsimp only at hp
    obtain ⟨⟨p1, p2⟩, p3, p4⟩ := hp
    have e1 : turns (fop .mul .f32 1056964608 pd) (wholeR pa pb) = pulT (⟨pa, pb, pc, pd⟩ : PulseV) := rfl
    simp only [p1, p2, p3, p4, e1]
    unfold pulList pulQ pulX pulY
    cases h7 : fcmp .neq .f32 (wholeR pa pb) 0 <;> simp [h7] <;> rfl
theorem c34 (pa : Nat) (pb : Nat) (pc : Nat) (pd : Nat) (k : List RV → R) (out : Out) (h : k [.fresh 102 ⟨.c64, orNil (pulOk ((⟨pa, pb, pc, pd⟩ : PulseV))) (pulList ((⟨pa, pb, pc, pd⟩ : PulseV)))⟩, .el (.sc (.bo (pulOk ((⟨pa, pb, pc, pd⟩ : PulseV)))))] = some out) : ∃ rs, Real Try.prog 34 ∧ COK Try.prog 34 [.el (.ag [(.fl .f32 pa), (.fl .f32 pb), (.fl .f32 pc), (.fl .f32 pd)])] rs ∧ k rs = some out := by
  cases g0 : (pulOk ((⟨pa, pb, pc, pd⟩ : PulseV)) : Bool) with
  | true =>
    rw [g0] at h
    exact ⟨_, real Try.func34 (by kernel_rfl), fn_ok tok11 (A := none0) (L := noL) (r := none) Try.func34 (by kernel_rfl) (by kernel_rfl) (loops0 (by kernel_rfl)) (by rw [s34, g0]; rfl), h⟩
  | false =>
    rw [g0] at h
    exact ⟨_, real Try.func34 (by kernel_rfl), COK.nil (fn_ok tok11 (A := none0) (L := noL) (r := none) Try.func34 (by kernel_rfl) (by kernel_rfl) (loops0 (by kernel_rfl)) (by rw [s34, g0] <;> rfl)), h⟩

def S12 : SFn := fun f args k => match f, args with
  | 34, [.el (.ag [(.fl .f32 pa), (.fl .f32 pb), (.fl .f32 pc), (.fl .f32 pd)])] => k [.fresh 102 ⟨.c64, orNil (pulOk ((⟨pa, pb, pc, pd⟩ : PulseV))) (pulList ((⟨pa, pb, pc, pd⟩ : PulseV)))⟩, .el (.sc (.bo (pulOk ((⟨pa, pb, pc, pd⟩ : PulseV)))))]
  | _, _ => S11 f args k
abbrev M12 : MFn := M11
def T12 : TT := tab.T S12 muts M12
theorem tok12 : TOK Try.prog T12 := by
  refine (tab_ok tabok).tok (fun f args k out h => ?_) (fun f vec args k out h => ?_)
  · change S12 f args k = some out at h
    unfold S12 at h
    split at h
    · exact (fun k out h => cok_call (c34 _ _ _ _ k out h)) k out h
    · exact tok11.S f args k out h
  · exact tok11.M f vec args k out h

end Go.Sm.Ytdeplgocckdbiaa
