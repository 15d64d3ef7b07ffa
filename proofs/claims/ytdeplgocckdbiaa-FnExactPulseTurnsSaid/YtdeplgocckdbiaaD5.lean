/- What the functions hand back: level 4. -/
import Derived.Test.YtdeplgocckdbiaaD4
namespace Go.Sm.Ytdeplgocckdbiaa
open Go Go.Sm Go.RowKit Go.Proofs

/-! impl.PhasorOf -/
def a81 : Ann := ann [(7, [4, 5], [4, 5])] [2] 0
def lp81 : St → (Ex → St → R) → R := fun s k => match s with
  | ⟨[(4, .fv (.el (.sc (.fl .f64 f)))), (5, .fv (.el (.sc (.int .i64 q))))], []⟩ => (match (decide (q = 0) && !fcmp .geq .f64 (qrun 4 f 0).1 4598175219545276416 : Bool) with
    | true => k (.exit 1) ⟨[(4, .fv (.el (.sc (.fl .f64 ((qrun 4 f 0).1))))), (5, .fv (.el (.sc (.int .i64 ((qrun 4 f 0).2)))))], []⟩
    | false => none)
  | _ => none
def l81 : Loops := fun key s k => bif Nat.beq key 7 then lp81 s k else none
theorem st81 (f : Nat) (q : Int) (m : Nat) (k : Ex → St → R) : iterK a81 [4, 5] [4, 5] (codeK T4 a81 l81 Try.f81.ntmps (loopAt Try.f81 0)) (m + 1) ⟨[(4, .fv (.el (.sc (.fl .f64 f)))), (5, .fv (.el (.sc (.int .i64 q))))], []⟩ k = (match (fcmp .geq .f64 f 4598175219545276416 : Bool) with
  | true => iterK a81 [4, 5] [4, 5] (codeK T4 a81 l81 Try.f81.ntmps (loopAt Try.f81 0)) m ⟨[(4, .fv (.el (.sc (.fl .f64 (fop .sub .f64 f 4598175219545276416))))), (5, .fv (.el (.sc (.int .i64 (IntKind.i64.wrap (q + 1))))))], []⟩ k
  | false => k (.exit 1) ⟨[(4, .fv (.el (.sc (.fl .f64 f)))), (5, .fv (.el (.sc (.int .i64 q))))], []⟩) := by kernel_rfl
theorem ind81 (k : Ex → St → R) : ∀ (m f : Nat) (q : Int), 0 ≤ q → q + m ≤ 100 → fcmp .geq .f64 (qrun m f q).1 4598175219545276416 = false → iterK a81 [4, 5] [4, 5] (codeK T4 a81 l81 Try.f81.ntmps (loopAt Try.f81 0)) (m + 1) ⟨[(4, .fv (.el (.sc (.fl .f64 f)))), (5, .fv (.el (.sc (.int .i64 q))))], []⟩ k = k (.exit 1) ⟨[(4, .fv (.el (.sc (.fl .f64 ((qrun m f q).1))))), (5, .fv (.el (.sc (.int .i64 ((qrun m f q).2)))))], []⟩ := by
  intro m
  induction m with
  | zero =>
    intro f q h0 hq hd
    rw [st81]
    have hd2 : fcmp .geq .f64 f 4598175219545276416 = false := hd
    rw [hd2]
    rfl
  | succ m ih =>
    intro f q h0 hq hd
    have hw : IntKind.i64.wrap (q + 1) = q + 1 := wrap64 (by omega) (by omega)
    rw [st81, hw]
    unfold qrun at hd ⊢
    cases hg : fcmp .geq .f64 f 4598175219545276416 with
    | true =>
      rw [hg] at hd
      exact ih _ _ (by omega) (by omega) hd
    | false => rfl

theorem lk81 : LOK T4 a81 l81 Try.f81.ntmps (loopAt Try.f81 0) := by
  intro ins outs hA s k out h
  have hA' : ([4, 5], [4, 5]) = (ins, outs) := Option.some.inj ((show a81.lp (firstRegion (loopAt Try.f81 0)) = some ([4, 5], [4, 5]) by kernel_rfl).symm.trans hA)
  cases hA'
  have hk : firstRegion (loopAt Try.f81 0) = 7 := by kernel_rfl
  rw [hk] at h
  change lp81 s k = some out at h
  unfold lp81 at h
  split at h
  · rename_i f q
    cases hg : (decide (q = 0) && !fcmp .geq .f64 (qrun 4 f 0).1 4598175219545276416) with
    | false => rw [hg] at h; cases h
    | true =>
      rw [hg] at h
      simp only [Bool.and_eq_true, decide_eq_true_eq] at hg
      obtain ⟨rfl, hd⟩ := hg
      refine ⟨5, ?_⟩
      exact (ind81 k 4 f 0 (by omega) (by omega) (by rw [Bool.not_eq_true'] at hd; exact hd)).trans h
  · cases h
theorem e81 (t : Nat) : runFn T4 a81 l81 Try.f81 [.el (.sc (.fl .f64 t))] = (match fconv .f64 .f32 (nanOf .f64) with
  | some r1 => (match (fcmp .neq .f64 (fop .sub .f64 t t) 0 : Bool) with
    | true => some ⟨[.el (.sc (.cx .f32 r1 r1))], none⟩
    | false => (match (!isN .f64 t : Bool) with
      | true => (match (fcmp .geq .f64 (fabs t) big52 : Bool) with
        | true => some ⟨[.el (.sc (.cx .f32 1065353216 0))], none⟩
        | false => (match (decide (0 = 0) && !fcmp .geq .f64 (qrun 4 (part t) 0).1 4598175219545276416 : Bool) with
          | true => (match (((qrun 4 (part t) 0).2 : Int) == 1 : Bool) with
            | true => (match fconv .f64 .f32 (fop .sub .f64 0 (sinCore (part ((qrun 4 (part t) 0).1)))) with
              | some r2 => (match fconv .f64 .f32 (sinCore (part (fop .sub .f64 4598175219545276416 ((qrun 4 (part t) 0).1)))) with
                | some r3 => some ⟨[.el (.sc (.cx .f32 r2 r3))], none⟩
                | none => none)
              | none => none)
            | false => (match (((qrun 4 (part t) 0).2 : Int) == 2 : Bool) with
              | true => (match fconv .f64 .f32 (fop .sub .f64 0 (sinCore (part (fop .sub .f64 4598175219545276416 ((qrun 4 (part t) 0).1))))) with
                | some r4 => (match fconv .f64 .f32 (fop .sub .f64 0 (sinCore (part ((qrun 4 (part t) 0).1)))) with
                  | some r5 => some ⟨[.el (.sc (.cx .f32 r4 r5))], none⟩
                  | none => none)
                | none => none)
              | false => (match (((qrun 4 (part t) 0).2 : Int) == 3 : Bool) with
                | true => (match fconv .f64 .f32 (sinCore (part ((qrun 4 (part t) 0).1))) with
                  | some r6 => (match fconv .f64 .f32 (fop .sub .f64 0 (sinCore (part (fop .sub .f64 4598175219545276416 ((qrun 4 (part t) 0).1))))) with
                    | some r7 => some ⟨[.el (.sc (.cx .f32 r6 r7))], none⟩
                    | none => none)
                  | none => none)
                | false => (match fconv .f64 .f32 (sinCore (part (fop .sub .f64 4598175219545276416 ((qrun 4 (part t) 0).1)))) with
                  | some r8 => (match fconv .f64 .f32 (sinCore (part ((qrun 4 (part t) 0).1))) with
                    | some r9 => some ⟨[.el (.sc (.cx .f32 r8 r9))], none⟩
                    | none => none)
                  | none => none))))
          | false => none))
      | false => none))
  | none => none) := by kernel_rfl
theorem s81 (t : Nat) : runFn T4 a81 l81 Try.f81 [.el (.sc (.fl .f64 t))] = some ⟨[.el (.sc (.cx .f32 (phRe t) (phIm t)))], none⟩ := by
  rw [e81]
  unfold phRe phIm
  have hneq : fcmp .neq .f64 (fop .sub .f64 t t) 0 = !isNum .f64 t := sub_self_fin t
  rw [hneq]
  cases h : isNum .f64 t with
  | false => rfl
  | true =>
    have hN := isNum_notN h
    have ha := huge_abs h
    have hnan : fconv .f64 .f32 (nanOf .f64) = some (nanOf .f32) := narrow_nan (isN_nanOf .f64)
    rw [ha, hN]
    cases hh : huge t with
    | true => simp [hnan]
    | false =>
      obtain ⟨r3, s1, c1, s2, s3, c2, c3⟩ := ph_ok h hh
      have ns := nar_ok s2 s3
      have nc := nar_ok c2 c3
      have eF : (qrun 4 (part t) 0).1 = phF t := rfl
      have eQ : (qrun 4 (part t) 0).2 = phQ t := rfl
      have eC : sinCore (part (fop .sub .f64 4598175219545276416 (phF t))) = phC t := rfl
      have eS : sinCore (part (phF t)) = phS t := rfl
      rw [eF] at r3
      simp only [hnan, eF, eQ, eC, eS, r3, ns.1, ns.2, nc.1, nc.2, decide_true, Bool.not_false, Bool.not_true, Bool.and_self, cond_false, cond_true]
      cases phQ t == 1 <;> cases phQ t == 2 <;> cases phQ t == 3 <;> rfl
theorem c81 (t : Nat) (k : List RV → R) (out : Out) (h : k [.el (.sc (.cx .f32 (phRe t) (phIm t)))] = some out) : ∃ rs, Real Try.prog 81 ∧ COK Try.prog 81 [.el (.sc (.fl .f64 t))] rs ∧ k rs = some out := by
  exact ⟨_, real Try.func81 (by kernel_rfl), fn_ok tok4 (A := a81) (L := l81) (r := none) Try.func81 (by kernel_rfl) (by kernel_rfl) (loops1 (by kernel_rfl) lk81) (by rw [s81]), h⟩

/-! impl.areFinite -/
theorem e85 (xs : List Nat) : runFn T4 none0 noL Try.f85 [.vw none ⟨.f32, xs⟩] = (match (Nat.ble xs.length big : Bool) with
  | true => some ⟨[.el (.sc (.bo (!(xs.any notFin))))], none⟩
  | false => none) := by kernel_rfl
theorem s85 (xs : List Nat) : runFn T4 none0 noL Try.f85 [.vw none ⟨.f32, xs⟩] = (match (Nat.ble xs.length big : Bool) with
  | true => some ⟨[.el (.sc (.bo (xs.all fin)))], none⟩
  | false => none) := by
  rw [e85]
  rw [notFin_fun, not_any]
theorem c85 (xs : List Nat) (k : List RV → R) (out : Out) (h : (match (Nat.ble xs.length big : Bool) with
  | true => k [.el (.sc (.bo (xs.all fin)))]
  | false => none) = some out) : ∃ rs, Real Try.prog 85 ∧ COK Try.prog 85 [.vw none ⟨.f32, xs⟩] rs ∧ k rs = some out := by
  cases g0 : (Nat.ble xs.length big : Bool) with
  | true =>
    rw [g0] at h
    exact ⟨_, real Try.func85 (by kernel_rfl), fn_ok tok4 (A := none0) (L := noL) (r := none) Try.func85 (by kernel_rfl) (by kernel_rfl) (loops0 (by kernel_rfl)) (by rw [s85, g0]), h⟩
  | false =>
    rw [g0] at h
    cases h

/-! spec.l04Pulse -/
theorem e101 (pa : Nat) (pb : Nat) (pc : Nat) (pd : Nat) : runFn T4 none0 noL Try.f101 [.pt ⟨.v ⟨.pulse, [⟨pa, pb, pc, pd⟩]⟩, 4, 0, 0⟩] = (match (fcmp .neq .f32 (wholeR pa pb) 0 : Bool) with
  | true => (match fconv .f64 .f32 (fop .sub .f64 (fop .mul .f64 (wid (phRe (wid pc))) (wid 0)) (fop .mul .f64 (wid (fneg .f32 (phIm (wid pc)))) (wid 3212836864))) with
    | some rn42 => (match fconv .f64 .f32 (fop .add .f64 (fop .mul .f64 (wid (phRe (wid pc))) (wid 3212836864)) (fop .mul .f64 (wid (fneg .f32 (phIm (wid pc)))) (wid 0))) with
      | some rn43 => (match fconv .f64 .f32 (fop .sub .f64 (fop .mul .f64 (wid (phRe (wid pc))) (wid 0)) (fop .mul .f64 (wid (phIm (wid pc))) (wid 3212836864))) with
        | some rn44 => (match fconv .f64 .f32 (fop .add .f64 (fop .mul .f64 (wid (phRe (wid pc))) (wid 3212836864)) (fop .mul .f64 (wid (phIm (wid pc))) (wid 0))) with
          | some rn45 => some ⟨[.fresh 102 ⟨.c64, [(phRe (turns (fop .mul .f32 1056964608 pd) (wholeR pa pb)), fop .sub .f32 0 (fop .mul .f32 (fop .quo .f32 pb (wholeR pa pb)) (phIm (turns (fop .mul .f32 1056964608 pd) (wholeR pa pb))))), (fop .mul .f32 rn42 (fop .mul .f32 (fop .quo .f32 pa (wholeR pa pb)) (phIm (turns (fop .mul .f32 1056964608 pd) (wholeR pa pb)))), fop .mul .f32 rn43 (fop .mul .f32 (fop .quo .f32 pa (wholeR pa pb)) (phIm (turns (fop .mul .f32 1056964608 pd) (wholeR pa pb))))), (fop .mul .f32 rn44 (fop .mul .f32 (fop .quo .f32 pa (wholeR pa pb)) (phIm (turns (fop .mul .f32 1056964608 pd) (wholeR pa pb)))), fop .mul .f32 rn45 (fop .mul .f32 (fop .quo .f32 pa (wholeR pa pb)) (phIm (turns (fop .mul .f32 1056964608 pd) (wholeR pa pb))))), (phRe (turns (fop .mul .f32 1056964608 pd) (wholeR pa pb)), fop .mul .f32 (fop .quo .f32 pb (wholeR pa pb)) (phIm (turns (fop .mul .f32 1056964608 pd) (wholeR pa pb))))]⟩], none⟩
          | none => none)
        | none => none)
      | none => none)
    | none => none)
  | false => (match fconv .f64 .f32 (fop .sub .f64 (fop .mul .f64 (wid (phRe (wid pc))) (wid 0)) (fop .mul .f64 (wid (fneg .f32 (phIm (wid pc)))) (wid 3212836864))) with
    | some rn46 => (match fconv .f64 .f32 (fop .add .f64 (fop .mul .f64 (wid (phRe (wid pc))) (wid 3212836864)) (fop .mul .f64 (wid (fneg .f32 (phIm (wid pc)))) (wid 0))) with
      | some rn47 => (match fconv .f64 .f32 (fop .sub .f64 (fop .mul .f64 (wid (phRe (wid pc))) (wid 0)) (fop .mul .f64 (wid (phIm (wid pc))) (wid 3212836864))) with
        | some rn48 => (match fconv .f64 .f32 (fop .add .f64 (fop .mul .f64 (wid (phRe (wid pc))) (wid 3212836864)) (fop .mul .f64 (wid (phIm (wid pc))) (wid 0))) with
          | some rn49 => some ⟨[.fresh 102 ⟨.c64, [(phRe (turns (fop .mul .f32 1056964608 pd) (wholeR pa pb)), fop .sub .f32 0 0), (fop .mul .f32 rn46 0, fop .mul .f32 rn47 0), (fop .mul .f32 rn48 0, fop .mul .f32 rn49 0), (phRe (turns (fop .mul .f32 1056964608 pd) (wholeR pa pb)), 0)]⟩], none⟩
          | none => none)
        | none => none)
      | none => none)
    | none => none)) := by kernel_rfl
theorem s101 (pa : Nat) (pb : Nat) (pc : Nat) (pd : Nat) (hg : (pulIs ((⟨pa, pb, pc, pd⟩ : PulseV))) = true) : runFn T4 none0 noL Try.f101 [.pt ⟨.v ⟨.pulse, [⟨pa, pb, pc, pd⟩]⟩, 4, 0, 0⟩] = some ⟨[.fresh 102 ⟨.c64, pulList ((⟨pa, pb, pc, pd⟩ : PulseV))⟩], none⟩ := by
  rw [e101]
  have hp := pul_ok hg
  dsimp only at hp
  obtain ⟨⟨p1, p2⟩, p3, p4⟩ := hp
  have e1 : turns (fop .mul .f32 1056964608 pd) (wholeR pa pb) = pulT (⟨pa, pb, pc, pd⟩ : PulseV) := rfl
  simp only [p1, p2, p3, p4, e1]
  unfold pulList pulQ pulX pulY
  cases h7 : fcmp .neq .f32 (wholeR pa pb) 0 <;> simp [h7]
theorem c101 (pa : Nat) (pb : Nat) (pc : Nat) (pd : Nat) (k : List RV → R) (out : Out) (h : (match (pulIs ((⟨pa, pb, pc, pd⟩ : PulseV)) : Bool) with
  | true => k [.fresh 102 ⟨.c64, pulList ((⟨pa, pb, pc, pd⟩ : PulseV))⟩]
  | false => none) = some out) : ∃ rs, Real Try.prog 101 ∧ COK Try.prog 101 [.pt ⟨.v ⟨.pulse, [⟨pa, pb, pc, pd⟩]⟩, 4, 0, 0⟩] rs ∧ k rs = some out := by
  cases g0 : (pulIs ((⟨pa, pb, pc, pd⟩ : PulseV)) : Bool) with
  | true =>
    rw [g0] at h
    exact ⟨_, real Try.func101 (by kernel_rfl), fn_ok tok4 (A := none0) (L := noL) (r := none) Try.func101 (by kernel_rfl) (by kernel_rfl) (loops0 (by kernel_rfl)) (by rw [s101 _ _ _ _ g0]), h⟩
  | false =>
    rw [g0] at h
    cases h

def S5 : SFn := fun f args k => match f, args with
  | 81, [.el (.sc (.fl .f64 t))] => k [.el (.sc (.cx .f32 (phRe t) (phIm t)))]
  | 85, [.vw none ⟨.f32, xs⟩] => (match (Nat.ble xs.length big : Bool) with
    | true => k [.el (.sc (.bo (xs.all fin)))]
    | false => none)
  | 101, [.pt ⟨.v ⟨.pulse, [⟨pa, pb, pc, pd⟩]⟩, 4, 0, 0⟩] => (match (pulIs ((⟨pa, pb, pc, pd⟩ : PulseV)) : Bool) with
    | true => k [.fresh 102 ⟨.c64, pulList ((⟨pa, pb, pc, pd⟩ : PulseV))⟩]
    | false => none)
  | _, _ => S4 f args k
abbrev M5 : MFn := M4
def T5 : TT := tab.T S5 muts M5
theorem tok5 : TOK Try.prog T5 := by
  refine (tab_ok tabok).tok (fun f args k out h => ?_) (fun f vec args k out h => ?_)
  · change S5 f args k = some out at h
    unfold S5 at h
    split at h
    · exact (fun k out h => cok_call (c81 _ k out h)) k out h
    · exact (fun k out h => cok_call (c85 _ k out h)) k out h
    · exact (fun k out h => cok_call (c101 _ _ _ _ k out h)) k out h
    · exact tok4.S f args k out h
  · exact tok4.M f vec args k out h

end Go.Sm.Ytdeplgocckdbiaa
