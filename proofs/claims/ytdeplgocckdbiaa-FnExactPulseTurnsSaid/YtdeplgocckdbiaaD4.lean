/- What the functions hand back: level 3. -/
import Derived.Test.YtdeplgocckdbiaaD3
namespace Go.Sm.Ytdeplgocckdbiaa
open Go Go.Sm Go.RowKit Go.Proofs

/-! spec.l01Phasor -/
def a77 : Ann := ann [(9, [3, 4], [3, 4])] [2] 0
def lp77 : St → (Ex → St → R) → R := fun s k => match s with
  | ⟨[(3, .fv (.el (.sc (.fl .f64 f)))), (4, .fv (.el (.sc (.int .i64 q))))], []⟩ => (match (decide (q = 0) && !fcmp .geq .f64 (qrun 4 f 0).1 4598175219545276416 : Bool) with
    | true => k (.exit 0) ⟨[(3, .fv (.el (.sc (.fl .f64 ((qrun 4 f 0).1))))), (4, .fv (.el (.sc (.int .i64 ((qrun 4 f 0).2)))))], []⟩
    | false => none)
  | _ => none
def l77 : Loops := fun key s k => bif Nat.beq key 9 then lp77 s k else none
theorem st77 (f : Nat) (q : Int) (m : Nat) (k : Ex → St → R) : iterK a77 [3, 4] [3, 4] (codeK T3 a77 l77 Try.f77.ntmps (loopAt Try.f77 0)) (m + 1) ⟨[(3, .fv (.el (.sc (.fl .f64 f)))), (4, .fv (.el (.sc (.int .i64 q))))], []⟩ k = (match (fcmp .geq .f64 f 4598175219545276416 : Bool) with
  | true => iterK a77 [3, 4] [3, 4] (codeK T3 a77 l77 Try.f77.ntmps (loopAt Try.f77 0)) m ⟨[(3, .fv (.el (.sc (.fl .f64 (fop .sub .f64 f 4598175219545276416))))), (4, .fv (.el (.sc (.int .i64 (IntKind.i64.wrap (q + 1))))))], []⟩ k
  | false => k (.exit 0) ⟨[(3, .fv (.el (.sc (.fl .f64 f)))), (4, .fv (.el (.sc (.int .i64 q))))], []⟩) := by kernel_rfl
theorem ind77 (k : Ex → St → R) : ∀ (m f : Nat) (q : Int), 0 ≤ q → q + m ≤ 100 → fcmp .geq .f64 (qrun m f q).1 4598175219545276416 = false → iterK a77 [3, 4] [3, 4] (codeK T3 a77 l77 Try.f77.ntmps (loopAt Try.f77 0)) (m + 1) ⟨[(3, .fv (.el (.sc (.fl .f64 f)))), (4, .fv (.el (.sc (.int .i64 q))))], []⟩ k = k (.exit 0) ⟨[(3, .fv (.el (.sc (.fl .f64 ((qrun m f q).1))))), (4, .fv (.el (.sc (.int .i64 ((qrun m f q).2)))))], []⟩ := by
  intro m
  induction m with
  | zero =>
    intro f q h0 hq hd
    rw [st77]
    have hd2 : fcmp .geq .f64 f 4598175219545276416 = false := hd
    rw [hd2]
    rfl
  | succ m ih =>
    intro f q h0 hq hd
    have hw : IntKind.i64.wrap (q + 1) = q + 1 := wrap64 (by omega) (by omega)
    rw [st77, hw]
    unfold qrun at hd ⊢
    cases hg : fcmp .geq .f64 f 4598175219545276416 with
    | true =>
      rw [hg] at hd
      exact ih _ _ (by omega) (by omega) hd
    | false => rfl

theorem lk77 : LOK T3 a77 l77 Try.f77.ntmps (loopAt Try.f77 0) := by
  intro ins outs hA s k out h
  have hA' : ([3, 4], [3, 4]) = (ins, outs) := Option.some.inj ((show a77.lp (firstRegion (loopAt Try.f77 0)) = some ([3, 4], [3, 4]) by kernel_rfl).symm.trans hA)
  cases hA'
  have hk : firstRegion (loopAt Try.f77 0) = 9 := by kernel_rfl
  rw [hk] at h
  change lp77 s k = some out at h
  unfold lp77 at h
  split at h
  · rename_i f q
    cases hg : (decide (q = 0) && !fcmp .geq .f64 (qrun 4 f 0).1 4598175219545276416) with
    | false => rw [hg] at h; cases h
    | true =>
      rw [hg] at h
      simp only [Bool.and_eq_true, decide_eq_true_eq] at hg
      obtain ⟨rfl, hd⟩ := hg
      refine ⟨5, ?_⟩
      exact (ind77 k 4 f 0 (by omega) (by omega) (by rw [Bool.not_eq_true'] at hd; exact hd)).trans h
  · cases h
theorem e77 (t : Nat) : runFn T3 a77 l77 Try.f77 [.el (.sc (.fl .f64 t))] = (match (fcmp .neq .f64 (fop .sub .f64 t t) 0 : Bool) with
  | true => some ⟨[.el (.sc (.cx .f32 (cn .f32 (Int.toNat (IntKind.u32.wrap 2143289344))) (cn .f32 (Int.toNat (IntKind.u32.wrap 2143289344)))))], none⟩
  | false => (match (fcmp .geq .f64 t 4841369599423283200 : Bool) with
    | true => some ⟨[.el (.sc (.cx .f32 1065353216 0))], none⟩
    | false => (match (fcmp .leq .f64 t 14064741636278059008 : Bool) with
      | true => some ⟨[.el (.sc (.cx .f32 1065353216 0))], none⟩
      | false => (match floatToIntVal .f64 t .i64 with
        | some n1 => (match (fcmp .lss .f64 (fop .sub .f64 t (fint .f64 n1)) 0 : Bool) with
          | true => (match (decide (0 = 0) && !fcmp .geq .f64 (qrun 4 (fop .add .f64 (fop .sub .f64 t (fint .f64 n1)) 4607182418800017408) 0).1 4598175219545276416 : Bool) with
            | true => (match (((qrun 4 (fop .add .f64 (fop .sub .f64 t (fint .f64 n1)) 4607182418800017408) 0).2 : Int) == 1 : Bool) with
              | true => (match fconv .f64 .f32 (fop .sub .f64 0 (sineW ((qrun 4 (fop .add .f64 (fop .sub .f64 t (fint .f64 n1)) 4607182418800017408) 0).1))) with
                | some rn26 => (match fconv .f64 .f32 (sineW (fop .sub .f64 4598175219545276416 ((qrun 4 (fop .add .f64 (fop .sub .f64 t (fint .f64 n1)) 4607182418800017408) 0).1))) with
                  | some rn27 => some ⟨[.el (.sc (.cx .f32 rn26 rn27))], none⟩
                  | none => none)
                | none => none)
              | false => (match (((qrun 4 (fop .add .f64 (fop .sub .f64 t (fint .f64 n1)) 4607182418800017408) 0).2 : Int) == 2 : Bool) with
                | true => (match fconv .f64 .f32 (fop .sub .f64 0 (sineW (fop .sub .f64 4598175219545276416 ((qrun 4 (fop .add .f64 (fop .sub .f64 t (fint .f64 n1)) 4607182418800017408) 0).1)))) with
                  | some rn28 => (match fconv .f64 .f32 (fop .sub .f64 0 (sineW ((qrun 4 (fop .add .f64 (fop .sub .f64 t (fint .f64 n1)) 4607182418800017408) 0).1))) with
                    | some rn29 => some ⟨[.el (.sc (.cx .f32 rn28 rn29))], none⟩
                    | none => none)
                  | none => none)
                | false => (match (((qrun 4 (fop .add .f64 (fop .sub .f64 t (fint .f64 n1)) 4607182418800017408) 0).2 : Int) == 3 : Bool) with
                  | true => (match fconv .f64 .f32 (sineW ((qrun 4 (fop .add .f64 (fop .sub .f64 t (fint .f64 n1)) 4607182418800017408) 0).1)) with
                    | some rn30 => (match fconv .f64 .f32 (fop .sub .f64 0 (sineW (fop .sub .f64 4598175219545276416 ((qrun 4 (fop .add .f64 (fop .sub .f64 t (fint .f64 n1)) 4607182418800017408) 0).1)))) with
                      | some rn31 => some ⟨[.el (.sc (.cx .f32 rn30 rn31))], none⟩
                      | none => none)
                    | none => none)
                  | false => (match fconv .f64 .f32 (sineW (fop .sub .f64 4598175219545276416 ((qrun 4 (fop .add .f64 (fop .sub .f64 t (fint .f64 n1)) 4607182418800017408) 0).1))) with
                    | some rn32 => (match fconv .f64 .f32 (sineW ((qrun 4 (fop .add .f64 (fop .sub .f64 t (fint .f64 n1)) 4607182418800017408) 0).1)) with
                      | some rn33 => some ⟨[.el (.sc (.cx .f32 rn32 rn33))], none⟩
                      | none => none)
                    | none => none))))
            | false => none)
          | false => (match (decide (0 = 0) && !fcmp .geq .f64 (qrun 4 (fop .sub .f64 t (fint .f64 n1)) 0).1 4598175219545276416 : Bool) with
            | true => (match (((qrun 4 (fop .sub .f64 t (fint .f64 n1)) 0).2 : Int) == 1 : Bool) with
              | true => (match fconv .f64 .f32 (fop .sub .f64 0 (sineW ((qrun 4 (fop .sub .f64 t (fint .f64 n1)) 0).1))) with
                | some rn34 => (match fconv .f64 .f32 (sineW (fop .sub .f64 4598175219545276416 ((qrun 4 (fop .sub .f64 t (fint .f64 n1)) 0).1))) with
                  | some rn35 => some ⟨[.el (.sc (.cx .f32 rn34 rn35))], none⟩
                  | none => none)
                | none => none)
              | false => (match (((qrun 4 (fop .sub .f64 t (fint .f64 n1)) 0).2 : Int) == 2 : Bool) with
                | true => (match fconv .f64 .f32 (fop .sub .f64 0 (sineW (fop .sub .f64 4598175219545276416 ((qrun 4 (fop .sub .f64 t (fint .f64 n1)) 0).1)))) with
                  | some rn36 => (match fconv .f64 .f32 (fop .sub .f64 0 (sineW ((qrun 4 (fop .sub .f64 t (fint .f64 n1)) 0).1))) with
                    | some rn37 => some ⟨[.el (.sc (.cx .f32 rn36 rn37))], none⟩
                    | none => none)
                  | none => none)
                | false => (match (((qrun 4 (fop .sub .f64 t (fint .f64 n1)) 0).2 : Int) == 3 : Bool) with
                  | true => (match fconv .f64 .f32 (sineW ((qrun 4 (fop .sub .f64 t (fint .f64 n1)) 0).1)) with
                    | some rn38 => (match fconv .f64 .f32 (fop .sub .f64 0 (sineW (fop .sub .f64 4598175219545276416 ((qrun 4 (fop .sub .f64 t (fint .f64 n1)) 0).1)))) with
                      | some rn39 => some ⟨[.el (.sc (.cx .f32 rn38 rn39))], none⟩
                      | none => none)
                    | none => none)
                  | false => (match fconv .f64 .f32 (sineW (fop .sub .f64 4598175219545276416 ((qrun 4 (fop .sub .f64 t (fint .f64 n1)) 0).1))) with
                    | some rn40 => (match fconv .f64 .f32 (sineW ((qrun 4 (fop .sub .f64 t (fint .f64 n1)) 0).1)) with
                      | some rn41 => some ⟨[.el (.sc (.cx .f32 rn40 rn41))], none⟩
                      | none => none)
                    | none => none))))
            | false => none))
        | none => none)))) := by kernel_rfl
theorem s77 (t : Nat) : runFn T3 a77 l77 Try.f77 [.el (.sc (.fl .f64 t))] = some ⟨[.el (.sc (.cx .f32 (phRe t) (phIm t)))], none⟩ := by
  rw [e77]
  unfold phRe phIm
  have hneq : fcmp .neq .f64 (fop .sub .f64 t t) 0 = !isNum .f64 t := sub_self_fin t
  rw [hneq]
  cases h : isNum .f64 t with
  | false =>
    have hc : cn .f32 (Int.toNat (IntKind.u32.wrap 2143289344)) = nanOf .f32 := by decide +kernel
    simp only [hc]
    rfl
  | true =>
    cases hh : huge t with
    | true =>
      unfold huge big52 neg52 at hh
      cases h1 : fcmp .geq .f64 t 4841369599423283200 with
      | true => rfl
      | false =>
        rw [h1, Bool.false_or] at hh
        simp only [hh]
        rfl
    | false =>
      have hh2 := hh
      unfold huge big52 neg52 at hh2
      rw [Bool.or_eq_false_iff] at hh2
      obtain ⟨n, w1, w2, _⟩ := whole_ok h hh
      obtain ⟨r3, s1, c1, s2, s3, c2, c3⟩ := ph_ok h hh
      have ns := nar_ok s2 s3
      have nc := nar_ok c2 c3
      have eF : (qrun 4 (part t) 0).1 = phF t := rfl
      have eQ : (qrun 4 (part t) 0).2 = phQ t := rfl
      have eC : sinCore (part (fop .sub .f64 4598175219545276416 (phF t))) = phC t := rfl
      have eS : sinCore (part (phF t)) = phS t := rfl
      rw [eF] at r3
      simp only [hh2.1, hh2.2, w1, w2, Bool.not_true, cond_false]
      cases hl : fcmp .lss .f64 (fop .sub .f64 t (whole t)) 0 with
      | true =>
        have hp : fop .add .f64 (fop .sub .f64 t (whole t)) 4607182418800017408 = part t := by
          unfold part
          rw [hl]
          rfl
        simp only [hp, eF, eQ, eC, eS, r3, s1, c1, ns.1, ns.2, nc.1, nc.2, decide_true, Bool.not_false, Bool.and_self, cond_false, cond_true]
        cases h1 : phQ t == 1 <;> cases h2 : phQ t == 2 <;> cases h3 : phQ t == 3 <;> rfl
      | false =>
        have hp : fop .sub .f64 t (whole t) = part t := by
          unfold part
          rw [hl]
          rfl
        simp only [hp, eF, eQ, eC, eS, r3, s1, c1, ns.1, ns.2, nc.1, nc.2, decide_true, Bool.not_false, Bool.and_self, cond_false, cond_true]
        cases h1 : phQ t == 1 <;> cases h2 : phQ t == 2 <;> cases h3 : phQ t == 3 <;> rfl
theorem c77 (t : Nat) (k : List RV → R) (out : Out) (h : k [.el (.sc (.cx .f32 (phRe t) (phIm t)))] = some out) : ∃ rs, Real Try.prog 77 ∧ COK Try.prog 77 [.el (.sc (.fl .f64 t))] rs ∧ k rs = some out := by
  exact ⟨_, real Try.func77 (by kernel_rfl), fn_ok tok3 (A := a77) (L := l77) (r := none) Try.func77 (by kernel_rfl) (by kernel_rfl) (loops1 (by kernel_rfl) lk77) (by rw [s77]), h⟩

/-! spec.l04Give -/
theorem e100 (xs : List ((Nat × Nat))) : runFn T3 none0 noL Try.f100 [.vw none ⟨.c64, xs⟩] = (match (Nat.ble xs.length big : Bool) with
  | true => (match (!(xs.all finC) : Bool) with
    | true => some ⟨[.nil, .el (.sc (.bo false))], none⟩
    | false => some ⟨[.arg 0, .el (.sc (.bo true))], none⟩)
  | false => none) := by kernel_rfl
theorem s100 (xs : List ((Nat × Nat))) : runFn T3 none0 noL Try.f100 [.vw none ⟨.c64, xs⟩] = (match (Nat.ble xs.length big : Bool) with
  | true => (match (xs.all finC : Bool) with
    | true => some ⟨[.arg 0, .el (.sc (.bo true))], none⟩
    | false => some ⟨[.nil, .el (.sc (.bo false))], none⟩)
  | false => none) := by
  rw [e100]
  cases Nat.ble xs.length big <;> cases xs.all finC <;> simp
theorem c100 (xs : List ((Nat × Nat))) (k : List RV → R) (out : Out) (h : (match (Nat.ble xs.length big : Bool) with
  | true => (match (xs.all finC : Bool) with
    | true => k [.arg 0, .el (.sc (.bo true))]
    | false => k [.nil, .el (.sc (.bo false))])
  | false => none) = some out) : ∃ rs, Real Try.prog 100 ∧ COK Try.prog 100 [.vw none ⟨.c64, xs⟩] rs ∧ k rs = some out := by
  cases g0 : (Nat.ble xs.length big : Bool) with
  | true =>
    rw [g0] at h
    cases g1 : (xs.all finC : Bool) with
    | true =>
      rw [g1] at h
      exact ⟨_, real Try.func100 (by kernel_rfl), fn_ok tok3 (A := none0) (L := noL) (r := none) Try.func100 (by kernel_rfl) (by kernel_rfl) (loops0 (by kernel_rfl)) (by rw [s100, g0, g1]), h⟩
    | false =>
      rw [g1] at h
      exact ⟨_, real Try.func100 (by kernel_rfl), fn_ok tok3 (A := none0) (L := noL) (r := none) Try.func100 (by kernel_rfl) (by kernel_rfl) (loops0 (by kernel_rfl)) (by rw [s100, g0, g1]), h⟩
  | false =>
    rw [g0] at h
    cases h

/-! impl.wholeRate -/
theorem s103 (a : Nat) (b : Nat) : runFn T3 none0 noL Try.f103 [.el (.sc (.fl .f32 a)), .el (.sc (.fl .f32 b))] = some ⟨[.el (.sc (.fl .f32 (wholeR a b)))], none⟩ := by kernel_rfl
theorem c103 (a : Nat) (b : Nat) (k : List RV → R) (out : Out) (h : k [.el (.sc (.fl .f32 (wholeR a b)))] = some out) : ∃ rs, Real Try.prog 103 ∧ COK Try.prog 103 [.el (.sc (.fl .f32 a)), .el (.sc (.fl .f32 b))] rs ∧ k rs = some out := by
  exact ⟨_, real Try.func103 (by kernel_rfl), fn_ok tok3 (A := none0) (L := noL) (r := none) Try.func103 (by kernel_rfl) (by kernel_rfl) (loops0 (by kernel_rfl)) (by rw [s103]), h⟩

/-! impl.sine -/
def a152 : Ann := ann [(9, [4, 5, 6, 7, 8], [4, 5, 7])] [2] 0
def lp152 : St → (Ex → St → R) → R := fun s k => match s with
  | ⟨[(4, .fv (.el (.sc (.bo b)))), (5, .fv (.el (.sc (.fl .f64 z)))), (6, .fv (.el (.sc (.fl .f64 u)))), (7, .fv (.el (.sc (.fl .f64 p)))), (8, .fv (.el (.sc (.fl .f64 i))))], []⟩ => (match (Nat.beq i 4620693217682128896 : Bool) with
    | true => k (.exit 0) ⟨[(4, .fv (.el (.sc (.bo b)))), (5, .fv (.el (.sc (.fl .f64 z)))), (7, .fv (.el (.sc (.fl .f64 (sinPoly u p)))))], []⟩
    | false => none)
  | _ => none
def l152 : Loops := fun key s k => bif Nat.beq key 9 then lp152 s k else none
theorem st152 (b : Bool) (z : Nat) (u : Nat) (p : Nat) (i : Nat) (m : Nat) (k : Ex → St → R) : iterK a152 [4, 5, 6, 7, 8] [4, 5, 7] (codeK T3 a152 l152 Try.f152.ntmps (loopAt Try.f152 0)) (m + 1) ⟨[(4, .fv (.el (.sc (.bo b)))), (5, .fv (.el (.sc (.fl .f64 z)))), (6, .fv (.el (.sc (.fl .f64 u)))), (7, .fv (.el (.sc (.fl .f64 p)))), (8, .fv (.el (.sc (.fl .f64 i))))], []⟩ k = (match (fcmp .geq .f64 i 4607182418800017408 : Bool) with
  | true => iterK a152 [4, 5, 6, 7, 8] [4, 5, 7] (codeK T3 a152 l152 Try.f152.ntmps (loopAt Try.f152 0)) m ⟨[(4, .fv (.el (.sc (.bo b)))), (5, .fv (.el (.sc (.fl .f64 z)))), (6, .fv (.el (.sc (.fl .f64 u)))), (7, .fv (.el (.sc (.fl .f64 (fop .sub .f64 4607182418800017408 (fop .quo .f64 (fop .mul .f64 u p) (fop .mul .f64 (fop .mul .f64 4611686018427387904 i) (fop .add .f64 (fop .mul .f64 4611686018427387904 i) 4607182418800017408)))))))), (8, .fv (.el (.sc (.fl .f64 (fop .sub .f64 i 4607182418800017408)))))], []⟩ k
  | false => k (.exit 0) ⟨[(4, .fv (.el (.sc (.bo b)))), (5, .fv (.el (.sc (.fl .f64 z)))), (7, .fv (.el (.sc (.fl .f64 p))))], []⟩) := by kernel_rfl
theorem un152 (b : Bool) (z : Nat) (u : Nat) (p : Nat) (k : Ex → St → R) : iterK a152 [4, 5, 6, 7, 8] [4, 5, 7] (codeK T3 a152 l152 Try.f152.ntmps (loopAt Try.f152 0)) 9 ⟨[(4, .fv (.el (.sc (.bo b)))), (5, .fv (.el (.sc (.fl .f64 z)))), (6, .fv (.el (.sc (.fl .f64 u)))), (7, .fv (.el (.sc (.fl .f64 p)))), (8, .fv (.el (.sc (.fl .f64 4620693217682128896))))], []⟩ k = k (.exit 0) ⟨[(4, .fv (.el (.sc (.bo b)))), (5, .fv (.el (.sc (.fl .f64 z)))), (7, .fv (.el (.sc (.fl .f64 (sinPoly u p)))))], []⟩ := by kernel_rfl

theorem lk152 : LOK T3 a152 l152 Try.f152.ntmps (loopAt Try.f152 0) := by
  intro ins outs hA s k out h
  have hA' : ([4, 5, 6, 7, 8], [4, 5, 7]) = (ins, outs) := Option.some.inj ((show a152.lp (firstRegion (loopAt Try.f152 0)) = some ([4, 5, 6, 7, 8], [4, 5, 7]) by kernel_rfl).symm.trans hA)
  cases hA'
  have hk : firstRegion (loopAt Try.f152 0) = 9 := by kernel_rfl
  rw [hk] at h
  change lp152 s k = some out at h
  unfold lp152 at h
  split at h
  · rename_i b z u p i
    cases hg : Nat.beq i 4620693217682128896 with
    | false => rw [hg] at h; cases h
    | true =>
      rw [hg] at h
      replace hg := Nat.eq_of_beq_eq_true hg
      subst hg
      refine ⟨9, ?_⟩
      exact (un152 b z u p k).trans h
  · cases h
theorem e152 (y : Nat) : runFn T3 a152 l152 Try.f152 [.el (.sc (.fl .f64 y))] = (match (fcmp .geq .f64 (part y) 4602678819172646912 : Bool) with
  | true => (match (fcmp .gtr .f64 (fop .sub .f64 (part y) 4602678819172646912) 4598175219545276416 : Bool) with
    | true => (match (Nat.beq 4620693217682128896 4620693217682128896 : Bool) with
      | true => some ⟨[.el (.sc (.fl .f64 (fneg .f64 (fop .mul .f64 ((fop .mul .f64 (fop .sub .f64 4602678819172646912 (fop .sub .f64 (part y) 4602678819172646912)) 4618760256179416344)) (sinPoly (fop .mul .f64 (fop .mul .f64 (fop .sub .f64 4602678819172646912 (fop .sub .f64 (part y) 4602678819172646912)) 4618760256179416344) (fop .mul .f64 (fop .sub .f64 4602678819172646912 (fop .sub .f64 (part y) 4602678819172646912)) 4618760256179416344)) 4607182418800017408)))))], none⟩
      | false => none)
    | false => (match (Nat.beq 4620693217682128896 4620693217682128896 : Bool) with
      | true => some ⟨[.el (.sc (.fl .f64 (fneg .f64 (fop .mul .f64 ((fop .mul .f64 (fop .sub .f64 (part y) 4602678819172646912) 4618760256179416344)) (sinPoly (fop .mul .f64 (fop .mul .f64 (fop .sub .f64 (part y) 4602678819172646912) 4618760256179416344) (fop .mul .f64 (fop .sub .f64 (part y) 4602678819172646912) 4618760256179416344)) 4607182418800017408)))))], none⟩
      | false => none))
  | false => (match (fcmp .gtr .f64 (part y) 4598175219545276416 : Bool) with
    | true => (match (Nat.beq 4620693217682128896 4620693217682128896 : Bool) with
      | true => some ⟨[.el (.sc (.fl .f64 (fop .mul .f64 ((fop .mul .f64 (fop .sub .f64 4602678819172646912 (part y)) 4618760256179416344)) (sinPoly (fop .mul .f64 (fop .mul .f64 (fop .sub .f64 4602678819172646912 (part y)) 4618760256179416344) (fop .mul .f64 (fop .sub .f64 4602678819172646912 (part y)) 4618760256179416344)) 4607182418800017408))))], none⟩
      | false => none)
    | false => (match (Nat.beq 4620693217682128896 4620693217682128896 : Bool) with
      | true => some ⟨[.el (.sc (.fl .f64 (fop .mul .f64 ((fop .mul .f64 (part y) 4618760256179416344)) (sinPoly (fop .mul .f64 (fop .mul .f64 (part y) 4618760256179416344) (fop .mul .f64 (part y) 4618760256179416344)) 4607182418800017408))))], none⟩
      | false => none))) := by kernel_rfl
theorem s152 (y : Nat) : runFn T3 a152 l152 Try.f152 [.el (.sc (.fl .f64 y))] = some ⟨[.el (.sc (.fl .f64 (sinCore (part y))))], none⟩ := by
  rw [e152]
  generalize part y = f
  unfold sinCore sinVal sinArm low2 low1 half64 quarter64 tau64 one64
  cases fcmp .geq .f64 f 4602678819172646912 <;> simp only [cond_true, cond_false]
  · cases fcmp .gtr .f64 f 4598175219545276416 <;> rfl
  · cases fcmp .gtr .f64 (fop .sub .f64 f 4602678819172646912) 4598175219545276416 <;> rfl
theorem c152 (y : Nat) (k : List RV → R) (out : Out) (h : k [.el (.sc (.fl .f64 (sinCore (part y))))] = some out) : ∃ rs, Real Try.prog 152 ∧ COK Try.prog 152 [.el (.sc (.fl .f64 y))] rs ∧ k rs = some out := by
  exact ⟨_, real Try.func152 (by kernel_rfl), fn_ok tok3 (A := a152) (L := l152) (r := none) Try.func152 (by kernel_rfl) (by kernel_rfl) (loops1 (by kernel_rfl) lk152) (by rw [s152]), h⟩

/-! slices.ContainsFunc[[]float32,float32] -/
theorem e156 (xs : List Nat) : runFn T3 none0 noL Try.f156 [.vw none ⟨.f32, xs⟩, .fn 157 []] = (match (Nat.ble xs.length big : Bool) with
  | true => some ⟨[.el (.sc (.bo (decide ((firstAt notFin xs : Int) ≥ 0))))], none⟩
  | false => none) := by kernel_rfl
theorem s156 (xs : List Nat) : runFn T3 none0 noL Try.f156 [.vw none ⟨.f32, xs⟩, .fn 157 []] = (match (Nat.ble xs.length big : Bool) with
  | true => some ⟨[.el (.sc (.bo (xs.any notFin)))], none⟩
  | false => none) := by
  rw [e156]
  rw [any_firstAt]
theorem c156 (xs : List Nat) (k : List RV → R) (out : Out) (h : (match (Nat.ble xs.length big : Bool) with
  | true => k [.el (.sc (.bo (xs.any notFin)))]
  | false => none) = some out) : ∃ rs, Real Try.prog 156 ∧ COK Try.prog 156 [.vw none ⟨.f32, xs⟩, .fn 157 []] rs ∧ k rs = some out := by
  cases g0 : (Nat.ble xs.length big : Bool) with
  | true =>
    rw [g0] at h
    exact ⟨_, real Try.func156 (by kernel_rfl), fn_ok tok3 (A := none0) (L := noL) (r := none) Try.func156 (by kernel_rfl) (by kernel_rfl) (loops0 (by kernel_rfl)) (by rw [s156, g0]), h⟩
  | false =>
    rw [g0] at h
    cases h

/-! spec.l04Whole -/
theorem s162 (a : Nat) (b : Nat) : runFn T3 none0 noL Try.f162 [.el (.sc (.fl .f32 a)), .el (.sc (.fl .f32 b))] = some ⟨[.el (.sc (.fl .f32 (wholeR a b)))], none⟩ := by kernel_rfl
theorem c162 (a : Nat) (b : Nat) (k : List RV → R) (out : Out) (h : k [.el (.sc (.fl .f32 (wholeR a b)))] = some out) : ∃ rs, Real Try.prog 162 ∧ COK Try.prog 162 [.el (.sc (.fl .f32 a)), .el (.sc (.fl .f32 b))] rs ∧ k rs = some out := by
  exact ⟨_, real Try.func162 (by kernel_rfl), fn_ok tok3 (A := none0) (L := noL) (r := none) Try.func162 (by kernel_rfl) (by kernel_rfl) (loops0 (by kernel_rfl)) (by rw [s162]), h⟩

def S4 : SFn := fun f args k => match f, args with
  | 77, [.el (.sc (.fl .f64 t))] => k [.el (.sc (.cx .f32 (phRe t) (phIm t)))]
  | 100, [.vw none ⟨.c64, xs⟩] => (match (Nat.ble xs.length big : Bool) with
    | true => (match (xs.all finC : Bool) with
      | true => k [.arg 0, .el (.sc (.bo true))]
      | false => k [.nil, .el (.sc (.bo false))])
    | false => none)
  | 103, [.el (.sc (.fl .f32 a)), .el (.sc (.fl .f32 b))] => k [.el (.sc (.fl .f32 (wholeR a b)))]
  | 152, [.el (.sc (.fl .f64 y))] => k [.el (.sc (.fl .f64 (sinCore (part y))))]
  | 156, [.vw none ⟨.f32, xs⟩, .fn 157 []] => (match (Nat.ble xs.length big : Bool) with
    | true => k [.el (.sc (.bo (xs.any notFin)))]
    | false => none)
  | 162, [.el (.sc (.fl .f32 a)), .el (.sc (.fl .f32 b))] => k [.el (.sc (.fl .f32 (wholeR a b)))]
  | _, _ => S3 f args k
abbrev M4 : MFn := M3
def T4 : TT := tab.T S4 muts M4
theorem tok4 : TOK Try.prog T4 := by
  refine (tab_ok tabok).tok (fun f args k out h => ?_) (fun f vec args k out h => ?_)
  · change S4 f args k = some out at h
    unfold S4 at h
    split at h
    · exact (fun k out h => cok_call (c77 _ k out h)) k out h
    · exact (fun k out h => cok_call (c100 _ k out h)) k out h
    · exact (fun k out h => cok_call (c103 _ _ k out h)) k out h
    · exact (fun k out h => cok_call (c152 _ k out h)) k out h
    · exact (fun k out h => cok_call (c156 _ k out h)) k out h
    · exact (fun k out h => cok_call (c162 _ _ k out h)) k out h
    · exact tok3.S f args k out h
  · exact tok3.M f vec args k out h

end Go.Sm.Ytdeplgocckdbiaa
