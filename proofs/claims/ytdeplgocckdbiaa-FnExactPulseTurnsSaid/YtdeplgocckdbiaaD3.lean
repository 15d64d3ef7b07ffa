/- What the functions hand back: level 2. -/
import Derived.Test.YtdeplgocckdbiaaD2
namespace Go.Sm.Ytdeplgocckdbiaa
open Go Go.Sm Go.RowKit Go.Proofs

/-! laws.eqComplex64S -/
def a35 : Ann := ann [(4, [0, 1, 5], [])] [4] 0
def lp35 : St → (Ex → St → R) → R := fun s k => match s with
  | ⟨[(0, .fv (.vw (some 0) ⟨.c64, xs⟩)), (1, .fv (.vw (some 1) ⟨.c64, ys⟩)), (5, .fv (.el (.sc (.int .i64 i))))], []⟩ => (match (decide (i = 0) && (Nat.beq xs.length ys.length && Nat.ble xs.length big) : Bool) with
    | true => (match (all2 sameC xs ys : Bool) with
      | true => k (.exit 0) ⟨[], []⟩
      | false => k .ret ⟨[(4, .fv (.el (.sc (.bo false))))], []⟩)
    | false => none)
  | _ => none
def l35 : Loops := fun key s k => bif Nat.beq key 4 then lp35 s k else none
theorem st35 (xs : List ((Nat × Nat))) (ys : List ((Nat × Nat))) (i : Int) (m : Nat) (k : Ex → St → R) : iterK a35 [0, 1, 5] [] (codeK T2 a35 l35 Try.f35.ntmps (loopAt Try.f35 0)) (m + 1) ⟨[(0, .fv (.vw (some 0) ⟨.c64, xs⟩)), (1, .fv (.vw (some 1) ⟨.c64, ys⟩)), (5, .fv (.el (.sc (.int .i64 i))))], []⟩ k = (match (decide ((i : Int) < (xs.length : Int)) : Bool) with
  | true => (match (decide (0 ≤ (i : Int) ∧ (i : Int) < (xs.length : Int)) && true : Bool) with
    | true => (match (xs : List ((Nat × Nat)))[Int.toNat i]? with
      | some x1 => (match (decide (0 ≤ (i : Int) ∧ (i : Int) < (ys.length : Int)) && true : Bool) with
        | true => (match (ys : List ((Nat × Nat)))[Int.toNat i]? with
          | some x2 => (match (!(sameF (wid x1.1) (wid x2.1) && sameF (wid x1.2) (wid x2.2)) : Bool) with
            | true => k .ret ⟨[(4, .fv (.el (.sc (.bo false))))], []⟩
            | false => iterK a35 [0, 1, 5] [] (codeK T2 a35 l35 Try.f35.ntmps (loopAt Try.f35 0)) m ⟨[(0, .fv (.vw (some 0) ⟨.c64, xs⟩)), (1, .fv (.vw (some 1) ⟨.c64, ys⟩)), (5, .fv (.el (.sc (.int .i64 (IntKind.i64.wrap (i + 1))))))], []⟩ k)
          | none => none)
        | false => none)
      | none => none)
    | false => none)
  | false => k (.exit 0) ⟨[], []⟩) := by kernel_rfl
theorem ind35 (xs ys : List (Nat × Nat)) (hl : xs.length = ys.length) (hx : Nat.ble xs.length big = true) (k : Ex → St → R) : ∀ (m j : Nat), j + m = xs.length → iterK a35 [0, 1, 5] [] (codeK T2 a35 l35 Try.f35.ntmps (loopAt Try.f35 0)) (m + 1) ⟨[(0, .fv (.vw (some 0) ⟨.c64, xs⟩)), (1, .fv (.vw (some 1) ⟨.c64, ys⟩)), (5, .fv (.el (.sc (.int .i64 (j : Int)))))], []⟩ k =
    (match all2 sameC (xs.drop j) (ys.drop j) with
    | true => k (.exit 0) ⟨[], []⟩
    | false => k .ret ⟨[(4, .fv (.el (.sc (.bo false))))], []⟩) := by
  intro m
  induction m with
  | zero =>
    intro j hj
    have h1 : ¬ ((j : Int) < (xs.length : Int)) := by omega
    rw [st35, List.drop_of_length_le (by omega)]
    simp [h1, all2]
  | succ m ih =>
    intro j hj
    have hlt : j < xs.length := by omega
    have hlt2 : j < ys.length := by omega
    have h1 : ((j : Int) < (xs.length : Int)) := by omega
    have h12 : ((j : Int) < (ys.length : Int)) := by omega
    have h2 : (0 : Int) ≤ (j : Int) := by omega
    rw [st35, wrap_succ hlt hx]
    have h3 : xs[Int.toNat (j : Int)]? = some xs[j] := by simp [hlt]
    have h4 : ys[Int.toNat (j : Int)]? = some ys[j] := by simp [hlt2]
    rw [List.drop_eq_getElem_cons hlt, List.drop_eq_getElem_cons hlt2, ih (j + 1) (by omega)]
    simp only [h1, h12, h2, h3, h4, and_self, decide_true, Bool.and_true, all2]
    unfold sameC
    cases hp : (sameF (wid xs[j].1) (wid ys[j].1) && sameF (wid xs[j].2) (wid ys[j].2)) <;> simp

theorem lk35 : LOK T2 a35 l35 Try.f35.ntmps (loopAt Try.f35 0) := by
  intro ins outs hA s k out h
  have hA' : ([0, 1, 5], []) = (ins, outs) := Option.some.inj ((show a35.lp (firstRegion (loopAt Try.f35 0)) = some ([0, 1, 5], []) by kernel_rfl).symm.trans hA)
  cases hA'
  have hk : firstRegion (loopAt Try.f35 0) = 4 := by kernel_rfl
  rw [hk] at h
  change lp35 s k = some out at h
  unfold lp35 at h
  split at h
  · rename_i xs ys i
    cases hg : (decide (i = 0) && (Nat.beq xs.length ys.length && Nat.ble xs.length big)) with
    | false => rw [hg] at h; cases h
    | true =>
      rw [hg] at h
      simp only [Bool.and_eq_true, decide_eq_true_eq] at hg
      obtain ⟨rfl, hl, hx⟩ := hg
      refine ⟨xs.length + 1, ?_⟩
      exact (ind35 xs ys (Nat.eq_of_beq_eq_true hl) hx k xs.length 0 (by omega)).trans h
  · cases h
theorem e35 (xs : List ((Nat × Nat))) (ys : List ((Nat × Nat))) : runFn T2 a35 l35 Try.f35 [.vw none ⟨.c64, xs⟩, .vw none ⟨.c64, ys⟩] = (match (!(((xs.length : Int) : Int) == (ys.length : Int)) : Bool) with
  | true => some ⟨[.el (.sc (.bo false))], none⟩
  | false => (match (decide (0 = 0) && (Nat.beq xs.length ys.length && Nat.ble xs.length big) : Bool) with
    | true => (match (all2 sameC xs ys : Bool) with
      | true => some ⟨[.el (.sc (.bo true))], none⟩
      | false => some ⟨[.el (.sc (.bo false))], none⟩)
    | false => none)) := by kernel_rfl
theorem s35 (xs : List ((Nat × Nat))) (ys : List ((Nat × Nat))) : runFn T2 a35 l35 Try.f35 [.vw none ⟨.c64, xs⟩, .vw none ⟨.c64, ys⟩] = (match (Nat.beq xs.length ys.length : Bool) with
  | true => (match (Nat.ble xs.length big : Bool) with
    | true => some ⟨[.el (.sc (.bo (all2 sameC xs ys)))], none⟩
    | false => none)
  | false => some ⟨[.el (.sc (.bo false))], none⟩) := by
  rw [e35]
  cases hl : Nat.beq xs.length ys.length with
  | false =>
    have h1 : xs.length ≠ ys.length := fun e => by rw [e, Nat.beq_refl] at hl; cases hl
    have h2 : ((xs.length : Int) == (ys.length : Int)) = false := beq_false_of_ne (by omega)
    simp only [h2, Bool.not_false]
  | true =>
    have h1 := Nat.eq_of_beq_eq_true hl
    have h2 : ((xs.length : Int) == (ys.length : Int)) = true := beq_iff_eq.2 (by omega)
    simp only [h2, Bool.not_true]
    cases h : Nat.ble xs.length big with
    | false => simp
    | true => cases h3 : all2 sameC xs ys <;> simp
theorem c35 (xs : List ((Nat × Nat))) (ys : List ((Nat × Nat))) (k : List RV → R) (out : Out) (h : (match (Nat.beq xs.length ys.length : Bool) with
  | true => (match (Nat.ble xs.length big : Bool) with
    | true => k [.el (.sc (.bo (all2 sameC xs ys)))]
    | false => none)
  | false => k [.el (.sc (.bo false))]) = some out) : ∃ rs, Real Try.prog 35 ∧ COK Try.prog 35 [.vw none ⟨.c64, xs⟩, .vw none ⟨.c64, ys⟩] rs ∧ k rs = some out := by
  cases g0 : (Nat.beq xs.length ys.length : Bool) with
  | true =>
    rw [g0] at h
    cases g1 : (Nat.ble xs.length big : Bool) with
    | true =>
      rw [g1] at h
      exact ⟨_, real Try.func35 (by kernel_rfl), fn_ok tok2 (A := a35) (L := l35) (r := none) Try.func35 (by kernel_rfl) (by kernel_rfl) (loops1 (by kernel_rfl) lk35) (by rw [s35, g0, g1]), h⟩
    | false =>
      rw [g1] at h
      cases h
  | false =>
    rw [g0] at h
    exact ⟨_, real Try.func35 (by kernel_rfl), fn_ok tok2 (A := a35) (L := l35) (r := none) Try.func35 (by kernel_rfl) (by kernel_rfl) (loops1 (by kernel_rfl) lk35) (by rw [s35, g0]), h⟩

/-! spec.l01Sqrt -/
theorem e93 (x : Nat) : runFn T2 none0 noL Try.f93 [.el (.sc (.fl .f32 x))] = (match fconv .f64 .f32 (fsqrt (wid x)) with
  | some rn17 => some ⟨[.el (.sc (.fl .f32 rn17))], none⟩
  | none => none) := by kernel_rfl
theorem s93 (x : Nat) : runFn T2 none0 noL Try.f93 [.el (.sc (.fl .f32 x))] = some ⟨[.el (.sc (.fl .f32 (rootF x)))], none⟩ := by
  rw [e93]
  rw [root_narrow]
theorem c93 (x : Nat) (k : List RV → R) (out : Out) (h : k [.el (.sc (.fl .f32 (rootF x)))] = some out) : ∃ rs, Real Try.prog 93 ∧ COK Try.prog 93 [.el (.sc (.fl .f32 x))] rs ∧ k rs = some out := by
  exact ⟨_, real Try.func93 (by kernel_rfl), fn_ok tok2 (A := none0) (L := noL) (r := none) Try.func93 (by kernel_rfl) (by kernel_rfl) (loops0 (by kernel_rfl)) (by rw [s93]), h⟩

/-! impl.RootNumber -/
theorem e98 (x : Nat) : runFn T2 none0 noL Try.f98 [.el (.sc (.fl .f32 x))] = (match fconv .f64 .f32 (fsqrt (wid x)) with
  | some r1 => some ⟨[.el (.sc (.fl .f32 r1))], none⟩
  | none => none) := by kernel_rfl
theorem s98 (x : Nat) : runFn T2 none0 noL Try.f98 [.el (.sc (.fl .f32 x))] = some ⟨[.el (.sc (.fl .f32 (rootF x)))], none⟩ := by
  rw [e98]
  rw [root_narrow]
theorem c98 (x : Nat) (k : List RV → R) (out : Out) (h : k [.el (.sc (.fl .f32 (rootF x)))] = some out) : ∃ rs, Real Try.prog 98 ∧ COK Try.prog 98 [.el (.sc (.fl .f32 x))] rs ∧ k rs = some out := by
  exact ⟨_, real Try.func98 (by kernel_rfl), fn_ok tok2 (A := none0) (L := noL) (r := none) Try.func98 (by kernel_rfl) (by kernel_rfl) (loops0 (by kernel_rfl)) (by rw [s98]), h⟩

/-! spec.l04Is -/
theorem e99 (pa : Nat) (pb : Nat) (pc : Nat) (pd : Nat) : runFn T2 none0 noL Try.f99 [.pt ⟨.v ⟨.pulse, [⟨pa, pb, pc, pd⟩]⟩, 4, 0, 0⟩] = (match (atLeast0 pa : Bool) with
  | true => (match (fin pb : Bool) with
    | true => (match (fin pc : Bool) with
      | true => some ⟨[.el (.sc (.bo (atLeast0 pd)))], none⟩
      | false => some ⟨[.el (.sc (.bo false))], none⟩)
    | false => some ⟨[.el (.sc (.bo false))], none⟩)
  | false => some ⟨[.el (.sc (.bo false))], none⟩) := by kernel_rfl
theorem s99 (pa : Nat) (pb : Nat) (pc : Nat) (pd : Nat) : runFn T2 none0 noL Try.f99 [.pt ⟨.v ⟨.pulse, [⟨pa, pb, pc, pd⟩]⟩, 4, 0, 0⟩] = some ⟨[.el (.sc (.bo (pulIs ((⟨pa, pb, pc, pd⟩ : PulseV)))))], none⟩ := by
  rw [e99]
  unfold pulIs
  cases atLeast0 pa <;> cases fin pb <;> cases fin pc <;> cases atLeast0 pd <;> rfl
theorem c99 (pa : Nat) (pb : Nat) (pc : Nat) (pd : Nat) (k : List RV → R) (out : Out) (h : k [.el (.sc (.bo (pulIs ((⟨pa, pb, pc, pd⟩ : PulseV)))))] = some out) : ∃ rs, Real Try.prog 99 ∧ COK Try.prog 99 [.pt ⟨.v ⟨.pulse, [⟨pa, pb, pc, pd⟩]⟩, 4, 0, 0⟩] rs ∧ k rs = some out := by
  exact ⟨_, real Try.func99 (by kernel_rfl), fn_ok tok2 (A := none0) (L := noL) (r := none) Try.func99 (by kernel_rfl) (by kernel_rfl) (loops0 (by kernel_rfl)) (by rw [s99]), h⟩

/-! spec.l01SineWide -/
def a147 : Ann := ann [(17, [4, 5, 6, 7, 8], [4, 5, 7])] [2] 0
def lp147 : St → (Ex → St → R) → R := fun s k => match s with
  | ⟨[(4, .fv (.el (.sc (.bo b)))), (5, .fv (.el (.sc (.fl .f64 z)))), (6, .fv (.el (.sc (.fl .f64 u)))), (7, .fv (.el (.sc (.fl .f64 p)))), (8, .fv (.el (.sc (.int .i64 i))))], []⟩ => (match (decide (i = 8) : Bool) with
    | true => k (.exit 0) ⟨[(4, .fv (.el (.sc (.bo b)))), (5, .fv (.el (.sc (.fl .f64 z)))), (7, .fv (.el (.sc (.fl .f64 (sinPoly u p)))))], []⟩
    | false => none)
  | _ => none
def l147 : Loops := fun key s k => bif Nat.beq key 17 then lp147 s k else none
theorem st147 (b : Bool) (z : Nat) (u : Nat) (p : Nat) (i : Int) (m : Nat) (k : Ex → St → R) : iterK a147 [4, 5, 6, 7, 8] [4, 5, 7] (codeK T2 a147 l147 Try.f147.ntmps (loopAt Try.f147 0)) (m + 1) ⟨[(4, .fv (.el (.sc (.bo b)))), (5, .fv (.el (.sc (.fl .f64 z)))), (6, .fv (.el (.sc (.fl .f64 u)))), (7, .fv (.el (.sc (.fl .f64 p)))), (8, .fv (.el (.sc (.int .i64 i))))], []⟩ k = (match (decide ((i : Int) ≥ 1) : Bool) with
  | true => iterK a147 [4, 5, 6, 7, 8] [4, 5, 7] (codeK T2 a147 l147 Try.f147.ntmps (loopAt Try.f147 0)) m ⟨[(4, .fv (.el (.sc (.bo b)))), (5, .fv (.el (.sc (.fl .f64 z)))), (6, .fv (.el (.sc (.fl .f64 u)))), (7, .fv (.el (.sc (.fl .f64 (fop .sub .f64 4607182418800017408 (fop .quo .f64 (fop .mul .f64 u p) (fint .f64 (IntKind.i64.wrap ((IntKind.i64.wrap (2 * i)) * (IntKind.i64.wrap ((IntKind.i64.wrap (2 * i)) + 1))))))))))), (8, .fv (.el (.sc (.int .i64 (IntKind.i64.wrap (i - 1))))))], []⟩ k
  | false => k (.exit 0) ⟨[(4, .fv (.el (.sc (.bo b)))), (5, .fv (.el (.sc (.fl .f64 z)))), (7, .fv (.el (.sc (.fl .f64 p))))], []⟩) := by kernel_rfl
theorem un147 (b : Bool) (z : Nat) (u : Nat) (p : Nat) (k : Ex → St → R) : iterK a147 [4, 5, 6, 7, 8] [4, 5, 7] (codeK T2 a147 l147 Try.f147.ntmps (loopAt Try.f147 0)) 9 ⟨[(4, .fv (.el (.sc (.bo b)))), (5, .fv (.el (.sc (.fl .f64 z)))), (6, .fv (.el (.sc (.fl .f64 u)))), (7, .fv (.el (.sc (.fl .f64 p)))), (8, .fv (.el (.sc (.int .i64 8))))], []⟩ k = k (.exit 0) ⟨[(4, .fv (.el (.sc (.bo b)))), (5, .fv (.el (.sc (.fl .f64 z)))), (7, .fv (.el (.sc (.fl .f64 (sinPoly u p)))))], []⟩ := by kernel_rfl

theorem lk147 : LOK T2 a147 l147 Try.f147.ntmps (loopAt Try.f147 0) := by
  intro ins outs hA s k out h
  have hA' : ([4, 5, 6, 7, 8], [4, 5, 7]) = (ins, outs) := Option.some.inj ((show a147.lp (firstRegion (loopAt Try.f147 0)) = some ([4, 5, 6, 7, 8], [4, 5, 7]) by kernel_rfl).symm.trans hA)
  cases hA'
  have hk : firstRegion (loopAt Try.f147 0) = 17 := by kernel_rfl
  rw [hk] at h
  change lp147 s k = some out at h
  unfold lp147 at h
  split at h
  · rename_i b z u p i
    cases hg : decide (i = 8) with
    | false => rw [hg] at h; cases h
    | true =>
      rw [hg] at h
      replace hg := of_decide_eq_true hg
      subst hg
      refine ⟨9, ?_⟩
      exact (un147 b z u p k).trans h
  · cases h
theorem e147 (y : Nat) : runFn T2 a147 l147 Try.f147 [.el (.sc (.fl .f64 y))] = (match (fcmp .neq .f64 (fop .sub .f64 y y) 0 : Bool) with
  | true => some ⟨[.el (.sc (.fl .f64 (nanOf .f64)))], none⟩
  | false => (match (fcmp .geq .f64 y 4841369599423283200 : Bool) with
    | true => some ⟨[.el (.sc (.fl .f64 0))], none⟩
    | false => (match (fcmp .leq .f64 y 14064741636278059008 : Bool) with
      | true => some ⟨[.el (.sc (.fl .f64 0))], none⟩
      | false => (match floatToIntVal .f64 y .i64 with
        | some n1 => (match (fcmp .lss .f64 (fop .sub .f64 y (fint .f64 n1)) 0 : Bool) with
          | true => (match (fcmp .geq .f64 (fop .add .f64 (fop .sub .f64 y (fint .f64 n1)) 4607182418800017408) 4602678819172646912 : Bool) with
            | true => (match (fcmp .gtr .f64 (fop .sub .f64 (fop .add .f64 (fop .sub .f64 y (fint .f64 n1)) 4607182418800017408) 4602678819172646912) 4598175219545276416 : Bool) with
              | true => (match (decide (8 = 8) : Bool) with
                | true => (match ((fcmp .geq .f64 (fop .add .f64 (fop .sub .f64 y (fint .f64 n1)) 4607182418800017408) 4602678819172646912) : Bool) with
                  | true => some ⟨[.el (.sc (.fl .f64 (fneg .f64 (fop .mul .f64 ((fop .mul .f64 (fop .sub .f64 4602678819172646912 (fop .sub .f64 (fop .add .f64 (fop .sub .f64 y (fint .f64 n1)) 4607182418800017408) 4602678819172646912)) 4618760256179416344)) (sinPoly (fop .mul .f64 (fop .mul .f64 (fop .sub .f64 4602678819172646912 (fop .sub .f64 (fop .add .f64 (fop .sub .f64 y (fint .f64 n1)) 4607182418800017408) 4602678819172646912)) 4618760256179416344) (fop .mul .f64 (fop .sub .f64 4602678819172646912 (fop .sub .f64 (fop .add .f64 (fop .sub .f64 y (fint .f64 n1)) 4607182418800017408) 4602678819172646912)) 4618760256179416344)) 4607182418800017408)))))], none⟩
                  | false => some ⟨[.el (.sc (.fl .f64 (fop .mul .f64 ((fop .mul .f64 (fop .sub .f64 4602678819172646912 (fop .sub .f64 (fop .add .f64 (fop .sub .f64 y (fint .f64 n1)) 4607182418800017408) 4602678819172646912)) 4618760256179416344)) (sinPoly (fop .mul .f64 (fop .mul .f64 (fop .sub .f64 4602678819172646912 (fop .sub .f64 (fop .add .f64 (fop .sub .f64 y (fint .f64 n1)) 4607182418800017408) 4602678819172646912)) 4618760256179416344) (fop .mul .f64 (fop .sub .f64 4602678819172646912 (fop .sub .f64 (fop .add .f64 (fop .sub .f64 y (fint .f64 n1)) 4607182418800017408) 4602678819172646912)) 4618760256179416344)) 4607182418800017408))))], none⟩)
                | false => none)
              | false => (match (decide (8 = 8) : Bool) with
                | true => (match ((fcmp .geq .f64 (fop .add .f64 (fop .sub .f64 y (fint .f64 n1)) 4607182418800017408) 4602678819172646912) : Bool) with
                  | true => some ⟨[.el (.sc (.fl .f64 (fneg .f64 (fop .mul .f64 ((fop .mul .f64 (fop .sub .f64 (fop .add .f64 (fop .sub .f64 y (fint .f64 n1)) 4607182418800017408) 4602678819172646912) 4618760256179416344)) (sinPoly (fop .mul .f64 (fop .mul .f64 (fop .sub .f64 (fop .add .f64 (fop .sub .f64 y (fint .f64 n1)) 4607182418800017408) 4602678819172646912) 4618760256179416344) (fop .mul .f64 (fop .sub .f64 (fop .add .f64 (fop .sub .f64 y (fint .f64 n1)) 4607182418800017408) 4602678819172646912) 4618760256179416344)) 4607182418800017408)))))], none⟩
                  | false => some ⟨[.el (.sc (.fl .f64 (fop .mul .f64 ((fop .mul .f64 (fop .sub .f64 (fop .add .f64 (fop .sub .f64 y (fint .f64 n1)) 4607182418800017408) 4602678819172646912) 4618760256179416344)) (sinPoly (fop .mul .f64 (fop .mul .f64 (fop .sub .f64 (fop .add .f64 (fop .sub .f64 y (fint .f64 n1)) 4607182418800017408) 4602678819172646912) 4618760256179416344) (fop .mul .f64 (fop .sub .f64 (fop .add .f64 (fop .sub .f64 y (fint .f64 n1)) 4607182418800017408) 4602678819172646912) 4618760256179416344)) 4607182418800017408))))], none⟩)
                | false => none))
            | false => (match (fcmp .gtr .f64 (fop .add .f64 (fop .sub .f64 y (fint .f64 n1)) 4607182418800017408) 4598175219545276416 : Bool) with
              | true => (match (decide (8 = 8) : Bool) with
                | true => (match ((fcmp .geq .f64 (fop .add .f64 (fop .sub .f64 y (fint .f64 n1)) 4607182418800017408) 4602678819172646912) : Bool) with
                  | true => some ⟨[.el (.sc (.fl .f64 (fneg .f64 (fop .mul .f64 ((fop .mul .f64 (fop .sub .f64 4602678819172646912 (fop .add .f64 (fop .sub .f64 y (fint .f64 n1)) 4607182418800017408)) 4618760256179416344)) (sinPoly (fop .mul .f64 (fop .mul .f64 (fop .sub .f64 4602678819172646912 (fop .add .f64 (fop .sub .f64 y (fint .f64 n1)) 4607182418800017408)) 4618760256179416344) (fop .mul .f64 (fop .sub .f64 4602678819172646912 (fop .add .f64 (fop .sub .f64 y (fint .f64 n1)) 4607182418800017408)) 4618760256179416344)) 4607182418800017408)))))], none⟩
                  | false => some ⟨[.el (.sc (.fl .f64 (fop .mul .f64 ((fop .mul .f64 (fop .sub .f64 4602678819172646912 (fop .add .f64 (fop .sub .f64 y (fint .f64 n1)) 4607182418800017408)) 4618760256179416344)) (sinPoly (fop .mul .f64 (fop .mul .f64 (fop .sub .f64 4602678819172646912 (fop .add .f64 (fop .sub .f64 y (fint .f64 n1)) 4607182418800017408)) 4618760256179416344) (fop .mul .f64 (fop .sub .f64 4602678819172646912 (fop .add .f64 (fop .sub .f64 y (fint .f64 n1)) 4607182418800017408)) 4618760256179416344)) 4607182418800017408))))], none⟩)
                | false => none)
              | false => (match (decide (8 = 8) : Bool) with
                | true => (match ((fcmp .geq .f64 (fop .add .f64 (fop .sub .f64 y (fint .f64 n1)) 4607182418800017408) 4602678819172646912) : Bool) with
                  | true => some ⟨[.el (.sc (.fl .f64 (fneg .f64 (fop .mul .f64 ((fop .mul .f64 (fop .add .f64 (fop .sub .f64 y (fint .f64 n1)) 4607182418800017408) 4618760256179416344)) (sinPoly (fop .mul .f64 (fop .mul .f64 (fop .add .f64 (fop .sub .f64 y (fint .f64 n1)) 4607182418800017408) 4618760256179416344) (fop .mul .f64 (fop .add .f64 (fop .sub .f64 y (fint .f64 n1)) 4607182418800017408) 4618760256179416344)) 4607182418800017408)))))], none⟩
                  | false => some ⟨[.el (.sc (.fl .f64 (fop .mul .f64 ((fop .mul .f64 (fop .add .f64 (fop .sub .f64 y (fint .f64 n1)) 4607182418800017408) 4618760256179416344)) (sinPoly (fop .mul .f64 (fop .mul .f64 (fop .add .f64 (fop .sub .f64 y (fint .f64 n1)) 4607182418800017408) 4618760256179416344) (fop .mul .f64 (fop .add .f64 (fop .sub .f64 y (fint .f64 n1)) 4607182418800017408) 4618760256179416344)) 4607182418800017408))))], none⟩)
                | false => none)))
          | false => (match (fcmp .geq .f64 (fop .sub .f64 y (fint .f64 n1)) 4602678819172646912 : Bool) with
            | true => (match (fcmp .gtr .f64 (fop .sub .f64 (fop .sub .f64 y (fint .f64 n1)) 4602678819172646912) 4598175219545276416 : Bool) with
              | true => (match (decide (8 = 8) : Bool) with
                | true => (match ((fcmp .geq .f64 (fop .sub .f64 y (fint .f64 n1)) 4602678819172646912) : Bool) with
                  | true => some ⟨[.el (.sc (.fl .f64 (fneg .f64 (fop .mul .f64 ((fop .mul .f64 (fop .sub .f64 4602678819172646912 (fop .sub .f64 (fop .sub .f64 y (fint .f64 n1)) 4602678819172646912)) 4618760256179416344)) (sinPoly (fop .mul .f64 (fop .mul .f64 (fop .sub .f64 4602678819172646912 (fop .sub .f64 (fop .sub .f64 y (fint .f64 n1)) 4602678819172646912)) 4618760256179416344) (fop .mul .f64 (fop .sub .f64 4602678819172646912 (fop .sub .f64 (fop .sub .f64 y (fint .f64 n1)) 4602678819172646912)) 4618760256179416344)) 4607182418800017408)))))], none⟩
                  | false => some ⟨[.el (.sc (.fl .f64 (fop .mul .f64 ((fop .mul .f64 (fop .sub .f64 4602678819172646912 (fop .sub .f64 (fop .sub .f64 y (fint .f64 n1)) 4602678819172646912)) 4618760256179416344)) (sinPoly (fop .mul .f64 (fop .mul .f64 (fop .sub .f64 4602678819172646912 (fop .sub .f64 (fop .sub .f64 y (fint .f64 n1)) 4602678819172646912)) 4618760256179416344) (fop .mul .f64 (fop .sub .f64 4602678819172646912 (fop .sub .f64 (fop .sub .f64 y (fint .f64 n1)) 4602678819172646912)) 4618760256179416344)) 4607182418800017408))))], none⟩)
                | false => none)
              | false => (match (decide (8 = 8) : Bool) with
                | true => (match ((fcmp .geq .f64 (fop .sub .f64 y (fint .f64 n1)) 4602678819172646912) : Bool) with
                  | true => some ⟨[.el (.sc (.fl .f64 (fneg .f64 (fop .mul .f64 ((fop .mul .f64 (fop .sub .f64 (fop .sub .f64 y (fint .f64 n1)) 4602678819172646912) 4618760256179416344)) (sinPoly (fop .mul .f64 (fop .mul .f64 (fop .sub .f64 (fop .sub .f64 y (fint .f64 n1)) 4602678819172646912) 4618760256179416344) (fop .mul .f64 (fop .sub .f64 (fop .sub .f64 y (fint .f64 n1)) 4602678819172646912) 4618760256179416344)) 4607182418800017408)))))], none⟩
                  | false => some ⟨[.el (.sc (.fl .f64 (fop .mul .f64 ((fop .mul .f64 (fop .sub .f64 (fop .sub .f64 y (fint .f64 n1)) 4602678819172646912) 4618760256179416344)) (sinPoly (fop .mul .f64 (fop .mul .f64 (fop .sub .f64 (fop .sub .f64 y (fint .f64 n1)) 4602678819172646912) 4618760256179416344) (fop .mul .f64 (fop .sub .f64 (fop .sub .f64 y (fint .f64 n1)) 4602678819172646912) 4618760256179416344)) 4607182418800017408))))], none⟩)
                | false => none))
            | false => (match (fcmp .gtr .f64 (fop .sub .f64 y (fint .f64 n1)) 4598175219545276416 : Bool) with
              | true => (match (decide (8 = 8) : Bool) with
                | true => (match ((fcmp .geq .f64 (fop .sub .f64 y (fint .f64 n1)) 4602678819172646912) : Bool) with
                  | true => some ⟨[.el (.sc (.fl .f64 (fneg .f64 (fop .mul .f64 ((fop .mul .f64 (fop .sub .f64 4602678819172646912 (fop .sub .f64 y (fint .f64 n1))) 4618760256179416344)) (sinPoly (fop .mul .f64 (fop .mul .f64 (fop .sub .f64 4602678819172646912 (fop .sub .f64 y (fint .f64 n1))) 4618760256179416344) (fop .mul .f64 (fop .sub .f64 4602678819172646912 (fop .sub .f64 y (fint .f64 n1))) 4618760256179416344)) 4607182418800017408)))))], none⟩
                  | false => some ⟨[.el (.sc (.fl .f64 (fop .mul .f64 ((fop .mul .f64 (fop .sub .f64 4602678819172646912 (fop .sub .f64 y (fint .f64 n1))) 4618760256179416344)) (sinPoly (fop .mul .f64 (fop .mul .f64 (fop .sub .f64 4602678819172646912 (fop .sub .f64 y (fint .f64 n1))) 4618760256179416344) (fop .mul .f64 (fop .sub .f64 4602678819172646912 (fop .sub .f64 y (fint .f64 n1))) 4618760256179416344)) 4607182418800017408))))], none⟩)
                | false => none)
              | false => (match (decide (8 = 8) : Bool) with
                | true => (match ((fcmp .geq .f64 (fop .sub .f64 y (fint .f64 n1)) 4602678819172646912) : Bool) with
                  | true => some ⟨[.el (.sc (.fl .f64 (fneg .f64 (fop .mul .f64 ((fop .mul .f64 (fop .sub .f64 y (fint .f64 n1)) 4618760256179416344)) (sinPoly (fop .mul .f64 (fop .mul .f64 (fop .sub .f64 y (fint .f64 n1)) 4618760256179416344) (fop .mul .f64 (fop .sub .f64 y (fint .f64 n1)) 4618760256179416344)) 4607182418800017408)))))], none⟩
                  | false => some ⟨[.el (.sc (.fl .f64 (fop .mul .f64 ((fop .mul .f64 (fop .sub .f64 y (fint .f64 n1)) 4618760256179416344)) (sinPoly (fop .mul .f64 (fop .mul .f64 (fop .sub .f64 y (fint .f64 n1)) 4618760256179416344) (fop .mul .f64 (fop .sub .f64 y (fint .f64 n1)) 4618760256179416344)) 4607182418800017408))))], none⟩)
                | false => none))))
        | none => none)))) := by kernel_rfl
theorem s147 (y : Nat) : runFn T2 a147 l147 Try.f147 [.el (.sc (.fl .f64 y))] = some ⟨[.el (.sc (.fl .f64 (sineW y)))], none⟩ := by
  rw [e147]
  unfold sineW
  cases h0 : fcmp .neq .f64 (fop .sub .f64 y y) 0 with
  | true => kernel_rfl
  | false =>
    have hn : isNum .f64 y = true := by
      rw [sub_self_fin] at h0
      simpa using h0
    cases hh : huge y with
    | true =>
      unfold huge big52 neg52 at hh
      cases h1 : fcmp .geq .f64 y 4841369599423283200 with
      | true => simp only [cond_false, cond_true]
      | false =>
        rw [h1, Bool.false_or] at hh
        simp only [hh, cond_false, cond_true]
    | false =>
      have hh2 := hh
      unfold huge big52 neg52 at hh2
      rw [Bool.or_eq_false_iff] at hh2
      obtain ⟨n, c1, c2, _⟩ := whole_ok hn hh
      simp only [cond_false, hh2.1, hh2.2, c1, c2]
      unfold sinCore sinVal sinArm low2 low1 part one64 half64 quarter64 tau64
      generalize whole y = W
      cases fcmp .lss .f64 (fop .sub .f64 y W) 0 <;> simp only [cond_true, cond_false]
      · generalize fop .sub .f64 y W = f
        cases fcmp .geq .f64 f 4602678819172646912 <;> simp only [cond_true, cond_false]
        · cases fcmp .gtr .f64 f 4598175219545276416 <;> rfl
        · cases fcmp .gtr .f64 (fop .sub .f64 f 4602678819172646912) 4598175219545276416 <;> rfl
      · generalize fop .add .f64 (fop .sub .f64 y W) 4607182418800017408 = f
        cases fcmp .geq .f64 f 4602678819172646912 <;> simp only [cond_true, cond_false]
        · cases fcmp .gtr .f64 f 4598175219545276416 <;> rfl
        · cases fcmp .gtr .f64 (fop .sub .f64 f 4602678819172646912) 4598175219545276416 <;> rfl
theorem c147 (y : Nat) (k : List RV → R) (out : Out) (h : k [.el (.sc (.fl .f64 (sineW y)))] = some out) : ∃ rs, Real Try.prog 147 ∧ COK Try.prog 147 [.el (.sc (.fl .f64 y))] rs ∧ k rs = some out := by
  exact ⟨_, real Try.func147 (by kernel_rfl), fn_ok tok2 (A := a147) (L := l147) (r := none) Try.func147 (by kernel_rfl) (by kernel_rfl) (loops1 (by kernel_rfl) lk147) (by rw [s147]), h⟩

/-! impl.isHuge -/
theorem e150 (y : Nat) : runFn T2 none0 noL Try.f150 [.el (.sc (.fl .f64 y))] = (match (!isN .f64 y : Bool) with
  | true => some ⟨[.el (.sc (.bo (fcmp .geq .f64 (fabs y) 4841369599423283200)))], none⟩
  | false => none) := by kernel_rfl
theorem s150 (y : Nat) (hg : (!isN .f64 y) = true) : runFn T2 none0 noL Try.f150 [.el (.sc (.fl .f64 y))] = some ⟨[.el (.sc (.bo (fcmp .geq .f64 (fabs y) big52)))], none⟩ := by
  rw [e150]
  have hN : isN .f64 y = false := by simpa using hg
  rw [hN]
  rfl
theorem c150 (y : Nat) (k : List RV → R) (out : Out) (h : (match (!isN .f64 y : Bool) with
  | true => k [.el (.sc (.bo (fcmp .geq .f64 (fabs y) big52)))]
  | false => none) = some out) : ∃ rs, Real Try.prog 150 ∧ COK Try.prog 150 [.el (.sc (.fl .f64 y))] rs ∧ k rs = some out := by
  cases g0 : (!isN .f64 y : Bool) with
  | true =>
    rw [g0] at h
    exact ⟨_, real Try.func150 (by kernel_rfl), fn_ok tok2 (A := none0) (L := noL) (r := none) Try.func150 (by kernel_rfl) (by kernel_rfl) (loops0 (by kernel_rfl)) (by rw [s150 _ g0]), h⟩
  | false =>
    rw [g0] at h
    cases h

/-! impl.partOfTurn -/
theorem e151 (y : Nat) : runFn T2 none0 noL Try.f151 [.el (.sc (.fl .f64 y))] = (match (fcmp .eql .f64 (fround .zero y) 0 : Bool) with
  | true => (match (fcmp .lss .f64 (fop .sub .f64 y 0) 0 : Bool) with
    | true => some ⟨[.el (.sc (.fl .f64 (fop .add .f64 (fop .sub .f64 y 0) 4607182418800017408)))], none⟩
    | false => some ⟨[.el (.sc (.fl .f64 (fop .sub .f64 y 0)))], none⟩)
  | false => (match (fcmp .lss .f64 (fop .sub .f64 y (fround .zero y)) 0 : Bool) with
    | true => some ⟨[.el (.sc (.fl .f64 (fop .add .f64 (fop .sub .f64 y (fround .zero y)) 4607182418800017408)))], none⟩
    | false => some ⟨[.el (.sc (.fl .f64 (fop .sub .f64 y (fround .zero y))))], none⟩)) := by kernel_rfl
theorem s151 (y : Nat) : runFn T2 none0 noL Try.f151 [.el (.sc (.fl .f64 y))] = some ⟨[.el (.sc (.fl .f64 (part y)))], none⟩ := by
  rw [e151]
  unfold part whole one64
  cases fcmp .eql .f64 (fround .zero y) 0 <;> simp only [cond_true, cond_false] <;> split <;> simp_all
theorem c151 (y : Nat) (k : List RV → R) (out : Out) (h : k [.el (.sc (.fl .f64 (part y)))] = some out) : ∃ rs, Real Try.prog 151 ∧ COK Try.prog 151 [.el (.sc (.fl .f64 y))] rs ∧ k rs = some out := by
  exact ⟨_, real Try.func151 (by kernel_rfl), fn_ok tok2 (A := none0) (L := noL) (r := none) Try.func151 (by kernel_rfl) (by kernel_rfl) (loops0 (by kernel_rfl)) (by rw [s151]), h⟩

/-! spec.l02CFinite -/
def a161 : Ann := ann [(2, [0, 3], [])] [2] 0
def lp161 : St → (Ex → St → R) → R := fun s k => match s with
  | ⟨[(0, .fv (.vw (some 0) ⟨.c64, xs⟩)), (3, .fv (.el (.sc (.int .i64 i))))], []⟩ => (match ((decide (i = 0) && Nat.ble xs.length big) : Bool) with
    | true => (match (xs.all finC : Bool) with
      | true => k (.exit 0) ⟨[], []⟩
      | false => k .ret ⟨[(2, .fv (.el (.sc (.bo false))))], []⟩)
    | false => none)
  | _ => none
def l161 : Loops := fun key s k => bif Nat.beq key 2 then lp161 s k else none
theorem st161 (xs : List ((Nat × Nat))) (i : Int) (m : Nat) (k : Ex → St → R) : iterK a161 [0, 3] [] (codeK T2 a161 l161 Try.f161.ntmps (loopAt Try.f161 0)) (m + 1) ⟨[(0, .fv (.vw (some 0) ⟨.c64, xs⟩)), (3, .fv (.el (.sc (.int .i64 i))))], []⟩ k = (match (decide ((i : Int) < (xs.length : Int)) : Bool) with
  | true => (match (decide (0 ≤ (i : Int) ∧ (i : Int) < (xs.length : Int)) && true : Bool) with
    | true => (match (xs : List ((Nat × Nat)))[Int.toNat i]? with
      | some x1 => (match (!(finC x1) : Bool) with
        | true => k .ret ⟨[(2, .fv (.el (.sc (.bo false))))], []⟩
        | false => iterK a161 [0, 3] [] (codeK T2 a161 l161 Try.f161.ntmps (loopAt Try.f161 0)) m ⟨[(0, .fv (.vw (some 0) ⟨.c64, xs⟩)), (3, .fv (.el (.sc (.int .i64 (IntKind.i64.wrap (i + 1))))))], []⟩ k)
      | none => none)
    | false => none)
  | false => k (.exit 0) ⟨[], []⟩) := by kernel_rfl
theorem ind161 (xs : List (Nat × Nat))  (hx : Nat.ble xs.length big = true) (k : Ex → St → R) : ∀ (m j : Nat), j + m = xs.length → iterK a161 [0, 3] [] (codeK T2 a161 l161 Try.f161.ntmps (loopAt Try.f161 0)) (m + 1) ⟨[(0, .fv (.vw (some 0) ⟨.c64, xs⟩)), (3, .fv (.el (.sc (.int .i64 (j : Int)))))], []⟩ k =
    (match (xs.drop j).all finC with
    | true => k (.exit 0) ⟨[], []⟩
    | false => k .ret ⟨[(2, .fv (.el (.sc (.bo false))))], []⟩) := by
  intro m
  induction m with
  | zero =>
    intro j hj
    have h1 : ¬ ((j : Int) < (xs.length : Int)) := by omega
    rw [st161, List.drop_of_length_le (by omega)]
    simp [h1]
  | succ m ih =>
    intro j hj
    have hlt : j < xs.length := by omega
    have h1 : ((j : Int) < (xs.length : Int)) := by omega
    have h2 : (0 : Int) ≤ (j : Int) := by omega
    rw [st161, wrap_succ hlt hx]
    have h3 : xs[Int.toNat (j : Int)]? = some xs[j] := by simp [hlt]
    rw [List.drop_eq_getElem_cons hlt, List.all_cons, ih (j + 1) (by omega)]
    simp only [h1, h2, h3, and_self, decide_true, Bool.and_true]
    cases hp : finC xs[j] <;> simp [hp]

theorem lk161 : LOK T2 a161 l161 Try.f161.ntmps (loopAt Try.f161 0) := by
  intro ins outs hA s k out h
  have hA' : ([0, 3], []) = (ins, outs) := Option.some.inj ((show a161.lp (firstRegion (loopAt Try.f161 0)) = some ([0, 3], []) by kernel_rfl).symm.trans hA)
  cases hA'
  have hk : firstRegion (loopAt Try.f161 0) = 2 := by kernel_rfl
  rw [hk] at h
  change lp161 s k = some out at h
  unfold lp161 at h
  split at h
  · rename_i xs i
    cases hg : (decide (i = 0) && Nat.ble xs.length big) with
    | false => rw [hg] at h; cases h
    | true =>
      rw [hg] at h
      simp only [Bool.and_eq_true, decide_eq_true_eq] at hg
      obtain ⟨rfl, hx⟩ := hg
      refine ⟨xs.length + 1, ?_⟩
      exact (ind161 xs  hx k xs.length 0 (by omega)).trans h
  · cases h
theorem e161 (xs : List ((Nat × Nat))) : runFn T2 a161 l161 Try.f161 [.vw none ⟨.c64, xs⟩] = (match ((decide (0 = 0) && Nat.ble xs.length big) : Bool) with
  | true => (match (xs.all finC : Bool) with
    | true => some ⟨[.el (.sc (.bo true))], none⟩
    | false => some ⟨[.el (.sc (.bo false))], none⟩)
  | false => none) := by kernel_rfl
theorem s161 (xs : List ((Nat × Nat))) : runFn T2 a161 l161 Try.f161 [.vw none ⟨.c64, xs⟩] = (match (Nat.ble xs.length big : Bool) with
  | true => some ⟨[.el (.sc (.bo (xs.all finC)))], none⟩
  | false => none) := by
  rw [e161]
  cases h : Nat.ble xs.length big with
  | false => simp
  | true => cases h2 : xs.all finC <;> simp
theorem c161 (xs : List ((Nat × Nat))) (k : List RV → R) (out : Out) (h : (match (Nat.ble xs.length big : Bool) with
  | true => k [.el (.sc (.bo (xs.all finC)))]
  | false => none) = some out) : ∃ rs, Real Try.prog 161 ∧ COK Try.prog 161 [.vw none ⟨.c64, xs⟩] rs ∧ k rs = some out := by
  cases g0 : (Nat.ble xs.length big : Bool) with
  | true =>
    rw [g0] at h
    exact ⟨_, real Try.func161 (by kernel_rfl), fn_ok tok2 (A := a161) (L := l161) (r := none) Try.func161 (by kernel_rfl) (by kernel_rfl) (loops1 (by kernel_rfl) lk161) (by rw [s161, g0]), h⟩
  | false =>
    rw [g0] at h
    cases h

/-! spec.l01Mul -/
theorem s165 (a : Nat) (b : Nat) (c : Nat) (d : Nat) : runFn T2 none0 noL Try.f165 [.el (.sc (.cx .f32 a b)), .el (.sc (.cx .f32 c d))] = (match fconv .f64 .f32 (fop .sub .f64 (fop .mul .f64 (wid a) (wid c)) (fop .mul .f64 (wid b) (wid d))) with
  | some rn22 => (match fconv .f64 .f32 (fop .add .f64 (fop .mul .f64 (wid a) (wid d)) (fop .mul .f64 (wid b) (wid c))) with
    | some rn23 => some ⟨[.el (.sc (.cx .f32 rn22 rn23))], none⟩
    | none => none)
  | none => none) := by kernel_rfl
theorem c165 (a : Nat) (b : Nat) (c : Nat) (d : Nat) (k : List RV → R) (out : Out) (h : (match fconv .f64 .f32 (fop .sub .f64 (fop .mul .f64 (wid a) (wid c)) (fop .mul .f64 (wid b) (wid d))) with
  | some rn20 => (match fconv .f64 .f32 (fop .add .f64 (fop .mul .f64 (wid a) (wid d)) (fop .mul .f64 (wid b) (wid c))) with
    | some rn21 => k [.el (.sc (.cx .f32 rn20 rn21))]
    | none => none)
  | none => none) = some out) : ∃ rs, Real Try.prog 165 ∧ COK Try.prog 165 [.el (.sc (.cx .f32 a b)), .el (.sc (.cx .f32 c d))] rs ∧ k rs = some out := by
  cases g0 : (fconv .f64 .f32 (fop .sub .f64 (fop .mul .f64 (wid a) (wid c)) (fop .mul .f64 (wid b) (wid d)))) with
  | some rn20 =>
    rw [g0] at h
    cases g1 : (fconv .f64 .f32 (fop .add .f64 (fop .mul .f64 (wid a) (wid d)) (fop .mul .f64 (wid b) (wid c)))) with
    | some rn21 =>
      rw [g1] at h
      exact ⟨_, real Try.func165 (by kernel_rfl), fn_ok tok2 (A := none0) (L := noL) (r := none) Try.func165 (by kernel_rfl) (by kernel_rfl) (loops0 (by kernel_rfl)) (by rw [s165, g0, g1]), h⟩
    | none =>
      rw [g1] at h
      cases h
  | none =>
    rw [g0] at h
    cases h

/-! slices.IndexFunc[[]float32,float32] -/
def a190 : Ann := ann [(2, [0, 1, 7, 8], [])] [4] 0
def lp190 : St → (Ex → St → R) → R := fun s k => match s with
  | ⟨[(0, .fv (.vw (some 0) ⟨.f32, xs⟩)), (1, .fv (.fn 157 [])), (7, .fv (.el (.sc (.int .i64 n)))), (8, .fv (.el (.sc (.int .i64 i))))], []⟩ => (match (decide (n = (xs.length : Int)) && (decide (i = 0) && Nat.ble xs.length big) : Bool) with
    | true => (match xs.findIdx? notFin with
      | some q => k .ret ⟨[(4, .fv (.el (.sc (.int .i64 ((q : Int))))))], []⟩
      | none => k (.exit 0) ⟨[], []⟩)
    | false => none)
  | _ => none
def l190 : Loops := fun key s k => bif Nat.beq key 2 then lp190 s k else none
theorem st190 (xs : List Nat) (n : Int) (i : Int) (m : Nat) (k : Ex → St → R) : iterK a190 [0, 1, 7, 8] [] (codeK T2 a190 l190 Try.f190.ntmps (loopAt Try.f190 0)) (m + 1) ⟨[(0, .fv (.vw (some 0) ⟨.f32, xs⟩)), (1, .fv (.fn 157 [])), (7, .fv (.el (.sc (.int .i64 n)))), (8, .fv (.el (.sc (.int .i64 i))))], []⟩ k = (match (decide ((i : Int) < n) : Bool) with
  | true => (match (decide (0 ≤ (i : Int) ∧ (i : Int) < (xs.length : Int)) && true : Bool) with
    | true => (match (xs : List Nat)[Int.toNat i]? with
      | some x1 => (match (notFin x1 : Bool) with
        | true => k .ret ⟨[(4, .fv (.el (.sc (.int .i64 i))))], []⟩
        | false => iterK a190 [0, 1, 7, 8] [] (codeK T2 a190 l190 Try.f190.ntmps (loopAt Try.f190 0)) m ⟨[(0, .fv (.vw (some 0) ⟨.f32, xs⟩)), (1, .fv (.fn 157 [])), (7, .fv (.el (.sc (.int .i64 n)))), (8, .fv (.el (.sc (.int .i64 (IntKind.i64.wrap (i + 1))))))], []⟩ k)
      | none => none)
    | false => none)
  | false => k (.exit 0) ⟨[], []⟩) := by kernel_rfl
theorem ind190 (xs : List Nat) (hx : Nat.ble xs.length big = true) (k : Ex → St → R) : ∀ (m j : Nat), j + m = xs.length → iterK a190 [0, 1, 7, 8] [] (codeK T2 a190 l190 Try.f190.ntmps (loopAt Try.f190 0)) (m + 1) ⟨[(0, .fv (.vw (some 0) ⟨.f32, xs⟩)), (1, .fv (.fn 157 [])), (7, .fv (.el (.sc (.int .i64 (xs.length : Int))))), (8, .fv (.el (.sc (.int .i64 (j : Int)))))], []⟩ k =
    (match (xs.drop j).findIdx? notFin with
    | some q => k .ret ⟨[(4, .fv (.el (.sc (.int .i64 ((j + q : Nat) : Int)))))], []⟩
    | none => k (.exit 0) ⟨[], []⟩) := by
  intro m
  induction m with
  | zero =>
    intro j hj
    have h1 : ¬ ((j : Int) < (xs.length : Int)) := by omega
    rw [st190]
    have h2 : xs.drop j = [] := List.drop_of_length_le (by omega)
    simp [h1, h2]
  | succ m ih =>
    intro j hj
    have hlt : j < xs.length := by omega
    have h1 : ((j : Int) < (xs.length : Int)) := by omega
    have h2 : (0 : Int) ≤ (j : Int) := by omega
    rw [st190, wrap_succ hlt hx]
    have h3 : xs[Int.toNat (j : Int)]? = some xs[j] := by simp [hlt]
    rw [List.drop_eq_getElem_cons hlt, List.findIdx?_cons]
    simp only [h1, h2, h3, and_self, decide_true, Bool.and_true]
    cases hp : notFin xs[j] with
    | true => simp
    | false =>
      rw [ih (j + 1) (by omega)]
      cases (xs.drop (j + 1)).findIdx? notFin with
      | none => rfl
      | some q => simp only [Bool.false_eq_true, if_false, Option.map_some]; rw [show j + 1 + q = j + (q + 1) by omega]
theorem lk190 : LOK T2 a190 l190 Try.f190.ntmps (loopAt Try.f190 0) := by
  intro ins outs hA s k out h
  have hA' : ([0, 1, 7, 8], []) = (ins, outs) := Option.some.inj ((show a190.lp (firstRegion (loopAt Try.f190 0)) = some ([0, 1, 7, 8], []) by kernel_rfl).symm.trans hA)
  cases hA'
  have hk : firstRegion (loopAt Try.f190 0) = 2 := by kernel_rfl
  rw [hk] at h
  change lp190 s k = some out at h
  unfold lp190 at h
  split at h
  · rename_i xs n i
    cases hg : (decide (n = (xs.length : Int)) && (decide (i = 0) && Nat.ble xs.length big)) with
    | false => rw [hg] at h; cases h
    | true =>
      rw [hg] at h
      simp only [Bool.and_eq_true, decide_eq_true_eq] at hg
      obtain ⟨rfl, rfl, hx⟩ := hg
      refine ⟨xs.length + 1, ?_⟩
      have := ind190 xs hx k xs.length 0 (by omega)
      simp only [List.drop_zero, Nat.zero_add] at this
      exact this.trans h
  · cases h
theorem e190 (xs : List Nat) : runFn T2 a190 l190 Try.f190 [.vw none ⟨.f32, xs⟩, .fn 157 []] = (match (decide ((xs.length : Int) = (xs.length : Int)) && (decide (0 = 0) && Nat.ble xs.length big) : Bool) with
  | true => (match xs.findIdx? notFin with
    | some q => some ⟨[.el (.sc (.int .i64 ((q : Int))))], none⟩
    | none => some ⟨[.el (.sc (.int .i64 ((-1))))], none⟩)
  | false => none) := by kernel_rfl
theorem s190 (xs : List Nat) : runFn T2 a190 l190 Try.f190 [.vw none ⟨.f32, xs⟩, .fn 157 []] = (match (Nat.ble xs.length big : Bool) with
  | true => some ⟨[.el (.sc (.int .i64 (firstAt notFin xs)))], none⟩
  | false => none) := by
  rw [e190]
  unfold firstAt
  cases h : Nat.ble xs.length big with
  | false => simp [h]
  | true =>
    cases h2 : xs.findIdx? notFin with
    | some q => simp [h, h2]
    | none => simp [h, h2]
theorem c190 (xs : List Nat) (k : List RV → R) (out : Out) (h : (match (Nat.ble xs.length big : Bool) with
  | true => k [.el (.sc (.int .i64 (firstAt notFin xs)))]
  | false => none) = some out) : ∃ rs, Real Try.prog 190 ∧ COK Try.prog 190 [.vw none ⟨.f32, xs⟩, .fn 157 []] rs ∧ k rs = some out := by
  cases g0 : (Nat.ble xs.length big : Bool) with
  | true =>
    rw [g0] at h
    exact ⟨_, real Try.func190 (by kernel_rfl), fn_ok tok2 (A := a190) (L := l190) (r := none) Try.func190 (by kernel_rfl) (by kernel_rfl) (loops1 (by kernel_rfl) lk190) (by rw [s190, g0]), h⟩
  | false =>
    rw [g0] at h
    cases h

def S3 : SFn := fun f args k => match f, args with
  | 35, [.vw none ⟨.c64, xs⟩, .vw none ⟨.c64, ys⟩] => (match (Nat.beq xs.length ys.length : Bool) with
    | true => (match (Nat.ble xs.length big : Bool) with
      | true => k [.el (.sc (.bo (all2 sameC xs ys)))]
      | false => none)
    | false => k [.el (.sc (.bo false))])
  | 93, [.el (.sc (.fl .f32 x))] => k [.el (.sc (.fl .f32 (rootF x)))]
  | 98, [.el (.sc (.fl .f32 x))] => k [.el (.sc (.fl .f32 (rootF x)))]
  | 99, [.pt ⟨.v ⟨.pulse, [⟨pa, pb, pc, pd⟩]⟩, 4, 0, 0⟩] => k [.el (.sc (.bo (pulIs ((⟨pa, pb, pc, pd⟩ : PulseV)))))]
  | 147, [.el (.sc (.fl .f64 y))] => k [.el (.sc (.fl .f64 (sineW y)))]
  | 150, [.el (.sc (.fl .f64 y))] => (match (!isN .f64 y : Bool) with
    | true => k [.el (.sc (.bo (fcmp .geq .f64 (fabs y) big52)))]
    | false => none)
  | 151, [.el (.sc (.fl .f64 y))] => k [.el (.sc (.fl .f64 (part y)))]
  | 161, [.vw none ⟨.c64, xs⟩] => (match (Nat.ble xs.length big : Bool) with
    | true => k [.el (.sc (.bo (xs.all finC)))]
    | false => none)
  | 165, [.el (.sc (.cx .f32 a b)), .el (.sc (.cx .f32 c d))] => (match fconv .f64 .f32 (fop .sub .f64 (fop .mul .f64 (wid a) (wid c)) (fop .mul .f64 (wid b) (wid d))) with
    | some rn24 => (match fconv .f64 .f32 (fop .add .f64 (fop .mul .f64 (wid a) (wid d)) (fop .mul .f64 (wid b) (wid c))) with
      | some rn25 => k [.el (.sc (.cx .f32 rn24 rn25))]
      | none => none)
    | none => none)
  | 190, [.vw none ⟨.f32, xs⟩, .fn 157 []] => (match (Nat.ble xs.length big : Bool) with
    | true => k [.el (.sc (.int .i64 (firstAt notFin xs)))]
    | false => none)
  | _, _ => S2 f args k
abbrev M3 : MFn := M2
def T3 : TT := tab.T S3 muts M3
theorem tok3 : TOK Try.prog T3 := by
  refine (tab_ok tabok).tok (fun f args k out h => ?_) (fun f vec args k out h => ?_)
  · change S3 f args k = some out at h
    unfold S3 at h
    split at h
    · exact (fun k out h => cok_call (c35 _ _ k out h)) k out h
    · exact (fun k out h => cok_call (c93 _ k out h)) k out h
    · exact (fun k out h => cok_call (c98 _ k out h)) k out h
    · exact (fun k out h => cok_call (c99 _ _ _ _ k out h)) k out h
    · exact (fun k out h => cok_call (c147 _ k out h)) k out h
    · exact (fun k out h => cok_call (c150 _ k out h)) k out h
    · exact (fun k out h => cok_call (c151 _ k out h)) k out h
    · exact (fun k out h => cok_call (c161 _ k out h)) k out h
    · exact (fun k out h => cok_call (c165 _ _ _ _ k out h)) k out h
    · exact (fun k out h => cok_call (c190 _ k out h)) k out h
    · exact tok2.S f args k out h
  · exact tok2.M f vec args k out h

end Go.Sm.Ytdeplgocckdbiaa
