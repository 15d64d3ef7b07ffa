/- What the functions hand back: level 2. -/
import Derived.Test.YtdnfgoolapikmaaD2
namespace Go.Sm.Ytdnfgoolapikmaa
open Go Go.Sm Go.RowKit Go.Proofs

/-! spec.l01ExpWide -/
def a97 : Ann := ann [(10, [3, 4, 5], [4]), (14, [4, 6], [4])] [2] 0
def lp97 : St → (Ex → St → R) → R := fun s k => match s with
  | ⟨[(3, .fv (.el (.sc (.fl .f64 t)))), (4, .fv (.el (.sc (.fl .f64 p)))), (5, .fv (.el (.sc (.int .i64 i))))], []⟩ => (match (decide (i = 12) : Bool) with
    | true => k (.exit 0) ⟨[(4, .fv (.el (.sc (.fl .f64 (expPoly t p)))))], []⟩
    | false => none)
  | _ => none
def lp97_1 : St → (Ex → St → R) → R := fun s k => match s with
  | ⟨[(4, .fv (.el (.sc (.fl .f64 p)))), (6, .fv (.el (.sc (.int .i64 i))))], []⟩ => (match (decide (i = 0) : Bool) with
    | true => k (.exit 2) ⟨[(4, .fv (.el (.sc (.fl .f64 (sqn 8 p)))))], []⟩
    | false => none)
  | _ => none
def l97 : Loops := fun key s k => bif Nat.beq key 10 then lp97 s k else bif Nat.beq key 14 then lp97_1 s k else none
theorem st97 (t : Nat) (p : Nat) (i : Int) (m : Nat) (k : Ex → St → R) : iterK a97 [3, 4, 5] [4] (codeK T2 a97 l97 Try.f97.ntmps (loopAt Try.f97 0)) (m + 1) ⟨[(3, .fv (.el (.sc (.fl .f64 t)))), (4, .fv (.el (.sc (.fl .f64 p)))), (5, .fv (.el (.sc (.int .i64 i))))], []⟩ k = (match (decide ((i : Int) ≥ 1) : Bool) with
  | true => iterK a97 [3, 4, 5] [4] (codeK T2 a97 l97 Try.f97.ntmps (loopAt Try.f97 0)) m ⟨[(3, .fv (.el (.sc (.fl .f64 t)))), (4, .fv (.el (.sc (.fl .f64 (fop .add .f64 4607182418800017408 (fop .quo .f64 (fop .mul .f64 t p) (fint .f64 i))))))), (5, .fv (.el (.sc (.int .i64 (IntKind.i64.wrap (i - 1))))))], []⟩ k
  | false => k (.exit 0) ⟨[(4, .fv (.el (.sc (.fl .f64 p))))], []⟩) := by kernel_rfl
theorem un97 (t : Nat) (p : Nat) (k : Ex → St → R) : iterK a97 [3, 4, 5] [4] (codeK T2 a97 l97 Try.f97.ntmps (loopAt Try.f97 0)) 13 ⟨[(3, .fv (.el (.sc (.fl .f64 t)))), (4, .fv (.el (.sc (.fl .f64 p)))), (5, .fv (.el (.sc (.int .i64 12))))], []⟩ k = k (.exit 0) ⟨[(4, .fv (.el (.sc (.fl .f64 (expPoly t p)))))], []⟩ := by kernel_rfl

theorem lk97 : LOK T2 a97 l97 Try.f97.ntmps (loopAt Try.f97 0) := by
  intro ins outs hA s k out h
  have hA' : ([3, 4, 5], [4]) = (ins, outs) := Option.some.inj ((show a97.lp (firstRegion (loopAt Try.f97 0)) = some ([3, 4, 5], [4]) by kernel_rfl).symm.trans hA)
  cases hA'
  have hk : firstRegion (loopAt Try.f97 0) = 10 := by kernel_rfl
  rw [hk] at h
  change lp97 s k = some out at h
  unfold lp97 at h
  split at h
  · rename_i t p i
    cases hg : decide (i = 12) with
    | false => rw [hg] at h; cases h
    | true =>
      rw [hg] at h
      replace hg := of_decide_eq_true hg
      subst hg
      refine ⟨13, ?_⟩
      exact (un97 t p k).trans h
  · cases h
theorem st97_1 (p : Nat) (i : Int) (m : Nat) (k : Ex → St → R) : iterK a97 [4, 6] [4] (codeK T2 a97 l97 Try.f97.ntmps (loopAt Try.f97 1)) (m + 1) ⟨[(4, .fv (.el (.sc (.fl .f64 p)))), (6, .fv (.el (.sc (.int .i64 i))))], []⟩ k = (match (decide ((i : Int) < 8) : Bool) with
  | true => iterK a97 [4, 6] [4] (codeK T2 a97 l97 Try.f97.ntmps (loopAt Try.f97 1)) m ⟨[(4, .fv (.el (.sc (.fl .f64 (fop .mul .f64 p p))))), (6, .fv (.el (.sc (.int .i64 (IntKind.i64.wrap (i + 1))))))], []⟩ k
  | false => k (.exit 2) ⟨[(4, .fv (.el (.sc (.fl .f64 p))))], []⟩) := by kernel_rfl
theorem un97_1 (p : Nat) (k : Ex → St → R) : iterK a97 [4, 6] [4] (codeK T2 a97 l97 Try.f97.ntmps (loopAt Try.f97 1)) 9 ⟨[(4, .fv (.el (.sc (.fl .f64 p)))), (6, .fv (.el (.sc (.int .i64 0))))], []⟩ k = k (.exit 2) ⟨[(4, .fv (.el (.sc (.fl .f64 (sqn 8 p)))))], []⟩ := by kernel_rfl

theorem lk97_1 : LOK T2 a97 l97 Try.f97.ntmps (loopAt Try.f97 1) := by
  intro ins outs hA s k out h
  have hA' : ([4, 6], [4]) = (ins, outs) := Option.some.inj ((show a97.lp (firstRegion (loopAt Try.f97 1)) = some ([4, 6], [4]) by kernel_rfl).symm.trans hA)
  cases hA'
  have hk : firstRegion (loopAt Try.f97 1) = 14 := by kernel_rfl
  rw [hk] at h
  change lp97_1 s k = some out at h
  unfold lp97_1 at h
  split at h
  · rename_i p i
    cases hg : decide (i = 0) with
    | false => rw [hg] at h; cases h
    | true =>
      rw [hg] at h
      replace hg := of_decide_eq_true hg
      subst hg
      refine ⟨9, ?_⟩
      exact (un97_1 p k).trans h
  · cases h
theorem e97 (y : Nat) : runFn T2 a97 l97 Try.f97 [.el (.sc (.fl .f64 y))] = (match (fcmp .neq .f64 y y : Bool) with
  | true => some ⟨[.el (.sc (.fl .f64 y))], none⟩
  | false => (match (fcmp .gtr .f64 y 4641240890982006784 : Bool) with
    | true => some ⟨[.el (.sc (.fl .f64 (infOf 1)))], none⟩
    | false => (match (fcmp .lss .f64 y 13864612927836782592 : Bool) with
      | true => some ⟨[.el (.sc (.fl .f64 0))], none⟩
      | false => (match (decide (12 = 12) : Bool) with
        | true => (match (decide (0 = 0) : Bool) with
          | true => some ⟨[.el (.sc (.fl .f64 (sqn 8 (expPoly (fop .quo .f64 y 4643211215818981376) 4607182418800017408))))], none⟩
          | false => none)
        | false => none)))) := by kernel_rfl
theorem s97 (y : Nat) : runFn T2 a97 l97 Try.f97 [.el (.sc (.fl .f64 y))] = some ⟨[.el (.sc (.fl .f64 (expS y)))], none⟩ := by
  rw [e97]
  unfold expS expI
  cases fcmp .neq .f64 y y <;> cases fcmp .gtr .f64 y 4641240890982006784 <;> cases fcmp .lss .f64 y 13864612927836782592 <;> kernel_rfl
theorem c97 (y : Nat) (k : List RV → R) (out : Out) (h : k [.el (.sc (.fl .f64 (expS y)))] = some out) : ∃ rs, Real Try.prog 97 ∧ COK Try.prog 97 [.el (.sc (.fl .f64 y))] rs ∧ k rs = some out := by
  exact ⟨_, real Try.func97 (by kernel_rfl), fn_ok tok2 (A := a97) (L := l97) (r := none) Try.func97 (by kernel_rfl) (by kernel_rfl) (loops2 (by kernel_rfl) lk97 lk97_1) (by rw [s97]), h⟩

/-! impl.exponential -/
def a100 : Ann := ann [(7, [3, 4, 5], [4]), (11, [4, 25], [4])] [2] 0
def lp100 : St → (Ex → St → R) → R := fun s k => match s with
  | ⟨[(3, .fv (.el (.sc (.fl .f64 t)))), (4, .fv (.el (.sc (.fl .f64 p)))), (5, .fv (.el (.sc (.fl .f64 i))))], []⟩ => (match (Nat.beq i 4622945017495814144 : Bool) with
    | true => k (.exit 1) ⟨[(4, .fv (.el (.sc (.fl .f64 (expPoly t p)))))], []⟩
    | false => none)
  | _ => none
def lp100_1 : St → (Ex → St → R) → R := fun s k => match s with
  | ⟨[(4, .fv (.el (.sc (.fl .f64 p)))), (25, .fv (.el (.sc (.int .i64 i))))], []⟩ => (match (decide (i = 0) : Bool) with
    | true => k (.exit 3) ⟨[(4, .fv (.el (.sc (.fl .f64 (sqn 8 p)))))], []⟩
    | false => none)
  | _ => none
def l100 : Loops := fun key s k => bif Nat.beq key 7 then lp100 s k else bif Nat.beq key 11 then lp100_1 s k else none
theorem st100 (t : Nat) (p : Nat) (i : Nat) (m : Nat) (k : Ex → St → R) : iterK a100 [3, 4, 5] [4] (codeK T2 a100 l100 Try.f100.ntmps (loopAt Try.f100 0)) (m + 1) ⟨[(3, .fv (.el (.sc (.fl .f64 t)))), (4, .fv (.el (.sc (.fl .f64 p)))), (5, .fv (.el (.sc (.fl .f64 i))))], []⟩ k = (match (fcmp .geq .f64 i 4607182418800017408 : Bool) with
  | true => iterK a100 [3, 4, 5] [4] (codeK T2 a100 l100 Try.f100.ntmps (loopAt Try.f100 0)) m ⟨[(3, .fv (.el (.sc (.fl .f64 t)))), (4, .fv (.el (.sc (.fl .f64 (fop .add .f64 4607182418800017408 (fop .quo .f64 (fop .mul .f64 t p) i)))))), (5, .fv (.el (.sc (.fl .f64 (fop .sub .f64 i 4607182418800017408)))))], []⟩ k
  | false => k (.exit 1) ⟨[(4, .fv (.el (.sc (.fl .f64 p))))], []⟩) := by kernel_rfl
theorem un100 (t : Nat) (p : Nat) (k : Ex → St → R) : iterK a100 [3, 4, 5] [4] (codeK T2 a100 l100 Try.f100.ntmps (loopAt Try.f100 0)) 13 ⟨[(3, .fv (.el (.sc (.fl .f64 t)))), (4, .fv (.el (.sc (.fl .f64 p)))), (5, .fv (.el (.sc (.fl .f64 4622945017495814144))))], []⟩ k = k (.exit 1) ⟨[(4, .fv (.el (.sc (.fl .f64 (expPoly t p)))))], []⟩ := by kernel_rfl

theorem lk100 : LOK T2 a100 l100 Try.f100.ntmps (loopAt Try.f100 0) := by
  intro ins outs hA s k out h
  have hA' : ([3, 4, 5], [4]) = (ins, outs) := Option.some.inj ((show a100.lp (firstRegion (loopAt Try.f100 0)) = some ([3, 4, 5], [4]) by kernel_rfl).symm.trans hA)
  cases hA'
  have hk : firstRegion (loopAt Try.f100 0) = 7 := by kernel_rfl
  rw [hk] at h
  change lp100 s k = some out at h
  unfold lp100 at h
  split at h
  · rename_i t p i
    cases hg : Nat.beq i 4622945017495814144 with
    | false => rw [hg] at h; cases h
    | true =>
      rw [hg] at h
      replace hg := Nat.eq_of_beq_eq_true hg
      subst hg
      refine ⟨13, ?_⟩
      exact (un100 t p k).trans h
  · cases h
theorem st100_1 (p : Nat) (i : Int) (m : Nat) (k : Ex → St → R) : iterK a100 [4, 25] [4] (codeK T2 a100 l100 Try.f100.ntmps (loopAt Try.f100 1)) (m + 1) ⟨[(4, .fv (.el (.sc (.fl .f64 p)))), (25, .fv (.el (.sc (.int .i64 i))))], []⟩ k = (match (decide ((i : Int) < 8) : Bool) with
  | true => iterK a100 [4, 25] [4] (codeK T2 a100 l100 Try.f100.ntmps (loopAt Try.f100 1)) m ⟨[(4, .fv (.el (.sc (.fl .f64 (fop .mul .f64 p p))))), (25, .fv (.el (.sc (.int .i64 (IntKind.i64.wrap (i + 1))))))], []⟩ k
  | false => k (.exit 3) ⟨[(4, .fv (.el (.sc (.fl .f64 p))))], []⟩) := by kernel_rfl
theorem un100_1 (p : Nat) (k : Ex → St → R) : iterK a100 [4, 25] [4] (codeK T2 a100 l100 Try.f100.ntmps (loopAt Try.f100 1)) 9 ⟨[(4, .fv (.el (.sc (.fl .f64 p)))), (25, .fv (.el (.sc (.int .i64 0))))], []⟩ k = k (.exit 3) ⟨[(4, .fv (.el (.sc (.fl .f64 (sqn 8 p)))))], []⟩ := by kernel_rfl

theorem lk100_1 : LOK T2 a100 l100 Try.f100.ntmps (loopAt Try.f100 1) := by
  intro ins outs hA s k out h
  have hA' : ([4, 25], [4]) = (ins, outs) := Option.some.inj ((show a100.lp (firstRegion (loopAt Try.f100 1)) = some ([4, 25], [4]) by kernel_rfl).symm.trans hA)
  cases hA'
  have hk : firstRegion (loopAt Try.f100 1) = 11 := by kernel_rfl
  rw [hk] at h
  change lp100_1 s k = some out at h
  unfold lp100_1 at h
  split at h
  · rename_i p i
    cases hg : decide (i = 0) with
    | false => rw [hg] at h; cases h
    | true =>
      rw [hg] at h
      replace hg := of_decide_eq_true hg
      subst hg
      refine ⟨9, ?_⟩
      exact (un100_1 p k).trans h
  · cases h
theorem e100 (y : Nat) : runFn T2 a100 l100 Try.f100 [.el (.sc (.fl .f64 y))] = (match (fcmp .gtr .f64 y 4641240890982006784 : Bool) with
  | true => some ⟨[.el (.sc (.fl .f64 (infOf 1)))], none⟩
  | false => (match (fcmp .lss .f64 y 13864612927836782592 : Bool) with
    | true => some ⟨[.el (.sc (.fl .f64 0))], none⟩
    | false => (match (Nat.beq 4622945017495814144 4622945017495814144 : Bool) with
      | true => (match (decide (0 = 0) : Bool) with
        | true => some ⟨[.el (.sc (.fl .f64 (sqn 8 (expPoly (fop .quo .f64 y 4643211215818981376) 4607182418800017408))))], none⟩
        | false => none)
      | false => none))) := by kernel_rfl
theorem s100 (y : Nat) : runFn T2 a100 l100 Try.f100 [.el (.sc (.fl .f64 y))] = some ⟨[.el (.sc (.fl .f64 (expI y)))], none⟩ := by
  rw [e100]
  unfold expI
  cases fcmp .gtr .f64 y 4641240890982006784 <;> cases fcmp .lss .f64 y 13864612927836782592 <;> kernel_rfl
theorem c100 (y : Nat) (k : List RV → R) (out : Out) (h : k [.el (.sc (.fl .f64 (expI y)))] = some out) : ∃ rs, Real Try.prog 100 ∧ COK Try.prog 100 [.el (.sc (.fl .f64 y))] rs ∧ k rs = some out := by
  exact ⟨_, real Try.func100 (by kernel_rfl), fn_ok tok2 (A := a100) (L := l100) (r := none) Try.func100 (by kernel_rfl) (by kernel_rfl) (loops2 (by kernel_rfl) lk100 lk100_1) (by rw [s100]), h⟩

/-! spec.l01SineWide -/
def a106 : Ann := ann [(17, [4, 5, 6, 7, 8], [4, 5, 7])] [2] 0
def lp106 : St → (Ex → St → R) → R := fun s k => match s with
  | ⟨[(4, .fv (.el (.sc (.bo b)))), (5, .fv (.el (.sc (.fl .f64 z)))), (6, .fv (.el (.sc (.fl .f64 u)))), (7, .fv (.el (.sc (.fl .f64 p)))), (8, .fv (.el (.sc (.int .i64 i))))], []⟩ => (match (decide (i = 8) : Bool) with
    | true => k (.exit 0) ⟨[(4, .fv (.el (.sc (.bo b)))), (5, .fv (.el (.sc (.fl .f64 z)))), (7, .fv (.el (.sc (.fl .f64 (sinPoly u p)))))], []⟩
    | false => none)
  | _ => none
def l106 : Loops := fun key s k => bif Nat.beq key 17 then lp106 s k else none
theorem st106 (b : Bool) (z : Nat) (u : Nat) (p : Nat) (i : Int) (m : Nat) (k : Ex → St → R) : iterK a106 [4, 5, 6, 7, 8] [4, 5, 7] (codeK T2 a106 l106 Try.f106.ntmps (loopAt Try.f106 0)) (m + 1) ⟨[(4, .fv (.el (.sc (.bo b)))), (5, .fv (.el (.sc (.fl .f64 z)))), (6, .fv (.el (.sc (.fl .f64 u)))), (7, .fv (.el (.sc (.fl .f64 p)))), (8, .fv (.el (.sc (.int .i64 i))))], []⟩ k = (match (decide ((i : Int) ≥ 1) : Bool) with
  | true => iterK a106 [4, 5, 6, 7, 8] [4, 5, 7] (codeK T2 a106 l106 Try.f106.ntmps (loopAt Try.f106 0)) m ⟨[(4, .fv (.el (.sc (.bo b)))), (5, .fv (.el (.sc (.fl .f64 z)))), (6, .fv (.el (.sc (.fl .f64 u)))), (7, .fv (.el (.sc (.fl .f64 (fop .sub .f64 4607182418800017408 (fop .quo .f64 (fop .mul .f64 u p) (fint .f64 (IntKind.i64.wrap ((IntKind.i64.wrap (2 * i)) * (IntKind.i64.wrap ((IntKind.i64.wrap (2 * i)) + 1))))))))))), (8, .fv (.el (.sc (.int .i64 (IntKind.i64.wrap (i - 1))))))], []⟩ k
  | false => k (.exit 0) ⟨[(4, .fv (.el (.sc (.bo b)))), (5, .fv (.el (.sc (.fl .f64 z)))), (7, .fv (.el (.sc (.fl .f64 p))))], []⟩) := by kernel_rfl
theorem un106 (b : Bool) (z : Nat) (u : Nat) (p : Nat) (k : Ex → St → R) : iterK a106 [4, 5, 6, 7, 8] [4, 5, 7] (codeK T2 a106 l106 Try.f106.ntmps (loopAt Try.f106 0)) 9 ⟨[(4, .fv (.el (.sc (.bo b)))), (5, .fv (.el (.sc (.fl .f64 z)))), (6, .fv (.el (.sc (.fl .f64 u)))), (7, .fv (.el (.sc (.fl .f64 p)))), (8, .fv (.el (.sc (.int .i64 8))))], []⟩ k = k (.exit 0) ⟨[(4, .fv (.el (.sc (.bo b)))), (5, .fv (.el (.sc (.fl .f64 z)))), (7, .fv (.el (.sc (.fl .f64 (sinPoly u p)))))], []⟩ := by kernel_rfl

theorem lk106 : LOK T2 a106 l106 Try.f106.ntmps (loopAt Try.f106 0) := by
  intro ins outs hA s k out h
  have hA' : ([4, 5, 6, 7, 8], [4, 5, 7]) = (ins, outs) := Option.some.inj ((show a106.lp (firstRegion (loopAt Try.f106 0)) = some ([4, 5, 6, 7, 8], [4, 5, 7]) by kernel_rfl).symm.trans hA)
  cases hA'
  have hk : firstRegion (loopAt Try.f106 0) = 17 := by kernel_rfl
  rw [hk] at h
  change lp106 s k = some out at h
  unfold lp106 at h
  split at h
  · rename_i b z u p i
    cases hg : decide (i = 8) with
    | false => rw [hg] at h; cases h
    | true =>
      rw [hg] at h
      replace hg := of_decide_eq_true hg
      subst hg
      refine ⟨9, ?_⟩
      exact (un106 b z u p k).trans h
  · cases h
theorem e106 (y : Nat) : runFn T2 a106 l106 Try.f106 [.el (.sc (.fl .f64 y))] = (match (fcmp .neq .f64 (fop .sub .f64 y y) 0 : Bool) with
  | true => some ⟨[.el (.sc (.fl .f64 (nanOf .f64)))], none⟩
  | false => (match (fcmp .geq .f64 y 4841369599423283200 : Bool) with
    | true => some ⟨[.el (.sc (.fl .f64 0))], none⟩
    | false => (match (fcmp .leq .f64 y 14064741636278059008 : Bool) with
      | true => some ⟨[.el (.sc (.fl .f64 0))], none⟩
      | false => (match floatToIntVal .f64 y .i64 with
        | some n1 => (match (fcmp .lss .f64 (fop .sub .f64 y (fint .f64 n1)) 0 : Bool) with
          | true => (match (fcmp .geq .f64 (fop .add .f64 (fop .sub .f64 y (fint .f64 n1)) 4607182418800017408) 4602678819172646912 : Bool) with
            | true => (match (fcmp .gtr .f64 (fop .sub .f64 (fop .add .f64 (fop .sub .f64 y (fint .f64 n1)) 4607182418800017408) 4602678819172646912) 4598175219545276416 : Bool) with
              | true => (match (decide (8 = 8) : Bool) with
                | true => (match ((fcmp .geq .f64 (fop .add .f64 (fop .sub .f64 y (fint .f64 n1)) 4607182418800017408) 4602678819172646912) : Bool) with
                  | true => some ⟨[.el (.sc (.fl .f64 (fneg .f64 (fop .mul .f64 ((fop .mul .f64 (fop .sub .f64 4602678819172646912 (fop .sub .f64 (fop .add .f64 (fop .sub .f64 y (fint .f64 n1)) 4607182418800017408) 4602678819172646912)) 4618760256179416344)) (sinPoly (fop .mul .f64 (fop .mul .f64 (fop .sub .f64 4602678819172646912 (fop .sub .f64 (fop .add .f64 (fop .sub .f64 y (fint .f64 n1)) 4607182418800017408) 4602678819172646912)) 4618760256179416344) (fop .mul .f64 (fop .sub .f64 4602678819172646912 (fop .sub .f64 (fop .add .f64 (fop .sub .f64 y (fint .f64 n1)) 4607182418800017408) 4602678819172646912)) 4618760256179416344)) 4607182418800017408)))))], none⟩
                  | false => some ⟨[.el (.sc (.fl .f64 (fop .mul .f64 ((fop .mul .f64 (fop .sub .f64 4602678819172646912 (fop .sub .f64 (fop .add .f64 (fop .sub .f64 y (fint .f64 n1)) 4607182418800017408) 4602678819172646912)) 4618760256179416344)) (sinPoly (fop .mul .f64 (fop .mul .f64 (fop .sub .f64 4602678819172646912 (fop .sub .f64 (fop .add .f64 (fop .sub .f64 y (fint .f64 n1)) 4607182418800017408) 4602678819172646912)) 4618760256179416344) (fop .mul .f64 (fop .sub .f64 4602678819172646912 (fop .sub .f64 (fop .add .f64 (fop .sub .f64 y (fint .f64 n1)) 4607182418800017408) 4602678819172646912)) 4618760256179416344)) 4607182418800017408))))], none⟩)
                | false => none)
              | false => (match (decide (8 = 8) : Bool) with
                | true => (match ((fcmp .geq .f64 (fop .add .f64 (fop .sub .f64 y (fint .f64 n1)) 4607182418800017408) 4602678819172646912) : Bool) with
                  | true => some ⟨[.el (.sc (.fl .f64 (fneg .f64 (fop .mul .f64 ((fop .mul .f64 (fop .sub .f64 (fop .add .f64 (fop .sub .f64 y (fint .f64 n1)) 4607182418800017408) 4602678819172646912) 4618760256179416344)) (sinPoly (fop .mul .f64 (fop .mul .f64 (fop .sub .f64 (fop .add .f64 (fop .sub .f64 y (fint .f64 n1)) 4607182418800017408) 4602678819172646912) 4618760256179416344) (fop .mul .f64 (fop .sub .f64 (fop .add .f64 (fop .sub .f64 y (fint .f64 n1)) 4607182418800017408) 4602678819172646912) 4618760256179416344)) 4607182418800017408)))))], none⟩
                  | false => some ⟨[.el (.sc (.fl .f64 (fop .mul .f64 ((fop .mul .f64 (fop .sub .f64 (fop .add .f64 (fop .sub .f64 y (fint .f64 n1)) 4607182418800017408) 4602678819172646912) 4618760256179416344)) (sinPoly (fop .mul .f64 (fop .mul .f64 (fop .sub .f64 (fop .add .f64 (fop .sub .f64 y (fint .f64 n1)) 4607182418800017408) 4602678819172646912) 4618760256179416344) (fop .mul .f64 (fop .sub .f64 (fop .add .f64 (fop .sub .f64 y (fint .f64 n1)) 4607182418800017408) 4602678819172646912) 4618760256179416344)) 4607182418800017408))))], none⟩)
                | false => none))
            | false => (match (fcmp .gtr .f64 (fop .add .f64 (fop .sub .f64 y (fint .f64 n1)) 4607182418800017408) 4598175219545276416 : Bool) with
              | true => (match (decide (8 = 8) : Bool) with
                | true => (match ((fcmp .geq .f64 (fop .add .f64 (fop .sub .f64 y (fint .f64 n1)) 4607182418800017408) 4602678819172646912) : Bool) with
                  | true => some ⟨[.el (.sc (.fl .f64 (fneg .f64 (fop .mul .f64 ((fop .mul .f64 (fop .sub .f64 4602678819172646912 (fop .add .f64 (fop .sub .f64 y (fint .f64 n1)) 4607182418800017408)) 4618760256179416344)) (sinPoly (fop .mul .f64 (fop .mul .f64 (fop .sub .f64 4602678819172646912 (fop .add .f64 (fop .sub .f64 y (fint .f64 n1)) 4607182418800017408)) 4618760256179416344) (fop .mul .f64 (fop .sub .f64 4602678819172646912 (fop .add .f64 (fop .sub .f64 y (fint .f64 n1)) 4607182418800017408)) 4618760256179416344)) 4607182418800017408)))))], none⟩
                  | false => some ⟨[.el (.sc (.fl .f64 (fop .mul .f64 ((fop .mul .f64 (fop .sub .f64 4602678819172646912 (fop .add .f64 (fop .sub .f64 y (fint .f64 n1)) 4607182418800017408)) 4618760256179416344)) (sinPoly (fop .mul .f64 (fop .mul .f64 (fop .sub .f64 4602678819172646912 (fop .add .f64 (fop .sub .f64 y (fint .f64 n1)) 4607182418800017408)) 4618760256179416344) (fop .mul .f64 (fop .sub .f64 4602678819172646912 (fop .add .f64 (fop .sub .f64 y (fint .f64 n1)) 4607182418800017408)) 4618760256179416344)) 4607182418800017408))))], none⟩)
                | false => none)
              | false => (match (decide (8 = 8) : Bool) with
                | true => (match ((fcmp .geq .f64 (fop .add .f64 (fop .sub .f64 y (fint .f64 n1)) 4607182418800017408) 4602678819172646912) : Bool) with
                  | true => some ⟨[.el (.sc (.fl .f64 (fneg .f64 (fop .mul .f64 ((fop .mul .f64 (fop .add .f64 (fop .sub .f64 y (fint .f64 n1)) 4607182418800017408) 4618760256179416344)) (sinPoly (fop .mul .f64 (fop .mul .f64 (fop .add .f64 (fop .sub .f64 y (fint .f64 n1)) 4607182418800017408) 4618760256179416344) (fop .mul .f64 (fop .add .f64 (fop .sub .f64 y (fint .f64 n1)) 4607182418800017408) 4618760256179416344)) 4607182418800017408)))))], none⟩
                  | false => some ⟨[.el (.sc (.fl .f64 (fop .mul .f64 ((fop .mul .f64 (fop .add .f64 (fop .sub .f64 y (fint .f64 n1)) 4607182418800017408) 4618760256179416344)) (sinPoly (fop .mul .f64 (fop .mul .f64 (fop .add .f64 (fop .sub .f64 y (fint .f64 n1)) 4607182418800017408) 4618760256179416344) (fop .mul .f64 (fop .add .f64 (fop .sub .f64 y (fint .f64 n1)) 4607182418800017408) 4618760256179416344)) 4607182418800017408))))], none⟩)
                | false => none)))
          | false => (match (fcmp .geq .f64 (fop .sub .f64 y (fint .f64 n1)) 4602678819172646912 : Bool) with
            | true => (match (fcmp .gtr .f64 (fop .sub .f64 (fop .sub .f64 y (fint .f64 n1)) 4602678819172646912) 4598175219545276416 : Bool) with
              | true => (match (decide (8 = 8) : Bool) with
                | true => (match ((fcmp .geq .f64 (fop .sub .f64 y (fint .f64 n1)) 4602678819172646912) : Bool) with
                  | true => some ⟨[.el (.sc (.fl .f64 (fneg .f64 (fop .mul .f64 ((fop .mul .f64 (fop .sub .f64 4602678819172646912 (fop .sub .f64 (fop .sub .f64 y (fint .f64 n1)) 4602678819172646912)) 4618760256179416344)) (sinPoly (fop .mul .f64 (fop .mul .f64 (fop .sub .f64 4602678819172646912 (fop .sub .f64 (fop .sub .f64 y (fint .f64 n1)) 4602678819172646912)) 4618760256179416344) (fop .mul .f64 (fop .sub .f64 4602678819172646912 (fop .sub .f64 (fop .sub .f64 y (fint .f64 n1)) 4602678819172646912)) 4618760256179416344)) 4607182418800017408)))))], none⟩
                  | false => some ⟨[.el (.sc (.fl .f64 (fop .mul .f64 ((fop .mul .f64 (fop .sub .f64 4602678819172646912 (fop .sub .f64 (fop .sub .f64 y (fint .f64 n1)) 4602678819172646912)) 4618760256179416344)) (sinPoly (fop .mul .f64 (fop .mul .f64 (fop .sub .f64 4602678819172646912 (fop .sub .f64 (fop .sub .f64 y (fint .f64 n1)) 4602678819172646912)) 4618760256179416344) (fop .mul .f64 (fop .sub .f64 4602678819172646912 (fop .sub .f64 (fop .sub .f64 y (fint .f64 n1)) 4602678819172646912)) 4618760256179416344)) 4607182418800017408))))], none⟩)
                | false => none)
              | false => (match (decide (8 = 8) : Bool) with
                | true => (match ((fcmp .geq .f64 (fop .sub .f64 y (fint .f64 n1)) 4602678819172646912) : Bool) with
                  | true => some ⟨[.el (.sc (.fl .f64 (fneg .f64 (fop .mul .f64 ((fop .mul .f64 (fop .sub .f64 (fop .sub .f64 y (fint .f64 n1)) 4602678819172646912) 4618760256179416344)) (sinPoly (fop .mul .f64 (fop .mul .f64 (fop .sub .f64 (fop .sub .f64 y (fint .f64 n1)) 4602678819172646912) 4618760256179416344) (fop .mul .f64 (fop .sub .f64 (fop .sub .f64 y (fint .f64 n1)) 4602678819172646912) 4618760256179416344)) 4607182418800017408)))))], none⟩
                  | false => some ⟨[.el (.sc (.fl .f64 (fop .mul .f64 ((fop .mul .f64 (fop .sub .f64 (fop .sub .f64 y (fint .f64 n1)) 4602678819172646912) 4618760256179416344)) (sinPoly (fop .mul .f64 (fop .mul .f64 (fop .sub .f64 (fop .sub .f64 y (fint .f64 n1)) 4602678819172646912) 4618760256179416344) (fop .mul .f64 (fop .sub .f64 (fop .sub .f64 y (fint .f64 n1)) 4602678819172646912) 4618760256179416344)) 4607182418800017408))))], none⟩)
                | false => none))
            | false => (match (fcmp .gtr .f64 (fop .sub .f64 y (fint .f64 n1)) 4598175219545276416 : Bool) with
              | true => (match (decide (8 = 8) : Bool) with
                | true => (match ((fcmp .geq .f64 (fop .sub .f64 y (fint .f64 n1)) 4602678819172646912) : Bool) with
                  | true => some ⟨[.el (.sc (.fl .f64 (fneg .f64 (fop .mul .f64 ((fop .mul .f64 (fop .sub .f64 4602678819172646912 (fop .sub .f64 y (fint .f64 n1))) 4618760256179416344)) (sinPoly (fop .mul .f64 (fop .mul .f64 (fop .sub .f64 4602678819172646912 (fop .sub .f64 y (fint .f64 n1))) 4618760256179416344) (fop .mul .f64 (fop .sub .f64 4602678819172646912 (fop .sub .f64 y (fint .f64 n1))) 4618760256179416344)) 4607182418800017408)))))], none⟩
                  | false => some ⟨[.el (.sc (.fl .f64 (fop .mul .f64 ((fop .mul .f64 (fop .sub .f64 4602678819172646912 (fop .sub .f64 y (fint .f64 n1))) 4618760256179416344)) (sinPoly (fop .mul .f64 (fop .mul .f64 (fop .sub .f64 4602678819172646912 (fop .sub .f64 y (fint .f64 n1))) 4618760256179416344) (fop .mul .f64 (fop .sub .f64 4602678819172646912 (fop .sub .f64 y (fint .f64 n1))) 4618760256179416344)) 4607182418800017408))))], none⟩)
                | false => none)
              | false => (match (decide (8 = 8) : Bool) with
                | true => (match ((fcmp .geq .f64 (fop .sub .f64 y (fint .f64 n1)) 4602678819172646912) : Bool) with
                  | true => some ⟨[.el (.sc (.fl .f64 (fneg .f64 (fop .mul .f64 ((fop .mul .f64 (fop .sub .f64 y (fint .f64 n1)) 4618760256179416344)) (sinPoly (fop .mul .f64 (fop .mul .f64 (fop .sub .f64 y (fint .f64 n1)) 4618760256179416344) (fop .mul .f64 (fop .sub .f64 y (fint .f64 n1)) 4618760256179416344)) 4607182418800017408)))))], none⟩
                  | false => some ⟨[.el (.sc (.fl .f64 (fop .mul .f64 ((fop .mul .f64 (fop .sub .f64 y (fint .f64 n1)) 4618760256179416344)) (sinPoly (fop .mul .f64 (fop .mul .f64 (fop .sub .f64 y (fint .f64 n1)) 4618760256179416344) (fop .mul .f64 (fop .sub .f64 y (fint .f64 n1)) 4618760256179416344)) 4607182418800017408))))], none⟩)
                | false => none))))
        | none => none)))) := by kernel_rfl
theorem s106 (y : Nat) : runFn T2 a106 l106 Try.f106 [.el (.sc (.fl .f64 y))] = some ⟨[.el (.sc (.fl .f64 (sineW y)))], none⟩ := by
  rw [e106]
  unfold sineW
  cases h0 : fcmp .neq .f64 (fop .sub .f64 y y) 0 with
  | true => kernel_rfl
  | false =>
    have hn : isNum .f64 y = true := by
      rw [sub_self_fin] at h0
      simpa using h0
    cases hh : huge y with
    | true =>
      unfold huge big52 neg52 at hh
      cases h1 : fcmp .geq .f64 y 4841369599423283200 with
      | true => simp only [cond_false, cond_true]
      | false =>
        rw [h1, Bool.false_or] at hh
        simp only [hh, cond_false, cond_true]
    | false =>
      have hh2 := hh
      unfold huge big52 neg52 at hh2
      rw [Bool.or_eq_false_iff] at hh2
      obtain ⟨n, c1, c2, _⟩ := whole_ok hn hh
      simp only [cond_false, hh2.1, hh2.2, c1, c2]
      unfold sinCore sinVal sinArm low2 low1 part one64 half64 quarter64 tau64
      generalize whole y = W
      cases fcmp .lss .f64 (fop .sub .f64 y W) 0 <;> simp only [cond_true, cond_false]
      · generalize fop .sub .f64 y W = f
        cases fcmp .geq .f64 f 4602678819172646912 <;> simp only [cond_true, cond_false]
        · cases fcmp .gtr .f64 f 4598175219545276416 <;> rfl
        · cases fcmp .gtr .f64 (fop .sub .f64 f 4602678819172646912) 4598175219545276416 <;> rfl
      · generalize fop .add .f64 (fop .sub .f64 y W) 4607182418800017408 = f
        cases fcmp .geq .f64 f 4602678819172646912 <;> simp only [cond_true, cond_false]
        · cases fcmp .gtr .f64 f 4598175219545276416 <;> rfl
        · cases fcmp .gtr .f64 (fop .sub .f64 f 4602678819172646912) 4598175219545276416 <;> rfl
theorem c106 (y : Nat) (k : List RV → R) (out : Out) (h : k [.el (.sc (.fl .f64 (sineW y)))] = some out) : ∃ rs, Real Try.prog 106 ∧ COK Try.prog 106 [.el (.sc (.fl .f64 y))] rs ∧ k rs = some out := by
  exact ⟨_, real Try.func106 (by kernel_rfl), fn_ok tok2 (A := a106) (L := l106) (r := none) Try.func106 (by kernel_rfl) (by kernel_rfl) (loops1 (by kernel_rfl) lk106) (by rw [s106]), h⟩

/-! impl.isHuge -/
theorem e107 (y : Nat) : runFn T2 none0 noL Try.f107 [.el (.sc (.fl .f64 y))] = (match (!isN .f64 y : Bool) with
  | true => some ⟨[.el (.sc (.bo (fcmp .geq .f64 (fabs y) 4841369599423283200)))], none⟩
  | false => none) := by kernel_rfl
theorem s107 (y : Nat) (hg : (!isN .f64 y) = true) : runFn T2 none0 noL Try.f107 [.el (.sc (.fl .f64 y))] = some ⟨[.el (.sc (.bo (fcmp .geq .f64 (fabs y) big52)))], none⟩ := by
  rw [e107]
  have hN : isN .f64 y = false := by simpa using hg
  rw [hN]
  rfl
theorem c107 (y : Nat) (k : List RV → R) (out : Out) (h : (match (!isN .f64 y : Bool) with
  | true => k [.el (.sc (.bo (fcmp .geq .f64 (fabs y) big52)))]
  | false => none) = some out) : ∃ rs, Real Try.prog 107 ∧ COK Try.prog 107 [.el (.sc (.fl .f64 y))] rs ∧ k rs = some out := by
  cases g0 : (!isN .f64 y : Bool) with
  | true =>
    rw [g0] at h
    exact ⟨_, real Try.func107 (by kernel_rfl), fn_ok tok2 (A := none0) (L := noL) (r := none) Try.func107 (by kernel_rfl) (by kernel_rfl) (loops0 (by kernel_rfl)) (by rw [s107 _ g0]), h⟩
  | false =>
    rw [g0] at h
    cases h

/-! slices.IndexFunc[[]float32,float32] -/
def a111b : Ann := ann [(2, [0, 1, 7, 8], [])] [4] 0
def lp111b : St → (Ex → St → R) → R := fun s k => match s with
  | ⟨[(0, .fv (.vw (some 0) ⟨.f32, xs⟩)), (1, .fv (.fn 99 [])), (7, .fv (.el (.sc (.int .i64 n)))), (8, .fv (.el (.sc (.int .i64 i))))], []⟩ => (match (decide (n = (xs.length : Int)) && (decide (i = 0) && Nat.ble xs.length big) : Bool) with
    | true => (match xs.findIdx? notPos with
      | some q => k .ret ⟨[(4, .fv (.el (.sc (.int .i64 ((q : Int))))))], []⟩
      | none => k (.exit 0) ⟨[], []⟩)
    | false => none)
  | _ => none
def l111b : Loops := fun key s k => bif Nat.beq key 2 then lp111b s k else none
theorem st111b (xs : List Nat) (n : Int) (i : Int) (m : Nat) (k : Ex → St → R) : iterK a111b [0, 1, 7, 8] [] (codeK T2 a111b l111b Try.f111.ntmps (loopAt Try.f111 0)) (m + 1) ⟨[(0, .fv (.vw (some 0) ⟨.f32, xs⟩)), (1, .fv (.fn 99 [])), (7, .fv (.el (.sc (.int .i64 n)))), (8, .fv (.el (.sc (.int .i64 i))))], []⟩ k = (match (decide ((i : Int) < n) : Bool) with
  | true => (match (decide (0 ≤ (i : Int) ∧ (i : Int) < (xs.length : Int)) && true : Bool) with
    | true => (match (xs : List Nat)[Int.toNat i]? with
      | some x1 => (match (notPos x1 : Bool) with
        | true => k .ret ⟨[(4, .fv (.el (.sc (.int .i64 i))))], []⟩
        | false => iterK a111b [0, 1, 7, 8] [] (codeK T2 a111b l111b Try.f111.ntmps (loopAt Try.f111 0)) m ⟨[(0, .fv (.vw (some 0) ⟨.f32, xs⟩)), (1, .fv (.fn 99 [])), (7, .fv (.el (.sc (.int .i64 n)))), (8, .fv (.el (.sc (.int .i64 (IntKind.i64.wrap (i + 1))))))], []⟩ k)
      | none => none)
    | false => none)
  | false => k (.exit 0) ⟨[], []⟩) := by kernel_rfl
theorem ind111b (xs : List Nat) (hx : Nat.ble xs.length big = true) (k : Ex → St → R) : ∀ (m j : Nat), j + m = xs.length → iterK a111b [0, 1, 7, 8] [] (codeK T2 a111b l111b Try.f111.ntmps (loopAt Try.f111 0)) (m + 1) ⟨[(0, .fv (.vw (some 0) ⟨.f32, xs⟩)), (1, .fv (.fn 99 [])), (7, .fv (.el (.sc (.int .i64 (xs.length : Int))))), (8, .fv (.el (.sc (.int .i64 (j : Int)))))], []⟩ k =
    (match (xs.drop j).findIdx? notPos with
    | some q => k .ret ⟨[(4, .fv (.el (.sc (.int .i64 ((j + q : Nat) : Int)))))], []⟩
    | none => k (.exit 0) ⟨[], []⟩) := by
  intro m
  induction m with
  | zero =>
    intro j hj
    have h1 : ¬ ((j : Int) < (xs.length : Int)) := by omega
    rw [st111b]
    have h2 : xs.drop j = [] := List.drop_of_length_le (by omega)
    simp [h1, h2]
  | succ m ih =>
    intro j hj
    have hlt : j < xs.length := by omega
    have h1 : ((j : Int) < (xs.length : Int)) := by omega
    have h2 : (0 : Int) ≤ (j : Int) := by omega
    rw [st111b, wrap_succ hlt hx]
    have h3 : xs[Int.toNat (j : Int)]? = some xs[j] := by simp [hlt]
    rw [List.drop_eq_getElem_cons hlt, List.findIdx?_cons]
    simp only [h1, h2, h3, and_self, decide_true, Bool.and_true]
    cases hp : notPos xs[j] with
    | true => simp
    | false =>
      rw [ih (j + 1) (by omega)]
      cases (xs.drop (j + 1)).findIdx? notPos with
      | none => rfl
      | some q => simp only [Bool.false_eq_true, if_false, Option.map_some]; rw [show j + 1 + q = j + (q + 1) by omega]
theorem lk111b : LOK T2 a111b l111b Try.f111.ntmps (loopAt Try.f111 0) := by
  intro ins outs hA s k out h
  have hA' : ([0, 1, 7, 8], []) = (ins, outs) := Option.some.inj ((show a111b.lp (firstRegion (loopAt Try.f111 0)) = some ([0, 1, 7, 8], []) by kernel_rfl).symm.trans hA)
  cases hA'
  have hk : firstRegion (loopAt Try.f111 0) = 2 := by kernel_rfl
  rw [hk] at h
  change lp111b s k = some out at h
  unfold lp111b at h
  split at h
  · rename_i xs n i
    cases hg : (decide (n = (xs.length : Int)) && (decide (i = 0) && Nat.ble xs.length big)) with
    | false => rw [hg] at h; cases h
    | true =>
      rw [hg] at h
      simp only [Bool.and_eq_true, decide_eq_true_eq] at hg
      obtain ⟨rfl, rfl, hx⟩ := hg
      refine ⟨xs.length + 1, ?_⟩
      have := ind111b xs hx k xs.length 0 (by omega)
      simp only [List.drop_zero, Nat.zero_add] at this
      exact this.trans h
  · cases h
theorem e111b (xs : List Nat) : runFn T2 a111b l111b Try.f111 [.vw none ⟨.f32, xs⟩, .fn 99 []] = (match (decide ((xs.length : Int) = (xs.length : Int)) && (decide (0 = 0) && Nat.ble xs.length big) : Bool) with
  | true => (match xs.findIdx? notPos with
    | some q => some ⟨[.el (.sc (.int .i64 ((q : Int))))], none⟩
    | none => some ⟨[.el (.sc (.int .i64 ((-1))))], none⟩)
  | false => none) := by kernel_rfl
theorem s111b (xs : List Nat) : runFn T2 a111b l111b Try.f111 [.vw none ⟨.f32, xs⟩, .fn 99 []] = (match (Nat.ble xs.length big : Bool) with
  | true => some ⟨[.el (.sc (.int .i64 (firstAt notPos xs)))], none⟩
  | false => none) := by
  rw [e111b]
  unfold firstAt
  cases h : Nat.ble xs.length big with
  | false => simp [h]
  | true =>
    cases h2 : xs.findIdx? notPos with
    | some q => simp [h, h2]
    | none => simp [h, h2]
theorem c111b (xs : List Nat) (k : List RV → R) (out : Out) (h : (match (Nat.ble xs.length big : Bool) with
  | true => k [.el (.sc (.int .i64 (firstAt notPos xs)))]
  | false => none) = some out) : ∃ rs, Real Try.prog 111 ∧ COK Try.prog 111 [.vw none ⟨.f32, xs⟩, .fn 99 []] rs ∧ k rs = some out := by
  cases g0 : (Nat.ble xs.length big : Bool) with
  | true =>
    rw [g0] at h
    exact ⟨_, real Try.func111 (by kernel_rfl), fn_ok tok2 (A := a111b) (L := l111b) (r := none) Try.func111 (by kernel_rfl) (by kernel_rfl) (loops1 (by kernel_rfl) lk111b) (by rw [s111b, g0]), h⟩
  | false =>
    rw [g0] at h
    cases h

/-! slices.IndexFunc[[]float32,float32] -/
def a111c : Ann := ann [(2, [0, 1, 7, 8], [])] [4] 0
def lp111c : St → (Ex → St → R) → R := fun s k => match s with
  | ⟨[(0, .fv (.vw (some 0) ⟨.f32, xs⟩)), (1, .fv (.fn 98 [])), (7, .fv (.el (.sc (.int .i64 n)))), (8, .fv (.el (.sc (.int .i64 i))))], []⟩ => (match (decide (n = (xs.length : Int)) && (decide (i = 0) && Nat.ble xs.length big) : Bool) with
    | true => (match xs.findIdx? notRot with
      | some q => k .ret ⟨[(4, .fv (.el (.sc (.int .i64 ((q : Int))))))], []⟩
      | none => k (.exit 0) ⟨[], []⟩)
    | false => none)
  | _ => none
def l111c : Loops := fun key s k => bif Nat.beq key 2 then lp111c s k else none
theorem st111c (xs : List Nat) (n : Int) (i : Int) (m : Nat) (k : Ex → St → R) : iterK a111c [0, 1, 7, 8] [] (codeK T2 a111c l111c Try.f111.ntmps (loopAt Try.f111 0)) (m + 1) ⟨[(0, .fv (.vw (some 0) ⟨.f32, xs⟩)), (1, .fv (.fn 98 [])), (7, .fv (.el (.sc (.int .i64 n)))), (8, .fv (.el (.sc (.int .i64 i))))], []⟩ k = (match (decide ((i : Int) < n) : Bool) with
  | true => (match (decide (0 ≤ (i : Int) ∧ (i : Int) < (xs.length : Int)) && true : Bool) with
    | true => (match (xs : List Nat)[Int.toNat i]? with
      | some x1 => (match (notRot x1 : Bool) with
        | true => k .ret ⟨[(4, .fv (.el (.sc (.int .i64 i))))], []⟩
        | false => iterK a111c [0, 1, 7, 8] [] (codeK T2 a111c l111c Try.f111.ntmps (loopAt Try.f111 0)) m ⟨[(0, .fv (.vw (some 0) ⟨.f32, xs⟩)), (1, .fv (.fn 98 [])), (7, .fv (.el (.sc (.int .i64 n)))), (8, .fv (.el (.sc (.int .i64 (IntKind.i64.wrap (i + 1))))))], []⟩ k)
      | none => none)
    | false => none)
  | false => k (.exit 0) ⟨[], []⟩) := by kernel_rfl
theorem ind111c (xs : List Nat) (hx : Nat.ble xs.length big = true) (k : Ex → St → R) : ∀ (m j : Nat), j + m = xs.length → iterK a111c [0, 1, 7, 8] [] (codeK T2 a111c l111c Try.f111.ntmps (loopAt Try.f111 0)) (m + 1) ⟨[(0, .fv (.vw (some 0) ⟨.f32, xs⟩)), (1, .fv (.fn 98 [])), (7, .fv (.el (.sc (.int .i64 (xs.length : Int))))), (8, .fv (.el (.sc (.int .i64 (j : Int)))))], []⟩ k =
    (match (xs.drop j).findIdx? notRot with
    | some q => k .ret ⟨[(4, .fv (.el (.sc (.int .i64 ((j + q : Nat) : Int)))))], []⟩
    | none => k (.exit 0) ⟨[], []⟩) := by
  intro m
  induction m with
  | zero =>
    intro j hj
    have h1 : ¬ ((j : Int) < (xs.length : Int)) := by omega
    rw [st111c]
    have h2 : xs.drop j = [] := List.drop_of_length_le (by omega)
    simp [h1, h2]
  | succ m ih =>
    intro j hj
    have hlt : j < xs.length := by omega
    have h1 : ((j : Int) < (xs.length : Int)) := by omega
    have h2 : (0 : Int) ≤ (j : Int) := by omega
    rw [st111c, wrap_succ hlt hx]
    have h3 : xs[Int.toNat (j : Int)]? = some xs[j] := by simp [hlt]
    rw [List.drop_eq_getElem_cons hlt, List.findIdx?_cons]
    simp only [h1, h2, h3, and_self, decide_true, Bool.and_true]
    cases hp : notRot xs[j] with
    | true => simp
    | false =>
      rw [ih (j + 1) (by omega)]
      cases (xs.drop (j + 1)).findIdx? notRot with
      | none => rfl
      | some q => simp only [Bool.false_eq_true, if_false, Option.map_some]; rw [show j + 1 + q = j + (q + 1) by omega]
theorem lk111c : LOK T2 a111c l111c Try.f111.ntmps (loopAt Try.f111 0) := by
  intro ins outs hA s k out h
  have hA' : ([0, 1, 7, 8], []) = (ins, outs) := Option.some.inj ((show a111c.lp (firstRegion (loopAt Try.f111 0)) = some ([0, 1, 7, 8], []) by kernel_rfl).symm.trans hA)
  cases hA'
  have hk : firstRegion (loopAt Try.f111 0) = 2 := by kernel_rfl
  rw [hk] at h
  change lp111c s k = some out at h
  unfold lp111c at h
  split at h
  · rename_i xs n i
    cases hg : (decide (n = (xs.length : Int)) && (decide (i = 0) && Nat.ble xs.length big)) with
    | false => rw [hg] at h; cases h
    | true =>
      rw [hg] at h
      simp only [Bool.and_eq_true, decide_eq_true_eq] at hg
      obtain ⟨rfl, rfl, hx⟩ := hg
      refine ⟨xs.length + 1, ?_⟩
      have := ind111c xs hx k xs.length 0 (by omega)
      simp only [List.drop_zero, Nat.zero_add] at this
      exact this.trans h
  · cases h
theorem e111c (xs : List Nat) : runFn T2 a111c l111c Try.f111 [.vw none ⟨.f32, xs⟩, .fn 98 []] = (match (decide ((xs.length : Int) = (xs.length : Int)) && (decide (0 = 0) && Nat.ble xs.length big) : Bool) with
  | true => (match xs.findIdx? notRot with
    | some q => some ⟨[.el (.sc (.int .i64 ((q : Int))))], none⟩
    | none => some ⟨[.el (.sc (.int .i64 ((-1))))], none⟩)
  | false => none) := by kernel_rfl
theorem s111c (xs : List Nat) : runFn T2 a111c l111c Try.f111 [.vw none ⟨.f32, xs⟩, .fn 98 []] = (match (Nat.ble xs.length big : Bool) with
  | true => some ⟨[.el (.sc (.int .i64 (firstAt notRot xs)))], none⟩
  | false => none) := by
  rw [e111c]
  unfold firstAt
  cases h : Nat.ble xs.length big with
  | false => simp [h]
  | true =>
    cases h2 : xs.findIdx? notRot with
    | some q => simp [h, h2]
    | none => simp [h, h2]
theorem c111c (xs : List Nat) (k : List RV → R) (out : Out) (h : (match (Nat.ble xs.length big : Bool) with
  | true => k [.el (.sc (.int .i64 (firstAt notRot xs)))]
  | false => none) = some out) : ∃ rs, Real Try.prog 111 ∧ COK Try.prog 111 [.vw none ⟨.f32, xs⟩, .fn 98 []] rs ∧ k rs = some out := by
  cases g0 : (Nat.ble xs.length big : Bool) with
  | true =>
    rw [g0] at h
    exact ⟨_, real Try.func111 (by kernel_rfl), fn_ok tok2 (A := a111c) (L := l111c) (r := none) Try.func111 (by kernel_rfl) (by kernel_rfl) (loops1 (by kernel_rfl) lk111c) (by rw [s111c, g0]), h⟩
  | false =>
    rw [g0] at h
    cases h

/-! impl.partOfTurn -/
theorem e115 (y : Nat) : runFn T2 none0 noL Try.f115 [.el (.sc (.fl .f64 y))] = (match (fcmp .eql .f64 (fround .zero y) 0 : Bool) with
  | true => (match (fcmp .lss .f64 (fop .sub .f64 y 0) 0 : Bool) with
    | true => some ⟨[.el (.sc (.fl .f64 (fop .add .f64 (fop .sub .f64 y 0) 4607182418800017408)))], none⟩
    | false => some ⟨[.el (.sc (.fl .f64 (fop .sub .f64 y 0)))], none⟩)
  | false => (match (fcmp .lss .f64 (fop .sub .f64 y (fround .zero y)) 0 : Bool) with
    | true => some ⟨[.el (.sc (.fl .f64 (fop .add .f64 (fop .sub .f64 y (fround .zero y)) 4607182418800017408)))], none⟩
    | false => some ⟨[.el (.sc (.fl .f64 (fop .sub .f64 y (fround .zero y))))], none⟩)) := by kernel_rfl
theorem s115 (y : Nat) : runFn T2 none0 noL Try.f115 [.el (.sc (.fl .f64 y))] = some ⟨[.el (.sc (.fl .f64 (part y)))], none⟩ := by
  rw [e115]
  unfold part whole one64
  cases fcmp .eql .f64 (fround .zero y) 0 <;> simp only [cond_true, cond_false] <;> split <;> simp_all
theorem c115 (y : Nat) (k : List RV → R) (out : Out) (h : k [.el (.sc (.fl .f64 (part y)))] = some out) : ∃ rs, Real Try.prog 115 ∧ COK Try.prog 115 [.el (.sc (.fl .f64 y))] rs ∧ k rs = some out := by
  exact ⟨_, real Try.func115 (by kernel_rfl), fn_ok tok2 (A := none0) (L := noL) (r := none) Try.func115 (by kernel_rfl) (by kernel_rfl) (loops0 (by kernel_rfl)) (by rw [s115]), h⟩

def S3 : SFn := fun f args k => match f, args with
  | 97, [.el (.sc (.fl .f64 y))] => k [.el (.sc (.fl .f64 (expS y)))]
  | 100, [.el (.sc (.fl .f64 y))] => k [.el (.sc (.fl .f64 (expI y)))]
  | 106, [.el (.sc (.fl .f64 y))] => k [.el (.sc (.fl .f64 (sineW y)))]
  | 107, [.el (.sc (.fl .f64 y))] => (match (!isN .f64 y : Bool) with
    | true => k [.el (.sc (.bo (fcmp .geq .f64 (fabs y) big52)))]
    | false => none)
  | 111, [.vw none ⟨.f32, xs⟩, .fn 99 []] => (match (Nat.ble xs.length big : Bool) with
    | true => k [.el (.sc (.int .i64 (firstAt notPos xs)))]
    | false => none)
  | 111, [.vw none ⟨.f32, xs⟩, .fn 98 []] => (match (Nat.ble xs.length big : Bool) with
    | true => k [.el (.sc (.int .i64 (firstAt notRot xs)))]
    | false => none)
  | 115, [.el (.sc (.fl .f64 y))] => k [.el (.sc (.fl .f64 (part y)))]
  | _, _ => S2 f args k
abbrev M3 : MFn := M2
def T3 : TT := tab.T S3 muts M3
theorem tok3 : TOK Try.prog T3 := by
  refine (tab_ok tabok).tok (fun f args k out h => ?_) (fun f vec args k out h => ?_)
  · change S3 f args k = some out at h
    unfold S3 at h
    split at h
    · exact (fun k out h => cok_call (c97 _ k out h)) k out h
    · exact (fun k out h => cok_call (c100 _ k out h)) k out h
    · exact (fun k out h => cok_call (c106 _ k out h)) k out h
    · exact (fun k out h => cok_call (c107 _ k out h)) k out h
    · exact (fun k out h => cok_call (c111b _ k out h)) k out h
    · exact (fun k out h => cok_call (c111c _ k out h)) k out h
    · exact (fun k out h => cok_call (c115 _ k out h)) k out h
    · exact tok2.S f args k out h
  · exact tok2.M f vec args k out h

end Go.Sm.Ytdnfgoolapikmaa
