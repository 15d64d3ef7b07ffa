/- What the functions hand back: level 2. -/
import Derived.Test.YtlkphfpkohabeaaD2
namespace Go.Sm.Ytlkphfpkohabeaa
open Go Go.Sm Go.RowKit Go.Proofs

/-! spec.l06Bins -/
theorem e57 (xs : List Nat) (n : Int) : runFn T2 none0 noL Try.f57 [.vw none ⟨.f32, xs⟩, .el (.sc (.int .i64 n))] = (match (decide (((xs.length : Int) : Int) ≥ n) : Bool) with
  | true => (match (decide (((xs.length : Int) : Int) ≤ 64) : Bool) with
    | true => (match (Nat.ble xs.length big : Bool) with
      | true => some ⟨[.el (.sc (.bo (xs.all fin)))], none⟩
      | false => none)
    | false => some ⟨[.el (.sc (.bo false))], none⟩)
  | false => some ⟨[.el (.sc (.bo false))], none⟩) := by kernel_rfl
theorem s57 (xs : List Nat) (n : Int) : runFn T2 none0 noL Try.f57 [.vw none ⟨.f32, xs⟩, .el (.sc (.int .i64 n))] = some ⟨[.el (.sc (.bo (bins xs n)))], none⟩ := by
  rw [e57]
  unfold bins
  have e4 : ((xs.length : Int) ≤ 64) ↔ xs.length ≤ 64 := by omega
  by_cases h4 : xs.length ≤ 64
  · have h : Nat.ble xs.length big = true := Nat.ble_eq_true_of_le (by unfold big; omega)
    cases h3 : decide ((xs.length : Int) ≥ n) <;> simp [e4, h4, h]
  · cases h3 : decide ((xs.length : Int) ≥ n) <;> simp [e4, h4]
theorem c57 (xs : List Nat) (n : Int) (k : List RV → R) (out : Out) (h : k [.el (.sc (.bo (bins xs n)))] = some out) : ∃ rs, Real Try.prog 57 ∧ COK Try.prog 57 [.vw none ⟨.f32, xs⟩, .el (.sc (.int .i64 n))] rs ∧ k rs = some out := by
  exact ⟨_, real Try.func57 (by kernel_rfl), fn_ok tok2 (A := none0) (L := noL) (r := none) Try.func57 (by kernel_rfl) (by kernel_rfl) (loops0 (by kernel_rfl)) (by rw [s57]), h⟩

/-! spec.l02List -/
theorem e61 (xs : List Nat) : runFn T2 none0 noL Try.f61 [.vw none ⟨.f32, xs⟩] = (match (Nat.ble xs.length big : Bool) with
  | true => (match (!(xs.all fin) : Bool) with
    | true => some ⟨[.nil, .el (.sc (.bo false))], none⟩
    | false => some ⟨[.arg 0, .el (.sc (.bo true))], none⟩)
  | false => none) := by kernel_rfl
theorem s61 (xs : List Nat) : runFn T2 none0 noL Try.f61 [.vw none ⟨.f32, xs⟩] = (match (Nat.ble xs.length big : Bool) with
  | true => (match (xs.all fin : Bool) with
    | true => some ⟨[.arg 0, .el (.sc (.bo true))], none⟩
    | false => some ⟨[.nil, .el (.sc (.bo false))], none⟩)
  | false => none) := by
  rw [e61]
  cases Nat.ble xs.length big <;> cases xs.all fin <;> simp
theorem c61 (xs : List Nat) (k : List RV → R) (out : Out) (h : (match (Nat.ble xs.length big : Bool) with
  | true => (match (xs.all fin : Bool) with
    | true => k [.arg 0, .el (.sc (.bo true))]
    | false => k [.nil, .el (.sc (.bo false))])
  | false => none) = some out) : ∃ rs, Real Try.prog 61 ∧ COK Try.prog 61 [.vw none ⟨.f32, xs⟩] rs ∧ k rs = some out := by
  cases g0 : (Nat.ble xs.length big : Bool) with
  | true =>
    rw [g0] at h
    cases g1 : (xs.all fin : Bool) with
    | true =>
      rw [g1] at h
      exact ⟨_, real Try.func61 (by kernel_rfl), fn_ok tok2 (A := none0) (L := noL) (r := none) Try.func61 (by kernel_rfl) (by kernel_rfl) (loops0 (by kernel_rfl)) (by rw [s61, g0, g1]), h⟩
    | false =>
      rw [g1] at h
      exact ⟨_, real Try.func61 (by kernel_rfl), fn_ok tok2 (A := none0) (L := noL) (r := none) Try.func61 (by kernel_rfl) (by kernel_rfl) (loops0 (by kernel_rfl)) (by rw [s61, g0, g1]), h⟩
  | false =>
    rw [g0] at h
    cases h

/-! spec.l06Lamps -/
theorem e99 (xs : List Nat) (ys : List Nat) (n : Int) : runFn T2 none0 noL Try.f99 [.vw none ⟨.f32, xs⟩, .vw none ⟨.f32, ys⟩, .el (.sc (.int .i64 n))] = (match (decide (((xs.length : Int) : Int) ≥ n) : Bool) with
  | true => (match (decide (((xs.length : Int) : Int) ≤ 16) : Bool) with
    | true => (match (((ys.length : Int) : Int) == (xs.length : Int) : Bool) with
      | true => (match (Nat.ble xs.length big : Bool) with
        | true => (match (xs.all fin : Bool) with
          | true => (match (Nat.ble ys.length big : Bool) with
            | true => some ⟨[.el (.sc (.bo (ys.all fin)))], none⟩
            | false => none)
          | false => some ⟨[.el (.sc (.bo false))], none⟩)
        | false => none)
      | false => some ⟨[.el (.sc (.bo false))], none⟩)
    | false => some ⟨[.el (.sc (.bo false))], none⟩)
  | false => some ⟨[.el (.sc (.bo false))], none⟩) := by kernel_rfl
theorem s99 (xs : List Nat) (ys : List Nat) (n : Int) : runFn T2 none0 noL Try.f99 [.vw none ⟨.f32, xs⟩, .vw none ⟨.f32, ys⟩, .el (.sc (.int .i64 n))] = some ⟨[.el (.sc (.bo (lamps xs ys n)))], none⟩ := by
  rw [e99]
  unfold lamps
  have e4 : ((xs.length : Int) ≤ 16) ↔ xs.length ≤ 16 := by omega
  have e5 : ((ys.length : Int) == (xs.length : Int)) = decide (ys.length = xs.length) := by
    rw [Bool.eq_iff_iff]; simp; omega
  rw [e5]
  by_cases h4 : xs.length ≤ 16
  · by_cases h5 : ys.length = xs.length
    · have h : Nat.ble xs.length big = true := Nat.ble_eq_true_of_le (by unfold big; omega)
      have h2 : Nat.ble ys.length big = true := Nat.ble_eq_true_of_le (by unfold big; omega)
      cases h3 : decide ((xs.length : Int) ≥ n) <;> cases h6 : xs.all fin <;> simp [e4, h4, h5, h, h2, h6]
    · cases h3 : decide ((xs.length : Int) ≥ n) <;> simp [e4, h4, h5]
  · cases h3 : decide ((xs.length : Int) ≥ n) <;> simp [e4, h4]
theorem c99 (xs : List Nat) (ys : List Nat) (n : Int) (k : List RV → R) (out : Out) (h : k [.el (.sc (.bo (lamps xs ys n)))] = some out) : ∃ rs, Real Try.prog 99 ∧ COK Try.prog 99 [.vw none ⟨.f32, xs⟩, .vw none ⟨.f32, ys⟩, .el (.sc (.int .i64 n))] rs ∧ k rs = some out := by
  exact ⟨_, real Try.func99 (by kernel_rfl), fn_ok tok2 (A := none0) (L := noL) (r := none) Try.func99 (by kernel_rfl) (by kernel_rfl) (loops0 (by kernel_rfl)) (by rw [s99]), h⟩

/-! spec.l01SineWide -/
def a131 : Ann := ann [(17, [4, 5, 6, 7, 8], [4, 5, 7])] [2] 0
def lp131 : St → (Ex → St → R) → R := fun s k => match s with
  | ⟨[(4, .fv (.el (.sc (.bo b)))), (5, .fv (.el (.sc (.fl .f64 z)))), (6, .fv (.el (.sc (.fl .f64 u)))), (7, .fv (.el (.sc (.fl .f64 p)))), (8, .fv (.el (.sc (.int .i64 i))))], []⟩ => (match (decide (i = 8) : Bool) with
    | true => k (.exit 0) ⟨[(4, .fv (.el (.sc (.bo b)))), (5, .fv (.el (.sc (.fl .f64 z)))), (7, .fv (.el (.sc (.fl .f64 (sinPoly u p)))))], []⟩
    | false => none)
  | _ => none
def l131 : Loops := fun key s k => bif Nat.beq key 17 then lp131 s k else none
theorem st131 (b : Bool) (z : Nat) (u : Nat) (p : Nat) (i : Int) (m : Nat) (k : Ex → St → R) : iterK a131 [4, 5, 6, 7, 8] [4, 5, 7] (codeK T2 a131 l131 Try.f131.ntmps (loopAt Try.f131 0)) (m + 1) ⟨[(4, .fv (.el (.sc (.bo b)))), (5, .fv (.el (.sc (.fl .f64 z)))), (6, .fv (.el (.sc (.fl .f64 u)))), (7, .fv (.el (.sc (.fl .f64 p)))), (8, .fv (.el (.sc (.int .i64 i))))], []⟩ k = (match (decide ((i : Int) ≥ 1) : Bool) with
  | true => iterK a131 [4, 5, 6, 7, 8] [4, 5, 7] (codeK T2 a131 l131 Try.f131.ntmps (loopAt Try.f131 0)) m ⟨[(4, .fv (.el (.sc (.bo b)))), (5, .fv (.el (.sc (.fl .f64 z)))), (6, .fv (.el (.sc (.fl .f64 u)))), (7, .fv (.el (.sc (.fl .f64 (fop .sub .f64 4607182418800017408 (fop .quo .f64 (fop .mul .f64 u p) (fint .f64 (IntKind.i64.wrap ((IntKind.i64.wrap (2 * i)) * (IntKind.i64.wrap ((IntKind.i64.wrap (2 * i)) + 1))))))))))), (8, .fv (.el (.sc (.int .i64 (IntKind.i64.wrap (i - 1))))))], []⟩ k
  | false => k (.exit 0) ⟨[(4, .fv (.el (.sc (.bo b)))), (5, .fv (.el (.sc (.fl .f64 z)))), (7, .fv (.el (.sc (.fl .f64 p))))], []⟩) := by kernel_rfl
theorem un131 (b : Bool) (z : Nat) (u : Nat) (p : Nat) (k : Ex → St → R) : iterK a131 [4, 5, 6, 7, 8] [4, 5, 7] (codeK T2 a131 l131 Try.f131.ntmps (loopAt Try.f131 0)) 9 ⟨[(4, .fv (.el (.sc (.bo b)))), (5, .fv (.el (.sc (.fl .f64 z)))), (6, .fv (.el (.sc (.fl .f64 u)))), (7, .fv (.el (.sc (.fl .f64 p)))), (8, .fv (.el (.sc (.int .i64 8))))], []⟩ k = k (.exit 0) ⟨[(4, .fv (.el (.sc (.bo b)))), (5, .fv (.el (.sc (.fl .f64 z)))), (7, .fv (.el (.sc (.fl .f64 (sinPoly u p)))))], []⟩ := by kernel_rfl

theorem lk131 : LOK T2 a131 l131 Try.f131.ntmps (loopAt Try.f131 0) := by
  intro ins outs hA s k out h
  have hA' : ([4, 5, 6, 7, 8], [4, 5, 7]) = (ins, outs) := Option.some.inj ((show a131.lp (firstRegion (loopAt Try.f131 0)) = some ([4, 5, 6, 7, 8], [4, 5, 7]) by kernel_rfl).symm.trans hA)
  cases hA'
  have hk : firstRegion (loopAt Try.f131 0) = 17 := by kernel_rfl
  rw [hk] at h
  change lp131 s k = some out at h
  unfold lp131 at h
  split at h
  · rename_i b z u p i
    cases hg : decide (i = 8) with
    | false => rw [hg] at h; cases h
    | true =>
      rw [hg] at h
      replace hg := of_decide_eq_true hg
      subst hg
      refine ⟨9, ?_⟩
      exact (un131 b z u p k).trans h
  · cases h
theorem e131 (y : Nat) : runFn T2 a131 l131 Try.f131 [.el (.sc (.fl .f64 y))] = (match (fcmp .neq .f64 (fop .sub .f64 y y) 0 : Bool) with
  | true => some ⟨[.el (.sc (.fl .f64 (nanOf .f64)))], none⟩
  | false => (match (fcmp .geq .f64 y 4841369599423283200 : Bool) with
    | true => some ⟨[.el (.sc (.fl .f64 0))], none⟩
    | false => (match (fcmp .leq .f64 y 14064741636278059008 : Bool) with
      | true => some ⟨[.el (.sc (.fl .f64 0))], none⟩
      | false => (match floatToIntVal .f64 y .i64 with
        | some n1 => (match (fcmp .lss .f64 (fop .sub .f64 y (fint .f64 n1)) 0 : Bool) with
          | true => (match (fcmp .geq .f64 (fop .add .f64 (fop .sub .f64 y (fint .f64 n1)) 4607182418800017408) 4602678819172646912 : Bool) with
            | true => (match (fcmp .gtr .f64 (fop .sub .f64 (fop .add .f64 (fop .sub .f64 y (fint .f64 n1)) 4607182418800017408) 4602678819172646912) 4598175219545276416 : Bool) with
              | true => (match (decide (8 = 8) : Bool) with
                | true => (match ((fcmp .geq .f64 (fop .add .f64 (fop .sub .f64 y (fint .f64 n1)) 4607182418800017408) 4602678819172646912) : Bool) with
                  | true => some ⟨[.el (.sc (.fl .f64 (fneg .f64 (fop .mul .f64 ((fop .mul .f64 (fop .sub .f64 4602678819172646912 (fop .sub .f64 (fop .add .f64 (fop .sub .f64 y (fint .f64 n1)) 4607182418800017408) 4602678819172646912)) 4618760256179416344)) (sinPoly (fop .mul .f64 (fop .mul .f64 (fop .sub .f64 4602678819172646912 (fop .sub .f64 (fop .add .f64 (fop .sub .f64 y (fint .f64 n1)) 4607182418800017408) 4602678819172646912)) 4618760256179416344) (fop .mul .f64 (fop .sub .f64 4602678819172646912 (fop .sub .f64 (fop .add .f64 (fop .sub .f64 y (fint .f64 n1)) 4607182418800017408) 4602678819172646912)) 4618760256179416344)) 4607182418800017408)))))], none⟩
                  | false => some ⟨[.el (.sc (.fl .f64 (fop .mul .f64 ((fop .mul .f64 (fop .sub .f64 4602678819172646912 (fop .sub .f64 (fop .add .f64 (fop .sub .f64 y (fint .f64 n1)) 4607182418800017408) 4602678819172646912)) 4618760256179416344)) (sinPoly (fop .mul .f64 (fop .mul .f64 (fop .sub .f64 4602678819172646912 (fop .sub .f64 (fop .add .f64 (fop .sub .f64 y (fint .f64 n1)) 4607182418800017408) 4602678819172646912)) 4618760256179416344) (fop .mul .f64 (fop .sub .f64 4602678819172646912 (fop .sub .f64 (fop .add .f64 (fop .sub .f64 y (fint .f64 n1)) 4607182418800017408) 4602678819172646912)) 4618760256179416344)) 4607182418800017408))))], none⟩)
                | false => none)
              | false => (match (decide (8 = 8) : Bool) with
                | true => (match ((fcmp .geq .f64 (fop .add .f64 (fop .sub .f64 y (fint .f64 n1)) 4607182418800017408) 4602678819172646912) : Bool) with
                  | true => some ⟨[.el (.sc (.fl .f64 (fneg .f64 (fop .mul .f64 ((fop .mul .f64 (fop .sub .f64 (fop .add .f64 (fop .sub .f64 y (fint .f64 n1)) 4607182418800017408) 4602678819172646912) 4618760256179416344)) (sinPoly (fop .mul .f64 (fop .mul .f64 (fop .sub .f64 (fop .add .f64 (fop .sub .f64 y (fint .f64 n1)) 4607182418800017408) 4602678819172646912) 4618760256179416344) (fop .mul .f64 (fop .sub .f64 (fop .add .f64 (fop .sub .f64 y (fint .f64 n1)) 4607182418800017408) 4602678819172646912) 4618760256179416344)) 4607182418800017408)))))], none⟩
                  | false => some ⟨[.el (.sc (.fl .f64 (fop .mul .f64 ((fop .mul .f64 (fop .sub .f64 (fop .add .f64 (fop .sub .f64 y (fint .f64 n1)) 4607182418800017408) 4602678819172646912) 4618760256179416344)) (sinPoly (fop .mul .f64 (fop .mul .f64 (fop .sub .f64 (fop .add .f64 (fop .sub .f64 y (fint .f64 n1)) 4607182418800017408) 4602678819172646912) 4618760256179416344) (fop .mul .f64 (fop .sub .f64 (fop .add .f64 (fop .sub .f64 y (fint .f64 n1)) 4607182418800017408) 4602678819172646912) 4618760256179416344)) 4607182418800017408))))], none⟩)
                | false => none))
            | false => (match (fcmp .gtr .f64 (fop .add .f64 (fop .sub .f64 y (fint .f64 n1)) 4607182418800017408) 4598175219545276416 : Bool) with
              | true => (match (decide (8 = 8) : Bool) with
                | true => (match ((fcmp .geq .f64 (fop .add .f64 (fop .sub .f64 y (fint .f64 n1)) 4607182418800017408) 4602678819172646912) : Bool) with
                  | true => some ⟨[.el (.sc (.fl .f64 (fneg .f64 (fop .mul .f64 ((fop .mul .f64 (fop .sub .f64 4602678819172646912 (fop .add .f64 (fop .sub .f64 y (fint .f64 n1)) 4607182418800017408)) 4618760256179416344)) (sinPoly (fop .mul .f64 (fop .mul .f64 (fop .sub .f64 4602678819172646912 (fop .add .f64 (fop .sub .f64 y (fint .f64 n1)) 4607182418800017408)) 4618760256179416344) (fop .mul .f64 (fop .sub .f64 4602678819172646912 (fop .add .f64 (fop .sub .f64 y (fint .f64 n1)) 4607182418800017408)) 4618760256179416344)) 4607182418800017408)))))], none⟩
                  | false => some ⟨[.el (.sc (.fl .f64 (fop .mul .f64 ((fop .mul .f64 (fop .sub .f64 4602678819172646912 (fop .add .f64 (fop .sub .f64 y (fint .f64 n1)) 4607182418800017408)) 4618760256179416344)) (sinPoly (fop .mul .f64 (fop .mul .f64 (fop .sub .f64 4602678819172646912 (fop .add .f64 (fop .sub .f64 y (fint .f64 n1)) 4607182418800017408)) 4618760256179416344) (fop .mul .f64 (fop .sub .f64 4602678819172646912 (fop .add .f64 (fop .sub .f64 y (fint .f64 n1)) 4607182418800017408)) 4618760256179416344)) 4607182418800017408))))], none⟩)
                | false => none)
              | false => (match (decide (8 = 8) : Bool) with
                | true => (match ((fcmp .geq .f64 (fop .add .f64 (fop .sub .f64 y (fint .f64 n1)) 4607182418800017408) 4602678819172646912) : Bool) with
                  | true => some ⟨[.el (.sc (.fl .f64 (fneg .f64 (fop .mul .f64 ((fop .mul .f64 (fop .add .f64 (fop .sub .f64 y (fint .f64 n1)) 4607182418800017408) 4618760256179416344)) (sinPoly (fop .mul .f64 (fop .mul .f64 (fop .add .f64 (fop .sub .f64 y (fint .f64 n1)) 4607182418800017408) 4618760256179416344) (fop .mul .f64 (fop .add .f64 (fop .sub .f64 y (fint .f64 n1)) 4607182418800017408) 4618760256179416344)) 4607182418800017408)))))], none⟩
                  | false => some ⟨[.el (.sc (.fl .f64 (fop .mul .f64 ((fop .mul .f64 (fop .add .f64 (fop .sub .f64 y (fint .f64 n1)) 4607182418800017408) 4618760256179416344)) (sinPoly (fop .mul .f64 (fop .mul .f64 (fop .add .f64 (fop .sub .f64 y (fint .f64 n1)) 4607182418800017408) 4618760256179416344) (fop .mul .f64 (fop .add .f64 (fop .sub .f64 y (fint .f64 n1)) 4607182418800017408) 4618760256179416344)) 4607182418800017408))))], none⟩)
                | false => none)))
          | false => (match (fcmp .geq .f64 (fop .sub .f64 y (fint .f64 n1)) 4602678819172646912 : Bool) with
            | true => (match (fcmp .gtr .f64 (fop .sub .f64 (fop .sub .f64 y (fint .f64 n1)) 4602678819172646912) 4598175219545276416 : Bool) with
              | true => (match (decide (8 = 8) : Bool) with
                | true => (match ((fcmp .geq .f64 (fop .sub .f64 y (fint .f64 n1)) 4602678819172646912) : Bool) with
                  | true => some ⟨[.el (.sc (.fl .f64 (fneg .f64 (fop .mul .f64 ((fop .mul .f64 (fop .sub .f64 4602678819172646912 (fop .sub .f64 (fop .sub .f64 y (fint .f64 n1)) 4602678819172646912)) 4618760256179416344)) (sinPoly (fop .mul .f64 (fop .mul .f64 (fop .sub .f64 4602678819172646912 (fop .sub .f64 (fop .sub .f64 y (fint .f64 n1)) 4602678819172646912)) 4618760256179416344) (fop .mul .f64 (fop .sub .f64 4602678819172646912 (fop .sub .f64 (fop .sub .f64 y (fint .f64 n1)) 4602678819172646912)) 4618760256179416344)) 4607182418800017408)))))], none⟩
                  | false => some ⟨[.el (.sc (.fl .f64 (fop .mul .f64 ((fop .mul .f64 (fop .sub .f64 4602678819172646912 (fop .sub .f64 (fop .sub .f64 y (fint .f64 n1)) 4602678819172646912)) 4618760256179416344)) (sinPoly (fop .mul .f64 (fop .mul .f64 (fop .sub .f64 4602678819172646912 (fop .sub .f64 (fop .sub .f64 y (fint .f64 n1)) 4602678819172646912)) 4618760256179416344) (fop .mul .f64 (fop .sub .f64 4602678819172646912 (fop .sub .f64 (fop .sub .f64 y (fint .f64 n1)) 4602678819172646912)) 4618760256179416344)) 4607182418800017408))))], none⟩)
                | false => none)
              | false => (match (decide (8 = 8) : Bool) with
                | true => (match ((fcmp .geq .f64 (fop .sub .f64 y (fint .f64 n1)) 4602678819172646912) : Bool) with
                  | true => some ⟨[.el (.sc (.fl .f64 (fneg .f64 (fop .mul .f64 ((fop .mul .f64 (fop .sub .f64 (fop .sub .f64 y (fint .f64 n1)) 4602678819172646912) 4618760256179416344)) (sinPoly (fop .mul .f64 (fop .mul .f64 (fop .sub .f64 (fop .sub .f64 y (fint .f64 n1)) 4602678819172646912) 4618760256179416344) (fop .mul .f64 (fop .sub .f64 (fop .sub .f64 y (fint .f64 n1)) 4602678819172646912) 4618760256179416344)) 4607182418800017408)))))], none⟩
                  | false => some ⟨[.el (.sc (.fl .f64 (fop .mul .f64 ((fop .mul .f64 (fop .sub .f64 (fop .sub .f64 y (fint .f64 n1)) 4602678819172646912) 4618760256179416344)) (sinPoly (fop .mul .f64 (fop .mul .f64 (fop .sub .f64 (fop .sub .f64 y (fint .f64 n1)) 4602678819172646912) 4618760256179416344) (fop .mul .f64 (fop .sub .f64 (fop .sub .f64 y (fint .f64 n1)) 4602678819172646912) 4618760256179416344)) 4607182418800017408))))], none⟩)
                | false => none))
            | false => (match (fcmp .gtr .f64 (fop .sub .f64 y (fint .f64 n1)) 4598175219545276416 : Bool) with
              | true => (match (decide (8 = 8) : Bool) with
                | true => (match ((fcmp .geq .f64 (fop .sub .f64 y (fint .f64 n1)) 4602678819172646912) : Bool) with
                  | true => some ⟨[.el (.sc (.fl .f64 (fneg .f64 (fop .mul .f64 ((fop .mul .f64 (fop .sub .f64 4602678819172646912 (fop .sub .f64 y (fint .f64 n1))) 4618760256179416344)) (sinPoly (fop .mul .f64 (fop .mul .f64 (fop .sub .f64 4602678819172646912 (fop .sub .f64 y (fint .f64 n1))) 4618760256179416344) (fop .mul .f64 (fop .sub .f64 4602678819172646912 (fop .sub .f64 y (fint .f64 n1))) 4618760256179416344)) 4607182418800017408)))))], none⟩
                  | false => some ⟨[.el (.sc (.fl .f64 (fop .mul .f64 ((fop .mul .f64 (fop .sub .f64 4602678819172646912 (fop .sub .f64 y (fint .f64 n1))) 4618760256179416344)) (sinPoly (fop .mul .f64 (fop .mul .f64 (fop .sub .f64 4602678819172646912 (fop .sub .f64 y (fint .f64 n1))) 4618760256179416344) (fop .mul .f64 (fop .sub .f64 4602678819172646912 (fop .sub .f64 y (fint .f64 n1))) 4618760256179416344)) 4607182418800017408))))], none⟩)
                | false => none)
              | false => (match (decide (8 = 8) : Bool) with
                | true => (match ((fcmp .geq .f64 (fop .sub .f64 y (fint .f64 n1)) 4602678819172646912) : Bool) with
                  | true => some ⟨[.el (.sc (.fl .f64 (fneg .f64 (fop .mul .f64 ((fop .mul .f64 (fop .sub .f64 y (fint .f64 n1)) 4618760256179416344)) (sinPoly (fop .mul .f64 (fop .mul .f64 (fop .sub .f64 y (fint .f64 n1)) 4618760256179416344) (fop .mul .f64 (fop .sub .f64 y (fint .f64 n1)) 4618760256179416344)) 4607182418800017408)))))], none⟩
                  | false => some ⟨[.el (.sc (.fl .f64 (fop .mul .f64 ((fop .mul .f64 (fop .sub .f64 y (fint .f64 n1)) 4618760256179416344)) (sinPoly (fop .mul .f64 (fop .mul .f64 (fop .sub .f64 y (fint .f64 n1)) 4618760256179416344) (fop .mul .f64 (fop .sub .f64 y (fint .f64 n1)) 4618760256179416344)) 4607182418800017408))))], none⟩)
                | false => none))))
        | none => none)))) := by kernel_rfl
theorem s131 (y : Nat) : runFn T2 a131 l131 Try.f131 [.el (.sc (.fl .f64 y))] = some ⟨[.el (.sc (.fl .f64 (sineW y)))], none⟩ := by
  rw [e131]
  unfold sineW
  cases h0 : fcmp .neq .f64 (fop .sub .f64 y y) 0 with
  | true => kernel_rfl
  | false =>
    have hn : isNum .f64 y = true := by
      rw [sub_self_fin] at h0
      simpa using h0
    cases hh : huge y with
    | true =>
      unfold huge big52 neg52 at hh
      cases h1 : fcmp .geq .f64 y 4841369599423283200 with
      | true => simp only [cond_false, cond_true]
      | false =>
        rw [h1, Bool.false_or] at hh
        simp only [hh, cond_false, cond_true]
    | false =>
      have hh2 := hh
      unfold huge big52 neg52 at hh2
      rw [Bool.or_eq_false_iff] at hh2
      obtain ⟨n, c1, c2, _⟩ := whole_ok hn hh
      simp only [cond_false, hh2.1, hh2.2, c1, c2]
      unfold sinCore sinVal sinArm low2 low1 part one64 half64 quarter64 tau64
      generalize whole y = W
      cases fcmp .lss .f64 (fop .sub .f64 y W) 0 <;> simp only [cond_true, cond_false]
      · generalize fop .sub .f64 y W = f
        cases fcmp .geq .f64 f 4602678819172646912 <;> simp only [cond_true, cond_false]
        · cases fcmp .gtr .f64 f 4598175219545276416 <;> rfl
        · cases fcmp .gtr .f64 (fop .sub .f64 f 4602678819172646912) 4598175219545276416 <;> rfl
      · generalize fop .add .f64 (fop .sub .f64 y W) 4607182418800017408 = f
        cases fcmp .geq .f64 f 4602678819172646912 <;> simp only [cond_true, cond_false]
        · cases fcmp .gtr .f64 f 4598175219545276416 <;> rfl
        · cases fcmp .gtr .f64 (fop .sub .f64 f 4602678819172646912) 4598175219545276416 <;> rfl
theorem c131 (y : Nat) (k : List RV → R) (out : Out) (h : k [.el (.sc (.fl .f64 (sineW y)))] = some out) : ∃ rs, Real Try.prog 131 ∧ COK Try.prog 131 [.el (.sc (.fl .f64 y))] rs ∧ k rs = some out := by
  exact ⟨_, real Try.func131 (by kernel_rfl), fn_ok tok2 (A := a131) (L := l131) (r := none) Try.func131 (by kernel_rfl) (by kernel_rfl) (loops1 (by kernel_rfl) lk131) (by rw [s131]), h⟩

/-! impl.isHuge -/
theorem e132 (y : Nat) : runFn T2 none0 noL Try.f132 [.el (.sc (.fl .f64 y))] = (match (!isN .f64 y : Bool) with
  | true => some ⟨[.el (.sc (.bo (fcmp .geq .f64 (fabs y) 4841369599423283200)))], none⟩
  | false => none) := by kernel_rfl
theorem s132 (y : Nat) (hg : (!isN .f64 y) = true) : runFn T2 none0 noL Try.f132 [.el (.sc (.fl .f64 y))] = some ⟨[.el (.sc (.bo (fcmp .geq .f64 (fabs y) big52)))], none⟩ := by
  rw [e132]
  have hN : isN .f64 y = false := by simpa using hg
  rw [hN]
  rfl
theorem c132 (y : Nat) (k : List RV → R) (out : Out) (h : (match (!isN .f64 y : Bool) with
  | true => k [.el (.sc (.bo (fcmp .geq .f64 (fabs y) big52)))]
  | false => none) = some out) : ∃ rs, Real Try.prog 132 ∧ COK Try.prog 132 [.el (.sc (.fl .f64 y))] rs ∧ k rs = some out := by
  cases g0 : (!isN .f64 y : Bool) with
  | true =>
    rw [g0] at h
    exact ⟨_, real Try.func132 (by kernel_rfl), fn_ok tok2 (A := none0) (L := noL) (r := none) Try.func132 (by kernel_rfl) (by kernel_rfl) (loops0 (by kernel_rfl)) (by rw [s132 _ g0]), h⟩
  | false =>
    rw [g0] at h
    cases h

/-! impl.partOfTurn -/
theorem e133 (y : Nat) : runFn T2 none0 noL Try.f133 [.el (.sc (.fl .f64 y))] = (match (fcmp .eql .f64 (fround .zero y) 0 : Bool) with
  | true => (match (fcmp .lss .f64 (fop .sub .f64 y 0) 0 : Bool) with
    | true => some ⟨[.el (.sc (.fl .f64 (fop .add .f64 (fop .sub .f64 y 0) 4607182418800017408)))], none⟩
    | false => some ⟨[.el (.sc (.fl .f64 (fop .sub .f64 y 0)))], none⟩)
  | false => (match (fcmp .lss .f64 (fop .sub .f64 y (fround .zero y)) 0 : Bool) with
    | true => some ⟨[.el (.sc (.fl .f64 (fop .add .f64 (fop .sub .f64 y (fround .zero y)) 4607182418800017408)))], none⟩
    | false => some ⟨[.el (.sc (.fl .f64 (fop .sub .f64 y (fround .zero y))))], none⟩)) := by kernel_rfl
theorem s133 (y : Nat) : runFn T2 none0 noL Try.f133 [.el (.sc (.fl .f64 y))] = some ⟨[.el (.sc (.fl .f64 (part y)))], none⟩ := by
  rw [e133]
  unfold part whole one64
  cases fcmp .eql .f64 (fround .zero y) 0 <;> simp only [cond_true, cond_false] <;> split <;> simp_all
theorem c133 (y : Nat) (k : List RV → R) (out : Out) (h : k [.el (.sc (.fl .f64 (part y)))] = some out) : ∃ rs, Real Try.prog 133 ∧ COK Try.prog 133 [.el (.sc (.fl .f64 y))] rs ∧ k rs = some out := by
  exact ⟨_, real Try.func133 (by kernel_rfl), fn_ok tok2 (A := none0) (L := noL) (r := none) Try.func133 (by kernel_rfl) (by kernel_rfl) (loops0 (by kernel_rfl)) (by rw [s133]), h⟩

/-! slices.IndexFunc[[]float32,float32] -/
def a136 : Ann := ann [(2, [0, 1, 7, 8], [])] [4] 0
def lp136 : St → (Ex → St → R) → R := fun s k => match s with
  | ⟨[(0, .fv (.vw (some 0) ⟨.f32, xs⟩)), (1, .fv (.fn 114 [])), (7, .fv (.el (.sc (.int .i64 n)))), (8, .fv (.el (.sc (.int .i64 i))))], []⟩ => (match (decide (n = (xs.length : Int)) && (decide (i = 0) && Nat.ble xs.length big) : Bool) with
    | true => (match xs.findIdx? notFin with
      | some q => k .ret ⟨[(4, .fv (.el (.sc (.int .i64 ((q : Int))))))], []⟩
      | none => k (.exit 0) ⟨[], []⟩)
    | false => none)
  | _ => none
def l136 : Loops := fun key s k => bif Nat.beq key 2 then lp136 s k else none
theorem st136 (xs : List Nat) (n : Int) (i : Int) (m : Nat) (k : Ex → St → R) : iterK a136 [0, 1, 7, 8] [] (codeK T2 a136 l136 Try.f136.ntmps (loopAt Try.f136 0)) (m + 1) ⟨[(0, .fv (.vw (some 0) ⟨.f32, xs⟩)), (1, .fv (.fn 114 [])), (7, .fv (.el (.sc (.int .i64 n)))), (8, .fv (.el (.sc (.int .i64 i))))], []⟩ k = (match (decide ((i : Int) < n) : Bool) with
  | true => (match (decide (0 ≤ (i : Int) ∧ (i : Int) < (xs.length : Int)) && true : Bool) with
    | true => (match (xs : List Nat)[Int.toNat i]? with
      | some x1 => (match (notFin x1 : Bool) with
        | true => k .ret ⟨[(4, .fv (.el (.sc (.int .i64 i))))], []⟩
        | false => iterK a136 [0, 1, 7, 8] [] (codeK T2 a136 l136 Try.f136.ntmps (loopAt Try.f136 0)) m ⟨[(0, .fv (.vw (some 0) ⟨.f32, xs⟩)), (1, .fv (.fn 114 [])), (7, .fv (.el (.sc (.int .i64 n)))), (8, .fv (.el (.sc (.int .i64 (IntKind.i64.wrap (i + 1))))))], []⟩ k)
      | none => none)
    | false => none)
  | false => k (.exit 0) ⟨[], []⟩) := by kernel_rfl
theorem ind136 (xs : List Nat) (hx : Nat.ble xs.length big = true) (k : Ex → St → R) : ∀ (m j : Nat), j + m = xs.length → iterK a136 [0, 1, 7, 8] [] (codeK T2 a136 l136 Try.f136.ntmps (loopAt Try.f136 0)) (m + 1) ⟨[(0, .fv (.vw (some 0) ⟨.f32, xs⟩)), (1, .fv (.fn 114 [])), (7, .fv (.el (.sc (.int .i64 (xs.length : Int))))), (8, .fv (.el (.sc (.int .i64 (j : Int)))))], []⟩ k =
    (match (xs.drop j).findIdx? notFin with
    | some q => k .ret ⟨[(4, .fv (.el (.sc (.int .i64 ((j + q : Nat) : Int)))))], []⟩
    | none => k (.exit 0) ⟨[], []⟩) := by
  intro m
  induction m with
  | zero =>
    intro j hj
    have h1 : ¬ ((j : Int) < (xs.length : Int)) := by omega
    rw [st136]
    have h2 : xs.drop j = [] := List.drop_of_length_le (by omega)
    simp [h1, h2]
  | succ m ih =>
    intro j hj
    have hlt : j < xs.length := by omega
    have h1 : ((j : Int) < (xs.length : Int)) := by omega
    have h2 : (0 : Int) ≤ (j : Int) := by omega
    rw [st136, wrap_succ hlt hx]
    have h3 : xs[Int.toNat (j : Int)]? = some xs[j] := by simp [hlt]
    rw [List.drop_eq_getElem_cons hlt, List.findIdx?_cons]
    simp only [h1, h2, h3, and_self, decide_true, Bool.and_true]
    cases hp : notFin xs[j] with
    | true => simp
    | false =>
      rw [ih (j + 1) (by omega)]
      cases (xs.drop (j + 1)).findIdx? notFin with
      | none => rfl
      | some q => simp only [Bool.false_eq_true, if_false, Option.map_some]; rw [show j + 1 + q = j + (q + 1) by omega]
theorem lk136 : LOK T2 a136 l136 Try.f136.ntmps (loopAt Try.f136 0) := by
  intro ins outs hA s k out h
  have hA' : ([0, 1, 7, 8], []) = (ins, outs) := Option.some.inj ((show a136.lp (firstRegion (loopAt Try.f136 0)) = some ([0, 1, 7, 8], []) by kernel_rfl).symm.trans hA)
  cases hA'
  have hk : firstRegion (loopAt Try.f136 0) = 2 := by kernel_rfl
  rw [hk] at h
  change lp136 s k = some out at h
  unfold lp136 at h
  split at h
  · rename_i xs n i
    cases hg : (decide (n = (xs.length : Int)) && (decide (i = 0) && Nat.ble xs.length big)) with
    | false => rw [hg] at h; cases h
    | true =>
      rw [hg] at h
      simp only [Bool.and_eq_true, decide_eq_true_eq] at hg
      obtain ⟨rfl, rfl, hx⟩ := hg
      refine ⟨xs.length + 1, ?_⟩
      have := ind136 xs hx k xs.length 0 (by omega)
      simp only [List.drop_zero, Nat.zero_add] at this
      exact this.trans h
  · cases h
theorem e136 (xs : List Nat) : runFn T2 a136 l136 Try.f136 [.vw none ⟨.f32, xs⟩, .fn 114 []] = (match (decide ((xs.length : Int) = (xs.length : Int)) && (decide (0 = 0) && Nat.ble xs.length big) : Bool) with
  | true => (match xs.findIdx? notFin with
    | some q => some ⟨[.el (.sc (.int .i64 ((q : Int))))], none⟩
    | none => some ⟨[.el (.sc (.int .i64 ((-1))))], none⟩)
  | false => none) := by kernel_rfl
theorem s136 (xs : List Nat) : runFn T2 a136 l136 Try.f136 [.vw none ⟨.f32, xs⟩, .fn 114 []] = (match (Nat.ble xs.length big : Bool) with
  | true => some ⟨[.el (.sc (.int .i64 (firstAt notFin xs)))], none⟩
  | false => none) := by
  rw [e136]
  unfold firstAt
  cases h : Nat.ble xs.length big with
  | false => simp [h]
  | true =>
    cases h2 : xs.findIdx? notFin with
    | some q => simp [h, h2]
    | none => simp [h, h2]
theorem c136 (xs : List Nat) (k : List RV → R) (out : Out) (h : (match (Nat.ble xs.length big : Bool) with
  | true => k [.el (.sc (.int .i64 (firstAt notFin xs)))]
  | false => none) = some out) : ∃ rs, Real Try.prog 136 ∧ COK Try.prog 136 [.vw none ⟨.f32, xs⟩, .fn 114 []] rs ∧ k rs = some out := by
  cases g0 : (Nat.ble xs.length big : Bool) with
  | true =>
    rw [g0] at h
    exact ⟨_, real Try.func136 (by kernel_rfl), fn_ok tok2 (A := a136) (L := l136) (r := none) Try.func136 (by kernel_rfl) (by kernel_rfl) (loops1 (by kernel_rfl) lk136) (by rw [s136, g0]), h⟩
  | false =>
    rw [g0] at h
    cases h

def S3 : SFn := fun f args k => match f, args with
  | 57, [.vw none ⟨.f32, xs⟩, .el (.sc (.int .i64 n))] => k [.el (.sc (.bo (bins xs n)))]
  | 61, [.vw none ⟨.f32, xs⟩] => (match (Nat.ble xs.length big : Bool) with
    | true => (match (xs.all fin : Bool) with
      | true => k [.arg 0, .el (.sc (.bo true))]
      | false => k [.nil, .el (.sc (.bo false))])
    | false => none)
  | 99, [.vw none ⟨.f32, xs⟩, .vw none ⟨.f32, ys⟩, .el (.sc (.int .i64 n))] => k [.el (.sc (.bo (lamps xs ys n)))]
  | 131, [.el (.sc (.fl .f64 y))] => k [.el (.sc (.fl .f64 (sineW y)))]
  | 132, [.el (.sc (.fl .f64 y))] => (match (!isN .f64 y : Bool) with
    | true => k [.el (.sc (.bo (fcmp .geq .f64 (fabs y) big52)))]
    | false => none)
  | 133, [.el (.sc (.fl .f64 y))] => k [.el (.sc (.fl .f64 (part y)))]
  | 136, [.vw none ⟨.f32, xs⟩, .fn 114 []] => (match (Nat.ble xs.length big : Bool) with
    | true => k [.el (.sc (.int .i64 (firstAt notFin xs)))]
    | false => none)
  | _, _ => S2 f args k
abbrev M3 : MFn := M2
def T3 : TT := tab.T S3 muts M3
theorem tok3 : TOK Try.prog T3 := by
  refine (tab_ok tabok).tok (fun f args k out h => ?_) (fun f vec args k out h => ?_)
  · change S3 f args k = some out at h
    unfold S3 at h
    split at h
    · exact (fun k out h => cok_call (c57 _ _ k out h)) k out h
    · exact (fun k out h => cok_call (c61 _ k out h)) k out h
    · exact (fun k out h => cok_call (c99 _ _ _ k out h)) k out h
    · exact (fun k out h => cok_call (c131 _ k out h)) k out h
    · exact (fun k out h => cok_call (c132 _ k out h)) k out h
    · exact (fun k out h => cok_call (c133 _ k out h)) k out h
    · exact (fun k out h => cok_call (c136 _ k out h)) k out h
    · exact tok2.S f args k out h
  · exact tok2.M f vec args k out h

end Go.Sm.Ytlkphfpkohabeaa
