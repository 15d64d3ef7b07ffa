/- What the functions hand back: level 2. -/
import Derived.Test.YtdeplgocckdbiaaD2
namespace Go.Sm.Ytdeplgocckdbiaa
open Go Go.Sm Go.RowKit Go.Proofs

/-! spec.l02List -/
theorem e78 (xs : List Nat) : runFn T2 none0 noL Try.f78 [.vw none ⟨.f32, xs⟩] = (match (Nat.ble xs.length big : Bool) with
  | true => (match (!(xs.all fin) : Bool) with
    | true => some ⟨[.nil, .el (.sc (.bo false))], none⟩
    | false => some ⟨[.arg 0, .el (.sc (.bo true))], none⟩)
  | false => none) := by kernel_rfl
theorem s78 (xs : List Nat) : runFn T2 none0 noL Try.f78 [.vw none ⟨.f32, xs⟩] = (match (Nat.ble xs.length big : Bool) with
  | true => (match (xs.all fin : Bool) with
    | true => some ⟨[.arg 0, .el (.sc (.bo true))], none⟩
    | false => some ⟨[.nil, .el (.sc (.bo false))], none⟩)
  | false => none) := by
  rw [e78]
  cases Nat.ble xs.length big <;> cases xs.all fin <;> simp
theorem c78 (xs : List Nat) (k : List RV → R) (out : Out) (h : (match (Nat.ble xs.length big : Bool) with
  | true => (match (xs.all fin : Bool) with
    | true => k [.arg 0, .el (.sc (.bo true))]
    | false => k [.nil, .el (.sc (.bo false))])
  | false => none) = some out) : ∃ rs, Real Try.prog 78 ∧ COK Try.prog 78 [.vw none ⟨.f32, xs⟩] rs ∧ k rs = some out := by
  cases g0 : (Nat.ble xs.length big : Bool) with
  | true =>
    rw [g0] at h
    cases g1 : (xs.all fin : Bool) with
    | true =>
      rw [g1] at h
      exact ⟨_, real Try.func78 (by kernel_rfl), fn_ok tok2 (A := none0) (L := noL) (r := none) Try.func78 (by kernel_rfl) (by kernel_rfl) (loops0 (by kernel_rfl)) (by rw [s78, g0, g1]), h⟩
    | false =>
      rw [g1] at h
      exact ⟨_, real Try.func78 (by kernel_rfl), fn_ok tok2 (A := none0) (L := noL) (r := none) Try.func78 (by kernel_rfl) (by kernel_rfl) (loops0 (by kernel_rfl)) (by rw [s78, g0, g1]), h⟩
  | false =>
    rw [g0] at h
    cases h

/-! spec.l04Three -/
theorem e91 (xs : List Nat) : runFn T2 none0 noL Try.f91 [.vw none ⟨.f32, xs⟩] = (match (((xs.length : Int) : Int) == 3 : Bool) with
  | true => (match (Nat.ble xs.length big : Bool) with
    | true => some ⟨[.el (.sc (.bo (xs.all fin)))], none⟩
    | false => none)
  | false => some ⟨[.el (.sc (.bo false))], none⟩) := by kernel_rfl
theorem s91 (xs : List Nat) : runFn T2 none0 noL Try.f91 [.vw none ⟨.f32, xs⟩] = some ⟨[.el (.sc (.bo (vec3 xs)))], none⟩ := by
  rw [e91]
  unfold vec3
  have e : ((xs.length : Int) == 3) = decide (xs.length = 3) := len_beq xs.length 3
  by_cases h : xs.length = 3
  · have hx : Nat.ble xs.length big = true := big_of (by omega)
    rw [e, decide_eq_true h, hx]
    rfl
  · rw [e, decide_eq_false h]
    rfl
theorem c91 (xs : List Nat) (k : List RV → R) (out : Out) (h : k [.el (.sc (.bo (vec3 xs)))] = some out) : ∃ rs, Real Try.prog 91 ∧ COK Try.prog 91 [.vw none ⟨.f32, xs⟩] rs ∧ k rs = some out := by
  exact ⟨_, real Try.func91 (by kernel_rfl), fn_ok tok2 (A := none0) (L := noL) (r := none) Try.func91 (by kernel_rfl) (by kernel_rfl) (loops0 (by kernel_rfl)) (by rw [s91]), h⟩

/-! spec.l01Sqrt -/
theorem e93 (x : Nat) : runFn T2 none0 noL Try.f93 [.el (.sc (.fl .f32 x))] = (match fconv .f64 .f32 (fsqrt (wid x)) with
  | some rn3 => some ⟨[.el (.sc (.fl .f32 rn3))], none⟩
  | none => none) := by kernel_rfl
theorem s93 (x : Nat) : runFn T2 none0 noL Try.f93 [.el (.sc (.fl .f32 x))] = some ⟨[.el (.sc (.fl .f32 (rootF x)))], none⟩ := by
  rw [e93]
  rw [root_narrow]
theorem c93 (x : Nat) (k : List RV → R) (out : Out) (h : k [.el (.sc (.fl .f32 (rootF x)))] = some out) : ∃ rs, Real Try.prog 93 ∧ COK Try.prog 93 [.el (.sc (.fl .f32 x))] rs ∧ k rs = some out := by
  exact ⟨_, real Try.func93 (by kernel_rfl), fn_ok tok2 (A := none0) (L := noL) (r := none) Try.func93 (by kernel_rfl) (by kernel_rfl) (loops0 (by kernel_rfl)) (by rw [s93]), h⟩

/-! impl.RootNumber -/
theorem e98 (x : Nat) : runFn T2 none0 noL Try.f98 [.el (.sc (.fl .f32 x))] = (match fconv .f64 .f32 (fsqrt (wid x)) with
  | some r1 => some ⟨[.el (.sc (.fl .f32 r1))], none⟩
  | none => none) := by kernel_rfl
theorem s98 (x : Nat) : runFn T2 none0 noL Try.f98 [.el (.sc (.fl .f32 x))] = some ⟨[.el (.sc (.fl .f32 (rootF x)))], none⟩ := by
  rw [e98]
  rw [root_narrow]
theorem c98 (x : Nat) (k : List RV → R) (out : Out) (h : k [.el (.sc (.fl .f32 (rootF x)))] = some out) : ∃ rs, Real Try.prog 98 ∧ COK Try.prog 98 [.el (.sc (.fl .f32 x))] rs ∧ k rs = some out := by
  exact ⟨_, real Try.func98 (by kernel_rfl), fn_ok tok2 (A := none0) (L := noL) (r := none) Try.func98 (by kernel_rfl) (by kernel_rfl) (loops0 (by kernel_rfl)) (by rw [s98]), h⟩

/-! spec.l01SineWide -/
def a147 : Ann := ann [(17, [4, 5, 6, 7, 8], [4, 5, 7])] [2] 0
def lp147 : St → (Ex → St → R) → R := fun s k => match s with
  | ⟨[(4, .fv (.el (.sc (.bo b)))), (5, .fv (.el (.sc (.fl .f64 z)))), (6, .fv (.el (.sc (.fl .f64 u)))), (7, .fv (.el (.sc (.fl .f64 p)))), (8, .fv (.el (.sc (.int .i64 i))))], []⟩ => (match (decide (i = 8) : Bool) with
    | true => k (.exit 0) ⟨[(4, .fv (.el (.sc (.bo b)))), (5, .fv (.el (.sc (.fl .f64 z)))), (7, .fv (.el (.sc (.fl .f64 (sinPoly u p)))))], []⟩
    | false => none)
  | _ => none
def l147 : Loops := fun key s k => bif Nat.beq key 17 then lp147 s k else none
theorem st147 (b : Bool) (z : Nat) (u : Nat) (p : Nat) (i : Int) (m : Nat) (k : Ex → St → R) : iterK a147 [4, 5, 6, 7, 8] [4, 5, 7] (codeK T2 a147 l147 Try.f147.ntmps (loopAt Try.f147 0)) (m + 1) ⟨[(4, .fv (.el (.sc (.bo b)))), (5, .fv (.el (.sc (.fl .f64 z)))), (6, .fv (.el (.sc (.fl .f64 u)))), (7, .fv (.el (.sc (.fl .f64 p)))), (8, .fv (.el (.sc (.int .i64 i))))], []⟩ k = (match (decide ((i : Int) ≥ 1) : Bool) with
  | true => iterK a147 [4, 5, 6, 7, 8] [4, 5, 7] (codeK T2 a147 l147 Try.f147.ntmps (loopAt Try.f147 0)) m ⟨[(4, .fv (.el (.sc (.bo b)))), (5, .fv (.el (.sc (.fl .f64 z)))), (6, .fv (.el (.sc (.fl .f64 u)))), (7, .fv (.el (.sc (.fl .f64 (fop .sub .f64 4607182418800017408 (fop .quo .f64 (fop .mul .f64 u p) (fint .f64 (IntKind.i64.wrap ((IntKind.i64.wrap (2 * i)) * (IntKind.i64.wrap ((IntKind.i64.wrap (2 * i)) + 1))))))))))), (8, .fv (.el (.sc (.int .i64 (IntKind.i64.wrap (i - 1))))))], []⟩ k
  | false => k (.exit 0) ⟨[(4, .fv (.el (.sc (.bo b)))), (5, .fv (.el (.sc (.fl .f64 z)))), (7, .fv (.el (.sc (.fl .f64 p))))], []⟩) := by kernel_rfl
theorem un147 (b : Bool) (z : Nat) (u : Nat) (p : Nat) (k : Ex → St → R) : iterK a147 [4, 5, 6, 7, 8] [4, 5, 7] (codeK T2 a147 l147 Try.f147.ntmps (loopAt Try.f147 0)) 9 ⟨[(4, .fv (.el (.sc (.bo b)))), (5, .fv (.el (.sc (.fl .f64 z)))), (6, .fv (.el (.sc (.fl .f64 u)))), (7, .fv (.el (.sc (.fl .f64 p)))), (8, .fv (.el (.sc (.int .i64 8))))], []⟩ k = k (.exit 0) ⟨[(4, .fv (.el (.sc (.bo b)))), (5, .fv (.el (.sc (.fl .f64 z)))), (7, .fv (.el (.sc (.fl .f64 (sinPoly u p)))))], []⟩ := by kernel_rfl

theorem lk147 : LOK T2 a147 l147 Try.f147.ntmps (loopAt Try.f147 0) := by
  intro ins outs hA s k out h
  have hA' : ([4, 5, 6, 7, 8], [4, 5, 7]) = (ins, outs) := Option.some.inj ((show a147.lp (firstRegion (loopAt Try.f147 0)) = some ([4, 5, 6, 7, 8], [4, 5, 7]) by kernel_rfl).symm.trans hA)
  cases hA'
  have hk : firstRegion (loopAt Try.f147 0) = 17 := by kernel_rfl
  rw [hk] at h
  change lp147 s k = some out at h
  unfold lp147 at h
  split at h
  · rename_i b z u p i
    cases hg : decide (i = 8) with
    | false => rw [hg] at h; cases h
    | true =>
      rw [hg] at h
      replace hg := of_decide_eq_true hg
      subst hg
      refine ⟨9, ?_⟩
      exact (un147 b z u p k).trans h
  · cases h
theorem e147 (y : Nat) : runFn T2 a147 l147 Try.f147 [.el (.sc (.fl .f64 y))] = (match (fcmp .neq .f64 (fop .sub .f64 y y) 0 : Bool) with
  | true => some ⟨[.el (.sc (.fl .f64 (nanOf .f64)))], none⟩
  | false => (match (fcmp .geq .f64 y 4841369599423283200 : Bool) with
    | true => some ⟨[.el (.sc (.fl .f64 0))], none⟩
    | false => (match (fcmp .leq .f64 y 14064741636278059008 : Bool) with
      | true => some ⟨[.el (.sc (.fl .f64 0))], none⟩
      | false => (match floatToIntVal .f64 y .i64 with
        | some n1 => (match (fcmp .lss .f64 (fop .sub .f64 y (fint .f64 n1)) 0 : Bool) with
          | true => (match (fcmp .geq .f64 (fop .add .f64 (fop .sub .f64 y (fint .f64 n1)) 4607182418800017408) 4602678819172646912 : Bool) with
            | true => (match (fcmp .gtr .f64 (fop .sub .f64 (fop .add .f64 (fop .sub .f64 y (fint .f64 n1)) 4607182418800017408) 4602678819172646912) 4598175219545276416 : Bool) with
              | true => (match (decide (8 = 8) : Bool) with
                | true => (match ((fcmp .geq .f64 (fop .add .f64 (fop .sub .f64 y (fint .f64 n1)) 4607182418800017408) 4602678819172646912) : Bool) with
                  | true => some ⟨[.el (.sc (.fl .f64 (fneg .f64 (fop .mul .f64 ((fop .mul .f64 (fop .sub .f64 4602678819172646912 (fop .sub .f64 (fop .add .f64 (fop .sub .f64 y (fint .f64 n1)) 4607182418800017408) 4602678819172646912)) 4618760256179416344)) (sinPoly (fop .mul .f64 (fop .mul .f64 (fop .sub .f64 4602678819172646912 (fop .sub .f64 (fop .add .f64 (fop .sub .f64 y (fint .f64 n1)) 4607182418800017408) 4602678819172646912)) 4618760256179416344) (fop .mul .f64 (fop .sub .f64 4602678819172646912 (fop .sub .f64 (fop .add .f64 (fop .sub .f64 y (fint .f64 n1)) 4607182418800017408) 4602678819172646912)) 4618760256179416344)) 4607182418800017408)))))], none⟩
                  | false => some ⟨[.el (.sc (.fl .f64 (fop .mul .f64 ((fop .mul .f64 (fop .sub .f64 4602678819172646912 (fop .sub .f64 (fop .add .f64 (fop .sub .f64 y (fint .f64 n1)) 4607182418800017408) 4602678819172646912)) 4618760256179416344)) (sinPoly (fop .mul .f64 (fop .mul .f64 (fop .sub .f64 4602678819172646912 (fop .sub .f64 (fop .add .f64 (fop .sub .f64 y (fint .f64 n1)) 4607182418800017408) 4602678819172646912)) 4618760256179416344) (fop .mul .f64 (fop .sub .f64 4602678819172646912 (fop .sub .f64 (fop .add .f64 (fop .sub .f64 y (fint .f64 n1)) 4607182418800017408) 4602678819172646912)) 4618760256179416344)) 4607182418800017408))))], none⟩)
                | false => none)
              | false => (match (decide (8 = 8) : Bool) with
                | true => (match ((fcmp .geq .f64 (fop .add .f64 (fop .sub .f64 y (fint .f64 n1)) 4607182418800017408) 4602678819172646912) : Bool) with
                  | true => some ⟨[.el (.sc (.fl .f64 (fneg .f64 (fop .mul .f64 ((fop .mul .f64 (fop .sub .f64 (fop .add .f64 (fop .sub .f64 y (fint .f64 n1)) 4607182418800017408) 4602678819172646912) 4618760256179416344)) (sinPoly (fop .mul .f64 (fop .mul .f64 (fop .sub .f64 (fop .add .f64 (fop .sub .f64 y (fint .f64 n1)) 4607182418800017408) 4602678819172646912) 4618760256179416344) (fop .mul .f64 (fop .sub .f64 (fop .add .f64 (fop .sub .f64 y (fint .f64 n1)) 4607182418800017408) 4602678819172646912) 4618760256179416344)) 4607182418800017408)))))], none⟩
                  | false => some ⟨[.el (.sc (.fl .f64 (fop .mul .f64 ((fop .mul .f64 (fop .sub .f64 (fop .add .f64 (fop .sub .f64 y (fint .f64 n1)) 4607182418800017408) 4602678819172646912) 4618760256179416344)) (sinPoly (fop .mul .f64 (fop .mul .f64 (fop .sub .f64 (fop .add .f64 (fop .sub .f64 y (fint .f64 n1)) 4607182418800017408) 4602678819172646912) 4618760256179416344) (fop .mul .f64 (fop .sub .f64 (fop .add .f64 (fop .sub .f64 y (fint .f64 n1)) 4607182418800017408) 4602678819172646912) 4618760256179416344)) 4607182418800017408))))], none⟩)
                | false => none))
            | false => (match (fcmp .gtr .f64 (fop .add .f64 (fop .sub .f64 y (fint .f64 n1)) 4607182418800017408) 4598175219545276416 : Bool) with
              | true => (match (decide (8 = 8) : Bool) with
                | true => (match ((fcmp .geq .f64 (fop .add .f64 (fop .sub .f64 y (fint .f64 n1)) 4607182418800017408) 4602678819172646912) : Bool) with
                  | true => some ⟨[.el (.sc (.fl .f64 (fneg .f64 (fop .mul .f64 ((fop .mul .f64 (fop .sub .f64 4602678819172646912 (fop .add .f64 (fop .sub .f64 y (fint .f64 n1)) 4607182418800017408)) 4618760256179416344)) (sinPoly (fop .mul .f64 (fop .mul .f64 (fop .sub .f64 4602678819172646912 (fop .add .f64 (fop .sub .f64 y (fint .f64 n1)) 4607182418800017408)) 4618760256179416344) (fop .mul .f64 (fop .sub .f64 4602678819172646912 (fop .add .f64 (fop .sub .f64 y (fint .f64 n1)) 4607182418800017408)) 4618760256179416344)) 4607182418800017408)))))], none⟩
                  | false => some ⟨[.el (.sc (.fl .f64 (fop .mul .f64 ((fop .mul .f64 (fop .sub .f64 4602678819172646912 (fop .add .f64 (fop .sub .f64 y (fint .f64 n1)) 4607182418800017408)) 4618760256179416344)) (sinPoly (fop .mul .f64 (fop .mul .f64 (fop .sub .f64 4602678819172646912 (fop .add .f64 (fop .sub .f64 y (fint .f64 n1)) 4607182418800017408)) 4618760256179416344) (fop .mul .f64 (fop .sub .f64 4602678819172646912 (fop .add .f64 (fop .sub .f64 y (fint .f64 n1)) 4607182418800017408)) 4618760256179416344)) 4607182418800017408))))], none⟩)
                | false => none)
              | false => (match (decide (8 = 8) : Bool) with
                | true => (match ((fcmp .geq .f64 (fop .add .f64 (fop .sub .f64 y (fint .f64 n1)) 4607182418800017408) 4602678819172646912) : Bool) with
                  | true => some ⟨[.el (.sc (.fl .f64 (fneg .f64 (fop .mul .f64 ((fop .mul .f64 (fop .add .f64 (fop .sub .f64 y (fint .f64 n1)) 4607182418800017408) 4618760256179416344)) (sinPoly (fop .mul .f64 (fop .mul .f64 (fop .add .f64 (fop .sub .f64 y (fint .f64 n1)) 4607182418800017408) 4618760256179416344) (fop .mul .f64 (fop .add .f64 (fop .sub .f64 y (fint .f64 n1)) 4607182418800017408) 4618760256179416344)) 4607182418800017408)))))], none⟩
                  | false => some ⟨[.el (.sc (.fl .f64 (fop .mul .f64 ((fop .mul .f64 (fop .add .f64 (fop .sub .f64 y (fint .f64 n1)) 4607182418800017408) 4618760256179416344)) (sinPoly (fop .mul .f64 (fop .mul .f64 (fop .add .f64 (fop .sub .f64 y (fint .f64 n1)) 4607182418800017408) 4618760256179416344) (fop .mul .f64 (fop .add .f64 (fop .sub .f64 y (fint .f64 n1)) 4607182418800017408) 4618760256179416344)) 4607182418800017408))))], none⟩)
                | false => none)))
          | false => (match (fcmp .geq .f64 (fop .sub .f64 y (fint .f64 n1)) 4602678819172646912 : Bool) with
            | true => (match (fcmp .gtr .f64 (fop .sub .f64 (fop .sub .f64 y (fint .f64 n1)) 4602678819172646912) 4598175219545276416 : Bool) with
              | true => (match (decide (8 = 8) : Bool) with
                | true => (match ((fcmp .geq .f64 (fop .sub .f64 y (fint .f64 n1)) 4602678819172646912) : Bool) with
                  | true => some ⟨[.el (.sc (.fl .f64 (fneg .f64 (fop .mul .f64 ((fop .mul .f64 (fop .sub .f64 4602678819172646912 (fop .sub .f64 (fop .sub .f64 y (fint .f64 n1)) 4602678819172646912)) 4618760256179416344)) (sinPoly (fop .mul .f64 (fop .mul .f64 (fop .sub .f64 4602678819172646912 (fop .sub .f64 (fop .sub .f64 y (fint .f64 n1)) 4602678819172646912)) 4618760256179416344) (fop .mul .f64 (fop .sub .f64 4602678819172646912 (fop .sub .f64 (fop .sub .f64 y (fint .f64 n1)) 4602678819172646912)) 4618760256179416344)) 4607182418800017408)))))], none⟩
                  | false => some ⟨[.el (.sc (.fl .f64 (fop .mul .f64 ((fop .mul .f64 (fop .sub .f64 4602678819172646912 (fop .sub .f64 (fop .sub .f64 y (fint .f64 n1)) 4602678819172646912)) 4618760256179416344)) (sinPoly (fop .mul .f64 (fop .mul .f64 (fop .sub .f64 4602678819172646912 (fop .sub .f64 (fop .sub .f64 y (fint .f64 n1)) 4602678819172646912)) 4618760256179416344) (fop .mul .f64 (fop .sub .f64 4602678819172646912 (fop .sub .f64 (fop .sub .f64 y (fint .f64 n1)) 4602678819172646912)) 4618760256179416344)) 4607182418800017408))))], none⟩)
                | false => none)
              | false => (match (decide (8 = 8) : Bool) with
                | true => (match ((fcmp .geq .f64 (fop .sub .f64 y (fint .f64 n1)) 4602678819172646912) : Bool) with
                  | true => some ⟨[.el (.sc (.fl .f64 (fneg .f64 (fop .mul .f64 ((fop .mul .f64 (fop .sub .f64 (fop .sub .f64 y (fint .f64 n1)) 4602678819172646912) 4618760256179416344)) (sinPoly (fop .mul .f64 (fop .mul .f64 (fop .sub .f64 (fop .sub .f64 y (fint .f64 n1)) 4602678819172646912) 4618760256179416344) (fop .mul .f64 (fop .sub .f64 (fop .sub .f64 y (fint .f64 n1)) 4602678819172646912) 4618760256179416344)) 4607182418800017408)))))], none⟩
                  | false => some ⟨[.el (.sc (.fl .f64 (fop .mul .f64 ((fop .mul .f64 (fop .sub .f64 (fop .sub .f64 y (fint .f64 n1)) 4602678819172646912) 4618760256179416344)) (sinPoly (fop .mul .f64 (fop .mul .f64 (fop .sub .f64 (fop .sub .f64 y (fint .f64 n1)) 4602678819172646912) 4618760256179416344) (fop .mul .f64 (fop .sub .f64 (fop .sub .f64 y (fint .f64 n1)) 4602678819172646912) 4618760256179416344)) 4607182418800017408))))], none⟩)
                | false => none))
            | false => (match (fcmp .gtr .f64 (fop .sub .f64 y (fint .f64 n1)) 4598175219545276416 : Bool) with
              | true => (match (decide (8 = 8) : Bool) with
                | true => (match ((fcmp .geq .f64 (fop .sub .f64 y (fint .f64 n1)) 4602678819172646912) : Bool) with
                  | true => some ⟨[.el (.sc (.fl .f64 (fneg .f64 (fop .mul .f64 ((fop .mul .f64 (fop .sub .f64 4602678819172646912 (fop .sub .f64 y (fint .f64 n1))) 4618760256179416344)) (sinPoly (fop .mul .f64 (fop .mul .f64 (fop .sub .f64 4602678819172646912 (fop .sub .f64 y (fint .f64 n1))) 4618760256179416344) (fop .mul .f64 (fop .sub .f64 4602678819172646912 (fop .sub .f64 y (fint .f64 n1))) 4618760256179416344)) 4607182418800017408)))))], none⟩
                  | false => some ⟨[.el (.sc (.fl .f64 (fop .mul .f64 ((fop .mul .f64 (fop .sub .f64 4602678819172646912 (fop .sub .f64 y (fint .f64 n1))) 4618760256179416344)) (sinPoly (fop .mul .f64 (fop .mul .f64 (fop .sub .f64 4602678819172646912 (fop .sub .f64 y (fint .f64 n1))) 4618760256179416344) (fop .mul .f64 (fop .sub .f64 4602678819172646912 (fop .sub .f64 y (fint .f64 n1))) 4618760256179416344)) 4607182418800017408))))], none⟩)
                | false => none)
              | false => (match (decide (8 = 8) : Bool) with
                | true => (match ((fcmp .geq .f64 (fop .sub .f64 y (fint .f64 n1)) 4602678819172646912) : Bool) with
                  | true => some ⟨[.el (.sc (.fl .f64 (fneg .f64 (fop .mul .f64 ((fop .mul .f64 (fop .sub .f64 y (fint .f64 n1)) 4618760256179416344)) (sinPoly (fop .mul .f64 (fop .mul .f64 (fop .sub .f64 y (fint .f64 n1)) 4618760256179416344) (fop .mul .f64 (fop .sub .f64 y (fint .f64 n1)) 4618760256179416344)) 4607182418800017408)))))], none⟩
                  | false => some ⟨[.el (.sc (.fl .f64 (fop .mul .f64 ((fop .mul .f64 (fop .sub .f64 y (fint .f64 n1)) 4618760256179416344)) (sinPoly (fop .mul .f64 (fop .mul .f64 (fop .sub .f64 y (fint .f64 n1)) 4618760256179416344) (fop .mul .f64 (fop .sub .f64 y (fint .f64 n1)) 4618760256179416344)) 4607182418800017408))))], none⟩)
                | false => none))))
        | none => none)))) := by kernel_rfl
theorem s147 (y : Nat) : runFn T2 a147 l147 Try.f147 [.el (.sc (.fl .f64 y))] = some ⟨[.el (.sc (.fl .f64 (sineW y)))], none⟩ := by
  rw [e147]
  unfold sineW
  cases h0 : fcmp .neq .f64 (fop .sub .f64 y y) 0 with
  | true => kernel_rfl
  | false =>
    have hn : isNum .f64 y = true := by
      rw [sub_self_fin] at h0
      simpa using h0
    cases hh : huge y with
    | true =>
      unfold huge big52 neg52 at hh
      cases h1 : fcmp .geq .f64 y 4841369599423283200 with
      | true => simp only [cond_false, cond_true]
      | false =>
        rw [h1, Bool.false_or] at hh
        simp only [hh, cond_false, cond_true]
    | false =>
      have hh2 := hh
      unfold huge big52 neg52 at hh2
      rw [Bool.or_eq_false_iff] at hh2
      obtain ⟨n, c1, c2, _⟩ := whole_ok hn hh
      simp only [cond_false, hh2.1, hh2.2, c1, c2]
      unfold sinCore sinVal sinArm low2 low1 part one64 half64 quarter64 tau64
      generalize whole y = W
      cases fcmp .lss .f64 (fop .sub .f64 y W) 0 <;> simp only [cond_true, cond_false]
      · generalize fop .sub .f64 y W = f
        cases fcmp .geq .f64 f 4602678819172646912 <;> simp only [cond_true, cond_false]
        · cases fcmp .gtr .f64 f 4598175219545276416 <;> rfl
        · cases fcmp .gtr .f64 (fop .sub .f64 f 4602678819172646912) 4598175219545276416 <;> rfl
      · generalize fop .add .f64 (fop .sub .f64 y W) 4607182418800017408 = f
        cases fcmp .geq .f64 f 4602678819172646912 <;> simp only [cond_true, cond_false]
        · cases fcmp .gtr .f64 f 4598175219545276416 <;> rfl
        · cases fcmp .gtr .f64 (fop .sub .f64 f 4602678819172646912) 4598175219545276416 <;> rfl
theorem c147 (y : Nat) (k : List RV → R) (out : Out) (h : k [.el (.sc (.fl .f64 (sineW y)))] = some out) : ∃ rs, Real Try.prog 147 ∧ COK Try.prog 147 [.el (.sc (.fl .f64 y))] rs ∧ k rs = some out := by
  exact ⟨_, real Try.func147 (by kernel_rfl), fn_ok tok2 (A := a147) (L := l147) (r := none) Try.func147 (by kernel_rfl) (by kernel_rfl) (loops1 (by kernel_rfl) lk147) (by rw [s147]), h⟩

/-! impl.isHuge -/
theorem e150 (y : Nat) : runFn T2 none0 noL Try.f150 [.el (.sc (.fl .f64 y))] = (match (!isN .f64 y : Bool) with
  | true => some ⟨[.el (.sc (.bo (fcmp .geq .f64 (fabs y) 4841369599423283200)))], none⟩
  | false => none) := by kernel_rfl
theorem s150 (y : Nat) (hg : (!isN .f64 y) = true) : runFn T2 none0 noL Try.f150 [.el (.sc (.fl .f64 y))] = some ⟨[.el (.sc (.bo (fcmp .geq .f64 (fabs y) big52)))], none⟩ := by
  rw [e150]
  have hN : isN .f64 y = false := by simpa using hg
  rw [hN]
  rfl
theorem c150 (y : Nat) (k : List RV → R) (out : Out) (h : (match (!isN .f64 y : Bool) with
  | true => k [.el (.sc (.bo (fcmp .geq .f64 (fabs y) big52)))]
  | false => none) = some out) : ∃ rs, Real Try.prog 150 ∧ COK Try.prog 150 [.el (.sc (.fl .f64 y))] rs ∧ k rs = some out := by
  cases g0 : (!isN .f64 y : Bool) with
  | true =>
    rw [g0] at h
    exact ⟨_, real Try.func150 (by kernel_rfl), fn_ok tok2 (A := none0) (L := noL) (r := none) Try.func150 (by kernel_rfl) (by kernel_rfl) (loops0 (by kernel_rfl)) (by rw [s150 _ g0]), h⟩
  | false =>
    rw [g0] at h
    cases h

/-! impl.partOfTurn -/
theorem e151 (y : Nat) : runFn T2 none0 noL Try.f151 [.el (.sc (.fl .f64 y))] = (match (fcmp .eql .f64 (fround .zero y) 0 : Bool) with
  | true => (match (fcmp .lss .f64 (fop .sub .f64 y 0) 0 : Bool) with
    | true => some ⟨[.el (.sc (.fl .f64 (fop .add .f64 (fop .sub .f64 y 0) 4607182418800017408)))], none⟩
    | false => some ⟨[.el (.sc (.fl .f64 (fop .sub .f64 y 0)))], none⟩)
  | false => (match (fcmp .lss .f64 (fop .sub .f64 y (fround .zero y)) 0 : Bool) with
    | true => some ⟨[.el (.sc (.fl .f64 (fop .add .f64 (fop .sub .f64 y (fround .zero y)) 4607182418800017408)))], none⟩
    | false => some ⟨[.el (.sc (.fl .f64 (fop .sub .f64 y (fround .zero y))))], none⟩)) := by kernel_rfl
theorem s151 (y : Nat) : runFn T2 none0 noL Try.f151 [.el (.sc (.fl .f64 y))] = some ⟨[.el (.sc (.fl .f64 (part y)))], none⟩ := by
  rw [e151]
  unfold part whole one64
  cases fcmp .eql .f64 (fround .zero y) 0 <;> simp only [cond_true, cond_false] <;> split <;> simp_all
theorem c151 (y : Nat) (k : List RV → R) (out : Out) (h : k [.el (.sc (.fl .f64 (part y)))] = some out) : ∃ rs, Real Try.prog 151 ∧ COK Try.prog 151 [.el (.sc (.fl .f64 y))] rs ∧ k rs = some out := by
  exact ⟨_, real Try.func151 (by kernel_rfl), fn_ok tok2 (A := none0) (L := noL) (r := none) Try.func151 (by kernel_rfl) (by kernel_rfl) (loops0 (by kernel_rfl)) (by rw [s151]), h⟩

/-! slices.IndexFunc[[]float32,float32] -/
def a190 : Ann := ann [(2, [0, 1, 7, 8], [])] [4] 0
def lp190 : St → (Ex → St → R) → R := fun s k => match s with
  | ⟨[(0, .fv (.vw (some 0) ⟨.f32, xs⟩)), (1, .fv (.fn 157 [])), (7, .fv (.el (.sc (.int .i64 n)))), (8, .fv (.el (.sc (.int .i64 i))))], []⟩ => (match (decide (n = (xs.length : Int)) && (decide (i = 0) && Nat.ble xs.length big) : Bool) with
    | true => (match xs.findIdx? notFin with
      | some q => k .ret ⟨[(4, .fv (.el (.sc (.int .i64 ((q : Int))))))], []⟩
      | none => k (.exit 0) ⟨[], []⟩)
    | false => none)
  | _ => none
def l190 : Loops := fun key s k => bif Nat.beq key 2 then lp190 s k else none
theorem st190 (xs : List Nat) (n : Int) (i : Int) (m : Nat) (k : Ex → St → R) : iterK a190 [0, 1, 7, 8] [] (codeK T2 a190 l190 Try.f190.ntmps (loopAt Try.f190 0)) (m + 1) ⟨[(0, .fv (.vw (some 0) ⟨.f32, xs⟩)), (1, .fv (.fn 157 [])), (7, .fv (.el (.sc (.int .i64 n)))), (8, .fv (.el (.sc (.int .i64 i))))], []⟩ k = (match (decide ((i : Int) < n) : Bool) with
  | true => (match (decide (0 ≤ (i : Int) ∧ (i : Int) < (xs.length : Int)) && true : Bool) with
    | true => (match (xs : List Nat)[Int.toNat i]? with
      | some x1 => (match (notFin x1 : Bool) with
        | true => k .ret ⟨[(4, .fv (.el (.sc (.int .i64 i))))], []⟩
        | false => iterK a190 [0, 1, 7, 8] [] (codeK T2 a190 l190 Try.f190.ntmps (loopAt Try.f190 0)) m ⟨[(0, .fv (.vw (some 0) ⟨.f32, xs⟩)), (1, .fv (.fn 157 [])), (7, .fv (.el (.sc (.int .i64 n)))), (8, .fv (.el (.sc (.int .i64 (IntKind.i64.wrap (i + 1))))))], []⟩ k)
      | none => none)
    | false => none)
  | false => k (.exit 0) ⟨[], []⟩) := by kernel_rfl
theorem ind190 (xs : List Nat) (hx : Nat.ble xs.length big = true) (k : Ex → St → R) : ∀ (m j : Nat), j + m = xs.length → iterK a190 [0, 1, 7, 8] [] (codeK T2 a190 l190 Try.f190.ntmps (loopAt Try.f190 0)) (m + 1) ⟨[(0, .fv (.vw (some 0) ⟨.f32, xs⟩)), (1, .fv (.fn 157 [])), (7, .fv (.el (.sc (.int .i64 (xs.length : Int))))), (8, .fv (.el (.sc (.int .i64 (j : Int)))))], []⟩ k =
    (match (xs.drop j).findIdx? notFin with
    | some q => k .ret ⟨[(4, .fv (.el (.sc (.int .i64 ((j + q : Nat) : Int)))))], []⟩
    | none => k (.exit 0) ⟨[], []⟩) := by
  intro m
  induction m with
  | zero =>
    intro j hj
    have h1 : ¬ ((j : Int) < (xs.length : Int)) := by omega
    rw [st190]
    have h2 : xs.drop j = [] := List.drop_of_length_le (by omega)
    simp [h1, h2]
  | succ m ih =>
    intro j hj
    have hlt : j < xs.length := by omega
    have h1 : ((j : Int) < (xs.length : Int)) := by omega
    have h2 : (0 : Int) ≤ (j : Int) := by omega
    rw [st190, wrap_succ hlt hx]
    have h3 : xs[Int.toNat (j : Int)]? = some xs[j] := by simp [hlt]
    rw [List.drop_eq_getElem_cons hlt, List.findIdx?_cons]
    simp only [h1, h2, h3, and_self, decide_true, Bool.and_true]
    cases hp : notFin xs[j] with
    | true => simp
    | false =>
      rw [ih (j + 1) (by omega)]
      cases (xs.drop (j + 1)).findIdx? notFin with
      | none => rfl
      | some q => simp only [Bool.false_eq_true, if_false, Option.map_some]; rw [show j + 1 + q = j + (q + 1) by omega]
theorem lk190 : LOK T2 a190 l190 Try.f190.ntmps (loopAt Try.f190 0) := by
  intro ins outs hA s k out h
  have hA' : ([0, 1, 7, 8], []) = (ins, outs) := Option.some.inj ((show a190.lp (firstRegion (loopAt Try.f190 0)) = some ([0, 1, 7, 8], []) by kernel_rfl).symm.trans hA)
  cases hA'
  have hk : firstRegion (loopAt Try.f190 0) = 2 := by kernel_rfl
  rw [hk] at h
  change lp190 s k = some out at h
  unfold lp190 at h
  split at h
  · rename_i xs n i
    cases hg : (decide (n = (xs.length : Int)) && (decide (i = 0) && Nat.ble xs.length big)) with
    | false => rw [hg] at h; cases h
    | true =>
      rw [hg] at h
      simp only [Bool.and_eq_true, decide_eq_true_eq] at hg
      obtain ⟨rfl, rfl, hx⟩ := hg
      refine ⟨xs.length + 1, ?_⟩
      have := ind190 xs hx k xs.length 0 (by omega)
      simp only [List.drop_zero, Nat.zero_add] at this
      exact this.trans h
  · cases h
theorem e190 (xs : List Nat) : runFn T2 a190 l190 Try.f190 [.vw none ⟨.f32, xs⟩, .fn 157 []] = (match (decide ((xs.length : Int) = (xs.length : Int)) && (decide (0 = 0) && Nat.ble xs.length big) : Bool) with
  | true => (match xs.findIdx? notFin with
    | some q => some ⟨[.el (.sc (.int .i64 ((q : Int))))], none⟩
    | none => some ⟨[.el (.sc (.int .i64 ((-1))))], none⟩)
  | false => none) := by kernel_rfl
theorem s190 (xs : List Nat) : runFn T2 a190 l190 Try.f190 [.vw none ⟨.f32, xs⟩, .fn 157 []] = (match (Nat.ble xs.length big : Bool) with
  | true => some ⟨[.el (.sc (.int .i64 (firstAt notFin xs)))], none⟩
  | false => none) := by
  rw [e190]
  unfold firstAt
  cases h : Nat.ble xs.length big with
  | false => simp [h]
  | true =>
    cases h2 : xs.findIdx? notFin with
    | some q => simp [h, h2]
    | none => simp [h, h2]
theorem c190 (xs : List Nat) (k : List RV → R) (out : Out) (h : (match (Nat.ble xs.length big : Bool) with
  | true => k [.el (.sc (.int .i64 (firstAt notFin xs)))]
  | false => none) = some out) : ∃ rs, Real Try.prog 190 ∧ COK Try.prog 190 [.vw none ⟨.f32, xs⟩, .fn 157 []] rs ∧ k rs = some out := by
  cases g0 : (Nat.ble xs.length big : Bool) with
  | true =>
    rw [g0] at h
    exact ⟨_, real Try.func190 (by kernel_rfl), fn_ok tok2 (A := a190) (L := l190) (r := none) Try.func190 (by kernel_rfl) (by kernel_rfl) (loops1 (by kernel_rfl) lk190) (by rw [s190, g0]), h⟩
  | false =>
    rw [g0] at h
    cases h

def S3 : SFn := fun f args k => match f, args with
  | 78, [.vw none ⟨.f32, xs⟩] => (match (Nat.ble xs.length big : Bool) with
    | true => (match (xs.all fin : Bool) with
      | true => k [.arg 0, .el (.sc (.bo true))]
      | false => k [.nil, .el (.sc (.bo false))])
    | false => none)
  | 91, [.vw none ⟨.f32, xs⟩] => k [.el (.sc (.bo (vec3 xs)))]
  | 93, [.el (.sc (.fl .f32 x))] => k [.el (.sc (.fl .f32 (rootF x)))]
  | 98, [.el (.sc (.fl .f32 x))] => k [.el (.sc (.fl .f32 (rootF x)))]
  | 147, [.el (.sc (.fl .f64 y))] => k [.el (.sc (.fl .f64 (sineW y)))]
  | 150, [.el (.sc (.fl .f64 y))] => (match (!isN .f64 y : Bool) with
    | true => k [.el (.sc (.bo (fcmp .geq .f64 (fabs y) big52)))]
    | false => none)
  | 151, [.el (.sc (.fl .f64 y))] => k [.el (.sc (.fl .f64 (part y)))]
  | 190, [.vw none ⟨.f32, xs⟩, .fn 157 []] => (match (Nat.ble xs.length big : Bool) with
    | true => k [.el (.sc (.int .i64 (firstAt notFin xs)))]
    | false => none)
  | _, _ => S2 f args k
abbrev M3 : MFn := M2
def T3 : TT := tab.T S3 muts M3
theorem tok3 : TOK Try.prog T3 := by
  refine (tab_ok tabok).tok (fun f args k out h => ?_) (fun f vec args k out h => ?_)
  · change S3 f args k = some out at h
    unfold S3 at h
    split at h
    · exact (fun k out h => cok_call (c78 _ k out h)) k out h
    · exact (fun k out h => cok_call (c91 _ k out h)) k out h
    · exact (fun k out h => cok_call (c93 _ k out h)) k out h
    · exact (fun k out h => cok_call (c98 _ k out h)) k out h
    · exact (fun k out h => cok_call (c147 _ k out h)) k out h
    · exact (fun k out h => cok_call (c150 _ k out h)) k out h
    · exact (fun k out h => cok_call (c151 _ k out h)) k out h
    · exact (fun k out h => cok_call (c190 _ k out h)) k out h
    · exact tok2.S f args k out h
  · exact tok2.M f vec args k out h

end Go.Sm.Ytdeplgocckdbiaa
