/- What the functions hand back: level 3. -/
import Derived.Test.YtdnfgoolapikmaaD3
namespace Go.Sm.Ytdnfgoolapikmaa
open Go Go.Sm Go.RowKit Go.Proofs

/-! spec.l01Exp -/
theorem e74 (z : Nat) : runFn T3 none0 noL Try.f74 [.el (.sc (.fl .f32 z))] = (match fconv .f64 .f32 (expS (wid z)) with
  | some r => some ⟨[.el (.sc (.fl .f32 r))], none⟩
  | none => none) := by kernel_rfl
theorem s74 (z : Nat) (hg : (expOk z) = true) : runFn T3 none0 noL Try.f74 [.el (.sc (.fl .f32 z))] = some ⟨[.el (.sc (.fl .f32 (expF z)))], none⟩ := by
  rw [e74]
  rw [(exp_narrow hg).2]
theorem c74 (z : Nat) (k : List RV → R) (out : Out) (h : (match (expOk z : Bool) with
  | true => k [.el (.sc (.fl .f32 (expF z)))]
  | false => none) = some out) : ∃ rs, Real Try.prog 74 ∧ COK Try.prog 74 [.el (.sc (.fl .f32 z))] rs ∧ k rs = some out := by
  cases g0 : (expOk z : Bool) with
  | true =>
    rw [g0] at h
    exact ⟨_, real Try.func74 (by kernel_rfl), fn_ok tok3 (A := none0) (L := noL) (r := none) Try.func74 (by kernel_rfl) (by kernel_rfl) (loops0 (by kernel_rfl)) (by rw [s74 _ g0]), h⟩
  | false =>
    rw [g0] at h
    cases h

/-! impl.ExpNumber -/
theorem e77 (z : Nat) : runFn T3 none0 noL Try.f77 [.el (.sc (.fl .f32 z))] = (match fconv .f64 .f32 (expI (wid z)) with
  | some r1 => some ⟨[.el (.sc (.fl .f32 r1))], none⟩
  | none => none) := by kernel_rfl
theorem s77 (z : Nat) (hg : (expOk z) = true) : runFn T3 none0 noL Try.f77 [.el (.sc (.fl .f32 z))] = some ⟨[.el (.sc (.fl .f32 (expF z)))], none⟩ := by
  rw [e77]
  rw [(exp_narrow hg).1]
theorem c77 (z : Nat) (k : List RV → R) (out : Out) (h : (match (expOk z : Bool) with
  | true => k [.el (.sc (.fl .f32 (expF z)))]
  | false => none) = some out) : ∃ rs, Real Try.prog 77 ∧ COK Try.prog 77 [.el (.sc (.fl .f32 z))] rs ∧ k rs = some out := by
  cases g0 : (expOk z : Bool) with
  | true =>
    rw [g0] at h
    exact ⟨_, real Try.func77 (by kernel_rfl), fn_ok tok3 (A := none0) (L := noL) (r := none) Try.func77 (by kernel_rfl) (by kernel_rfl) (loops0 (by kernel_rfl)) (by rw [s77 _ g0]), h⟩
  | false =>
    rw [g0] at h
    cases h

/-! spec.l01Sine -/
theorem e88 (x : Nat) : runFn T3 none0 noL Try.f88 [.el (.sc (.fl .f32 x))] = (match fconv .f64 .f32 (sineW (wid x)) with
  | some r => some ⟨[.el (.sc (.fl .f32 r))], none⟩
  | none => none) := by kernel_rfl
theorem s88 (x : Nat) : runFn T3 none0 noL Try.f88 [.el (.sc (.fl .f32 x))] = some ⟨[.el (.sc (.fl .f32 (sineF x)))], none⟩ := by
  rw [e88]
  rw [sineF_narrow]
theorem c88 (x : Nat) (k : List RV → R) (out : Out) (h : k [.el (.sc (.fl .f32 (sineF x)))] = some out) : ∃ rs, Real Try.prog 88 ∧ COK Try.prog 88 [.el (.sc (.fl .f32 x))] rs ∧ k rs = some out := by
  exact ⟨_, real Try.func88 (by kernel_rfl), fn_ok tok3 (A := none0) (L := noL) (r := none) Try.func88 (by kernel_rfl) (by kernel_rfl) (loops0 (by kernel_rfl)) (by rw [s88]), h⟩

/-! slices.ContainsFunc[[]float32,float32] -/
theorem e94b (xs : List Nat) : runFn T3 none0 noL Try.f94 [.vw none ⟨.f32, xs⟩, .fn 99 []] = (match (Nat.ble xs.length big : Bool) with
  | true => some ⟨[.el (.sc (.bo (decide ((firstAt notPos xs : Int) ≥ 0))))], none⟩
  | false => none) := by kernel_rfl
theorem s94b (xs : List Nat) : runFn T3 none0 noL Try.f94 [.vw none ⟨.f32, xs⟩, .fn 99 []] = (match (Nat.ble xs.length big : Bool) with
  | true => some ⟨[.el (.sc (.bo (xs.any notPos)))], none⟩
  | false => none) := by
  rw [e94b]
  rw [any_firstAt]
theorem c94b (xs : List Nat) (k : List RV → R) (out : Out) (h : (match (Nat.ble xs.length big : Bool) with
  | true => k [.el (.sc (.bo (xs.any notPos)))]
  | false => none) = some out) : ∃ rs, Real Try.prog 94 ∧ COK Try.prog 94 [.vw none ⟨.f32, xs⟩, .fn 99 []] rs ∧ k rs = some out := by
  cases g0 : (Nat.ble xs.length big : Bool) with
  | true =>
    rw [g0] at h
    exact ⟨_, real Try.func94 (by kernel_rfl), fn_ok tok3 (A := none0) (L := noL) (r := none) Try.func94 (by kernel_rfl) (by kernel_rfl) (loops0 (by kernel_rfl)) (by rw [s94b, g0]), h⟩
  | false =>
    rw [g0] at h
    cases h

/-! slices.ContainsFunc[[]float32,float32] -/
theorem e94c (xs : List Nat) : runFn T3 none0 noL Try.f94 [.vw none ⟨.f32, xs⟩, .fn 98 []] = (match (Nat.ble xs.length big : Bool) with
  | true => some ⟨[.el (.sc (.bo (decide ((firstAt notRot xs : Int) ≥ 0))))], none⟩
  | false => none) := by kernel_rfl
theorem s94c (xs : List Nat) : runFn T3 none0 noL Try.f94 [.vw none ⟨.f32, xs⟩, .fn 98 []] = (match (Nat.ble xs.length big : Bool) with
  | true => some ⟨[.el (.sc (.bo (xs.any notRot)))], none⟩
  | false => none) := by
  rw [e94c]
  rw [any_firstAt]
theorem c94c (xs : List Nat) (k : List RV → R) (out : Out) (h : (match (Nat.ble xs.length big : Bool) with
  | true => k [.el (.sc (.bo (xs.any notRot)))]
  | false => none) = some out) : ∃ rs, Real Try.prog 94 ∧ COK Try.prog 94 [.vw none ⟨.f32, xs⟩, .fn 98 []] rs ∧ k rs = some out := by
  cases g0 : (Nat.ble xs.length big : Bool) with
  | true =>
    rw [g0] at h
    exact ⟨_, real Try.func94 (by kernel_rfl), fn_ok tok3 (A := none0) (L := noL) (r := none) Try.func94 (by kernel_rfl) (by kernel_rfl) (loops0 (by kernel_rfl)) (by rw [s94c, g0]), h⟩
  | false =>
    rw [g0] at h
    cases h

/-! impl.sine -/
def a108 : Ann := ann [(9, [4, 5, 6, 7, 8], [4, 5, 7])] [2] 0
def lp108 : St → (Ex → St → R) → R := fun s k => match s with
  | ⟨[(4, .fv (.el (.sc (.bo b)))), (5, .fv (.el (.sc (.fl .f64 z)))), (6, .fv (.el (.sc (.fl .f64 u)))), (7, .fv (.el (.sc (.fl .f64 p)))), (8, .fv (.el (.sc (.fl .f64 i))))], []⟩ => (match (Nat.beq i 4620693217682128896 : Bool) with
    | true => k (.exit 0) ⟨[(4, .fv (.el (.sc (.bo b)))), (5, .fv (.el (.sc (.fl .f64 z)))), (7, .fv (.el (.sc (.fl .f64 (sinPoly u p)))))], []⟩
    | false => none)
  | _ => none
def l108 : Loops := fun key s k => bif Nat.beq key 9 then lp108 s k else none
theorem st108 (b : Bool) (z : Nat) (u : Nat) (p : Nat) (i : Nat) (m : Nat) (k : Ex → St → R) : iterK a108 [4, 5, 6, 7, 8] [4, 5, 7] (codeK T3 a108 l108 Try.f108.ntmps (loopAt Try.f108 0)) (m + 1) ⟨[(4, .fv (.el (.sc (.bo b)))), (5, .fv (.el (.sc (.fl .f64 z)))), (6, .fv (.el (.sc (.fl .f64 u)))), (7, .fv (.el (.sc (.fl .f64 p)))), (8, .fv (.el (.sc (.fl .f64 i))))], []⟩ k = (match (fcmp .geq .f64 i 4607182418800017408 : Bool) with
  | true => iterK a108 [4, 5, 6, 7, 8] [4, 5, 7] (codeK T3 a108 l108 Try.f108.ntmps (loopAt Try.f108 0)) m ⟨[(4, .fv (.el (.sc (.bo b)))), (5, .fv (.el (.sc (.fl .f64 z)))), (6, .fv (.el (.sc (.fl .f64 u)))), (7, .fv (.el (.sc (.fl .f64 (fop .sub .f64 4607182418800017408 (fop .quo .f64 (fop .mul .f64 u p) (fop .mul .f64 (fop .mul .f64 4611686018427387904 i) (fop .add .f64 (fop .mul .f64 4611686018427387904 i) 4607182418800017408)))))))), (8, .fv (.el (.sc (.fl .f64 (fop .sub .f64 i 4607182418800017408)))))], []⟩ k
  | false => k (.exit 0) ⟨[(4, .fv (.el (.sc (.bo b)))), (5, .fv (.el (.sc (.fl .f64 z)))), (7, .fv (.el (.sc (.fl .f64 p))))], []⟩) := by kernel_rfl
theorem un108 (b : Bool) (z : Nat) (u : Nat) (p : Nat) (k : Ex → St → R) : iterK a108 [4, 5, 6, 7, 8] [4, 5, 7] (codeK T3 a108 l108 Try.f108.ntmps (loopAt Try.f108 0)) 9 ⟨[(4, .fv (.el (.sc (.bo b)))), (5, .fv (.el (.sc (.fl .f64 z)))), (6, .fv (.el (.sc (.fl .f64 u)))), (7, .fv (.el (.sc (.fl .f64 p)))), (8, .fv (.el (.sc (.fl .f64 4620693217682128896))))], []⟩ k = k (.exit 0) ⟨[(4, .fv (.el (.sc (.bo b)))), (5, .fv (.el (.sc (.fl .f64 z)))), (7, .fv (.el (.sc (.fl .f64 (sinPoly u p)))))], []⟩ := by kernel_rfl

theorem lk108 : LOK T3 a108 l108 Try.f108.ntmps (loopAt Try.f108 0) := by
  intro ins outs hA s k out h
  have hA' : ([4, 5, 6, 7, 8], [4, 5, 7]) = (ins, outs) := Option.some.inj ((show a108.lp (firstRegion (loopAt Try.f108 0)) = some ([4, 5, 6, 7, 8], [4, 5, 7]) by kernel_rfl).symm.trans hA)
  cases hA'
  have hk : firstRegion (loopAt Try.f108 0) = 9 := by kernel_rfl
  rw [hk] at h
  change lp108 s k = some out at h
  unfold lp108 at h
  split at h
  · rename_i b z u p i
    cases hg : Nat.beq i 4620693217682128896 with
    | false => rw [hg] at h; cases h
    | true =>
      rw [hg] at h
      replace hg := Nat.eq_of_beq_eq_true hg
      subst hg
      refine ⟨9, ?_⟩
      exact (un108 b z u p k).trans h
  · cases h
theorem e108 (y : Nat) : runFn T3 a108 l108 Try.f108 [.el (.sc (.fl .f64 y))] = (match (fcmp .geq .f64 (part y) 4602678819172646912 : Bool) with
  | true => (match (fcmp .gtr .f64 (fop .sub .f64 (part y) 4602678819172646912) 4598175219545276416 : Bool) with
    | true => (match (Nat.beq 4620693217682128896 4620693217682128896 : Bool) with
      | true => some ⟨[.el (.sc (.fl .f64 (fneg .f64 (fop .mul .f64 ((fop .mul .f64 (fop .sub .f64 4602678819172646912 (fop .sub .f64 (part y) 4602678819172646912)) 4618760256179416344)) (sinPoly (fop .mul .f64 (fop .mul .f64 (fop .sub .f64 4602678819172646912 (fop .sub .f64 (part y) 4602678819172646912)) 4618760256179416344) (fop .mul .f64 (fop .sub .f64 4602678819172646912 (fop .sub .f64 (part y) 4602678819172646912)) 4618760256179416344)) 4607182418800017408)))))], none⟩
      | false => none)
    | false => (match (Nat.beq 4620693217682128896 4620693217682128896 : Bool) with
      | true => some ⟨[.el (.sc (.fl .f64 (fneg .f64 (fop .mul .f64 ((fop .mul .f64 (fop .sub .f64 (part y) 4602678819172646912) 4618760256179416344)) (sinPoly (fop .mul .f64 (fop .mul .f64 (fop .sub .f64 (part y) 4602678819172646912) 4618760256179416344) (fop .mul .f64 (fop .sub .f64 (part y) 4602678819172646912) 4618760256179416344)) 4607182418800017408)))))], none⟩
      | false => none))
  | false => (match (fcmp .gtr .f64 (part y) 4598175219545276416 : Bool) with
    | true => (match (Nat.beq 4620693217682128896 4620693217682128896 : Bool) with
      | true => some ⟨[.el (.sc (.fl .f64 (fop .mul .f64 ((fop .mul .f64 (fop .sub .f64 4602678819172646912 (part y)) 4618760256179416344)) (sinPoly (fop .mul .f64 (fop .mul .f64 (fop .sub .f64 4602678819172646912 (part y)) 4618760256179416344) (fop .mul .f64 (fop .sub .f64 4602678819172646912 (part y)) 4618760256179416344)) 4607182418800017408))))], none⟩
      | false => none)
    | false => (match (Nat.beq 4620693217682128896 4620693217682128896 : Bool) with
      | true => some ⟨[.el (.sc (.fl .f64 (fop .mul .f64 ((fop .mul .f64 (part y) 4618760256179416344)) (sinPoly (fop .mul .f64 (fop .mul .f64 (part y) 4618760256179416344) (fop .mul .f64 (part y) 4618760256179416344)) 4607182418800017408))))], none⟩
      | false => none))) := by kernel_rfl
theorem s108 (y : Nat) : runFn T3 a108 l108 Try.f108 [.el (.sc (.fl .f64 y))] = some ⟨[.el (.sc (.fl .f64 (sinCore (part y))))], none⟩ := by
  rw [e108]
  generalize part y = f
  unfold sinCore sinVal sinArm low2 low1 half64 quarter64 tau64 one64
  cases fcmp .geq .f64 f 4602678819172646912 <;> simp only [cond_true, cond_false]
  · cases fcmp .gtr .f64 f 4598175219545276416 <;> rfl
  · cases fcmp .gtr .f64 (fop .sub .f64 f 4602678819172646912) 4598175219545276416 <;> rfl
theorem c108 (y : Nat) (k : List RV → R) (out : Out) (h : k [.el (.sc (.fl .f64 (sinCore (part y))))] = some out) : ∃ rs, Real Try.prog 108 ∧ COK Try.prog 108 [.el (.sc (.fl .f64 y))] rs ∧ k rs = some out := by
  exact ⟨_, real Try.func108 (by kernel_rfl), fn_ok tok3 (A := a108) (L := l108) (r := none) Try.func108 (by kernel_rfl) (by kernel_rfl) (loops1 (by kernel_rfl) lk108) (by rw [s108]), h⟩

def S4 : SFn := fun f args k => match f, args with
  | 74, [.el (.sc (.fl .f32 z))] => (match (expOk z : Bool) with
    | true => k [.el (.sc (.fl .f32 (expF z)))]
    | false => none)
  | 77, [.el (.sc (.fl .f32 z))] => (match (expOk z : Bool) with
    | true => k [.el (.sc (.fl .f32 (expF z)))]
    | false => none)
  | 88, [.el (.sc (.fl .f32 x))] => k [.el (.sc (.fl .f32 (sineF x)))]
  | 94, [.vw none ⟨.f32, xs⟩, .fn 99 []] => (match (Nat.ble xs.length big : Bool) with
    | true => k [.el (.sc (.bo (xs.any notPos)))]
    | false => none)
  | 94, [.vw none ⟨.f32, xs⟩, .fn 98 []] => (match (Nat.ble xs.length big : Bool) with
    | true => k [.el (.sc (.bo (xs.any notRot)))]
    | false => none)
  | 108, [.el (.sc (.fl .f64 y))] => k [.el (.sc (.fl .f64 (sinCore (part y))))]
  | _, _ => S3 f args k
abbrev M4 : MFn := M3
def T4 : TT := tab.T S4 muts M4
theorem tok4 : TOK Try.prog T4 := by
  refine (tab_ok tabok).tok (fun f args k out h => ?_) (fun f vec args k out h => ?_)
  · change S4 f args k = some out at h
    unfold S4 at h
    split at h
    · exact (fun k out h => cok_call (c74 _ k out h)) k out h
    · exact (fun k out h => cok_call (c77 _ k out h)) k out h
    · exact (fun k out h => cok_call (c88 _ k out h)) k out h
    · exact (fun k out h => cok_call (c94b _ k out h)) k out h
    · exact (fun k out h => cok_call (c94c _ k out h)) k out h
    · exact (fun k out h => cok_call (c108 _ k out h)) k out h
    · exact tok3.S f args k out h
  · exact tok3.M f vec args k out h

end Go.Sm.Ytdnfgoolapikmaa
