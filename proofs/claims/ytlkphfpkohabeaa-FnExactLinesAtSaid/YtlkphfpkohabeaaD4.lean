/- What the functions hand back: level 3. -/
import Derived.Test.YtlkphfpkohabeaaD3
namespace Go.Sm.Ytlkphfpkohabeaa
open Go Go.Sm Go.RowKit Go.Proofs

/-! spec.NoiseRatio -/
def a37 : Ann := ann [(4, [0, 1, 2, 8], [0, 1, 2])] [6, 7] 0
def lp37 : St → (Ex → St → R) → R := fun s k => match s with
  | ⟨[(0, .fv (.vw (some 0) ⟨.f32, xs⟩)), (1, .fv (.el (.sc (.int .i64 a)))), (2, .fv (.el (.sc (.int .i64 b)))), (8, .fv (.el (.sc (.int .i64 i))))], []⟩ => (match ((decide (i = 0) && Nat.ble xs.length big) : Bool) with
    | true => (match (xs.all notNeg : Bool) with
      | true => k (.exit 0) ⟨[(0, .fv (.vw (some 0) ⟨.f32, xs⟩)), (1, .fv (.el (.sc (.int .i64 a)))), (2, .fv (.el (.sc (.int .i64 b))))], []⟩
      | false => k .ret ⟨[(6, .fv (.el (.sc (.fl .f32 0)))), (7, .fv (.el (.sc (.bo false))))], []⟩)
    | false => none)
  | _ => none
def l37 : Loops := fun key s k => bif Nat.beq key 4 then lp37 s k else none
theorem st37 (xs : List Nat) (a : Int) (b : Int) (i : Int) (m : Nat) (k : Ex → St → R) : iterK a37 [0, 1, 2, 8] [0, 1, 2] (codeK T3 a37 l37 Try.f37.ntmps (loopAt Try.f37 0)) (m + 1) ⟨[(0, .fv (.vw (some 0) ⟨.f32, xs⟩)), (1, .fv (.el (.sc (.int .i64 a)))), (2, .fv (.el (.sc (.int .i64 b)))), (8, .fv (.el (.sc (.int .i64 i))))], []⟩ k = (match (decide ((i : Int) < (xs.length : Int)) : Bool) with
  | true => (match (decide (0 ≤ (i : Int) ∧ (i : Int) < (xs.length : Int)) && true : Bool) with
    | true => (match (xs : List Nat)[Int.toNat i]? with
      | some x1 => (match (fcmp .lss .f32 x1 0 : Bool) with
        | true => k .ret ⟨[(6, .fv (.el (.sc (.fl .f32 0)))), (7, .fv (.el (.sc (.bo false))))], []⟩
        | false => iterK a37 [0, 1, 2, 8] [0, 1, 2] (codeK T3 a37 l37 Try.f37.ntmps (loopAt Try.f37 0)) m ⟨[(0, .fv (.vw (some 0) ⟨.f32, xs⟩)), (1, .fv (.el (.sc (.int .i64 a)))), (2, .fv (.el (.sc (.int .i64 b)))), (8, .fv (.el (.sc (.int .i64 (IntKind.i64.wrap (i + 1))))))], []⟩ k)
      | none => none)
    | false => none)
  | false => k (.exit 0) ⟨[(0, .fv (.vw (some 0) ⟨.f32, xs⟩)), (1, .fv (.el (.sc (.int .i64 a)))), (2, .fv (.el (.sc (.int .i64 b))))], []⟩) := by kernel_rfl
theorem ind37 (xs : List Nat) (a : Int) (b : Int) (hx : Nat.ble xs.length big = true) (k : Ex → St → R) : ∀ (m j : Nat), j + m = xs.length → iterK a37 [0, 1, 2, 8] [0, 1, 2] (codeK T3 a37 l37 Try.f37.ntmps (loopAt Try.f37 0)) (m + 1) ⟨[(0, .fv (.vw (some 0) ⟨.f32, xs⟩)), (1, .fv (.el (.sc (.int .i64 a)))), (2, .fv (.el (.sc (.int .i64 b)))), (8, .fv (.el (.sc (.int .i64 (j : Int)))))], []⟩ k =
    (match (xs.drop j).all notNeg with
    | true => k (.exit 0) ⟨[(0, .fv (.vw (some 0) ⟨.f32, xs⟩)), (1, .fv (.el (.sc (.int .i64 a)))), (2, .fv (.el (.sc (.int .i64 b))))], []⟩
    | false => k .ret ⟨[(6, .fv (.el (.sc (.fl .f32 0)))), (7, .fv (.el (.sc (.bo false))))], []⟩) := by
  intro m
  induction m with
  | zero =>
    intro j hj
    have h1 : ¬ ((j : Int) < (xs.length : Int)) := by omega
    rw [st37, List.drop_of_length_le (by omega)]
    simp [h1]
  | succ m ih =>
    intro j hj
    have hlt : j < xs.length := by omega
    have h1 : ((j : Int) < (xs.length : Int)) := by omega
    have h2 : (0 : Int) ≤ (j : Int) := by omega
    rw [st37, wrap_succ hlt hx]
    have h3 : xs[Int.toNat (j : Int)]? = some xs[j] := by simp [hlt]
    rw [List.drop_eq_getElem_cons hlt, List.all_cons, ih (j + 1) (by omega)]
    simp only [h1, h2, h3, and_self, decide_true, Bool.and_true]
    unfold notNeg
    cases hp : fcmp .lss .f32 (xs[j]) 0 <;> simp [hp]

theorem lk37 : LOK T3 a37 l37 Try.f37.ntmps (loopAt Try.f37 0) := by
  intro ins outs hA s k out h
  have hA' : ([0, 1, 2, 8], [0, 1, 2]) = (ins, outs) := Option.some.inj ((show a37.lp (firstRegion (loopAt Try.f37 0)) = some ([0, 1, 2, 8], [0, 1, 2]) by kernel_rfl).symm.trans hA)
  cases hA'
  have hk : firstRegion (loopAt Try.f37 0) = 4 := by kernel_rfl
  rw [hk] at h
  change lp37 s k = some out at h
  unfold lp37 at h
  split at h
  · rename_i xs a b i
    cases hg : (decide (i = 0) && Nat.ble xs.length big) with
    | false => rw [hg] at h; cases h
    | true =>
      rw [hg] at h
      simp only [Bool.and_eq_true, decide_eq_true_eq] at hg
      obtain ⟨rfl, hx⟩ := hg
      refine ⟨xs.length + 1, ?_⟩
      exact (ind37 xs a b hx k xs.length 0 (by omega)).trans h
  · cases h
theorem e37 (xs : List Nat) (a : Int) (b : Int) : runFn T3 a37 l37 Try.f37 [.vw none ⟨.f32, xs⟩, .el (.sc (.int .i64 a)), .el (.sc (.int .i64 b))] = (match (!(bins xs 1) : Bool) with
  | true => some ⟨[.el (.sc (.fl .f32 0)), .el (.sc (.bo false))], none⟩
  | false => (match (!(within b 1 ((xs.length : Int))) : Bool) with
    | true => some ⟨[.el (.sc (.fl .f32 0)), .el (.sc (.bo false))], none⟩
    | false => (match (!(within a 0 (IntKind.i64.wrap (b - 1))) : Bool) with
      | true => some ⟨[.el (.sc (.fl .f32 0)), .el (.sc (.bo false))], none⟩
      | false => (match ((decide (0 = 0) && Nat.ble xs.length big) : Bool) with
        | true => (match (xs.all notNeg : Bool) with
          | true => (match (decide (0 ≤ (a : Int) ∧ (a : Int) ≤ b ∧ (b : Int) ≤ (xs.length : Int)) && true : Bool) with
            | true => (match (Nat.ble (((xs).drop (Int.toNat a)).take (Int.toNat b - Int.toNat a)).length big : Bool) with
              | true => (match (!(above (sumF (((xs).drop (Int.toNat a)).take (Int.toNat b - Int.toNat a)))) : Bool) with
                | true => some ⟨[.el (.sc (.fl .f32 0)), .el (.sc (.bo false))], none⟩
                | false => some ⟨[.el (.sc (.fl .f32 (numOf (fop .quo .f32 (sumF (((xs).drop (Int.toNat a)).take (Int.toNat b - Int.toNat a))) (rootF (sumF (((xs).drop (Int.toNat a)).take (Int.toNat b - Int.toNat a)))))))), .el (.sc (.bo (fin (fop .quo .f32 (sumF (((xs).drop (Int.toNat a)).take (Int.toNat b - Int.toNat a))) (rootF (sumF (((xs).drop (Int.toNat a)).take (Int.toNat b - Int.toNat a))))))))], none⟩)
              | false => none)
            | false => none)
          | false => some ⟨[.el (.sc (.fl .f32 0)), .el (.sc (.bo false))], none⟩)
        | false => none)))) := by kernel_rfl
theorem s37 (xs : List Nat) (a : Int) (b : Int) : runFn T3 a37 l37 Try.f37 [.vw none ⟨.f32, xs⟩, .el (.sc (.int .i64 a)), .el (.sc (.int .i64 b))] = some ⟨[.el (.sc (.fl .f32 (orZero (noiseOk xs a b) (noiseX xs a b)))), .el (.sc (.bo (noiseOk xs a b)))], none⟩ := by
  rw [e37]
  unfold noiseOk
  cases hb : bins xs 1 with
  | false => simp [orZero]
  | true =>
    have hb2 := hb
    unfold bins at hb2
    simp only [Bool.and_eq_true, decide_eq_true_eq] at hb2
    have hx : Nat.ble xs.length big = true := big_of (by omega)
    by_cases h1 : 0 ≤ a ∧ a < b ∧ b ≤ (xs.length : Int)
    · have w1 : IntKind.i64.wrap (b - 1) = b - 1 := wrap64 (by omega) (by omega)
      have i1 : within b 1 (xs.length : Int) = true := by unfold within; simp; omega
      have i2 : within a 0 (b - 1) = true := by unfold within; simp; omega
      have g1 : 0 ≤ a ∧ a ≤ b ∧ b ≤ (xs.length : Int) := by omega
      rw [rot_all hb2.2.2]
      simp only [hx, w1, i1, i2, h1, g1, and_self, decide_true, Bool.not_true, Bool.and_true, Bool.true_and]
      cases hn : xs.all notNeg with
      | false => simp [orZero]
      | true =>
        have hs : Nat.ble (slice xs a b).length big = true := big_of (by unfold slice; rw [List.length_take]; rw [List.length_drop]; omega)
        have hsl : (List.drop a.toNat xs).take (b.toNat - a.toNat) = slice xs a b := rfl
        rw [hsl]
        simp only [hs]
        unfold noiseX
        generalize hS : sumF (slice xs a b) = S
        unfold orZero numOf
        cases h2 : above S with
        | false => simp
        | true => cases h4 : fin (fop .quo .f32 S (rootF S)) <;> simp [h4]
    · have hn : (within b 1 (xs.length : Int) && within a 0 (IntKind.i64.wrap (b - 1))) = false := by
        cases hw : within b 1 (xs.length : Int) with
        | false => rfl
        | true =>
          unfold within at hw ⊢
          simp only [Bool.and_eq_true, decide_eq_true_eq] at hw
          rw [wrap64 (by omega) (by omega)]
          simp
          omega
      cases c1 : within b 1 (xs.length : Int) <;> cases c2 : within a 0 (IntKind.i64.wrap (b - 1)) <;> simp [c1, c2] at hn <;> simp [h1, c2, orZero]
theorem c37 (xs : List Nat) (a : Int) (b : Int) (k : List RV → R) (out : Out) (h : k [.el (.sc (.fl .f32 (orZero (noiseOk xs a b) (noiseX xs a b)))), .el (.sc (.bo (noiseOk xs a b)))] = some out) : ∃ rs, Real Try.prog 37 ∧ COK Try.prog 37 [.vw none ⟨.f32, xs⟩, .el (.sc (.int .i64 a)), .el (.sc (.int .i64 b))] rs ∧ k rs = some out := by
  exact ⟨_, real Try.func37 (by kernel_rfl), fn_ok tok3 (A := a37) (L := l37) (r := none) Try.func37 (by kernel_rfl) (by kernel_rfl) (loops1 (by kernel_rfl) lk37) (by rw [s37]), h⟩

/-! slices.ContainsFunc[[]float32,float32] -/
theorem e113 (xs : List Nat) : runFn T3 none0 noL Try.f113 [.vw none ⟨.f32, xs⟩, .fn 114 []] = (match (Nat.ble xs.length big : Bool) with
  | true => some ⟨[.el (.sc (.bo (decide ((firstAt notFin xs : Int) ≥ 0))))], none⟩
  | false => none) := by kernel_rfl
theorem s113 (xs : List Nat) : runFn T3 none0 noL Try.f113 [.vw none ⟨.f32, xs⟩, .fn 114 []] = (match (Nat.ble xs.length big : Bool) with
  | true => some ⟨[.el (.sc (.bo (xs.any notFin)))], none⟩
  | false => none) := by
  rw [e113]
  rw [any_firstAt]
theorem c113 (xs : List Nat) (k : List RV → R) (out : Out) (h : (match (Nat.ble xs.length big : Bool) with
  | true => k [.el (.sc (.bo (xs.any notFin)))]
  | false => none) = some out) : ∃ rs, Real Try.prog 113 ∧ COK Try.prog 113 [.vw none ⟨.f32, xs⟩, .fn 114 []] rs ∧ k rs = some out := by
  cases g0 : (Nat.ble xs.length big : Bool) with
  | true =>
    rw [g0] at h
    exact ⟨_, real Try.func113 (by kernel_rfl), fn_ok tok3 (A := none0) (L := noL) (r := none) Try.func113 (by kernel_rfl) (by kernel_rfl) (loops0 (by kernel_rfl)) (by rw [s113, g0]), h⟩
  | false =>
    rw [g0] at h
    cases h

/-! slices.ContainsFunc[[]float32,float32] -/
theorem e113b (xs : List Nat) : runFn T3 none0 noL Try.f113 [.vw none ⟨.f32, xs⟩, .fn 121 []] = (match (Nat.ble xs.length big : Bool) with
  | true => some ⟨[.el (.sc (.bo (decide ((firstAt notPos xs : Int) ≥ 0))))], none⟩
  | false => none) := by kernel_rfl
theorem s113b (xs : List Nat) : runFn T3 none0 noL Try.f113 [.vw none ⟨.f32, xs⟩, .fn 121 []] = (match (Nat.ble xs.length big : Bool) with
  | true => some ⟨[.el (.sc (.bo (xs.any notPos)))], none⟩
  | false => none) := by
  rw [e113b]
  rw [any_firstAt]
theorem c113b (xs : List Nat) (k : List RV → R) (out : Out) (h : (match (Nat.ble xs.length big : Bool) with
  | true => k [.el (.sc (.bo (xs.any notPos)))]
  | false => none) = some out) : ∃ rs, Real Try.prog 113 ∧ COK Try.prog 113 [.vw none ⟨.f32, xs⟩, .fn 121 []] rs ∧ k rs = some out := by
  cases g0 : (Nat.ble xs.length big : Bool) with
  | true =>
    rw [g0] at h
    exact ⟨_, real Try.func113 (by kernel_rfl), fn_ok tok3 (A := none0) (L := noL) (r := none) Try.func113 (by kernel_rfl) (by kernel_rfl) (loops0 (by kernel_rfl)) (by rw [s113b, g0]), h⟩
  | false =>
    rw [g0] at h
    cases h

/-! slices.ContainsFunc[[]float32,float32] -/
theorem e113c (xs : List Nat) : runFn T3 none0 noL Try.f113 [.vw none ⟨.f32, xs⟩, .fn 119 []] = (match (Nat.ble xs.length big : Bool) with
  | true => some ⟨[.el (.sc (.bo (decide ((firstAt notRot xs : Int) ≥ 0))))], none⟩
  | false => none) := by kernel_rfl
theorem s113c (xs : List Nat) : runFn T3 none0 noL Try.f113 [.vw none ⟨.f32, xs⟩, .fn 119 []] = (match (Nat.ble xs.length big : Bool) with
  | true => some ⟨[.el (.sc (.bo (xs.any notRot)))], none⟩
  | false => none) := by
  rw [e113c]
  rw [any_firstAt]
theorem c113c (xs : List Nat) (k : List RV → R) (out : Out) (h : (match (Nat.ble xs.length big : Bool) with
  | true => k [.el (.sc (.bo (xs.any notRot)))]
  | false => none) = some out) : ∃ rs, Real Try.prog 113 ∧ COK Try.prog 113 [.vw none ⟨.f32, xs⟩, .fn 119 []] rs ∧ k rs = some out := by
  cases g0 : (Nat.ble xs.length big : Bool) with
  | true =>
    rw [g0] at h
    exact ⟨_, real Try.func113 (by kernel_rfl), fn_ok tok3 (A := none0) (L := noL) (r := none) Try.func113 (by kernel_rfl) (by kernel_rfl) (loops0 (by kernel_rfl)) (by rw [s113c, g0]), h⟩
  | false =>
    rw [g0] at h
    cases h

/-! spec.l01Exp -/
theorem e115 (z : Nat) : runFn T3 none0 noL Try.f115 [.el (.sc (.fl .f32 z))] = (match fconv .f64 .f32 (expS (wid z)) with
  | some r => some ⟨[.el (.sc (.fl .f32 r))], none⟩
  | none => none) := by kernel_rfl
theorem s115 (z : Nat) (hg : (expOk z) = true) : runFn T3 none0 noL Try.f115 [.el (.sc (.fl .f32 z))] = some ⟨[.el (.sc (.fl .f32 (expF z)))], none⟩ := by
  rw [e115]
  rw [(exp_narrow hg).2]
theorem c115 (z : Nat) (k : List RV → R) (out : Out) (h : (match (expOk z : Bool) with
  | true => k [.el (.sc (.fl .f32 (expF z)))]
  | false => none) = some out) : ∃ rs, Real Try.prog 115 ∧ COK Try.prog 115 [.el (.sc (.fl .f32 z))] rs ∧ k rs = some out := by
  cases g0 : (expOk z : Bool) with
  | true =>
    rw [g0] at h
    exact ⟨_, real Try.func115 (by kernel_rfl), fn_ok tok3 (A := none0) (L := noL) (r := none) Try.func115 (by kernel_rfl) (by kernel_rfl) (loops0 (by kernel_rfl)) (by rw [s115 _ g0]), h⟩
  | false =>
    rw [g0] at h
    cases h

/-! impl.ExpNumber -/
theorem e116 (z : Nat) : runFn T3 none0 noL Try.f116 [.el (.sc (.fl .f32 z))] = (match fconv .f64 .f32 (expI (wid z)) with
  | some r1 => some ⟨[.el (.sc (.fl .f32 r1))], none⟩
  | none => none) := by kernel_rfl
theorem s116 (z : Nat) (hg : (expOk z) = true) : runFn T3 none0 noL Try.f116 [.el (.sc (.fl .f32 z))] = some ⟨[.el (.sc (.fl .f32 (expF z)))], none⟩ := by
  rw [e116]
  rw [(exp_narrow hg).1]
theorem c116 (z : Nat) (k : List RV → R) (out : Out) (h : (match (expOk z : Bool) with
  | true => k [.el (.sc (.fl .f32 (expF z)))]
  | false => none) = some out) : ∃ rs, Real Try.prog 116 ∧ COK Try.prog 116 [.el (.sc (.fl .f32 z))] rs ∧ k rs = some out := by
  cases g0 : (expOk z : Bool) with
  | true =>
    rw [g0] at h
    exact ⟨_, real Try.func116 (by kernel_rfl), fn_ok tok3 (A := none0) (L := noL) (r := none) Try.func116 (by kernel_rfl) (by kernel_rfl) (loops0 (by kernel_rfl)) (by rw [s116 _ g0]), h⟩
  | false =>
    rw [g0] at h
    cases h

def S4 : SFn := fun f args k => match f, args with
  | 37, [.vw none ⟨.f32, xs⟩, .el (.sc (.int .i64 a)), .el (.sc (.int .i64 b))] => k [.el (.sc (.fl .f32 (orZero (noiseOk xs a b) (noiseX xs a b)))), .el (.sc (.bo (noiseOk xs a b)))]
  | 113, [.vw none ⟨.f32, xs⟩, .fn 114 []] => (match (Nat.ble xs.length big : Bool) with
    | true => k [.el (.sc (.bo (xs.any notFin)))]
    | false => none)
  | 113, [.vw none ⟨.f32, xs⟩, .fn 121 []] => (match (Nat.ble xs.length big : Bool) with
    | true => k [.el (.sc (.bo (xs.any notPos)))]
    | false => none)
  | 113, [.vw none ⟨.f32, xs⟩, .fn 119 []] => (match (Nat.ble xs.length big : Bool) with
    | true => k [.el (.sc (.bo (xs.any notRot)))]
    | false => none)
  | 115, [.el (.sc (.fl .f32 z))] => (match (expOk z : Bool) with
    | true => k [.el (.sc (.fl .f32 (expF z)))]
    | false => none)
  | 116, [.el (.sc (.fl .f32 z))] => (match (expOk z : Bool) with
    | true => k [.el (.sc (.fl .f32 (expF z)))]
    | false => none)
  | _, _ => S3 f args k
abbrev M4 : MFn := M3
def T4 : TT := tab.T S4 muts M4
theorem tok4 : TOK Try.prog T4 := by
  refine (tab_ok tabok).tok (fun f args k out h => ?_) (fun f vec args k out h => ?_)
  · change S4 f args k = some out at h
    unfold S4 at h
    split at h
    · exact (fun k out h => cok_call (c37 _ _ _ k out h)) k out h
    · exact (fun k out h => cok_call (c113 _ k out h)) k out h
    · exact (fun k out h => cok_call (c113b _ k out h)) k out h
    · exact (fun k out h => cok_call (c113c _ k out h)) k out h
    · exact (fun k out h => cok_call (c115 _ k out h)) k out h
    · exact (fun k out h => cok_call (c116 _ k out h)) k out h
    · exact tok3.S f args k out h
  · exact tok3.M f vec args k out h

end Go.Sm.Ytlkphfpkohabeaa
