/- What the functions hand back: level 3. -/
import Derived.Test.YtlkphfpkohabeaaD3
namespace Go.Sm.Ytlkphfpkohabeaa
open Go Go.Sm Go.RowKit Go.Proofs

/-! slices.ContainsFunc[[]float32,float32] -/
theorem e113 (xs : List Nat) : runFn T3 none0 noL Try.f113 [.vw none ⟨.f32, xs⟩, .fn 114 []] = (match (Nat.ble xs.length big : Bool) with
  | true => some ⟨[.el (.sc (.bo (decide ((firstAt notFin xs : Int) ≥ 0))))], none⟩
  | false => none) := by kernel_rfl
theorem s113 (xs : List Nat) : runFn T3 none0 noL Try.f113 [.vw none ⟨.f32, xs⟩, .fn 114 []] = (match (Nat.ble xs.length big : Bool) with
  | true => some ⟨[.el (.sc (.bo (xs.any notFin)))], none⟩
  | false => none) := by
  rw [e113]
  rw [any_firstAt]
theorem c113 (xs : List Nat) (k : List RV → R) (out : Out) (h : (match (Nat.ble xs.length big : Bool) with
  | true => k [.el (.sc (.bo (xs.any notFin)))]
  | false => none) = some out) : ∃ rs, Real Try.prog 113 ∧ COK Try.prog 113 [.vw none ⟨.f32, xs⟩, .fn 114 []] rs ∧ k rs = some out := by
  cases g0 : (Nat.ble xs.length big : Bool) with
  | true =>
    rw [g0] at h
    exact ⟨_, real Try.func113 (by kernel_rfl), fn_ok tok3 (A := none0) (L := noL) (r := none) Try.func113 (by kernel_rfl) (by kernel_rfl) (loops0 (by kernel_rfl)) (by rw [s113, g0]), h⟩
  | false =>
    rw [g0] at h
    cases h

/-! slices.ContainsFunc[[]float32,float32] -/
theorem e113b (xs : List Nat) : runFn T3 none0 noL Try.f113 [.vw none ⟨.f32, xs⟩, .fn 121 []] = (match (Nat.ble xs.length big : Bool) with
  | true => some ⟨[.el (.sc (.bo (decide ((firstAt notPos xs : Int) ≥ 0))))], none⟩
  | false => none) := by kernel_rfl
theorem s113b (xs : List Nat) : runFn T3 none0 noL Try.f113 [.vw none ⟨.f32, xs⟩, .fn 121 []] = (match (Nat.ble xs.length big : Bool) with
  | true => some ⟨[.el (.sc (.bo (xs.any notPos)))], none⟩
  | false => none) := by
  rw [e113b]
  rw [any_firstAt]
theorem c113b (xs : List Nat) (k : List RV → R) (out : Out) (h : (match (Nat.ble xs.length big : Bool) with
  | true => k [.el (.sc (.bo (xs.any notPos)))]
  | false => none) = some out) : ∃ rs, Real Try.prog 113 ∧ COK Try.prog 113 [.vw none ⟨.f32, xs⟩, .fn 121 []] rs ∧ k rs = some out := by
  cases g0 : (Nat.ble xs.length big : Bool) with
  | true =>
    rw [g0] at h
    exact ⟨_, real Try.func113 (by kernel_rfl), fn_ok tok3 (A := none0) (L := noL) (r := none) Try.func113 (by kernel_rfl) (by kernel_rfl) (loops0 (by kernel_rfl)) (by rw [s113b, g0]), h⟩
  | false =>
    rw [g0] at h
    cases h

/-! spec.l01LogWide -/
def a120 : Ann := ann [(8, [0, 3], [0, 3]), (11, [0, 3], [0, 3]), (18, [3, 4, 5, 6, 7], [3, 4, 6])] [2] 0
def lp120 : St → (Ex → St → R) → R := fun s k => match s with
  | ⟨[(0, .fv (.el (.sc (.fl .f64 y)))), (3, .fv (.el (.sc (.int .i64 e))))], []⟩ => (match ((!fcmp .geq .f64 (lgUp 200 y).1 4609434218613702656 && (decide (-5000 ≤ e ∧ e ≤ 5000) && Nat.ble (lgUp 200 y).2 400)) : Bool) with
    | true => k (.exit 1) ⟨[(0, .fv (.el (.sc (.fl .f64 ((lgUp 200 y).1))))), (3, .fv (.el (.sc (.int .i64 (e + ((lgUp 200 y).2 : Int))))))], []⟩
    | false => none)
  | _ => none
def lp120_1 : St → (Ex → St → R) → R := fun s k => match s with
  | ⟨[(0, .fv (.el (.sc (.fl .f64 y)))), (3, .fv (.el (.sc (.int .i64 e))))], []⟩ => (match ((!fcmp .lss .f64 (lgDn 200 y).1 4604930618986332160 && (decide (-5000 ≤ e ∧ e ≤ 5000) && Nat.ble (lgDn 200 y).2 400)) : Bool) with
    | true => k (.exit 3) ⟨[(0, .fv (.el (.sc (.fl .f64 ((lgDn 200 y).1))))), (3, .fv (.el (.sc (.int .i64 (e - ((lgDn 200 y).2 : Int))))))], []⟩
    | false => none)
  | _ => none
def lp120_2 : St → (Ex → St → R) → R := fun s k => match s with
  | ⟨[(3, .fv (.el (.sc (.int .i64 e)))), (4, .fv (.el (.sc (.fl .f64 z)))), (5, .fv (.el (.sc (.fl .f64 u)))), (6, .fv (.el (.sc (.fl .f64 q)))), (7, .fv (.el (.sc (.int .i64 i))))], []⟩ => (match (decide (i = 25) : Bool) with
    | true => k (.exit 5) ⟨[(3, .fv (.el (.sc (.int .i64 e)))), (4, .fv (.el (.sc (.fl .f64 z)))), (6, .fv (.el (.sc (.fl .f64 (lgPoly u q)))))], []⟩
    | false => none)
  | _ => none
def l120 : Loops := fun key s k => bif Nat.beq key 8 then lp120 s k else bif Nat.beq key 11 then lp120_1 s k else bif Nat.beq key 18 then lp120_2 s k else none
theorem st120 (y : Nat) (e : Int) (m : Nat) (k : Ex → St → R) : iterK a120 [0, 3] [0, 3] (codeK T3 a120 l120 Try.f120.ntmps (loopAt Try.f120 0)) (m + 1) ⟨[(0, .fv (.el (.sc (.fl .f64 y)))), (3, .fv (.el (.sc (.int .i64 e))))], []⟩ k = (match (fcmp .geq .f64 y 4609434218613702656 : Bool) with
  | true => iterK a120 [0, 3] [0, 3] (codeK T3 a120 l120 Try.f120.ntmps (loopAt Try.f120 0)) m ⟨[(0, .fv (.el (.sc (.fl .f64 (fop .quo .f64 y 4611686018427387904))))), (3, .fv (.el (.sc (.int .i64 (IntKind.i64.wrap (e + 1))))))], []⟩ k
  | false => k (.exit 1) ⟨[(0, .fv (.el (.sc (.fl .f64 y)))), (3, .fv (.el (.sc (.int .i64 e))))], []⟩) := by kernel_rfl
theorem ind120 (k : Ex → St → R) : ∀ (m y : Nat) (e : Int), -8000 ≤ e - m → e + m ≤ 8000 → fcmp .geq .f64 (lgUp m y).1 4609434218613702656 = false → iterK a120 [0, 3] [0, 3] (codeK T3 a120 l120 Try.f120.ntmps (loopAt Try.f120 0)) (m + 1) ⟨[(0, .fv (.el (.sc (.fl .f64 y)))), (3, .fv (.el (.sc (.int .i64 e))))], []⟩ k = k (.exit 1) ⟨[(0, .fv (.el (.sc (.fl .f64 ((lgUp m y).1))))), (3, .fv (.el (.sc (.int .i64 (e + ((lgUp m y).2 : Int))))))], []⟩ := by
  intro m
  induction m with
  | zero =>
    intro y e h0 hq hd
    rw [st120]
    have hd2 : fcmp .geq .f64 y 4609434218613702656 = false := hd
    rw [hd2]
    have he : e + ((lgUp 0 y).2 : Int) = e := by show e + ((0 : Nat) : Int) = e; omega
    rw [he]
    rfl
  | succ m ih =>
    intro y e h0 hq hd
    have hw : IntKind.i64.wrap (e + 1) = e + 1 := wrap64 (by omega) (by omega)
    rw [st120, hw]
    unfold lgUp at hd ⊢
    cases hg : fcmp .geq .f64 y 4609434218613702656 with
    | true =>
      rw [hg] at hd
      refine (ih (fop .quo .f64 y 4611686018427387904) (e + 1) (by omega) (by omega) hd).trans ?_
      have he : ∀ c : Nat, e + 1 + (c : Int) = e + ((c + 1 : Nat) : Int) := by intro c; omega
      rw [he]
      rfl
    | false =>
      have he : e + ((0 : Nat) : Int) = e := by omega
      show _ = k (.exit 1) ⟨[(0, .fv (.el (.sc (.fl .f64 y)))), (3, .fv (.el (.sc (.int .i64 (e + ((0 : Nat) : Int))))))], []⟩
      rw [he]

theorem lk120 : LOK T3 a120 l120 Try.f120.ntmps (loopAt Try.f120 0) := by
  intro ins outs hA s k out h
  have hA' : ([0, 3], [0, 3]) = (ins, outs) := Option.some.inj ((show a120.lp (firstRegion (loopAt Try.f120 0)) = some ([0, 3], [0, 3]) by kernel_rfl).symm.trans hA)
  cases hA'
  have hk : firstRegion (loopAt Try.f120 0) = 8 := by kernel_rfl
  rw [hk] at h
  change lp120 s k = some out at h
  unfold lp120 at h
  split at h
  · rename_i y e
    cases hg : (!fcmp .geq .f64 (lgUp 200 y).1 4609434218613702656 && (decide (-5000 ≤ e ∧ e ≤ 5000) && Nat.ble (lgUp 200 y).2 400)) with
    | false => rw [hg] at h; cases h
    | true =>
      rw [hg] at h
      simp only [Bool.and_eq_true, decide_eq_true_eq] at hg
      obtain ⟨hd, he, hm⟩ := hg
      refine ⟨201, ?_⟩
      rw [Bool.not_eq_true'] at hd
      exact (ind120 k 200 y e (by omega) (by omega) hd).trans h
  · cases h
theorem st120_1 (y : Nat) (e : Int) (m : Nat) (k : Ex → St → R) : iterK a120 [0, 3] [0, 3] (codeK T3 a120 l120 Try.f120.ntmps (loopAt Try.f120 1)) (m + 1) ⟨[(0, .fv (.el (.sc (.fl .f64 y)))), (3, .fv (.el (.sc (.int .i64 e))))], []⟩ k = (match (fcmp .lss .f64 y 4604930618986332160 : Bool) with
  | true => iterK a120 [0, 3] [0, 3] (codeK T3 a120 l120 Try.f120.ntmps (loopAt Try.f120 1)) m ⟨[(0, .fv (.el (.sc (.fl .f64 (fop .mul .f64 y 4611686018427387904))))), (3, .fv (.el (.sc (.int .i64 (IntKind.i64.wrap (e - 1))))))], []⟩ k
  | false => k (.exit 3) ⟨[(0, .fv (.el (.sc (.fl .f64 y)))), (3, .fv (.el (.sc (.int .i64 e))))], []⟩) := by kernel_rfl
theorem ind120_1 (k : Ex → St → R) : ∀ (m y : Nat) (e : Int), -8000 ≤ e - m → e + m ≤ 8000 → fcmp .lss .f64 (lgDn m y).1 4604930618986332160 = false → iterK a120 [0, 3] [0, 3] (codeK T3 a120 l120 Try.f120.ntmps (loopAt Try.f120 1)) (m + 1) ⟨[(0, .fv (.el (.sc (.fl .f64 y)))), (3, .fv (.el (.sc (.int .i64 e))))], []⟩ k = k (.exit 3) ⟨[(0, .fv (.el (.sc (.fl .f64 ((lgDn m y).1))))), (3, .fv (.el (.sc (.int .i64 (e - ((lgDn m y).2 : Int))))))], []⟩ := by
  intro m
  induction m with
  | zero =>
    intro y e h0 hq hd
    rw [st120_1]
    have hd2 : fcmp .lss .f64 y 4604930618986332160 = false := hd
    rw [hd2]
    have he : e - ((lgDn 0 y).2 : Int) = e := by show e - ((0 : Nat) : Int) = e; omega
    rw [he]
    rfl
  | succ m ih =>
    intro y e h0 hq hd
    have hw : IntKind.i64.wrap (e - 1) = e - 1 := wrap64 (by omega) (by omega)
    rw [st120_1, hw]
    unfold lgDn at hd ⊢
    cases hg : fcmp .lss .f64 y 4604930618986332160 with
    | true =>
      rw [hg] at hd
      refine (ih (fop .mul .f64 y 4611686018427387904) (e - 1) (by omega) (by omega) hd).trans ?_
      have he : ∀ c : Nat, e - 1 - (c : Int) = e - ((c + 1 : Nat) : Int) := by intro c; omega
      rw [he]
      rfl
    | false =>
      have he : e - ((0 : Nat) : Int) = e := by omega
      show _ = k (.exit 3) ⟨[(0, .fv (.el (.sc (.fl .f64 y)))), (3, .fv (.el (.sc (.int .i64 (e - ((0 : Nat) : Int))))))], []⟩
      rw [he]

theorem lk120_1 : LOK T3 a120 l120 Try.f120.ntmps (loopAt Try.f120 1) := by
  intro ins outs hA s k out h
  have hA' : ([0, 3], [0, 3]) = (ins, outs) := Option.some.inj ((show a120.lp (firstRegion (loopAt Try.f120 1)) = some ([0, 3], [0, 3]) by kernel_rfl).symm.trans hA)
  cases hA'
  have hk : firstRegion (loopAt Try.f120 1) = 11 := by kernel_rfl
  rw [hk] at h
  change lp120_1 s k = some out at h
  unfold lp120_1 at h
  split at h
  · rename_i y e
    cases hg : (!fcmp .lss .f64 (lgDn 200 y).1 4604930618986332160 && (decide (-5000 ≤ e ∧ e ≤ 5000) && Nat.ble (lgDn 200 y).2 400)) with
    | false => rw [hg] at h; cases h
    | true =>
      rw [hg] at h
      simp only [Bool.and_eq_true, decide_eq_true_eq] at hg
      obtain ⟨hd, he, hm⟩ := hg
      refine ⟨201, ?_⟩
      rw [Bool.not_eq_true'] at hd
      exact (ind120_1 k 200 y e (by omega) (by omega) hd).trans h
  · cases h
theorem st120_2 (e : Int) (z : Nat) (u : Nat) (q : Nat) (i : Int) (m : Nat) (k : Ex → St → R) : iterK a120 [3, 4, 5, 6, 7] [3, 4, 6] (codeK T3 a120 l120 Try.f120.ntmps (loopAt Try.f120 2)) (m + 1) ⟨[(3, .fv (.el (.sc (.int .i64 e)))), (4, .fv (.el (.sc (.fl .f64 z)))), (5, .fv (.el (.sc (.fl .f64 u)))), (6, .fv (.el (.sc (.fl .f64 q)))), (7, .fv (.el (.sc (.int .i64 i))))], []⟩ k = (match (decide ((i : Int) ≥ 1) : Bool) with
  | true => iterK a120 [3, 4, 5, 6, 7] [3, 4, 6] (codeK T3 a120 l120 Try.f120.ntmps (loopAt Try.f120 2)) m ⟨[(3, .fv (.el (.sc (.int .i64 e)))), (4, .fv (.el (.sc (.fl .f64 z)))), (5, .fv (.el (.sc (.fl .f64 u)))), (6, .fv (.el (.sc (.fl .f64 (fop .add .f64 (fop .quo .f64 4607182418800017408 (fint .f64 i)) (fop .mul .f64 u q)))))), (7, .fv (.el (.sc (.int .i64 (IntKind.i64.wrap (i - 2))))))], []⟩ k
  | false => k (.exit 5) ⟨[(3, .fv (.el (.sc (.int .i64 e)))), (4, .fv (.el (.sc (.fl .f64 z)))), (6, .fv (.el (.sc (.fl .f64 q))))], []⟩) := by kernel_rfl
theorem un120_2 (e : Int) (z : Nat) (u : Nat) (q : Nat) (k : Ex → St → R) : iterK a120 [3, 4, 5, 6, 7] [3, 4, 6] (codeK T3 a120 l120 Try.f120.ntmps (loopAt Try.f120 2)) 14 ⟨[(3, .fv (.el (.sc (.int .i64 e)))), (4, .fv (.el (.sc (.fl .f64 z)))), (5, .fv (.el (.sc (.fl .f64 u)))), (6, .fv (.el (.sc (.fl .f64 q)))), (7, .fv (.el (.sc (.int .i64 25))))], []⟩ k = k (.exit 5) ⟨[(3, .fv (.el (.sc (.int .i64 e)))), (4, .fv (.el (.sc (.fl .f64 z)))), (6, .fv (.el (.sc (.fl .f64 (lgPoly u q)))))], []⟩ := by kernel_rfl

theorem lk120_2 : LOK T3 a120 l120 Try.f120.ntmps (loopAt Try.f120 2) := by
  intro ins outs hA s k out h
  have hA' : ([3, 4, 5, 6, 7], [3, 4, 6]) = (ins, outs) := Option.some.inj ((show a120.lp (firstRegion (loopAt Try.f120 2)) = some ([3, 4, 5, 6, 7], [3, 4, 6]) by kernel_rfl).symm.trans hA)
  cases hA'
  have hk : firstRegion (loopAt Try.f120 2) = 18 := by kernel_rfl
  rw [hk] at h
  change lp120_2 s k = some out at h
  unfold lp120_2 at h
  split at h
  · rename_i e z u q i
    cases hg : decide (i = 25) with
    | false => rw [hg] at h; cases h
    | true =>
      rw [hg] at h
      replace hg := of_decide_eq_true hg
      subst hg
      refine ⟨14, ?_⟩
      exact (un120_2 e z u q k).trans h
  · cases h
theorem e120 (y : Nat) : runFn T3 a120 l120 Try.f120 [.el (.sc (.fl .f64 y))] = (match (fcmp .neq .f64 y y : Bool) with
  | true => some ⟨[.el (.sc (.fl .f64 (nanOf .f64)))], none⟩
  | false => (match (fcmp .lss .f64 y 0 : Bool) with
    | true => some ⟨[.el (.sc (.fl .f64 (nanOf .f64)))], none⟩
    | false => (match (fcmp .eql .f64 y 0 : Bool) with
      | true => some ⟨[.el (.sc (.fl .f64 (infOf ((-1)))))], none⟩
      | false => (match (1 == (1 : Int) : Bool) with
        | true => (match (fcmp .gtr .f64 y 9218868437227405311 : Bool) with
          | true => some ⟨[.el (.sc (.fl .f64 y))], none⟩
          | false => (match ((!fcmp .geq .f64 (lgUp 200 y).1 4609434218613702656 && (decide (-5000 ≤ 0 ∧ 0 ≤ 5000) && Nat.ble (lgUp 200 y).2 400)) : Bool) with
            | true => (match ((!fcmp .lss .f64 (lgDn 200 ((lgUp 200 y).1)).1 4604930618986332160 && (decide (-5000 ≤ (0 + ((lgUp 200 y).2 : Int)) ∧ (0 + ((lgUp 200 y).2 : Int)) ≤ 5000) && Nat.ble (lgDn 200 ((lgUp 200 y).1)).2 400)) : Bool) with
              | true => (match (decide (25 = 25) : Bool) with
                | true => some ⟨[.el (.sc (.fl .f64 (fop .add .f64 (fop .mul .f64 4611686018427387904 (fop .mul .f64 ((fop .quo .f64 (fop .sub .f64 ((lgDn 200 ((lgUp 200 y).1)).1) 4607182418800017408) (fop .add .f64 ((lgDn 200 ((lgUp 200 y).1)).1) 4607182418800017408))) (lgPoly (fop .mul .f64 (fop .quo .f64 (fop .sub .f64 ((lgDn 200 ((lgUp 200 y).1)).1) 4607182418800017408) (fop .add .f64 ((lgDn 200 ((lgUp 200 y).1)).1) 4607182418800017408)) (fop .quo .f64 (fop .sub .f64 ((lgDn 200 ((lgUp 200 y).1)).1) 4607182418800017408) (fop .add .f64 ((lgDn 200 ((lgUp 200 y).1)).1) 4607182418800017408))) 0))) (fop .mul .f64 (fint .f64 ((((0 + ((lgUp 200 y).2 : Int))) - ((lgDn 200 ((lgUp 200 y).1)).2 : Int)))) 4604418534313441775))))], none⟩
                | false => none)
              | false => none)
            | false => none))
        | false => none)))) := by kernel_rfl
theorem s120 (y : Nat) (hg : ((fcmp .neq .f64 y y || fcmp .lss .f64 y 0) || (fcmp .eql .f64 y 0 || (fcmp .gtr .f64 y 9218868437227405311 || lgIn y))) = true) : runFn T3 a120 l120 Try.f120 [.el (.sc (.fl .f64 y))] = (match (fcmp .neq .f64 y y || fcmp .lss .f64 y 0 : Bool) with
  | true => some ⟨[.el (.sc (.fl .f64 (nanOf .f64)))], none⟩
  | false => (match (fcmp .eql .f64 y 0 : Bool) with
    | true => some ⟨[.el (.sc (.fl .f64 (infOf (-1))))], none⟩
    | false => (match (fcmp .gtr .f64 y 9218868437227405311 : Bool) with
      | true => some ⟨[.el (.sc (.fl .f64 y))], none⟩
      | false => some ⟨[.el (.sc (.fl .f64 (logV y)))], none⟩))) := by
  rw [e120]
  cases h1 : fcmp .neq .f64 y y with
  | true => rfl
  | false =>
    cases h2 : fcmp .lss .f64 y 0 with
    | true => rfl
    | false =>
      cases h3 : fcmp .eql .f64 y 0 with
      | true => rfl
      | false =>
        cases h4 : fcmp .gtr .f64 y 9218868437227405311 with
        | true => rfl
        | false =>
          cases h5 : lgIn y with
          | false => (rw [h1, h2, h3, h4, h5] at hg; cases hg)
          | true =>
            obtain ⟨f1, f2, f3, f4, f5, f6, f7, f8, f9, f10, f11, f12, f13, f14⟩ := lg_all (lgIn_of h5).1 (lgIn_of h5).2
            have b1 : Nat.ble (lgUp 200 y).2 400 = true := Nat.ble_eq_true_of_le (by omega)
            have b2 : Nat.ble (lgDn 200 y).2 400 = true := Nat.ble_eq_true_of_le (by omega)
            have b3 : Nat.ble (lgUp 200 (lgDn 200 y).1).2 400 = true := Nat.ble_eq_true_of_le (by omega)
            have hN1 : (0 : Int) + ((lgUp 200 y).2 : Int) = ((lgUp 200 y).2 : Int) := Int.zero_add _
            have hN2 : ((lgUp 200 y).2 : Int) - ((lgDn 200 (lgUp 200 y).1).2 : Int) = lgN y := rfl
            have hX : (lgDn 200 (lgUp 200 y).1).1 = lgX y := rfl
            have i1 : (-5000 : Int) ≤ ((lgUp 200 y).2 : Int) ∧ ((lgUp 200 y).2 : Int) ≤ 5000 := by omega
            have b4 : Nat.ble (lgDn 200 (lgUp 200 y).1).2 400 = true := Nat.ble_eq_true_of_le (by unfold lgN at f10; omega)
            rw [hX] at f2
            simp only [f1, f2, hN1, hN2, hX, i1, b1, b4, and_self, decide_true, Bool.not_false, Bool.and_self, Bool.true_and, Bool.and_true]
            rfl
theorem c120 (y : Nat) (k : List RV → R) (out : Out) (h : (match ((fcmp .neq .f64 y y || fcmp .lss .f64 y 0) || (fcmp .eql .f64 y 0 || (fcmp .gtr .f64 y 9218868437227405311 || lgIn y)) : Bool) with
  | true => (match (fcmp .neq .f64 y y || fcmp .lss .f64 y 0 : Bool) with
    | true => k [.el (.sc (.fl .f64 (nanOf .f64)))]
    | false => (match (fcmp .eql .f64 y 0 : Bool) with
      | true => k [.el (.sc (.fl .f64 (infOf (-1))))]
      | false => (match (fcmp .gtr .f64 y 9218868437227405311 : Bool) with
        | true => k [.el (.sc (.fl .f64 y))]
        | false => k [.el (.sc (.fl .f64 (logV y)))])))
  | false => none) = some out) : ∃ rs, Real Try.prog 120 ∧ COK Try.prog 120 [.el (.sc (.fl .f64 y))] rs ∧ k rs = some out := by
  cases g0 : ((fcmp .neq .f64 y y || fcmp .lss .f64 y 0) || (fcmp .eql .f64 y 0 || (fcmp .gtr .f64 y 9218868437227405311 || lgIn y)) : Bool) with
  | true =>
    rw [g0] at h
    cases g1 : (fcmp .neq .f64 y y || fcmp .lss .f64 y 0 : Bool) with
    | true =>
      rw [g1] at h
      exact ⟨_, real Try.func120 (by kernel_rfl), fn_ok tok3 (A := a120) (L := l120) (r := none) Try.func120 (by kernel_rfl) (by kernel_rfl) (loops3 (by kernel_rfl) lk120 lk120_1 lk120_2) (by rw [s120 _ g0, g1]), h⟩
    | false =>
      rw [g1] at h
      cases g2 : (fcmp .eql .f64 y 0 : Bool) with
      | true =>
        rw [g2] at h
        exact ⟨_, real Try.func120 (by kernel_rfl), fn_ok tok3 (A := a120) (L := l120) (r := none) Try.func120 (by kernel_rfl) (by kernel_rfl) (loops3 (by kernel_rfl) lk120 lk120_1 lk120_2) (by rw [s120 _ g0, g1, g2]), h⟩
      | false =>
        rw [g2] at h
        cases g3 : (fcmp .gtr .f64 y 9218868437227405311 : Bool) with
        | true =>
          rw [g3] at h
          exact ⟨_, real Try.func120 (by kernel_rfl), fn_ok tok3 (A := a120) (L := l120) (r := none) Try.func120 (by kernel_rfl) (by kernel_rfl) (loops3 (by kernel_rfl) lk120 lk120_1 lk120_2) (by rw [s120 _ g0, g1, g2, g3]), h⟩
        | false =>
          rw [g3] at h
          exact ⟨_, real Try.func120 (by kernel_rfl), fn_ok tok3 (A := a120) (L := l120) (r := none) Try.func120 (by kernel_rfl) (by kernel_rfl) (loops3 (by kernel_rfl) lk120 lk120_1 lk120_2) (by rw [s120 _ g0, g1, g2, g3]), h⟩
  | false =>
    rw [g0] at h
    cases h

def S4 : SFn := fun f args k => match f, args with
  | 113, [.vw none ⟨.f32, xs⟩, .fn 114 []] => (match (Nat.ble xs.length big : Bool) with
    | true => k [.el (.sc (.bo (xs.any notFin)))]
    | false => none)
  | 113, [.vw none ⟨.f32, xs⟩, .fn 121 []] => (match (Nat.ble xs.length big : Bool) with
    | true => k [.el (.sc (.bo (xs.any notPos)))]
    | false => none)
  | 120, [.el (.sc (.fl .f64 y))] => (match ((fcmp .neq .f64 y y || fcmp .lss .f64 y 0) || (fcmp .eql .f64 y 0 || (fcmp .gtr .f64 y 9218868437227405311 || lgIn y)) : Bool) with
    | true => (match (fcmp .neq .f64 y y || fcmp .lss .f64 y 0 : Bool) with
      | true => k [.el (.sc (.fl .f64 (nanOf .f64)))]
      | false => (match (fcmp .eql .f64 y 0 : Bool) with
        | true => k [.el (.sc (.fl .f64 (infOf (-1))))]
        | false => (match (fcmp .gtr .f64 y 9218868437227405311 : Bool) with
          | true => k [.el (.sc (.fl .f64 y))]
          | false => k [.el (.sc (.fl .f64 (logV y)))])))
    | false => none)
  | _, _ => S3 f args k
abbrev M4 : MFn := M3
def T4 : TT := tab.T S4 muts M4
theorem tok4 : TOK Try.prog T4 := by
  refine (tab_ok tabok).tok (fun f args k out h => ?_) (fun f vec args k out h => ?_)
  · change S4 f args k = some out at h
    unfold S4 at h
    split at h
    · exact (fun k out h => cok_call (c113 _ k out h)) k out h
    · exact (fun k out h => cok_call (c113b _ k out h)) k out h
    · exact (fun k out h => cok_call (c120 _ k out h)) k out h
    · exact tok3.S f args k out h
  · exact tok3.M f vec args k out h

end Go.Sm.Ytlkphfpkohabeaa
