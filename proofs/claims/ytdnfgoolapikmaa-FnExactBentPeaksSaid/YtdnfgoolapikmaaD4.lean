/- What the functions hand back: level 3. -/
import Derived.Test.YtdnfgoolapikmaaD3
namespace Go.Sm.Ytdnfgoolapikmaa
open Go Go.Sm Go.RowKit Go.Proofs

/-! spec.PadScan -/
def a15 : Ann := ann [(4, [1, 6], [6])] [4, 5] 0
def lp15 : St → (Ex → St → R) → R := fun s k => match s with
  | ⟨[(1, .fv (.el (.sc (.int .i64 n)))), (6, .fv (.own 0))], [some ⟨37, ⟨.f32, zs⟩⟩]⟩ => (match (decide (n ≤ 1099511627776) && Nat.ble (zs : List Nat).length big : Bool) with
    | true => k (.exit 0) ⟨[(6, .fv (.own 0))], [some ⟨37, ⟨.f32, padX (zs : List Nat) n⟩⟩]⟩
    | false => none)
  | _ => none
def l15 : Loops := fun key s k => bif Nat.beq key 4 then lp15 s k else none
theorem st15 (n : Int) (zs : List Nat) (m : Nat) (k : Ex → St → R) : iterK a15 [1, 6] [6] (codeK T3 a15 l15 Try.f15.ntmps (loopAt Try.f15 0)) (m + 1) ⟨[(1, .fv (.el (.sc (.int .i64 n)))), (6, .fv (.own 0))], [some ⟨37, ⟨.f32, zs⟩⟩]⟩ k = (match (decide (((zs.length : Int) : Int) < n) : Bool) with
  | true => (match (Nat.beq 37 37 && decide ((zs : List Nat).length + ([0] : List Nat).length ≤ 1099511627776) : Bool) with
    | true => iterK a15 [1, 6] [6] (codeK T3 a15 l15 Try.f15.ntmps (loopAt Try.f15 0)) m ⟨[(1, .fv (.el (.sc (.int .i64 n)))), (6, .fv (.own 0))], [some ⟨37, ⟨.f32, (zs : List Nat) ++ ([0])⟩⟩]⟩ k
    | false => none)
  | false => k (.exit 0) ⟨[(6, .fv (.own 0))], [some ⟨37, ⟨.f32, zs⟩⟩]⟩) := by kernel_rfl
theorem ind15 (n : Int) (hn : n ≤ 1099511627776) (k : Ex → St → R) : ∀ (m : Nat) (zs : List Nat), n.toNat - zs.length = m → zs.length ≤ 1099511627776 → iterK a15 [1, 6] [6] (codeK T3 a15 l15 Try.f15.ntmps (loopAt Try.f15 0)) (m + 1) ⟨[(1, .fv (.el (.sc (.int .i64 n)))), (6, .fv (.own 0))], [some ⟨37, ⟨.f32, zs⟩⟩]⟩ k =
    k (.exit 0) ⟨[(6, .fv (.own 0))], [some ⟨37, ⟨.f32, padX zs n⟩⟩]⟩ := by
  intro m
  induction m with
  | zero =>
    intro zs hm hz
    have h1 : ¬ ((zs.length : Int) < n) := by omega
    rw [st15]
    unfold padX
    rw [hm]
    simp [h1]
  | succ m ih =>
    intro zs hm hz
    have h1 : ((zs.length : Int) < n) := by omega
    have hbq : Nat.beq 37 37 = true := rfl
    have hzl : zs.length + 1 ≤ 1099511627776 := by omega
    rw [st15]
    simp only [h1, hbq, hzl, List.length_singleton, decide_true, Bool.and_true]
    refine (ih (zs ++ [0]) (by simp; omega) (by simp; omega)).trans ?_
    have e : padX (zs ++ [0]) n = padX zs n := by
      unfold padX
      have h2 : n.toNat - zs.length = n.toNat - (zs ++ [0]).length + 1 := by simp; omega
      rw [h2, List.replicate_succ]
      simp
    rw [e]

theorem lk15 : LOK T3 a15 l15 Try.f15.ntmps (loopAt Try.f15 0) := by
  intro ins outs hA s k out h
  have hA' : ([1, 6], [6]) = (ins, outs) := Option.some.inj ((show a15.lp (firstRegion (loopAt Try.f15 0)) = some ([1, 6], [6]) by kernel_rfl).symm.trans hA)
  cases hA'
  have hk : firstRegion (loopAt Try.f15 0) = 4 := by kernel_rfl
  rw [hk] at h
  change lp15 s k = some out at h
  unfold lp15 at h
  split at h
  · rename_i n zs
    cases hg : (decide (n ≤ 1099511627776) && Nat.ble zs.length big) with
    | false => rw [hg] at h; cases h
    | true =>
      rw [hg] at h
      simp only [Bool.and_eq_true, decide_eq_true_eq] at hg
      obtain ⟨hn, hx⟩ := hg
      refine ⟨n.toNat - zs.length + 1, ?_⟩
      exact (ind15 n hn k (n.toNat - zs.length) zs rfl (big_le hx)).trans h
  · cases h
theorem e15 (xs : List Nat) (n : Int) : runFn T3 a15 l15 Try.f15 [.vw none ⟨.f32, xs⟩, .el (.sc (.int .i64 n))] = (match (!(bins xs 2) : Bool) with
  | true => some ⟨[.nil, .el (.sc (.bo false))], none⟩
  | false => (match (!(within n ((xs.length : Int)) 64) : Bool) with
    | true => some ⟨[.nil, .el (.sc (.bo false))], none⟩
    | false => (match (Nat.beq 37 37 && decide (([] : List Nat).length + (xs : List Nat).length ≤ 1099511627776) : Bool) with
      | true => (match (decide (n ≤ 1099511627776) && Nat.ble (([] : List Nat) ++ xs : List Nat).length big : Bool) with
        | true => some ⟨[.fresh 37 ⟨.f32, padX (([] : List Nat) ++ xs : List Nat) n⟩, .el (.sc (.bo true))], none⟩
        | false => none)
      | false => none))) := by kernel_rfl
theorem s15 (xs : List Nat) (n : Int) : runFn T3 a15 l15 Try.f15 [.vw none ⟨.f32, xs⟩, .el (.sc (.int .i64 n))] = (match (padOk xs n : Bool) with
  | true => some ⟨[.fresh 37 ⟨.f32, padX xs n⟩, .el (.sc (.bo true))], none⟩
  | false => some ⟨[.nil, .el (.sc (.bo false))], none⟩) := by
  rw [e15]
  unfold padOk
  cases h : bins xs 2 with
  | false => simp
  | true =>
    cases h2 : within n (xs.length : Int) 64 with
    | false => simp
    | true =>
      unfold within at h2
      simp only [Bool.and_eq_true, decide_eq_true_eq] at h2
      have hx : xs.length ≤ 1099511627776 := by omega
      have hb : Nat.ble xs.length big = true := big_of hx
      have hn : n ≤ 1099511627776 := by omega
      have hn0 : 0 ≤ n := by omega
      simp [hb, hx, hn]
theorem c15 (xs : List Nat) (n : Int) (k : List RV → R) (out : Out) (h : k [.fresh 37 ⟨.f32, orNil (padOk xs n) (padX xs n)⟩, .el (.sc (.bo (padOk xs n)))] = some out) : ∃ rs, Real Try.prog 15 ∧ COK Try.prog 15 [.vw none ⟨.f32, xs⟩, .el (.sc (.int .i64 n))] rs ∧ k rs = some out := by
  cases g0 : (padOk xs n : Bool) with
  | true =>
    rw [g0] at h
    exact ⟨_, real Try.func15 (by kernel_rfl), fn_ok tok3 (A := a15) (L := l15) (r := none) Try.func15 (by kernel_rfl) (by kernel_rfl) (loops1 (by kernel_rfl) lk15) (by rw [s15, g0]; rfl), h⟩
  | false =>
    rw [g0] at h
    exact ⟨_, real Try.func15 (by kernel_rfl), COK.nil (fn_ok tok3 (A := a15) (L := l15) (r := none) Try.func15 (by kernel_rfl) (by kernel_rfl) (loops1 (by kernel_rfl) lk15) (by rw [s15, g0])), h⟩

/-! spec.LampLine -/
def a31 : Ann := ann [(9, [0, 1, 8, 9, 10, 11, 12], [8, 9, 10, 11])] [4, 5, 6] 0
def lp31 : St → (Ex → St → R) → R := fun s k => match s with
  | ⟨[(0, .fv (.vw (some 0) ⟨.f32, xs⟩)), (1, .fv (.vw (some 1) ⟨.f32, ys⟩)), (8, .fv (.el (.sc (.fl .f32 x)))), (9, .fv (.el (.sc (.fl .f32 y)))), (10, .fv (.el (.sc (.fl .f32 a)))), (11, .fv (.el (.sc (.fl .f32 b)))), (12, .fv (.el (.sc (.int .i64 i))))], []⟩ => (match ((decide (i = 0) && (Nat.ble xs.length big && Nat.ble xs.length ys.length)) : Bool) with
    | true => k (.exit 0) ⟨[(8, .fv (.el (.sc (.fl .f32 x)))), (9, .fv (.el (.sc (.fl .f32 y)))), (10, .fv (.el (.sc (.fl .f32 ((rep (lampF xs ys x y) (xs.length) 0 ((a, b) : Nat × Nat)).1))))), (11, .fv (.el (.sc (.fl .f32 ((rep (lampF xs ys x y) (xs.length) 0 ((a, b) : Nat × Nat)).2)))))], []⟩
    | false => none)
  | _ => none
def l31 : Loops := fun key s k => bif Nat.beq key 9 then lp31 s k else none
theorem st31 (xs : List Nat) (ys : List Nat) (x : Nat) (y : Nat) (a : Nat) (b : Nat) (i : Int) (m : Nat) (k : Ex → St → R) : iterK a31 [0, 1, 8, 9, 10, 11, 12] [8, 9, 10, 11] (codeK T3 a31 l31 Try.f31.ntmps (loopAt Try.f31 0)) (m + 1) ⟨[(0, .fv (.vw (some 0) ⟨.f32, xs⟩)), (1, .fv (.vw (some 1) ⟨.f32, ys⟩)), (8, .fv (.el (.sc (.fl .f32 x)))), (9, .fv (.el (.sc (.fl .f32 y)))), (10, .fv (.el (.sc (.fl .f32 a)))), (11, .fv (.el (.sc (.fl .f32 b)))), (12, .fv (.el (.sc (.int .i64 i))))], []⟩ k = (match (decide ((i : Int) < (xs.length : Int)) : Bool) with
  | true => (match (decide (0 ≤ (i : Int) ∧ (i : Int) < (xs.length : Int)) && true : Bool) with
    | true => (match (xs : List Nat)[Int.toNat i]? with
      | some x1 => (match (decide (0 ≤ (i : Int) ∧ (i : Int) < (ys.length : Int)) && true : Bool) with
        | true => (match (ys : List Nat)[Int.toNat i]? with
          | some x2 => iterK a31 [0, 1, 8, 9, 10, 11, 12] [8, 9, 10, 11] (codeK T3 a31 l31 Try.f31.ntmps (loopAt Try.f31 0)) m ⟨[(0, .fv (.vw (some 0) ⟨.f32, xs⟩)), (1, .fv (.vw (some 1) ⟨.f32, ys⟩)), (8, .fv (.el (.sc (.fl .f32 x)))), (9, .fv (.el (.sc (.fl .f32 y)))), (10, .fv (.el (.sc (.fl .f32 (fop .add .f32 a (fop .mul .f32 (fop .sub .f32 x1 x) (fop .sub .f32 x2 y))))))), (11, .fv (.el (.sc (.fl .f32 (fop .add .f32 b (fop .mul .f32 (fop .sub .f32 x1 x) (fop .sub .f32 x1 x))))))), (12, .fv (.el (.sc (.int .i64 (IntKind.i64.wrap (i + 1))))))], []⟩ k
          | none => none)
        | false => none)
      | none => none)
    | false => none)
  | false => k (.exit 0) ⟨[(8, .fv (.el (.sc (.fl .f32 x)))), (9, .fv (.el (.sc (.fl .f32 y)))), (10, .fv (.el (.sc (.fl .f32 a)))), (11, .fv (.el (.sc (.fl .f32 b))))], []⟩) := by kernel_rfl
theorem ind31 (xs : List Nat) (ys : List Nat) (x : Nat) (y : Nat) (hx : (Nat.ble xs.length big) = true) (hl : (Nat.ble xs.length ys.length) = true) (k : Ex → St → R) : ∀ (m j : Nat) (a : Nat) (b : Nat), 0 ≤ j → j + m = xs.length → iterK a31 [0, 1, 8, 9, 10, 11, 12] [8, 9, 10, 11] (codeK T3 a31 l31 Try.f31.ntmps (loopAt Try.f31 0)) (m + 1) ⟨[(0, .fv (.vw (some 0) ⟨.f32, xs⟩)), (1, .fv (.vw (some 1) ⟨.f32, ys⟩)), (8, .fv (.el (.sc (.fl .f32 x)))), (9, .fv (.el (.sc (.fl .f32 y)))), (10, .fv (.el (.sc (.fl .f32 a)))), (11, .fv (.el (.sc (.fl .f32 b)))), (12, .fv (.el (.sc (.int .i64 (j : Int)))))], []⟩ k =
    k (.exit 0) ⟨[(8, .fv (.el (.sc (.fl .f32 x)))), (9, .fv (.el (.sc (.fl .f32 y)))), (10, .fv (.el (.sc (.fl .f32 ((rep (lampF xs ys x y) m j ((a, b) : Nat × Nat)).1))))), (11, .fv (.el (.sc (.fl .f32 ((rep (lampF xs ys x y) m j ((a, b) : Nat × Nat)).2)))))], []⟩ := by
  intro m
  induction m with
  | zero =>
    intro j a b hlo hj
    have hx_ := big_le hx
    have hl_ := Nat.le_of_ble_eq_true hl
    have h1 : ¬ (((j : Int) < (xs.length : Int))) := by omega
    rw [st31]
    simp only [h1, rep, decide_false] <;> rfl
  | succ m ih =>
    intro j a b hlo hj
    have hx_ := big_le hx
    have hl_ := Nat.le_of_ble_eq_true hl
    have h1 : ((j : Int) < (xs.length : Int)) := by omega
    have pb : (0 : Int) ≤ ((j : Nat) : Int) ∧ ((j : Nat) : Int) < (xs.length : Int) := by omega
    have pq : xs[Int.toNat ((j : Nat) : Int)]? = some (xs.getD (j) 0) := getI (by omega)
    have pp : xs[j]? = some (xs.getD (j) 0) := getI2 (by omega)
    have qb : (0 : Int) ≤ ((j : Nat) : Int) ∧ ((j : Nat) : Int) < (ys.length : Int) := by omega
    have qq : ys[Int.toNat ((j : Nat) : Int)]? = some (ys.getD (j) 0) := getI (by omega)
    have qp : ys[j]? = some (ys.getD (j) 0) := getI2 (by omega)
    have wn : IntKind.i64.wrap ((j : Int) + 1) = ((j + 1 : Nat) : Int) := wrapN (by omega) (by omega)
    rw [st31]
    simp only [h1, wn, pb, pq, pp, qb, qq, qp, and_self, decide_true, Bool.and_true, Int.le_refl]
    exact ih (j + 1) _ _ (by omega) (by omega)

theorem lk31 : LOK T3 a31 l31 Try.f31.ntmps (loopAt Try.f31 0) := by
  intro ins outs hA s k out h
  have hA' : ([0, 1, 8, 9, 10, 11, 12], [8, 9, 10, 11]) = (ins, outs) := Option.some.inj ((show a31.lp (firstRegion (loopAt Try.f31 0)) = some ([0, 1, 8, 9, 10, 11, 12], [8, 9, 10, 11]) by kernel_rfl).symm.trans hA)
  cases hA'
  have hk : firstRegion (loopAt Try.f31 0) = 9 := by kernel_rfl
  rw [hk] at h
  change lp31 s k = some out at h
  unfold lp31 at h
  split at h
  · rename_i xs ys x y a b i
    cases hg : (decide (i = 0) && (Nat.ble xs.length big && Nat.ble xs.length ys.length)) with
    | false => rw [hg] at h; cases h
    | true =>
      rw [hg] at h
      simp only [Bool.and_eq_true, decide_eq_true_eq] at hg
      obtain ⟨rfl, hx, hl⟩ := hg
      refine ⟨(xs.length) + 1, ?_⟩
      have hx_ := big_le hx
      have hl_ := Nat.le_of_ble_eq_true hl
      exact (ind31 xs ys x y hx hl k (xs.length) 0 a b (by omega) (by omega)).trans h
  · cases h
theorem e31 (xs : List Nat) (ys : List Nat) : runFn T3 a31 l31 Try.f31 [.vw none ⟨.f32, xs⟩, .vw none ⟨.f32, ys⟩] = (match (!(lamps xs ys 2) : Bool) with
  | true => some ⟨[.el (.sc (.fl .f32 0)), .el (.sc (.fl .f32 0)), .el (.sc (.bo false))], none⟩
  | false => (match (Nat.ble xs.length big : Bool) with
    | true => (match (Nat.ble ys.length big : Bool) with
      | true => (match ((decide (0 = 0) && (Nat.ble xs.length big && Nat.ble xs.length ys.length)) : Bool) with
        | true => (match (fcmp .eql .f32 ((rep (lampF xs ys (fop .quo .f32 (sumF xs) (fint .f32 ((xs.length : Int)))) (fop .quo .f32 (sumF ys) (fint .f32 ((xs.length : Int))))) (xs.length) 0 ((0, 0) : Nat × Nat)).2) 0 : Bool) with
          | true => some ⟨[.el (.sc (.fl .f32 0)), .el (.sc (.fl .f32 0)), .el (.sc (.bo false))], none⟩
          | false => (match (!(fin (fop .quo .f32 ((rep (lampF xs ys (fop .quo .f32 (sumF xs) (fint .f32 ((xs.length : Int)))) (fop .quo .f32 (sumF ys) (fint .f32 ((xs.length : Int))))) (xs.length) 0 ((0, 0) : Nat × Nat)).1) ((rep (lampF xs ys (fop .quo .f32 (sumF xs) (fint .f32 ((xs.length : Int)))) (fop .quo .f32 (sumF ys) (fint .f32 ((xs.length : Int))))) (xs.length) 0 ((0, 0) : Nat × Nat)).2))) : Bool) with
            | true => some ⟨[.el (.sc (.fl .f32 0)), .el (.sc (.fl .f32 0)), .el (.sc (.bo false))], none⟩
            | false => (match (!(fin (fop .sub .f32 ((fop .quo .f32 (sumF ys) (fint .f32 ((xs.length : Int))))) (fop .mul .f32 (fop .quo .f32 ((rep (lampF xs ys (fop .quo .f32 (sumF xs) (fint .f32 ((xs.length : Int)))) (fop .quo .f32 (sumF ys) (fint .f32 ((xs.length : Int))))) (xs.length) 0 ((0, 0) : Nat × Nat)).1) ((rep (lampF xs ys (fop .quo .f32 (sumF xs) (fint .f32 ((xs.length : Int)))) (fop .quo .f32 (sumF ys) (fint .f32 ((xs.length : Int))))) (xs.length) 0 ((0, 0) : Nat × Nat)).2)) ((fop .quo .f32 (sumF xs) (fint .f32 ((xs.length : Int)))))))) : Bool) with
              | true => some ⟨[.el (.sc (.fl .f32 0)), .el (.sc (.fl .f32 0)), .el (.sc (.bo false))], none⟩
              | false => some ⟨[.el (.sc (.fl .f32 (fop .sub .f32 ((fop .quo .f32 (sumF ys) (fint .f32 ((xs.length : Int))))) (fop .mul .f32 (fop .quo .f32 ((rep (lampF xs ys (fop .quo .f32 (sumF xs) (fint .f32 ((xs.length : Int)))) (fop .quo .f32 (sumF ys) (fint .f32 ((xs.length : Int))))) (xs.length) 0 ((0, 0) : Nat × Nat)).1) ((rep (lampF xs ys (fop .quo .f32 (sumF xs) (fint .f32 ((xs.length : Int)))) (fop .quo .f32 (sumF ys) (fint .f32 ((xs.length : Int))))) (xs.length) 0 ((0, 0) : Nat × Nat)).2)) ((fop .quo .f32 (sumF xs) (fint .f32 ((xs.length : Int))))))))), .el (.sc (.fl .f32 (fop .quo .f32 ((rep (lampF xs ys (fop .quo .f32 (sumF xs) (fint .f32 ((xs.length : Int)))) (fop .quo .f32 (sumF ys) (fint .f32 ((xs.length : Int))))) (xs.length) 0 ((0, 0) : Nat × Nat)).1) ((rep (lampF xs ys (fop .quo .f32 (sumF xs) (fint .f32 ((xs.length : Int)))) (fop .quo .f32 (sumF ys) (fint .f32 ((xs.length : Int))))) (xs.length) 0 ((0, 0) : Nat × Nat)).2)))), .el (.sc (.bo true))], none⟩)))
        | false => none)
      | false => none)
    | false => none)) := by kernel_rfl
theorem s31 (xs : List Nat) (ys : List Nat) : runFn T3 a31 l31 Try.f31 [.vw none ⟨.f32, xs⟩, .vw none ⟨.f32, ys⟩] = some ⟨[.el (.sc (.fl .f32 (orZero (lampOk xs ys) (lampBase xs ys)))), .el (.sc (.fl .f32 (orZero (lampOk xs ys) (lampSlope xs ys)))), .el (.sc (.bo (lampOk xs ys)))], none⟩ := by
  rw [e31]
  cases h : lamps xs ys 2 with
  | false => simp [lampOk, h, orZero]
  | true =>
    have h2 := h
    unfold lamps at h2
    simp only [Bool.and_eq_true, decide_eq_true_eq] at h2
    have hx : Nat.ble xs.length big = true := big_of (by omega)
    have hy : Nat.ble ys.length big = true := big_of (by omega)
    have hl : Nat.ble xs.length ys.length = true := Nat.ble_eq_true_of_le (by omega)
    have hl2 : ys.length = xs.length := by omega
    have e1 : fop .quo .f32 (sumF xs) (fint .f32 (xs.length : Int)) = meanF xs := rfl
    have e2 : fop .quo .f32 (sumF ys) (fint .f32 (xs.length : Int)) = meanF ys := by unfold meanF; rw [hl2]
    try rw [e1, e2]
    simp only [hx, hy, hl, decide_true, Bool.true_and, Bool.and_true, Bool.not_true]
    unfold lampOk lampBase lampSlope lampS orZero
    rw [h]
    generalize rep (lampF xs ys (meanF xs) (meanF ys)) xs.length 0 (0, 0) = S
    cases fcmp .eql .f32 S.2 0 <;> simp
    cases h5 : fin (fop .quo .f32 S.1 S.2) <;> cases h6 : fin (fop .sub .f32 (meanF ys) (fop .mul .f32 (fop .quo .f32 S.1 S.2) (meanF xs))) <;> simp [h5, h6]
theorem c31 (xs : List Nat) (ys : List Nat) (k : List RV → R) (out : Out) (h : k [.el (.sc (.fl .f32 (orZero (lampOk xs ys) (lampBase xs ys)))), .el (.sc (.fl .f32 (orZero (lampOk xs ys) (lampSlope xs ys)))), .el (.sc (.bo (lampOk xs ys)))] = some out) : ∃ rs, Real Try.prog 31 ∧ COK Try.prog 31 [.vw none ⟨.f32, xs⟩, .vw none ⟨.f32, ys⟩] rs ∧ k rs = some out := by
  exact ⟨_, real Try.func31 (by kernel_rfl), fn_ok tok3 (A := a31) (L := l31) (r := none) Try.func31 (by kernel_rfl) (by kernel_rfl) (loops1 (by kernel_rfl) lk31) (by rw [s31]), h⟩

/-! spec.CosmicMarks -/
def a35 : Ann := ann [(5, [0, 1, 6, 7], [6])] [4, 5] 0
def lp35 : St → (Ex → St → R) → R := fun s k => match s with
  | ⟨[(0, .fv (.vw (some 0) ⟨.f32, xs⟩)), (1, .fv (.el (.sc (.fl .f32 b)))), (6, .fv (.own 0)), (7, .fv (.el (.sc (.int .i64 i))))], [some ⟨2, ⟨.i64, zs⟩⟩]⟩ => (match ((decide (i = 0) && (Nat.ble xs.length big && Nat.ble ((zs : List Int).length + xs.length) big)) : Bool) with
    | true => k (.exit 0) ⟨[(6, .fv (.own 0))], [some ⟨2, ⟨.i64, rep (fun j zs => bif markedS xs b j then zs ++ [(j : Int)] else zs) (xs.length) 0 ((zs : List Int) : (List Int))⟩⟩]⟩
    | false => none)
  | _ => none
def l35 : Loops := fun key s k => bif Nat.beq key 5 then lp35 s k else none
theorem st35 (xs : List Nat) (b : Nat) (i : Int) (zs : List Int) (m : Nat) (k : Ex → St → R) : iterK a35 [0, 1, 6, 7] [6] (codeK T3 a35 l35 Try.f35.ntmps (loopAt Try.f35 0)) (m + 1) ⟨[(0, .fv (.vw (some 0) ⟨.f32, xs⟩)), (1, .fv (.el (.sc (.fl .f32 b)))), (6, .fv (.own 0)), (7, .fv (.el (.sc (.int .i64 i))))], [some ⟨2, ⟨.i64, zs⟩⟩]⟩ k = (match (decide ((i : Int) < (xs.length : Int)) : Bool) with
  | true => (match (decide (0 ≤ i ∧ i ≤ (xs.length : Int)) && Nat.ble xs.length big : Bool) with
    | true => (match (markedS xs b (Int.toNat i) : Bool) with
      | true => (match (Nat.beq 2 2 && decide ((zs : List Int).length + ([i] : List Int).length ≤ 1099511627776) : Bool) with
        | true => iterK a35 [0, 1, 6, 7] [6] (codeK T3 a35 l35 Try.f35.ntmps (loopAt Try.f35 0)) m ⟨[(0, .fv (.vw (some 0) ⟨.f32, xs⟩)), (1, .fv (.el (.sc (.fl .f32 b)))), (6, .fv (.own 0)), (7, .fv (.el (.sc (.int .i64 (IntKind.i64.wrap (i + 1))))))], [some ⟨2, ⟨.i64, (zs : List Int) ++ ([i])⟩⟩]⟩ k
        | false => none)
      | false => iterK a35 [0, 1, 6, 7] [6] (codeK T3 a35 l35 Try.f35.ntmps (loopAt Try.f35 0)) m ⟨[(0, .fv (.vw (some 0) ⟨.f32, xs⟩)), (1, .fv (.el (.sc (.fl .f32 b)))), (6, .fv (.own 0)), (7, .fv (.el (.sc (.int .i64 (IntKind.i64.wrap (i + 1))))))], [some ⟨2, ⟨.i64, zs⟩⟩]⟩ k)
    | false => none)
  | false => k (.exit 0) ⟨[(6, .fv (.own 0))], [some ⟨2, ⟨.i64, zs⟩⟩]⟩) := by kernel_rfl
theorem ind35 (xs : List Nat) (b : Nat) (hx : (Nat.ble xs.length big) = true) (k : Ex → St → R) : ∀ (m j : Nat) (zs : List Int), zs.length + m ≤ 1099511627776 → 0 ≤ j → j + m = xs.length → iterK a35 [0, 1, 6, 7] [6] (codeK T3 a35 l35 Try.f35.ntmps (loopAt Try.f35 0)) (m + 1) ⟨[(0, .fv (.vw (some 0) ⟨.f32, xs⟩)), (1, .fv (.el (.sc (.fl .f32 b)))), (6, .fv (.own 0)), (7, .fv (.el (.sc (.int .i64 (j : Int)))))], [some ⟨2, ⟨.i64, zs⟩⟩]⟩ k =
    k (.exit 0) ⟨[(6, .fv (.own 0))], [some ⟨2, ⟨.i64, rep (fun j zs => bif markedS xs b j then zs ++ [(j : Int)] else zs) m j (zs : (List Int))⟩⟩]⟩ := by
  intro m
  induction m with
  | zero =>
    intro j zs hs0 hlo hj
    have hx_ := big_le hx
    have h1 : ¬ (((j : Int) < (xs.length : Int))) := by omega
    rw [st35]
    simp only [h1, rep, decide_false, hx, Bool.true_and, Int.toNat_natCast, List.length_singleton] <;> rfl
  | succ m ih =>
    intro j zs hs0 hlo hj
    have hx_ := big_le hx
    have h1 : ((j : Int) < (xs.length : Int)) := by omega
    have hbq : Nat.beq 2 2 = true := rfl
    have hzl : zs.length + 1 ≤ 1099511627776 := by omega
    have wj : IntKind.i64.wrap (j : Int) = (j : Int) := wrapN rfl (by omega)
    have h0j : (0 : Int) ≤ (j : Int) := by omega
    have hle : (j : Int) ≤ (xs.length : Int) := by omega
    have wn : IntKind.i64.wrap ((j : Int) + 1) = ((j + 1 : Nat) : Int) := wrapN (by omega) (by omega)
    rw [st35]
    simp only [h1, wn, hbq, hzl, wj, h0j, hle, and_self, decide_true, Bool.and_true, Int.le_refl, hx, Bool.true_and, Int.toNat_natCast, List.length_singleton]
    simp only [rep]
    cases hf : markedS xs b j with
    | true => exact ih (j + 1) _ (by simp; omega) (by omega) (by omega)
    | false => exact ih (j + 1) _ (by omega) (by omega) (by omega)

theorem lk35 : LOK T3 a35 l35 Try.f35.ntmps (loopAt Try.f35 0) := by
  intro ins outs hA s k out h
  have hA' : ([0, 1, 6, 7], [6]) = (ins, outs) := Option.some.inj ((show a35.lp (firstRegion (loopAt Try.f35 0)) = some ([0, 1, 6, 7], [6]) by kernel_rfl).symm.trans hA)
  cases hA'
  have hk : firstRegion (loopAt Try.f35 0) = 5 := by kernel_rfl
  rw [hk] at h
  change lp35 s k = some out at h
  unfold lp35 at h
  split at h
  · rename_i xs b i zs
    cases hg : (decide (i = 0) && (Nat.ble xs.length big && Nat.ble (zs.length + xs.length) big)) with
    | false => rw [hg] at h; cases h
    | true =>
      rw [hg] at h
      simp only [Bool.and_eq_true, decide_eq_true_eq] at hg
      obtain ⟨rfl, hx, gs0⟩ := hg
      refine ⟨(xs.length) + 1, ?_⟩
      have hx_ := big_le hx
      have gs0_ := big_le gs0
      exact (ind35 xs b hx k (xs.length) 0 zs (by omega) (by omega) (by omega)).trans h
  · cases h
theorem e35 (xs : List Nat) (b : Nat) : runFn T3 a35 l35 Try.f35 [.vw none ⟨.f32, xs⟩, .el (.sc (.fl .f32 b))] = (match (!(bins xs 3) : Bool) with
  | true => some ⟨[.nil, .el (.sc (.bo false))], none⟩
  | false => (match (!(atLeast0 b) : Bool) with
    | true => some ⟨[.nil, .el (.sc (.bo false))], none⟩
    | false => (match ((decide (0 = 0) && (Nat.ble xs.length big && Nat.ble (([] : List Int).length + xs.length) big)) : Bool) with
      | true => some ⟨[.fresh 2 ⟨.i64, rep (fun j zs => bif markedS xs b j then zs ++ [(j : Int)] else zs) (xs.length) 0 (([] : List Int) : (List Int))⟩, .el (.sc (.bo true))], none⟩
      | false => none))) := by kernel_rfl
theorem s35 (xs : List Nat) (b : Nat) : runFn T3 a35 l35 Try.f35 [.vw none ⟨.f32, xs⟩, .el (.sc (.fl .f32 b))] = (match (markOk xs b : Bool) with
  | true => some ⟨[.fresh 2 ⟨.i64, marksOf xs b⟩, .el (.sc (.bo true))], none⟩
  | false => some ⟨[.nil, .el (.sc (.bo false))], none⟩) := by
  rw [e35]
  have hb : bins xs 3 = true → 3 ≤ xs.length ∧ xs.length ≤ 64 := fun h => by
    unfold bins at h
    simp only [Bool.and_eq_true, decide_eq_true_eq] at h
    omega
  cases h1 : bins xs 3 with
  | false => simp [markOk, h1]
  | true =>
    obtain ⟨h3, h4⟩ := hb h1
    have hx : Nat.ble xs.length big = true := big_of (by omega)
    have h2 : Nat.ble 2 xs.length = true := Nat.ble_eq_true_of_le (by omega)
    cases h5 : atLeast0 b with
    | false =>
      simp [markOk, h1, h5]
    | true =>
      have hk : markOk xs b = true := by unfold markOk; rw [h1, h5]; rfl
      have hz : Nat.ble (0 + xs.length) big = true := big_of (by omega)
      have e := rep_filter (markedS xs b) (fun j : Nat => (j : Int)) xs.length 0 []
      rw [List.nil_append, marksOf_eq hk] at e
      rw [hk]
      simp only [hx, hz, e, List.length_nil, decide_true, Bool.and_self, Bool.not_true]
theorem c35 (xs : List Nat) (b : Nat) (k : List RV → R) (out : Out) (h : k [.fresh 2 ⟨.i64, orNil (markOk xs b) (marksOf xs b)⟩, .el (.sc (.bo (markOk xs b)))] = some out) : ∃ rs, Real Try.prog 35 ∧ COK Try.prog 35 [.vw none ⟨.f32, xs⟩, .el (.sc (.fl .f32 b))] rs ∧ k rs = some out := by
  cases g0 : (markOk xs b : Bool) with
  | true =>
    rw [g0] at h
    exact ⟨_, real Try.func35 (by kernel_rfl), fn_ok tok3 (A := a35) (L := l35) (r := none) Try.func35 (by kernel_rfl) (by kernel_rfl) (loops1 (by kernel_rfl) lk35) (by rw [s35, g0]; rfl), h⟩
  | false =>
    rw [g0] at h
    exact ⟨_, real Try.func35 (by kernel_rfl), COK.nil (fn_ok tok3 (A := a35) (L := l35) (r := none) Try.func35 (by kernel_rfl) (by kernel_rfl) (loops1 (by kernel_rfl) lk35) (by rw [s35, g0])), h⟩

/-! spec.PlaceOf -/
def a42 : Ann := ann [(8, [0, 1, 2, 3, 4, 14], [2, 3])] [10, 11] 0
def lp42 : St → (Ex → St → R) → R := fun s k => match s with
  | ⟨[(0, .fv (.vw (some 0) ⟨.f32, xs⟩)), (1, .fv (.el (.sc (.fl .f32 w)))), (2, .fv (.el (.sc (.fl .f32 a)))), (3, .fv (.el (.sc (.fl .f32 b)))), (4, .fv (.el (.sc (.int .i64 n)))), (14, .fv (.el (.sc (.bo u))))], []⟩ => (match (decide (0 ≤ n ∧ n ≤ 1099511627776) && Nat.ble xs.length big : Bool) with
    | true => (match repE (placeStep xs w) (Int.toNat n) 0 (bif u then (a, b) else (b, a)) with
      | some s => k (.exit 0) ⟨[(2, .fv (.el (.sc (.fl .f32 ((bif u then s.1 else s.2)))))), (3, .fv (.el (.sc (.fl .f32 ((bif u then s.2 else s.1))))))], []⟩
      | none => k .ret ⟨[(10, .fv (.el (.sc (.fl .f32 0)))), (11, .fv (.el (.sc (.bo false))))], []⟩)
    | false => none)
  | _ => none
def l42 : Loops := fun key s k => bif Nat.beq key 8 then lp42 s k else none
theorem st42 (xs : List Nat) (w : Nat) (a : Nat) (b : Nat) (n : Int) (u : Bool) (m : Nat) (k : Ex → St → R) : iterK a42 [0, 1, 2, 3, 4, 14] [2, 3] (codeK T3 a42 l42 Try.f42.ntmps (loopAt Try.f42 0)) (m + 1) ⟨[(0, .fv (.vw (some 0) ⟨.f32, xs⟩)), (1, .fv (.el (.sc (.fl .f32 w)))), (2, .fv (.el (.sc (.fl .f32 a)))), (3, .fv (.el (.sc (.fl .f32 b)))), (4, .fv (.el (.sc (.int .i64 n)))), (14, .fv (.el (.sc (.bo u))))], []⟩ k = (match (decide ((n : Int) > 0) : Bool) with
  | true => (match (Nat.ble xs.length big : Bool) with
    | true => (match (!(fin (horner (fop .mul .f32 1056964608 (fop .add .f32 a b)) 0 xs)) : Bool) with
      | true => k .ret ⟨[(10, .fv (.el (.sc (.fl .f32 0)))), (11, .fv (.el (.sc (.bo false))))], []⟩
      | false => (match ((fcmp .lss .f32 (horner (fop .mul .f32 1056964608 (fop .add .f32 a b)) 0 xs) w) == u : Bool) with
        | true => iterK a42 [0, 1, 2, 3, 4, 14] [2, 3] (codeK T3 a42 l42 Try.f42.ntmps (loopAt Try.f42 0)) m ⟨[(0, .fv (.vw (some 0) ⟨.f32, xs⟩)), (1, .fv (.el (.sc (.fl .f32 w)))), (2, .fv (.el (.sc (.fl .f32 (fop .mul .f32 1056964608 (fop .add .f32 a b)))))), (3, .fv (.el (.sc (.fl .f32 b)))), (4, .fv (.el (.sc (.int .i64 (IntKind.i64.wrap (n - 1)))))), (14, .fv (.el (.sc (.bo u))))], []⟩ k
        | false => iterK a42 [0, 1, 2, 3, 4, 14] [2, 3] (codeK T3 a42 l42 Try.f42.ntmps (loopAt Try.f42 0)) m ⟨[(0, .fv (.vw (some 0) ⟨.f32, xs⟩)), (1, .fv (.el (.sc (.fl .f32 w)))), (2, .fv (.el (.sc (.fl .f32 a)))), (3, .fv (.el (.sc (.fl .f32 (fop .mul .f32 1056964608 (fop .add .f32 a b)))))), (4, .fv (.el (.sc (.int .i64 (IntKind.i64.wrap (n - 1)))))), (14, .fv (.el (.sc (.bo u))))], []⟩ k))
    | false => none)
  | false => k (.exit 0) ⟨[(2, .fv (.el (.sc (.fl .f32 a)))), (3, .fv (.el (.sc (.fl .f32 b))))], []⟩) := by kernel_rfl
theorem ind42 (xs : List Nat) (w : Nat) (u : Bool) (hx : Nat.ble xs.length big = true) (k : Ex → St → R) : ∀ (m j a b : Nat), m ≤ 1099511627776 → iterK a42 [0, 1, 2, 3, 4, 14] [2, 3] (codeK T3 a42 l42 Try.f42.ntmps (loopAt Try.f42 0)) (m + 1) ⟨[(0, .fv (.vw (some 0) ⟨.f32, xs⟩)), (1, .fv (.el (.sc (.fl .f32 w)))), (2, .fv (.el (.sc (.fl .f32 a)))), (3, .fv (.el (.sc (.fl .f32 b)))), (4, .fv (.el (.sc (.int .i64 (m : Int))))), (14, .fv (.el (.sc (.bo u))))], []⟩ k =
    (match repE (placeStep xs w) m j (bif u then (a, b) else (b, a)) with
    | some s => k (.exit 0) ⟨[(2, .fv (.el (.sc (.fl .f32 (bif u then s.1 else s.2))))), (3, .fv (.el (.sc (.fl .f32 (bif u then s.2 else s.1)))))], []⟩
    | none => k .ret ⟨[(10, .fv (.el (.sc (.fl .f32 0)))), (11, .fv (.el (.sc (.bo false))))], []⟩) := by
  intro m
  induction m with
  | zero =>
    intro j a b hm
    rw [st42]
    cases u <;> rfl
  | succ m ih =>
    intro j a b hm
    have h1 : (((m + 1 : Nat) : Int) > 0) := by omega
    have wn : IntKind.i64.wrap (((m + 1 : Nat) : Int) - 1) = (m : Int) := wrapN (by omega) (by omega)
    rw [st42, wn]
    rw [repE_succ]
    simp only [h1, hx, decide_true]
    have hs : ∀ v : Bool, fop .mul .f32 1056964608 (fop .add .f32 (bif v then (a, b) else (b, a)).1 (bif v then (a, b) else (b, a)).2) = fop .mul .f32 1056964608 (fop .add .f32 a b) := by
      intro v
      cases v
      · simp only [cond_false]
        rw [fop_add_comm]
      · rfl
    unfold placeStep
    rw [hs u]
    generalize fop .mul .f32 1056964608 (fop .add .f32 a b) = M
    cases h2 : fin (horner M 0 xs) with
    | false => rfl
    | true =>
      have r1 := ih (j + 1) M b (by omega)
      have r2 := ih (j + 1) a M (by omega)
      cases h5 : fcmp .lss .f32 (horner M 0 xs) w <;> cases u <;> first | exact r1 | exact r2

theorem lk42 : LOK T3 a42 l42 Try.f42.ntmps (loopAt Try.f42 0) := by
  intro ins outs hA s k out h
  have hA' : ([0, 1, 2, 3, 4, 14], [2, 3]) = (ins, outs) := Option.some.inj ((show a42.lp (firstRegion (loopAt Try.f42 0)) = some ([0, 1, 2, 3, 4, 14], [2, 3]) by kernel_rfl).symm.trans hA)
  cases hA'
  have hk : firstRegion (loopAt Try.f42 0) = 8 := by kernel_rfl
  rw [hk] at h
  change lp42 s k = some out at h
  unfold lp42 at h
  split at h
  · rename_i xs w a b n u
    cases hg : (decide (0 ≤ n ∧ n ≤ 1099511627776) && Nat.ble xs.length big) with
    | false => rw [hg] at h; cases h
    | true =>
      rw [hg] at h
      simp only [Bool.and_eq_true, decide_eq_true_eq] at hg
      obtain ⟨⟨hn0, hn1⟩, hx⟩ := hg
      refine ⟨n.toNat + 1, ?_⟩
      obtain ⟨m, rfl⟩ : ∃ m : Nat, n = (m : Int) := ⟨n.toNat, by omega⟩
      exact (ind42 xs w u hx k m 0 a b (by omega)).trans h
  · cases h
theorem e42 (xs : List Nat) (w : Nat) (a : Nat) (b : Nat) (n : Int) : runFn T3 a42 l42 Try.f42 [.vw none ⟨.f32, xs⟩, .el (.sc (.fl .f32 w)), .el (.sc (.fl .f32 a)), .el (.sc (.fl .f32 b)), .el (.sc (.int .i64 n))] = (match (!(xs.all fin && (decide (xs.length ≥ 1) && decide (xs.length ≤ 3))) : Bool) with
  | true => some ⟨[.el (.sc (.fl .f32 0)), .el (.sc (.bo false))], none⟩
  | false => (match (!(fin w) : Bool) with
    | true => some ⟨[.el (.sc (.fl .f32 0)), .el (.sc (.bo false))], none⟩
    | false => (match (!(fin a) : Bool) with
      | true => some ⟨[.el (.sc (.fl .f32 0)), .el (.sc (.bo false))], none⟩
      | false => (match (!(fin b) : Bool) with
        | true => some ⟨[.el (.sc (.fl .f32 0)), .el (.sc (.bo false))], none⟩
        | false => (match (fcmp .geq .f32 a b : Bool) with
          | true => some ⟨[.el (.sc (.fl .f32 0)), .el (.sc (.bo false))], none⟩
          | false => (match (!(within n 1 32) : Bool) with
            | true => some ⟨[.el (.sc (.fl .f32 0)), .el (.sc (.bo false))], none⟩
            | false => (match (Nat.ble xs.length big : Bool) with
              | true => (match (Nat.ble xs.length big : Bool) with
                | true => (match (!(fin (horner a 0 xs)) : Bool) with
                  | true => some ⟨[.el (.sc (.fl .f32 0)), .el (.sc (.bo false))], none⟩
                  | false => (match (!(fin (horner b 0 xs)) : Bool) with
                    | true => some ⟨[.el (.sc (.fl .f32 0)), .el (.sc (.bo false))], none⟩
                    | false => (match ((fcmp .lss .f32 (horner a 0 xs) w) == (fcmp .lss .f32 (horner b 0 xs) w) : Bool) with
                      | true => some ⟨[.el (.sc (.fl .f32 0)), .el (.sc (.bo false))], none⟩
                      | false => (match (decide (0 ≤ n ∧ n ≤ 1099511627776) && Nat.ble xs.length big : Bool) with
                        | true => (match repE (placeStep xs w) (Int.toNat n) 0 (bif (fcmp .lss .f32 (horner a 0 xs) w) then (a, b) else (b, a)) with
                          | some s => some ⟨[.el (.sc (.fl .f32 (numOf (fop .mul .f32 1056964608 (fop .add .f32 ((bif (fcmp .lss .f32 (horner a 0 xs) w) then s.1 else s.2)) ((bif (fcmp .lss .f32 (horner a 0 xs) w) then s.2 else s.1))))))), .el (.sc (.bo (fin (fop .mul .f32 1056964608 (fop .add .f32 ((bif (fcmp .lss .f32 (horner a 0 xs) w) then s.1 else s.2)) ((bif (fcmp .lss .f32 (horner a 0 xs) w) then s.2 else s.1)))))))], none⟩
                          | none => some ⟨[.el (.sc (.fl .f32 0)), .el (.sc (.bo false))], none⟩)
                        | false => none))))
                | false => none)
              | false => none))))))) := by kernel_rfl
theorem s42 (xs : List Nat) (w : Nat) (a : Nat) (b : Nat) (n : Int) : runFn T3 a42 l42 Try.f42 [.vw none ⟨.f32, xs⟩, .el (.sc (.fl .f32 w)), .el (.sc (.fl .f32 a)), .el (.sc (.fl .f32 b)), .el (.sc (.int .i64 n))] = some ⟨[.el (.sc (.fl .f32 (orZero (placeOk xs w a b n) (placeX (placeRun xs w a b n))))), .el (.sc (.bo (placeOk xs w a b n)))], none⟩ := by
  rw [e42]
  have hb : curveOk xs = true → xs.length ≤ 3 := fun h => by
    unfold curveOk at h
    simp only [Bool.and_eq_true, decide_eq_true_eq] at h
    exact h.2.2
  have hcur : (xs.all fin && (decide (xs.length ≥ 1) && decide (xs.length ≤ 3))) = curveOk xs := rfl
  try rw [hcur]
  unfold placeOk placeAsk
  cases hc : curveOk xs with
  | false => simp [orZero]
  | true =>
    have hx : Nat.ble xs.length big = true := big_of (by have := hb hc; omega)
    cases h1 : fin w with
    | false => simp [orZero]
    | true =>
      cases h2 : fin a with
      | false => simp [orZero]
      | true =>
        cases h3 : fin b with
        | false => simp [orZero]
        | true =>
          cases h4 : fcmp .geq .f32 a b with
          | true => simp [orZero]
          | false =>
            cases h5 : within n 1 32 with
            | false => simp [orZero]
            | true =>
              have h6 := h5
              unfold within at h6
              simp only [Bool.and_eq_true, decide_eq_true_eq] at h6
              have hn : n ≤ 1099511627776 := by omega
              have hn0 : 0 ≤ n := by omega
              simp only [hx, Bool.not_true, Bool.not_false, Bool.true_and, Bool.and_true, orZero, List.all_cons, List.all_nil]
              cases h7 : fin (horner a 0 xs) with
              | false => simp
              | true =>
                cases h8 : fin (horner b 0 xs) with
                | false => simp
                | true =>
                  cases h9 : fcmp .lss .f32 (horner a 0 xs) w <;> cases h10 : fcmp .lss .f32 (horner b 0 xs) w <;> simp [placeRun, h10, hn, hn0, orZero]
                  · cases repE (placeStep xs w) n.toNat 0 (b, a) with
                    | none => rfl
                    | some s =>
                      simp only [placeX, Option.isSome_some, Bool.true_and]
                      rw [fop_add_comm .f32 s.2 s.1]
                      unfold numOf
                      cases fin (fop .mul .f32 1056964608 (fop .add .f32 s.1 s.2)) <;> rfl
                  · cases repE (placeStep xs w) n.toNat 0 (a, b) with
                    | none => rfl
                    | some s =>
                      simp only [placeX, Option.isSome_some, Bool.true_and]
                      unfold numOf
                      cases fin (fop .mul .f32 1056964608 (fop .add .f32 s.1 s.2)) <;> rfl
theorem c42 (xs : List Nat) (w : Nat) (a : Nat) (b : Nat) (n : Int) (k : List RV → R) (out : Out) (h : k [.el (.sc (.fl .f32 (orZero (placeOk xs w a b n) (placeX (placeRun xs w a b n))))), .el (.sc (.bo (placeOk xs w a b n)))] = some out) : ∃ rs, Real Try.prog 42 ∧ COK Try.prog 42 [.vw none ⟨.f32, xs⟩, .el (.sc (.fl .f32 w)), .el (.sc (.fl .f32 a)), .el (.sc (.fl .f32 b)), .el (.sc (.int .i64 n))] rs ∧ k rs = some out := by
  exact ⟨_, real Try.func42 (by kernel_rfl), fn_ok tok3 (A := a42) (L := l42) (r := none) Try.func42 (by kernel_rfl) (by kernel_rfl) (loops1 (by kernel_rfl) lk42) (by rw [s42]), h⟩

/-! spec.RemoveMarks -/
def a44 : Ann := ann [(5, [0, 1, 6, 7], [6])] [4, 5] 0
def lp44 : St → (Ex → St → R) → R := fun s k => match s with
  | ⟨[(0, .fv (.vw (some 0) ⟨.f32, xs⟩)), (1, .fv (.el (.sc (.fl .f32 b)))), (6, .fv (.own 0)), (7, .fv (.el (.sc (.int .i64 i))))], [some ⟨37, ⟨.f32, zs⟩⟩]⟩ => (match ((decide (i = 0) && (Nat.ble xs.length big && Nat.ble ((zs : List Nat).length + xs.length) big)) : Bool) with
    | true => k (.exit 0) ⟨[(6, .fv (.own 0))], [some ⟨37, ⟨.f32, rep (fun j zs => zs ++ [bif markedS xs b j then midOf xs j else xs.getD j 0]) (xs.length) 0 ((zs : List Nat) : (List Nat))⟩⟩]⟩
    | false => none)
  | _ => none
def l44 : Loops := fun key s k => bif Nat.beq key 5 then lp44 s k else none
theorem st44 (xs : List Nat) (b : Nat) (i : Int) (zs : List Nat) (m : Nat) (k : Ex → St → R) : iterK a44 [0, 1, 6, 7] [6] (codeK T3 a44 l44 Try.f44.ntmps (loopAt Try.f44 0)) (m + 1) ⟨[(0, .fv (.vw (some 0) ⟨.f32, xs⟩)), (1, .fv (.el (.sc (.fl .f32 b)))), (6, .fv (.own 0)), (7, .fv (.el (.sc (.int .i64 i))))], [some ⟨37, ⟨.f32, zs⟩⟩]⟩ k = (match (decide ((i : Int) < (xs.length : Int)) : Bool) with
  | true => (match (decide (0 ≤ (i : Int) ∧ (i : Int) < (xs.length : Int)) && true : Bool) with
    | true => (match (xs : List Nat)[Int.toNat i]? with
      | some x1 => (match (decide (0 ≤ i ∧ i ≤ (xs.length : Int)) && Nat.ble xs.length big : Bool) with
        | true => (match (markedS xs b (Int.toNat i) : Bool) with
          | true => (match (decide (0 ≤ (IntKind.i64.wrap (i - 1) : Int) ∧ (IntKind.i64.wrap (i - 1) : Int) < (xs.length : Int)) && true : Bool) with
            | true => (match (xs : List Nat)[Int.toNat (IntKind.i64.wrap (i - 1))]? with
              | some x2 => (match (decide (0 ≤ (IntKind.i64.wrap (i + 1) : Int) ∧ (IntKind.i64.wrap (i + 1) : Int) < (xs.length : Int)) && true : Bool) with
                | true => (match (xs : List Nat)[Int.toNat (IntKind.i64.wrap (i + 1))]? with
                  | some x3 => (match (Nat.beq 37 37 && decide ((zs : List Nat).length + ([fop .mul .f32 1056964608 (fop .add .f32 x2 x3)] : List Nat).length ≤ 1099511627776) : Bool) with
                    | true => iterK a44 [0, 1, 6, 7] [6] (codeK T3 a44 l44 Try.f44.ntmps (loopAt Try.f44 0)) m ⟨[(0, .fv (.vw (some 0) ⟨.f32, xs⟩)), (1, .fv (.el (.sc (.fl .f32 b)))), (6, .fv (.own 0)), (7, .fv (.el (.sc (.int .i64 (IntKind.i64.wrap (i + 1))))))], [some ⟨37, ⟨.f32, (zs : List Nat) ++ ([fop .mul .f32 1056964608 (fop .add .f32 x2 x3)])⟩⟩]⟩ k
                    | false => none)
                  | none => none)
                | false => none)
              | none => none)
            | false => none)
          | false => (match (Nat.beq 37 37 && decide ((zs : List Nat).length + ([x1] : List Nat).length ≤ 1099511627776) : Bool) with
            | true => iterK a44 [0, 1, 6, 7] [6] (codeK T3 a44 l44 Try.f44.ntmps (loopAt Try.f44 0)) m ⟨[(0, .fv (.vw (some 0) ⟨.f32, xs⟩)), (1, .fv (.el (.sc (.fl .f32 b)))), (6, .fv (.own 0)), (7, .fv (.el (.sc (.int .i64 (IntKind.i64.wrap (i + 1))))))], [some ⟨37, ⟨.f32, (zs : List Nat) ++ ([x1])⟩⟩]⟩ k
            | false => none))
        | false => none)
      | none => none)
    | false => none)
  | false => k (.exit 0) ⟨[(6, .fv (.own 0))], [some ⟨37, ⟨.f32, zs⟩⟩]⟩) := by kernel_rfl
theorem ind44 (xs : List Nat) (b : Nat) (hx : (Nat.ble xs.length big) = true) (k : Ex → St → R) : ∀ (m j : Nat) (zs : List Nat), zs.length + m ≤ 1099511627776 → 0 ≤ j → j + m = xs.length → iterK a44 [0, 1, 6, 7] [6] (codeK T3 a44 l44 Try.f44.ntmps (loopAt Try.f44 0)) (m + 1) ⟨[(0, .fv (.vw (some 0) ⟨.f32, xs⟩)), (1, .fv (.el (.sc (.fl .f32 b)))), (6, .fv (.own 0)), (7, .fv (.el (.sc (.int .i64 (j : Int)))))], [some ⟨37, ⟨.f32, zs⟩⟩]⟩ k =
    k (.exit 0) ⟨[(6, .fv (.own 0))], [some ⟨37, ⟨.f32, rep (fun j zs => zs ++ [bif markedS xs b j then midOf xs j else xs.getD j 0]) m j (zs : (List Nat))⟩⟩]⟩ := by
  intro m
  induction m with
  | zero =>
    intro j zs hs0 hlo hj
    have hx_ := big_le hx
    have h1 : ¬ (((j : Int) < (xs.length : Int))) := by omega
    rw [st44]
    simp only [h1, rep, decide_false, hx, Bool.true_and, Int.toNat_natCast, List.length_singleton] <;> rfl
  | succ m ih =>
    intro j zs hs0 hlo hj
    have hx_ := big_le hx
    have h1 : ((j : Int) < (xs.length : Int)) := by omega
    have hbq : Nat.beq 37 37 = true := rfl
    have hzl : zs.length + 1 ≤ 1099511627776 := by omega
    have h0j : (0 : Int) ≤ (j : Int) := by omega
    have hle : (j : Int) ≤ (xs.length : Int) := by omega
    have ap : xs[j]? = some (xs.getD j 0) := getI2 (by omega)
    have hlt : (j : Int) < (xs.length : Int) := by omega
    have wn : IntKind.i64.wrap ((j : Int) + 1) = ((j + 1 : Nat) : Int) := wrapN (by omega) (by omega)
    rw [st44]
    simp only [h1, wn, hbq, hzl, h0j, hle, ap, hlt, and_self, decide_true, Bool.and_true, Int.le_refl, hx, Bool.true_and, Int.toNat_natCast, List.length_singleton]
    simp only [rep]
    cases hf : markedS xs b j with
    | true =>
      have hf2 := hf
      unfold markedS inner at hf2
      simp only [Bool.and_eq_true, decide_eq_true_eq] at hf2
      have w2 : IntKind.i64.wrap ((j : Int) + 1) = ((j + 1 : Nat) : Int) := wrapN (by omega) (by omega)
      have w1 : IntKind.i64.wrap ((j : Int) - 1) = ((j - 1 : Nat) : Int) := wrapN (by omega) (by omega)
      have bb : (0 : Int) ≤ ((j - 1 : Nat) : Int) ∧ ((j - 1 : Nat) : Int) < (xs.length : Int) := by omega
      have bq : xs[Int.toNat ((j - 1 : Nat) : Int)]? = some (xs.getD (j - 1) 0) := getI (by omega)
      have bp : xs[j - 1]? = some (xs.getD (j - 1) 0) := getI2 (by omega)
      have cb : (0 : Int) ≤ ((j + 1 : Nat) : Int) ∧ ((j + 1 : Nat) : Int) < (xs.length : Int) := by omega
      have cq : xs[Int.toNat ((j + 1 : Nat) : Int)]? = some (xs.getD (j + 1) 0) := getI (by omega)
      have cp : xs[j + 1]? = some (xs.getD (j + 1) 0) := getI2 (by omega)
      simp only [w1, bb, bp, bq, cb, cp, cq, hzl, and_self, decide_true, Bool.and_true, List.length_singleton]
      exact ih (j + 1) _ (by simp; omega) (by omega) (by omega)
    | false =>
      try simp only [hzl, decide_true]
      exact ih (j + 1) _ (by simp; omega) (by omega) (by omega)

theorem lk44 : LOK T3 a44 l44 Try.f44.ntmps (loopAt Try.f44 0) := by
  intro ins outs hA s k out h
  have hA' : ([0, 1, 6, 7], [6]) = (ins, outs) := Option.some.inj ((show a44.lp (firstRegion (loopAt Try.f44 0)) = some ([0, 1, 6, 7], [6]) by kernel_rfl).symm.trans hA)
  cases hA'
  have hk : firstRegion (loopAt Try.f44 0) = 5 := by kernel_rfl
  rw [hk] at h
  change lp44 s k = some out at h
  unfold lp44 at h
  split at h
  · rename_i xs b i zs
    cases hg : (decide (i = 0) && (Nat.ble xs.length big && Nat.ble (zs.length + xs.length) big)) with
    | false => rw [hg] at h; cases h
    | true =>
      rw [hg] at h
      simp only [Bool.and_eq_true, decide_eq_true_eq] at hg
      obtain ⟨rfl, hx, gs0⟩ := hg
      refine ⟨(xs.length) + 1, ?_⟩
      have hx_ := big_le hx
      have gs0_ := big_le gs0
      exact (ind44 xs b hx k (xs.length) 0 zs (by omega) (by omega) (by omega)).trans h
  · cases h
theorem e44 (xs : List Nat) (b : Nat) : runFn T3 a44 l44 Try.f44 [.vw none ⟨.f32, xs⟩, .el (.sc (.fl .f32 b))] = (match (!(bins xs 3) : Bool) with
  | true => some ⟨[.nil, .el (.sc (.bo false))], none⟩
  | false => (match (!(atLeast0 b) : Bool) with
    | true => some ⟨[.nil, .el (.sc (.bo false))], none⟩
    | false => (match ((decide (0 = 0) && (Nat.ble xs.length big && Nat.ble (([] : List Nat).length + xs.length) big)) : Bool) with
      | true => (match (Nat.ble (rep (fun j zs => zs ++ [bif markedS xs b j then midOf xs j else xs.getD j 0]) (xs.length) 0 (([] : List Nat) : (List Nat))).length big : Bool) with
        | true => (match ((rep (fun j zs => zs ++ [bif markedS xs b j then midOf xs j else xs.getD j 0]) (xs.length) 0 (([] : List Nat) : (List Nat))).all fin : Bool) with
          | true => some ⟨[.fresh 37 ⟨.f32, rep (fun j zs => zs ++ [bif markedS xs b j then midOf xs j else xs.getD j 0]) (xs.length) 0 (([] : List Nat) : (List Nat))⟩, .el (.sc (.bo true))], none⟩
          | false => some ⟨[.nil, .el (.sc (.bo false))], none⟩)
        | false => none)
      | false => none))) := by kernel_rfl
theorem s44 (xs : List Nat) (b : Nat) : runFn T3 a44 l44 Try.f44 [.vw none ⟨.f32, xs⟩, .el (.sc (.fl .f32 b))] = (match (removeOk xs b : Bool) with
  | true => some ⟨[.fresh 37 ⟨.f32, removed xs b⟩, .el (.sc (.bo true))], none⟩
  | false => some ⟨[.nil, .el (.sc (.bo false))], none⟩) := by
  rw [e44]
  have hb : bins xs 3 = true → 3 ≤ xs.length ∧ xs.length ≤ 64 := fun h => by
    unfold bins at h
    simp only [Bool.and_eq_true, decide_eq_true_eq] at h
    omega
  unfold removeOk
  cases hk : markOk xs b with
  | false =>
    unfold markOk at hk
    cases h1 : bins xs 3 with
    | false => simp
    | true =>
      rw [h1, Bool.true_and] at hk
      simp [hk]
  | true =>
    have hk2 := hk
    unfold markOk at hk2
    rw [Bool.and_eq_true] at hk2
    obtain ⟨h3, h4⟩ := hb hk2.1
    have hx : Nat.ble xs.length big = true := big_of (by omega)
    have hr : Nat.ble (removed xs b).length big = true := big_of (by rw [removed_len]; omega)
    have hz : Nat.ble (0 + xs.length) big = true := big_of (by omega)
    have e := rep_map (fun j => bif markedS xs b j then midOf xs j else xs.getD j 0) xs.length 0 []
    have e2 : (fromTo 0 xs.length).map (fun j => bif markedS xs b j then midOf xs j else xs.getD j 0) = removed xs b := rfl
    rw [List.nil_append, e2] at e
    simp only [hk2.1, hk2.2, hx, hz, e, hr, List.length_nil, decide_true, Bool.and_self, Bool.not_true, Bool.true_and] <;> cases (removed xs b).all fin <;> rfl
theorem c44 (xs : List Nat) (b : Nat) (k : List RV → R) (out : Out) (h : k [.fresh 37 ⟨.f32, orNil (removeOk xs b) (removed xs b)⟩, .el (.sc (.bo (removeOk xs b)))] = some out) : ∃ rs, Real Try.prog 44 ∧ COK Try.prog 44 [.vw none ⟨.f32, xs⟩, .el (.sc (.fl .f32 b))] rs ∧ k rs = some out := by
  cases g0 : (removeOk xs b : Bool) with
  | true =>
    rw [g0] at h
    exact ⟨_, real Try.func44 (by kernel_rfl), fn_ok tok3 (A := a44) (L := l44) (r := none) Try.func44 (by kernel_rfl) (by kernel_rfl) (loops1 (by kernel_rfl) lk44) (by rw [s44, g0]; rfl), h⟩
  | false =>
    rw [g0] at h
    exact ⟨_, real Try.func44 (by kernel_rfl), COK.nil (fn_ok tok3 (A := a44) (L := l44) (r := none) Try.func44 (by kernel_rfl) (by kernel_rfl) (loops1 (by kernel_rfl) lk44) (by rw [s44, g0])), h⟩

/-! spec.BentPeaks -/
def a46 : Ann := ann [(6, [1, 6, 8, 24, 25], [8])] [4, 5] 0
def lp46 : St → (Ex → St → R) → R := fun s k => match s with
  | ⟨[(1, .fv (.el (.sc (.fl .f32 c)))), (6, .fv (.own 0)), (8, .fv (.own 1)), (24, .fv (.el (.sc (.int .i64 n)))), (25, .fv (.el (.sc (.int .i64 i))))], [some ⟨37, ⟨.f32, bs⟩⟩, some ⟨2, ⟨.i64, zs⟩⟩]⟩ => (match ((decide (n = ((bs : List Nat).length : Int)) && (decide (i = 0) && (Nat.ble (bs : List Nat).length big && Nat.ble ((zs : List Int).length + (bs : List Nat).length) big))) : Bool) with
    | true => k (.exit 0) ⟨[(8, .fv (.own 0))], [some ⟨2, ⟨.i64, rep (fun j zs => bif bent (bs : List Nat) c j then zs ++ [((j + 1 : Nat) : Int)] else zs) ((bs : List Nat).length) 0 ((zs : List Int) : (List Int))⟩⟩]⟩
    | false => none)
  | _ => none
def l46 : Loops := fun key s k => bif Nat.beq key 6 then lp46 s k else none
theorem st46 (c : Nat) (n : Int) (i : Int) (bs : List Nat) (zs : List Int) (m : Nat) (k : Ex → St → R) : iterK a46 [1, 6, 8, 24, 25] [8] (codeK T3 a46 l46 Try.f46.ntmps (loopAt Try.f46 0)) (m + 1) ⟨[(1, .fv (.el (.sc (.fl .f32 c)))), (6, .fv (.own 0)), (8, .fv (.own 1)), (24, .fv (.el (.sc (.int .i64 n)))), (25, .fv (.el (.sc (.int .i64 i))))], [some ⟨37, ⟨.f32, bs⟩⟩, some ⟨2, ⟨.i64, zs⟩⟩]⟩ k = (match (decide ((i : Int) < n) : Bool) with
  | true => (match (decide (0 ≤ (i : Int) ∧ (i : Int) < (bs.length : Int)) && true : Bool) with
    | true => (match (bs : List Nat)[Int.toNat i]? with
      | some x1 => (match (fcmp .gtr .f32 x1 c : Bool) with
        | true => (match ((i : Int) == 0 : Bool) with
          | true => (match ((IntKind.i64.wrap (i + 1) : Int) == (bs.length : Int) : Bool) with
            | true => (match (Nat.beq 2 2 && decide ((zs : List Int).length + ([IntKind.i64.wrap (i + 1)] : List Int).length ≤ 1099511627776) : Bool) with
              | true => iterK a46 [1, 6, 8, 24, 25] [8] (codeK T3 a46 l46 Try.f46.ntmps (loopAt Try.f46 0)) m ⟨[(1, .fv (.el (.sc (.fl .f32 c)))), (6, .fv (.own 0)), (8, .fv (.own 1)), (24, .fv (.el (.sc (.int .i64 n)))), (25, .fv (.el (.sc (.int .i64 (IntKind.i64.wrap (i + 1))))))], [some ⟨37, ⟨.f32, bs⟩⟩, some ⟨2, ⟨.i64, (zs : List Int) ++ ([IntKind.i64.wrap (i + 1)])⟩⟩]⟩ k
              | false => none)
            | false => (match (decide (0 ≤ (i : Int) ∧ (i : Int) < (bs.length : Int)) && true : Bool) with
              | true => (match (bs : List Nat)[Int.toNat i]? with
                | some x2 => (match (decide (0 ≤ (IntKind.i64.wrap (i + 1) : Int) ∧ (IntKind.i64.wrap (i + 1) : Int) < (bs.length : Int)) && true : Bool) with
                  | true => (match (bs : List Nat)[Int.toNat (IntKind.i64.wrap (i + 1))]? with
                    | some x3 => (match (fcmp .geq .f32 x2 x3 : Bool) with
                      | true => (match (Nat.beq 2 2 && decide ((zs : List Int).length + ([IntKind.i64.wrap (i + 1)] : List Int).length ≤ 1099511627776) : Bool) with
                        | true => iterK a46 [1, 6, 8, 24, 25] [8] (codeK T3 a46 l46 Try.f46.ntmps (loopAt Try.f46 0)) m ⟨[(1, .fv (.el (.sc (.fl .f32 c)))), (6, .fv (.own 0)), (8, .fv (.own 1)), (24, .fv (.el (.sc (.int .i64 n)))), (25, .fv (.el (.sc (.int .i64 (IntKind.i64.wrap (i + 1))))))], [some ⟨37, ⟨.f32, bs⟩⟩, some ⟨2, ⟨.i64, (zs : List Int) ++ ([IntKind.i64.wrap (i + 1)])⟩⟩]⟩ k
                        | false => none)
                      | false => iterK a46 [1, 6, 8, 24, 25] [8] (codeK T3 a46 l46 Try.f46.ntmps (loopAt Try.f46 0)) m ⟨[(1, .fv (.el (.sc (.fl .f32 c)))), (6, .fv (.own 0)), (8, .fv (.own 1)), (24, .fv (.el (.sc (.int .i64 n)))), (25, .fv (.el (.sc (.int .i64 (IntKind.i64.wrap (i + 1))))))], [some ⟨37, ⟨.f32, bs⟩⟩, some ⟨2, ⟨.i64, zs⟩⟩]⟩ k)
                    | none => none)
                  | false => none)
                | none => none)
              | false => none))
          | false => (match (decide (0 ≤ (i : Int) ∧ (i : Int) < (bs.length : Int)) && true : Bool) with
            | true => (match (bs : List Nat)[Int.toNat i]? with
              | some x4 => (match (decide (0 ≤ (IntKind.i64.wrap (i - 1) : Int) ∧ (IntKind.i64.wrap (i - 1) : Int) < (bs.length : Int)) && true : Bool) with
                | true => (match (bs : List Nat)[Int.toNat (IntKind.i64.wrap (i - 1))]? with
                  | some x5 => (match (fcmp .gtr .f32 x4 x5 : Bool) with
                    | true => (match ((IntKind.i64.wrap (i + 1) : Int) == (bs.length : Int) : Bool) with
                      | true => (match (Nat.beq 2 2 && decide ((zs : List Int).length + ([IntKind.i64.wrap (i + 1)] : List Int).length ≤ 1099511627776) : Bool) with
                        | true => iterK a46 [1, 6, 8, 24, 25] [8] (codeK T3 a46 l46 Try.f46.ntmps (loopAt Try.f46 0)) m ⟨[(1, .fv (.el (.sc (.fl .f32 c)))), (6, .fv (.own 0)), (8, .fv (.own 1)), (24, .fv (.el (.sc (.int .i64 n)))), (25, .fv (.el (.sc (.int .i64 (IntKind.i64.wrap (i + 1))))))], [some ⟨37, ⟨.f32, bs⟩⟩, some ⟨2, ⟨.i64, (zs : List Int) ++ ([IntKind.i64.wrap (i + 1)])⟩⟩]⟩ k
                        | false => none)
                      | false => (match (decide (0 ≤ (i : Int) ∧ (i : Int) < (bs.length : Int)) && true : Bool) with
                        | true => (match (bs : List Nat)[Int.toNat i]? with
                          | some x6 => (match (decide (0 ≤ (IntKind.i64.wrap (i + 1) : Int) ∧ (IntKind.i64.wrap (i + 1) : Int) < (bs.length : Int)) && true : Bool) with
                            | true => (match (bs : List Nat)[Int.toNat (IntKind.i64.wrap (i + 1))]? with
                              | some x7 => (match (fcmp .geq .f32 x6 x7 : Bool) with
                                | true => (match (Nat.beq 2 2 && decide ((zs : List Int).length + ([IntKind.i64.wrap (i + 1)] : List Int).length ≤ 1099511627776) : Bool) with
                                  | true => iterK a46 [1, 6, 8, 24, 25] [8] (codeK T3 a46 l46 Try.f46.ntmps (loopAt Try.f46 0)) m ⟨[(1, .fv (.el (.sc (.fl .f32 c)))), (6, .fv (.own 0)), (8, .fv (.own 1)), (24, .fv (.el (.sc (.int .i64 n)))), (25, .fv (.el (.sc (.int .i64 (IntKind.i64.wrap (i + 1))))))], [some ⟨37, ⟨.f32, bs⟩⟩, some ⟨2, ⟨.i64, (zs : List Int) ++ ([IntKind.i64.wrap (i + 1)])⟩⟩]⟩ k
                                  | false => none)
                                | false => iterK a46 [1, 6, 8, 24, 25] [8] (codeK T3 a46 l46 Try.f46.ntmps (loopAt Try.f46 0)) m ⟨[(1, .fv (.el (.sc (.fl .f32 c)))), (6, .fv (.own 0)), (8, .fv (.own 1)), (24, .fv (.el (.sc (.int .i64 n)))), (25, .fv (.el (.sc (.int .i64 (IntKind.i64.wrap (i + 1))))))], [some ⟨37, ⟨.f32, bs⟩⟩, some ⟨2, ⟨.i64, zs⟩⟩]⟩ k)
                              | none => none)
                            | false => none)
                          | none => none)
                        | false => none))
                    | false => iterK a46 [1, 6, 8, 24, 25] [8] (codeK T3 a46 l46 Try.f46.ntmps (loopAt Try.f46 0)) m ⟨[(1, .fv (.el (.sc (.fl .f32 c)))), (6, .fv (.own 0)), (8, .fv (.own 1)), (24, .fv (.el (.sc (.int .i64 n)))), (25, .fv (.el (.sc (.int .i64 (IntKind.i64.wrap (i + 1))))))], [some ⟨37, ⟨.f32, bs⟩⟩, some ⟨2, ⟨.i64, zs⟩⟩]⟩ k)
                  | none => none)
                | false => none)
              | none => none)
            | false => none))
        | false => iterK a46 [1, 6, 8, 24, 25] [8] (codeK T3 a46 l46 Try.f46.ntmps (loopAt Try.f46 0)) m ⟨[(1, .fv (.el (.sc (.fl .f32 c)))), (6, .fv (.own 0)), (8, .fv (.own 1)), (24, .fv (.el (.sc (.int .i64 n)))), (25, .fv (.el (.sc (.int .i64 (IntKind.i64.wrap (i + 1))))))], [some ⟨37, ⟨.f32, bs⟩⟩, some ⟨2, ⟨.i64, zs⟩⟩]⟩ k)
      | none => none)
    | false => none)
  | false => k (.exit 0) ⟨[(8, .fv (.own 0))], [some ⟨2, ⟨.i64, zs⟩⟩]⟩) := by kernel_rfl
theorem ind46 (c : Nat) (bs : List Nat) (hs : (Nat.ble bs.length big) = true) (k : Ex → St → R) : ∀ (m j : Nat) (zs : List Int), zs.length + m ≤ 1099511627776 → 0 ≤ j → j + m = bs.length → iterK a46 [1, 6, 8, 24, 25] [8] (codeK T3 a46 l46 Try.f46.ntmps (loopAt Try.f46 0)) (m + 1) ⟨[(1, .fv (.el (.sc (.fl .f32 c)))), (6, .fv (.own 0)), (8, .fv (.own 1)), (24, .fv (.el (.sc (.int .i64 (bs.length : Int))))), (25, .fv (.el (.sc (.int .i64 (j : Int)))))], [some ⟨37, ⟨.f32, bs⟩⟩, some ⟨2, ⟨.i64, zs⟩⟩]⟩ k =
    k (.exit 0) ⟨[(8, .fv (.own 0))], [some ⟨2, ⟨.i64, rep (fun j zs => bif bent bs c j then zs ++ [((j + 1 : Nat) : Int)] else zs) m j (zs : (List Int))⟩⟩]⟩ := by
  intro m
  induction m with
  | zero =>
    intro j zs hs0 hlo hj
    have hs_ := big_le hs
    have h1 : ¬ (((j : Int) < (bs.length : Int))) := by omega
    rw [st46]
    simp only [h1, rep, decide_false, List.length_singleton] <;> rfl
  | succ m ih =>
    intro j zs hs0 hlo hj
    have hs_ := big_le hs
    have h1 : ((j : Int) < (bs.length : Int)) := by omega
    have hbq : Nat.beq 2 2 = true := rfl
    have hzl : zs.length + 1 ≤ 1099511627776 := by omega
    have wj : IntKind.i64.wrap (j : Int) = (j : Int) := wrapN rfl (by omega)
    have ab : (0 : Int) ≤ ((j : Nat) : Int) ∧ ((j : Nat) : Int) < (bs.length : Int) := by omega
    have aq : bs[Int.toNat ((j : Nat) : Int)]? = some (bs.getD (j) 0) := getI (by omega)
    have ap : bs[j]? = some (bs.getD (j) 0) := getI2 (by omega)
    have w2 : IntKind.i64.wrap ((j : Int) + 1) = ((j + 1 : Nat) : Int) := wrapN (by omega) (by omega)
    have wn : IntKind.i64.wrap ((j : Int) + 1) = ((j + 1 : Nat) : Int) := wrapN (by omega) (by omega)
    rw [st46]
    simp only [h1, wn, hbq, hzl, wj, ab, aq, ap, w2, and_self, decide_true, Bool.and_true, Int.le_refl, List.length_singleton]
    simp only [rep]
    have hw : IntKind.i64.wrap ((j + 1 : Nat) : Int) = ((j + 1 : Nat) : Int) := wrapN rfl (by omega)
    have r2 := ih (j + 1) zs (by omega) (by omega) (by omega)
    have r3 := ih (j + 1) (zs ++ [((j + 1 : Nat) : Int)]) (by simp; omega) (by omega) (by omega)
    cases hg : fcmp .gtr .f32 (bs.getD j 0) c with
    | false =>
      have hb : bent bs c j = false := by unfold bent; rw [hg]; rfl
      rw [hb]
      exact r2
    | true =>
      by_cases h0 : j = 0
      · have e0 : ((j : Int) == 0) = true := by rw [h0]; rfl
        simp only [e0]
        have hd0 : (decide (j = 0) || fcmp .gtr .f32 (bs.getD j 0) (bs.getD (j - 1) 0)) = true := by rw [decide_eq_true h0, Bool.true_or]
        by_cases hl : j + 1 = bs.length
        · have el : (((j + 1 : Nat) : Int) == (bs.length : Int)) = true := by simp; omega
          have hb : bent bs c j = true := by unfold bent; rw [hg, hd0, decide_eq_true hl]; rfl
          rw [hb]
          simp only [el]
          first | exact r3 | (simp only [hw]; exact r3)
        · have el : (((j + 1 : Nat) : Int) == (bs.length : Int)) = false := beq_false_of_ne (by omega)
          have hd : decide (j + 1 = bs.length) = false := decide_eq_false hl
          have db : (0 : Int) ≤ ((j + 1 : Nat) : Int) ∧ ((j + 1 : Nat) : Int) < (bs.length : Int) := by omega
          have dq : bs[Int.toNat ((j + 1 : Nat) : Int)]? = some (bs.getD (j + 1) 0) := getI (by omega)
          have dp : bs[j + 1]? = some (bs.getD (j + 1) 0) := getI2 (by omega)
          simp only [el, db, dq, and_self, decide_true, Bool.and_true]
          cases hp2 : fcmp .geq .f32 (bs.getD j 0) (bs.getD (j + 1) 0) with
          | true =>
            have hb : bent bs c j = true := by unfold bent; rw [hg, hd0, hd, hp2]; rfl
            rw [hb]
            first | exact r3 | (simp only [hw]; exact r3)
          | false =>
            have hb : bent bs c j = false := by unfold bent; rw [hg, hd0, hd, hp2]; rfl
            rw [hb]
            exact r2
      · have e0 : ((j : Int) == 0) = false := beq_false_of_ne (by omega)
        have w1 : IntKind.i64.wrap ((j : Int) - 1) = ((j - 1 : Nat) : Int) := wrapN (by omega) (by omega)
        have fb : (0 : Int) ≤ ((j - 1 : Nat) : Int) ∧ ((j - 1 : Nat) : Int) < (bs.length : Int) := by omega
        have fq : bs[Int.toNat ((j - 1 : Nat) : Int)]? = some (bs.getD (j - 1) 0) := getI (by omega)
        have fp : bs[j - 1]? = some (bs.getD (j - 1) 0) := getI2 (by omega)
        simp only [e0, w1, fb, fq, and_self, decide_true, Bool.and_true]
        cases hp : fcmp .gtr .f32 (bs.getD j 0) (bs.getD (j - 1) 0) with
        | true =>
          have hd0 : (decide (j = 0) || fcmp .gtr .f32 (bs.getD j 0) (bs.getD (j - 1) 0)) = true := by rw [hp, Bool.or_true]
          dsimp only
          by_cases hl : j + 1 = bs.length
          · have el : (((j + 1 : Nat) : Int) == (bs.length : Int)) = true := by simp; omega
            have hb : bent bs c j = true := by unfold bent; rw [hg, hd0, decide_eq_true hl]; rfl
            rw [hb]
            simp only [el]
            first | exact r3 | (simp only [hw]; exact r3)
          · have el : (((j + 1 : Nat) : Int) == (bs.length : Int)) = false := beq_false_of_ne (by omega)
            have hd : decide (j + 1 = bs.length) = false := decide_eq_false hl
            have db : (0 : Int) ≤ ((j + 1 : Nat) : Int) ∧ ((j + 1 : Nat) : Int) < (bs.length : Int) := by omega
            have dq : bs[Int.toNat ((j + 1 : Nat) : Int)]? = some (bs.getD (j + 1) 0) := getI (by omega)
            have dp : bs[j + 1]? = some (bs.getD (j + 1) 0) := getI2 (by omega)
            simp only [el, db, dq, and_self, decide_true, Bool.and_true]
            cases hp2 : fcmp .geq .f32 (bs.getD j 0) (bs.getD (j + 1) 0) with
            | true =>
              have hb : bent bs c j = true := by unfold bent; rw [hg, hd0, hd, hp2]; rfl
              rw [hb]
              first | exact r3 | (simp only [hw]; exact r3)
            | false =>
              have hb : bent bs c j = false := by unfold bent; rw [hg, hd0, hd, hp2]; rfl
              rw [hb]
              exact r2
        | false =>
          have hb : bent bs c j = false := by unfold bent; rw [hg, hp, decide_eq_false h0]; rfl
          rw [hb]
          exact r2

theorem lk46 : LOK T3 a46 l46 Try.f46.ntmps (loopAt Try.f46 0) := by
  intro ins outs hA s k out h
  have hA' : ([1, 6, 8, 24, 25], [8]) = (ins, outs) := Option.some.inj ((show a46.lp (firstRegion (loopAt Try.f46 0)) = some ([1, 6, 8, 24, 25], [8]) by kernel_rfl).symm.trans hA)
  cases hA'
  have hk : firstRegion (loopAt Try.f46 0) = 6 := by kernel_rfl
  rw [hk] at h
  change lp46 s k = some out at h
  unfold lp46 at h
  split at h
  · rename_i c n i bs zs
    cases hg : (decide (n = (bs.length : Int)) && (decide (i = 0) && (Nat.ble bs.length big && Nat.ble (zs.length + bs.length) big))) with
    | false => rw [hg] at h; cases h
    | true =>
      rw [hg] at h
      simp only [Bool.and_eq_true, decide_eq_true_eq] at hg
      obtain ⟨rfl, rfl, hs, gs0⟩ := hg
      refine ⟨(bs.length) + 1, ?_⟩
      have hs_ := big_le hs
      have gs0_ := big_le gs0
      exact (ind46 c bs hs k (bs.length) 0 zs (by omega) (by omega) (by omega)).trans h
  · cases h
theorem e46 (xs : List Nat) (c : Nat) : runFn T3 a46 l46 Try.f46 [.vw none ⟨.f32, xs⟩, .el (.sc (.fl .f32 c))] = (match (Nat.ble xs.length big : Bool) with
  | true => (match (!(bendOk xs) : Bool) with
    | true => some ⟨[.nil, .el (.sc (.bo false))], none⟩
    | false => (match (!(fin c) : Bool) with
      | true => some ⟨[.nil, .el (.sc (.bo false))], none⟩
      | false => (match ((decide ((((orNil (bendOk xs) (bends xs)).length : Int)) = ((orNil (bendOk xs) (bends xs) : List Nat).length : Int)) && (decide (0 = 0) && (Nat.ble (orNil (bendOk xs) (bends xs) : List Nat).length big && Nat.ble (([] : List Int).length + (orNil (bendOk xs) (bends xs) : List Nat).length) big))) : Bool) with
        | true => some ⟨[.fresh 2 ⟨.i64, rep (fun j zs => bif bent (orNil (bendOk xs) (bends xs) : List Nat) c j then zs ++ [((j + 1 : Nat) : Int)] else zs) ((orNil (bendOk xs) (bends xs) : List Nat).length) 0 (([] : List Int) : (List Int))⟩, .el (.sc (.bo true))], none⟩
        | false => none)))
  | false => none) := by kernel_rfl
theorem s46 (xs : List Nat) (c : Nat) (hg : (Nat.ble xs.length big) = true) : runFn T3 a46 l46 Try.f46 [.vw none ⟨.f32, xs⟩, .el (.sc (.fl .f32 c))] = (match (bentOk xs c : Bool) with
  | true => some ⟨[.fresh 2 ⟨.i64, bentOf (bends xs) c⟩, .el (.sc (.bo true))], none⟩
  | false => some ⟨[.nil, .el (.sc (.bo false))], none⟩) := by
  rw [e46]
  unfold bentOk
  rw [hg]
  cases h1 : bendOk xs with
  | false => simp [orNil]
  | true =>
    have h2 := h1
    unfold bendOk listOk at h2
    simp only [Bool.and_eq_true, decide_eq_true_eq] at h2
    have hs : Nat.ble (bends xs).length big = true := big_of (by rw [bends_len]; omega)
    have hz : Nat.ble (0 + (bends xs).length) big = true := big_of (by rw [bends_len]; omega)
    have e := rep_filter (bent (bends xs) c) (fun j : Nat => ((j + 1 : Nat) : Int)) (bends xs).length 0 []
    rw [List.nil_append] at e
    cases h3 : fin c with
    | false => simp
    | true =>
      simp only [orNil, hs, hz, e, List.length_nil, decide_true, Bool.and_self, Bool.not_true, Bool.true_and]
      rfl
theorem c46 (xs : List Nat) (c : Nat) (k : List RV → R) (out : Out) (h : (match (Nat.ble xs.length big : Bool) with
  | true => k [.fresh 2 ⟨.i64, orNil (bentOk xs c) (bentOf (bends xs) c)⟩, .el (.sc (.bo (bentOk xs c)))]
  | false => none) = some out) : ∃ rs, Real Try.prog 46 ∧ COK Try.prog 46 [.vw none ⟨.f32, xs⟩, .el (.sc (.fl .f32 c))] rs ∧ k rs = some out := by
  cases g0 : (Nat.ble xs.length big : Bool) with
  | false =>
    rw [g0] at h
    cases h
  | true =>
    rw [g0] at h
    dsimp only at h
    cases g1 : (bentOk xs c : Bool) with
    | true =>
      rw [g1] at h
      exact ⟨_, real Try.func46 (by kernel_rfl), fn_ok tok3 (A := a46) (L := l46) (r := none) Try.func46 (by kernel_rfl) (by kernel_rfl) (loops1 (by kernel_rfl) lk46) (by rw [s46 _ _ g0, g1]; rfl), h⟩
    | false =>
      rw [g1] at h
      exact ⟨_, real Try.func46 (by kernel_rfl), COK.nil (fn_ok tok3 (A := a46) (L := l46) (r := none) Try.func46 (by kernel_rfl) (by kernel_rfl) (loops1 (by kernel_rfl) lk46) (by rw [s46 _ _ g0, g1])), h⟩

/-! slices.ContainsFunc[[]float32,float32] -/
theorem e94 (xs : List Nat) : runFn T3 none0 noL Try.f94 [.vw none ⟨.f32, xs⟩, .fn 95 []] = (match (Nat.ble xs.length big : Bool) with
  | true => some ⟨[.el (.sc (.bo (decide ((firstAt notFin xs : Int) ≥ 0))))], none⟩
  | false => none) := by kernel_rfl
theorem s94 (xs : List Nat) : runFn T3 none0 noL Try.f94 [.vw none ⟨.f32, xs⟩, .fn 95 []] = (match (Nat.ble xs.length big : Bool) with
  | true => some ⟨[.el (.sc (.bo (xs.any notFin)))], none⟩
  | false => none) := by
  rw [e94]
  rw [any_firstAt]
theorem c94 (xs : List Nat) (k : List RV → R) (out : Out) (h : (match (Nat.ble xs.length big : Bool) with
  | true => k [.el (.sc (.bo (xs.any notFin)))]
  | false => none) = some out) : ∃ rs, Real Try.prog 94 ∧ COK Try.prog 94 [.vw none ⟨.f32, xs⟩, .fn 95 []] rs ∧ k rs = some out := by
  cases g0 : (Nat.ble xs.length big : Bool) with
  | true =>
    rw [g0] at h
    exact ⟨_, real Try.func94 (by kernel_rfl), fn_ok tok3 (A := none0) (L := noL) (r := none) Try.func94 (by kernel_rfl) (by kernel_rfl) (loops0 (by kernel_rfl)) (by rw [s94, g0]), h⟩
  | false =>
    rw [g0] at h
    cases h

def S4 : SFn := fun f args k => match f, args with
  | 15, [.vw none ⟨.f32, xs⟩, .el (.sc (.int .i64 n))] => k [.fresh 37 ⟨.f32, orNil (padOk xs n) (padX xs n)⟩, .el (.sc (.bo (padOk xs n)))]
  | 31, [.vw none ⟨.f32, xs⟩, .vw none ⟨.f32, ys⟩] => k [.el (.sc (.fl .f32 (orZero (lampOk xs ys) (lampBase xs ys)))), .el (.sc (.fl .f32 (orZero (lampOk xs ys) (lampSlope xs ys)))), .el (.sc (.bo (lampOk xs ys)))]
  | 35, [.vw none ⟨.f32, xs⟩, .el (.sc (.fl .f32 b))] => k [.fresh 2 ⟨.i64, orNil (markOk xs b) (marksOf xs b)⟩, .el (.sc (.bo (markOk xs b)))]
  | 42, [.vw none ⟨.f32, xs⟩, .el (.sc (.fl .f32 w)), .el (.sc (.fl .f32 a)), .el (.sc (.fl .f32 b)), .el (.sc (.int .i64 n))] => k [.el (.sc (.fl .f32 (orZero (placeOk xs w a b n) (placeX (placeRun xs w a b n))))), .el (.sc (.bo (placeOk xs w a b n)))]
  | 44, [.vw none ⟨.f32, xs⟩, .el (.sc (.fl .f32 b))] => k [.fresh 37 ⟨.f32, orNil (removeOk xs b) (removed xs b)⟩, .el (.sc (.bo (removeOk xs b)))]
  | 46, [.vw none ⟨.f32, xs⟩, .el (.sc (.fl .f32 c))] => (match (Nat.ble xs.length big : Bool) with
    | true => k [.fresh 2 ⟨.i64, orNil (bentOk xs c) (bentOf (bends xs) c)⟩, .el (.sc (.bo (bentOk xs c)))]
    | false => none)
  | 94, [.vw none ⟨.f32, xs⟩, .fn 95 []] => (match (Nat.ble xs.length big : Bool) with
    | true => k [.el (.sc (.bo (xs.any notFin)))]
    | false => none)
  | _, _ => S3 f args k
abbrev M4 : MFn := M3
def T4 : TT := tab.T S4 muts M4
theorem tok4 : TOK Try.prog T4 := by
  refine (tab_ok tabok).tok (fun f args k out h => ?_) (fun f vec args k out h => ?_)
  · change S4 f args k = some out at h
    unfold S4 at h
    split at h
    · exact c15 _ _ k out h
    · exact c31 _ _ k out h
    · exact c35 _ _ k out h
    · exact c42 _ _ _ _ _ k out h
    · exact c44 _ _ k out h
    · exact c46 _ _ k out h
    · exact c94 _ k out h
    · exact tok3.S f args k out h
  · exact tok3.M f vec args k out h

end Go.Sm.Ytdnfgoolapikmaa
