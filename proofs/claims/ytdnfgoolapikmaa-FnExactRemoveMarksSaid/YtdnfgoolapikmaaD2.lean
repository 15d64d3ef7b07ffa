/- What the functions hand back: level 1. -/
import Derived.Test.YtdnfgoolapikmaaD1
namespace Go.Sm.Ytdnfgoolapikmaa
open Go Go.Sm Go.RowKit Go.Proofs

/-! laws.eqFloat32S -/
def a18 : Ann := ann [(4, [0, 1, 5], [])] [4] 0
def lp18 : St → (Ex → St → R) → R := fun s k => match s with
  | ⟨[(0, .fv (.vw (some 0) ⟨.f32, xs⟩)), (1, .fv (.vw (some 1) ⟨.f32, ys⟩)), (5, .fv (.el (.sc (.int .i64 i))))], []⟩ => (match (decide (i = 0) && (Nat.beq xs.length ys.length && Nat.ble xs.length big) : Bool) with
    | true => (match (all2 sameW xs ys : Bool) with
      | true => k (.exit 0) ⟨[], []⟩
      | false => k .ret ⟨[(4, .fv (.el (.sc (.bo false))))], []⟩)
    | false => none)
  | _ => none
def l18 : Loops := fun key s k => bif Nat.beq key 4 then lp18 s k else none
theorem st18 (xs : List Nat) (ys : List Nat) (i : Int) (m : Nat) (k : Ex → St → R) : iterK a18 [0, 1, 5] [] (codeK T1 a18 l18 Try.f18.ntmps (loopAt Try.f18 0)) (m + 1) ⟨[(0, .fv (.vw (some 0) ⟨.f32, xs⟩)), (1, .fv (.vw (some 1) ⟨.f32, ys⟩)), (5, .fv (.el (.sc (.int .i64 i))))], []⟩ k = (match (decide ((i : Int) < (xs.length : Int)) : Bool) with
  | true => (match (decide (0 ≤ (i : Int) ∧ (i : Int) < (xs.length : Int)) && true : Bool) with
    | true => (match (xs : List Nat)[Int.toNat i]? with
      | some x1 => (match (decide (0 ≤ (i : Int) ∧ (i : Int) < (ys.length : Int)) && true : Bool) with
        | true => (match (ys : List Nat)[Int.toNat i]? with
          | some x2 => (match (!(sameF (wid x1) (wid x2)) : Bool) with
            | true => k .ret ⟨[(4, .fv (.el (.sc (.bo false))))], []⟩
            | false => iterK a18 [0, 1, 5] [] (codeK T1 a18 l18 Try.f18.ntmps (loopAt Try.f18 0)) m ⟨[(0, .fv (.vw (some 0) ⟨.f32, xs⟩)), (1, .fv (.vw (some 1) ⟨.f32, ys⟩)), (5, .fv (.el (.sc (.int .i64 (IntKind.i64.wrap (i + 1))))))], []⟩ k)
          | none => none)
        | false => none)
      | none => none)
    | false => none)
  | false => k (.exit 0) ⟨[], []⟩) := by kernel_rfl
theorem ind18 (xs ys : List Nat) (hl : xs.length = ys.length) (hx : Nat.ble xs.length big = true) (k : Ex → St → R) : ∀ (m j : Nat), j + m = xs.length → iterK a18 [0, 1, 5] [] (codeK T1 a18 l18 Try.f18.ntmps (loopAt Try.f18 0)) (m + 1) ⟨[(0, .fv (.vw (some 0) ⟨.f32, xs⟩)), (1, .fv (.vw (some 1) ⟨.f32, ys⟩)), (5, .fv (.el (.sc (.int .i64 (j : Int)))))], []⟩ k =
    (match all2 sameW (xs.drop j) (ys.drop j) with
    | true => k (.exit 0) ⟨[], []⟩
    | false => k .ret ⟨[(4, .fv (.el (.sc (.bo false))))], []⟩) := by
  intro m
  induction m with
  | zero =>
    intro j hj
    have h1 : ¬ ((j : Int) < (xs.length : Int)) := by omega
    rw [st18, List.drop_of_length_le (by omega)]
    simp [h1, all2]
  | succ m ih =>
    intro j hj
    have hlt : j < xs.length := by omega
    have hlt2 : j < ys.length := by omega
    have h1 : ((j : Int) < (xs.length : Int)) := by omega
    have h12 : ((j : Int) < (ys.length : Int)) := by omega
    have h2 : (0 : Int) ≤ (j : Int) := by omega
    rw [st18, wrap_succ hlt hx]
    have h3 : xs[Int.toNat (j : Int)]? = some xs[j] := by simp [hlt]
    have h4 : ys[Int.toNat (j : Int)]? = some ys[j] := by simp [hlt2]
    rw [List.drop_eq_getElem_cons hlt, List.drop_eq_getElem_cons hlt2, ih (j + 1) (by omega)]
    simp only [h1, h12, h2, h3, h4, and_self, decide_true, Bool.and_true, all2]
    unfold sameW
    cases hp : sameF (wid xs[j]) (wid ys[j]) <;> simp

theorem lk18 : LOK T1 a18 l18 Try.f18.ntmps (loopAt Try.f18 0) := by
  intro ins outs hA s k out h
  have hA' : ([0, 1, 5], []) = (ins, outs) := Option.some.inj ((show a18.lp (firstRegion (loopAt Try.f18 0)) = some ([0, 1, 5], []) by kernel_rfl).symm.trans hA)
  cases hA'
  have hk : firstRegion (loopAt Try.f18 0) = 4 := by kernel_rfl
  rw [hk] at h
  change lp18 s k = some out at h
  unfold lp18 at h
  split at h
  · rename_i xs ys i
    cases hg : (decide (i = 0) && (Nat.beq xs.length ys.length && Nat.ble xs.length big)) with
    | false => rw [hg] at h; cases h
    | true =>
      rw [hg] at h
      simp only [Bool.and_eq_true, decide_eq_true_eq] at hg
      obtain ⟨rfl, hl, hx⟩ := hg
      refine ⟨xs.length + 1, ?_⟩
      exact (ind18 xs ys (Nat.eq_of_beq_eq_true hl) hx k xs.length 0 (by omega)).trans h
  · cases h
theorem e18 (xs : List Nat) (ys : List Nat) : runFn T1 a18 l18 Try.f18 [.vw none ⟨.f32, xs⟩, .vw none ⟨.f32, ys⟩] = (match (!(((xs.length : Int) : Int) == (ys.length : Int)) : Bool) with
  | true => some ⟨[.el (.sc (.bo false))], none⟩
  | false => (match (decide (0 = 0) && (Nat.beq xs.length ys.length && Nat.ble xs.length big) : Bool) with
    | true => (match (all2 sameW xs ys : Bool) with
      | true => some ⟨[.el (.sc (.bo true))], none⟩
      | false => some ⟨[.el (.sc (.bo false))], none⟩)
    | false => none)) := by kernel_rfl
theorem s18 (xs : List Nat) (ys : List Nat) : runFn T1 a18 l18 Try.f18 [.vw none ⟨.f32, xs⟩, .vw none ⟨.f32, ys⟩] = (match (Nat.beq xs.length ys.length : Bool) with
  | true => (match (Nat.ble xs.length big : Bool) with
    | true => some ⟨[.el (.sc (.bo (all2 sameW xs ys)))], none⟩
    | false => none)
  | false => some ⟨[.el (.sc (.bo false))], none⟩) := by
  rw [e18]
  cases hl : Nat.beq xs.length ys.length with
  | false =>
    have h1 : xs.length ≠ ys.length := fun e => by rw [e, Nat.beq_refl] at hl; cases hl
    have h2 : ((xs.length : Int) == (ys.length : Int)) = false := beq_false_of_ne (by omega)
    simp only [h2, Bool.not_false]
  | true =>
    have h1 := Nat.eq_of_beq_eq_true hl
    have h2 : ((xs.length : Int) == (ys.length : Int)) = true := beq_iff_eq.2 (by omega)
    simp only [h2, Bool.not_true]
    cases h : Nat.ble xs.length big with
    | false => simp
    | true => cases h3 : all2 sameW xs ys <;> simp
theorem c18 (xs : List Nat) (ys : List Nat) (k : List RV → R) (out : Out) (h : (match (Nat.beq xs.length ys.length : Bool) with
  | true => (match (Nat.ble xs.length big : Bool) with
    | true => k [.el (.sc (.bo (all2 sameW xs ys)))]
    | false => none)
  | false => k [.el (.sc (.bo false))]) = some out) : ∃ rs, Real Try.prog 18 ∧ COK Try.prog 18 [.vw none ⟨.f32, xs⟩, .vw none ⟨.f32, ys⟩] rs ∧ k rs = some out := by
  cases g0 : (Nat.beq xs.length ys.length : Bool) with
  | true =>
    rw [g0] at h
    cases g1 : (Nat.ble xs.length big : Bool) with
    | true =>
      rw [g1] at h
      exact ⟨_, real Try.func18 (by kernel_rfl), fn_ok tok1 (A := a18) (L := l18) (r := none) Try.func18 (by kernel_rfl) (by kernel_rfl) (loops1 (by kernel_rfl) lk18) (by rw [s18, g0, g1]), h⟩
    | false =>
      rw [g1] at h
      cases h
  | false =>
    rw [g0] at h
    exact ⟨_, real Try.func18 (by kernel_rfl), fn_ok tok1 (A := a18) (L := l18) (r := none) Try.func18 (by kernel_rfl) (by kernel_rfl) (loops1 (by kernel_rfl) lk18) (by rw [s18, g0]), h⟩

/-! spec.l05List -/
def a54 : Ann := ann [(2, [0, 5, 6], [0])] [2] 0
def lp54 : St → (Ex → St → R) → R := fun s k => match s with
  | ⟨[(0, .fv (.vw (some 0) ⟨.f32, xs⟩)), (5, .fv (.el (.sc (.int .i64 n)))), (6, .fv (.el (.sc (.int .i64 i))))], []⟩ => (match ((decide (n = (xs.length : Int)) && (decide (i = 0) && Nat.ble xs.length big)) : Bool) with
    | true => (match (xs.all fin : Bool) with
      | true => k (.exit 0) ⟨[(0, .fv (.vw (some 0) ⟨.f32, xs⟩))], []⟩
      | false => k .ret ⟨[(2, .fv (.el (.sc (.bo false))))], []⟩)
    | false => none)
  | _ => none
def l54 : Loops := fun key s k => bif Nat.beq key 2 then lp54 s k else none
theorem st54 (xs : List Nat) (n : Int) (i : Int) (m : Nat) (k : Ex → St → R) : iterK a54 [0, 5, 6] [0] (codeK T1 a54 l54 Try.f54.ntmps (loopAt Try.f54 0)) (m + 1) ⟨[(0, .fv (.vw (some 0) ⟨.f32, xs⟩)), (5, .fv (.el (.sc (.int .i64 n)))), (6, .fv (.el (.sc (.int .i64 i))))], []⟩ k = (match (decide ((i : Int) < n) : Bool) with
  | true => (match (decide (0 ≤ (i : Int) ∧ (i : Int) < (xs.length : Int)) && true : Bool) with
    | true => (match (xs : List Nat)[Int.toNat i]? with
      | some x1 => (match (!(fin x1) : Bool) with
        | true => k .ret ⟨[(2, .fv (.el (.sc (.bo false))))], []⟩
        | false => iterK a54 [0, 5, 6] [0] (codeK T1 a54 l54 Try.f54.ntmps (loopAt Try.f54 0)) m ⟨[(0, .fv (.vw (some 0) ⟨.f32, xs⟩)), (5, .fv (.el (.sc (.int .i64 n)))), (6, .fv (.el (.sc (.int .i64 (IntKind.i64.wrap (i + 1))))))], []⟩ k)
      | none => none)
    | false => none)
  | false => k (.exit 0) ⟨[(0, .fv (.vw (some 0) ⟨.f32, xs⟩))], []⟩) := by kernel_rfl
theorem ind54 (xs : List Nat)  (hx : Nat.ble xs.length big = true) (k : Ex → St → R) : ∀ (m j : Nat), j + m = xs.length → iterK a54 [0, 5, 6] [0] (codeK T1 a54 l54 Try.f54.ntmps (loopAt Try.f54 0)) (m + 1) ⟨[(0, .fv (.vw (some 0) ⟨.f32, xs⟩)), (5, .fv (.el (.sc (.int .i64 (xs.length : Int))))), (6, .fv (.el (.sc (.int .i64 (j : Int)))))], []⟩ k =
    (match (xs.drop j).all fin with
    | true => k (.exit 0) ⟨[(0, .fv (.vw (some 0) ⟨.f32, xs⟩))], []⟩
    | false => k .ret ⟨[(2, .fv (.el (.sc (.bo false))))], []⟩) := by
  intro m
  induction m with
  | zero =>
    intro j hj
    have h1 : ¬ ((j : Int) < (xs.length : Int)) := by omega
    rw [st54, List.drop_of_length_le (by omega)]
    simp [h1]
  | succ m ih =>
    intro j hj
    have hlt : j < xs.length := by omega
    have h1 : ((j : Int) < (xs.length : Int)) := by omega
    have h2 : (0 : Int) ≤ (j : Int) := by omega
    rw [st54, wrap_succ hlt hx]
    have h3 : xs[Int.toNat (j : Int)]? = some xs[j] := by simp [hlt]
    rw [List.drop_eq_getElem_cons hlt, List.all_cons, ih (j + 1) (by omega)]
    simp only [h1, h2, h3, and_self, decide_true, Bool.and_true]
    cases hp : fin xs[j] <;> simp [hp]

theorem lk54 : LOK T1 a54 l54 Try.f54.ntmps (loopAt Try.f54 0) := by
  intro ins outs hA s k out h
  have hA' : ([0, 5, 6], [0]) = (ins, outs) := Option.some.inj ((show a54.lp (firstRegion (loopAt Try.f54 0)) = some ([0, 5, 6], [0]) by kernel_rfl).symm.trans hA)
  cases hA'
  have hk : firstRegion (loopAt Try.f54 0) = 2 := by kernel_rfl
  rw [hk] at h
  change lp54 s k = some out at h
  unfold lp54 at h
  split at h
  · rename_i xs n i
    cases hg : (decide (n = (xs.length : Int)) && (decide (i = 0) && Nat.ble xs.length big)) with
    | false => rw [hg] at h; cases h
    | true =>
      rw [hg] at h
      simp only [Bool.and_eq_true, decide_eq_true_eq] at hg
      obtain ⟨rfl, rfl, hx⟩ := hg
      refine ⟨xs.length + 1, ?_⟩
      exact (ind54 xs  hx k xs.length 0 (by omega)).trans h
  · cases h
theorem e54 (xs : List Nat) : runFn T1 a54 l54 Try.f54 [.vw none ⟨.f32, xs⟩] = (match ((decide ((xs.length : Int) = (xs.length : Int)) && (decide (0 = 0) && Nat.ble xs.length big)) : Bool) with
  | true => (match (xs.all fin : Bool) with
    | true => (match (decide (((xs.length : Int) : Int) ≥ 1) : Bool) with
      | true => some ⟨[.el (.sc (.bo (decide (((xs.length : Int) : Int) ≤ 128))))], none⟩
      | false => some ⟨[.el (.sc (.bo false))], none⟩)
    | false => some ⟨[.el (.sc (.bo false))], none⟩)
  | false => none) := by kernel_rfl
theorem s54 (xs : List Nat) : runFn T1 a54 l54 Try.f54 [.vw none ⟨.f32, xs⟩] = (match (Nat.ble xs.length big : Bool) with
  | true => some ⟨[.el (.sc (.bo (listOk xs 1)))], none⟩
  | false => none) := by
  rw [e54]
  cases h : Nat.ble xs.length big with
  | false => simp
  | true =>
    unfold listOk
    cases h2 : xs.all fin with
    | false => simp
    | true =>
      have e3 : ((xs.length : Int) ≥ 1) ↔ xs.length ≥ 1 := by omega
      have e4 : ((xs.length : Int) ≤ 128) ↔ xs.length ≤ 128 := by omega
      by_cases h3 : (xs.length : Int) ≥ 1 <;> simp [e4, h3]
theorem c54 (xs : List Nat) (k : List RV → R) (out : Out) (h : (match (Nat.ble xs.length big : Bool) with
  | true => k [.el (.sc (.bo (listOk xs 1)))]
  | false => none) = some out) : ∃ rs, Real Try.prog 54 ∧ COK Try.prog 54 [.vw none ⟨.f32, xs⟩] rs ∧ k rs = some out := by
  cases g0 : (Nat.ble xs.length big : Bool) with
  | true =>
    rw [g0] at h
    exact ⟨_, real Try.func54 (by kernel_rfl), fn_ok tok1 (A := a54) (L := l54) (r := none) Try.func54 (by kernel_rfl) (by kernel_rfl) (loops1 (by kernel_rfl) lk54) (by rw [s54, g0]), h⟩
  | false =>
    rw [g0] at h
    cases h

/-! spec.l02Number -/
theorem e65 (c : Nat) : runFn T1 none0 noL Try.f65 [.el (.sc (.fl .f32 c))] = (match (!(fin c) : Bool) with
  | true => some ⟨[.el (.sc (.fl .f32 0)), .el (.sc (.bo false))], none⟩
  | false => some ⟨[.el (.sc (.fl .f32 c)), .el (.sc (.bo true))], none⟩) := by kernel_rfl
theorem s65 (c : Nat) : runFn T1 none0 noL Try.f65 [.el (.sc (.fl .f32 c))] = some ⟨[.el (.sc (.fl .f32 (numOf c))), .el (.sc (.bo (fin c)))], none⟩ := by
  rw [e65]
  unfold numOf
  cases fin c <;> rfl
theorem c65 (c : Nat) (k : List RV → R) (out : Out) (h : k [.el (.sc (.fl .f32 (numOf c))), .el (.sc (.bo (fin c)))] = some out) : ∃ rs, Real Try.prog 65 ∧ COK Try.prog 65 [.el (.sc (.fl .f32 c))] rs ∧ k rs = some out := by
  exact ⟨_, real Try.func65 (by kernel_rfl), fn_ok tok1 (A := none0) (L := noL) (r := none) Try.func65 (by kernel_rfl) (by kernel_rfl) (loops0 (by kernel_rfl)) (by rw [s65]), h⟩

/-! impl.checked -/
theorem e66 (c : Nat) : runFn T1 none0 noL Try.f66 [.el (.sc (.fl .f32 c))] = (match (!(fin c) : Bool) with
  | true => some ⟨[.el (.sc (.fl .f32 0)), .el (.sc (.bo false))], none⟩
  | false => some ⟨[.el (.sc (.fl .f32 c)), .el (.sc (.bo true))], none⟩) := by kernel_rfl
theorem s66 (c : Nat) : runFn T1 none0 noL Try.f66 [.el (.sc (.fl .f32 c))] = some ⟨[.el (.sc (.fl .f32 (numOf c))), .el (.sc (.bo (fin c)))], none⟩ := by
  rw [e66]
  unfold numOf
  cases fin c <;> rfl
theorem c66 (c : Nat) (k : List RV → R) (out : Out) (h : k [.el (.sc (.fl .f32 (numOf c))), .el (.sc (.bo (fin c)))] = some out) : ∃ rs, Real Try.prog 66 ∧ COK Try.prog 66 [.el (.sc (.fl .f32 c))] rs ∧ k rs = some out := by
  exact ⟨_, real Try.func66 (by kernel_rfl), fn_ok tok1 (A := none0) (L := noL) (r := none) Try.func66 (by kernel_rfl) (by kernel_rfl) (loops0 (by kernel_rfl)) (by rw [s66]), h⟩

/-! impl.meanOf -/
theorem e70 (xs : List Nat) : runFn T1 none0 noL Try.f70 [.vw none ⟨.f32, xs⟩] = (match (Nat.ble xs.length big : Bool) with
  | true => some ⟨[.el (.sc (.fl .f32 (fop .quo .f32 (sumF xs) (fint .f32 ((xs.length : Int))))))], none⟩
  | false => none) := by kernel_rfl
theorem s70 (xs : List Nat) : runFn T1 none0 noL Try.f70 [.vw none ⟨.f32, xs⟩] = (match (Nat.ble xs.length big : Bool) with
  | true => some ⟨[.el (.sc (.fl .f32 (meanF xs)))], none⟩
  | false => none) := by
  rw [e70]
  unfold meanF
  cases h : Nat.ble xs.length big <;> simp [h]
theorem c70 (xs : List Nat) (k : List RV → R) (out : Out) (h : (match (Nat.ble xs.length big : Bool) with
  | true => k [.el (.sc (.fl .f32 (meanF xs)))]
  | false => none) = some out) : ∃ rs, Real Try.prog 70 ∧ COK Try.prog 70 [.vw none ⟨.f32, xs⟩] rs ∧ k rs = some out := by
  cases g0 : (Nat.ble xs.length big : Bool) with
  | true =>
    rw [g0] at h
    exact ⟨_, real Try.func70 (by kernel_rfl), fn_ok tok1 (A := none0) (L := noL) (r := none) Try.func70 (by kernel_rfl) (by kernel_rfl) (loops0 (by kernel_rfl)) (by rw [s70, g0]), h⟩
  | false =>
    rw [g0] at h
    cases h

/-! spec.l02Least -/
theorem e72 (c : Nat) : runFn T1 none0 noL Try.f72 [.el (.sc (.fl .f32 c))] = (match (fin c : Bool) with
  | true => some ⟨[.el (.sc (.bo (fcmp .geq .f32 c 0)))], none⟩
  | false => some ⟨[.el (.sc (.bo false))], none⟩) := by kernel_rfl
theorem s72 (c : Nat) : runFn T1 none0 noL Try.f72 [.el (.sc (.fl .f32 c))] = some ⟨[.el (.sc (.bo (atLeast0 c)))], none⟩ := by
  rw [e72]
  unfold atLeast0
  cases fin c <;> rfl
theorem c72 (c : Nat) (k : List RV → R) (out : Out) (h : k [.el (.sc (.bo (atLeast0 c)))] = some out) : ∃ rs, Real Try.prog 72 ∧ COK Try.prog 72 [.el (.sc (.fl .f32 c))] rs ∧ k rs = some out := by
  exact ⟨_, real Try.func72 (by kernel_rfl), fn_ok tok1 (A := none0) (L := noL) (r := none) Try.func72 (by kernel_rfl) (by kernel_rfl) (loops0 (by kernel_rfl)) (by rw [s72]), h⟩

/-! spec.l02Finite -/
def a90 : Ann := ann [(2, [0, 3], [])] [2] 0
def lp90 : St → (Ex → St → R) → R := fun s k => match s with
  | ⟨[(0, .fv (.vw (some 0) ⟨.f32, xs⟩)), (3, .fv (.el (.sc (.int .i64 i))))], []⟩ => (match ((decide (i = 0) && Nat.ble xs.length big) : Bool) with
    | true => (match (xs.all fin : Bool) with
      | true => k (.exit 0) ⟨[], []⟩
      | false => k .ret ⟨[(2, .fv (.el (.sc (.bo false))))], []⟩)
    | false => none)
  | _ => none
def l90 : Loops := fun key s k => bif Nat.beq key 2 then lp90 s k else none
theorem st90 (xs : List Nat) (i : Int) (m : Nat) (k : Ex → St → R) : iterK a90 [0, 3] [] (codeK T1 a90 l90 Try.f90.ntmps (loopAt Try.f90 0)) (m + 1) ⟨[(0, .fv (.vw (some 0) ⟨.f32, xs⟩)), (3, .fv (.el (.sc (.int .i64 i))))], []⟩ k = (match (decide ((i : Int) < (xs.length : Int)) : Bool) with
  | true => (match (decide (0 ≤ (i : Int) ∧ (i : Int) < (xs.length : Int)) && true : Bool) with
    | true => (match (xs : List Nat)[Int.toNat i]? with
      | some x1 => (match (!(fin x1) : Bool) with
        | true => k .ret ⟨[(2, .fv (.el (.sc (.bo false))))], []⟩
        | false => iterK a90 [0, 3] [] (codeK T1 a90 l90 Try.f90.ntmps (loopAt Try.f90 0)) m ⟨[(0, .fv (.vw (some 0) ⟨.f32, xs⟩)), (3, .fv (.el (.sc (.int .i64 (IntKind.i64.wrap (i + 1))))))], []⟩ k)
      | none => none)
    | false => none)
  | false => k (.exit 0) ⟨[], []⟩) := by kernel_rfl
theorem ind90 (xs : List Nat)  (hx : Nat.ble xs.length big = true) (k : Ex → St → R) : ∀ (m j : Nat), j + m = xs.length → iterK a90 [0, 3] [] (codeK T1 a90 l90 Try.f90.ntmps (loopAt Try.f90 0)) (m + 1) ⟨[(0, .fv (.vw (some 0) ⟨.f32, xs⟩)), (3, .fv (.el (.sc (.int .i64 (j : Int)))))], []⟩ k =
    (match (xs.drop j).all fin with
    | true => k (.exit 0) ⟨[], []⟩
    | false => k .ret ⟨[(2, .fv (.el (.sc (.bo false))))], []⟩) := by
  intro m
  induction m with
  | zero =>
    intro j hj
    have h1 : ¬ ((j : Int) < (xs.length : Int)) := by omega
    rw [st90, List.drop_of_length_le (by omega)]
    simp [h1]
  | succ m ih =>
    intro j hj
    have hlt : j < xs.length := by omega
    have h1 : ((j : Int) < (xs.length : Int)) := by omega
    have h2 : (0 : Int) ≤ (j : Int) := by omega
    rw [st90, wrap_succ hlt hx]
    have h3 : xs[Int.toNat (j : Int)]? = some xs[j] := by simp [hlt]
    rw [List.drop_eq_getElem_cons hlt, List.all_cons, ih (j + 1) (by omega)]
    simp only [h1, h2, h3, and_self, decide_true, Bool.and_true]
    cases hp : fin xs[j] <;> simp [hp]

theorem lk90 : LOK T1 a90 l90 Try.f90.ntmps (loopAt Try.f90 0) := by
  intro ins outs hA s k out h
  have hA' : ([0, 3], []) = (ins, outs) := Option.some.inj ((show a90.lp (firstRegion (loopAt Try.f90 0)) = some ([0, 3], []) by kernel_rfl).symm.trans hA)
  cases hA'
  have hk : firstRegion (loopAt Try.f90 0) = 2 := by kernel_rfl
  rw [hk] at h
  change lp90 s k = some out at h
  unfold lp90 at h
  split at h
  · rename_i xs i
    cases hg : (decide (i = 0) && Nat.ble xs.length big) with
    | false => rw [hg] at h; cases h
    | true =>
      rw [hg] at h
      simp only [Bool.and_eq_true, decide_eq_true_eq] at hg
      obtain ⟨rfl, hx⟩ := hg
      refine ⟨xs.length + 1, ?_⟩
      exact (ind90 xs  hx k xs.length 0 (by omega)).trans h
  · cases h
theorem e90 (xs : List Nat) : runFn T1 a90 l90 Try.f90 [.vw none ⟨.f32, xs⟩] = (match ((decide (0 = 0) && Nat.ble xs.length big) : Bool) with
  | true => (match (xs.all fin : Bool) with
    | true => some ⟨[.el (.sc (.bo true))], none⟩
    | false => some ⟨[.el (.sc (.bo false))], none⟩)
  | false => none) := by kernel_rfl
theorem s90 (xs : List Nat) : runFn T1 a90 l90 Try.f90 [.vw none ⟨.f32, xs⟩] = (match (Nat.ble xs.length big : Bool) with
  | true => some ⟨[.el (.sc (.bo (xs.all fin)))], none⟩
  | false => none) := by
  rw [e90]
  cases h : Nat.ble xs.length big with
  | false => simp
  | true => cases h2 : xs.all fin <;> simp
theorem c90 (xs : List Nat) (k : List RV → R) (out : Out) (h : (match (Nat.ble xs.length big : Bool) with
  | true => k [.el (.sc (.bo (xs.all fin)))]
  | false => none) = some out) : ∃ rs, Real Try.prog 90 ∧ COK Try.prog 90 [.vw none ⟨.f32, xs⟩] rs ∧ k rs = some out := by
  cases g0 : (Nat.ble xs.length big : Bool) with
  | true =>
    rw [g0] at h
    exact ⟨_, real Try.func90 (by kernel_rfl), fn_ok tok1 (A := a90) (L := l90) (r := none) Try.func90 (by kernel_rfl) (by kernel_rfl) (loops1 (by kernel_rfl) lk90) (by rw [s90, g0]), h⟩
  | false =>
    rw [g0] at h
    cases h

/-! impl.areFinite$1 -/
theorem s95 (c : Nat) : runFn T1 none0 noL Try.f95 [.el (.sc (.fl .f32 c))] = some ⟨[.el (.sc (.bo (notFin c)))], none⟩ := by kernel_rfl
theorem c95 (c : Nat) (k : List RV → R) (out : Out) (h : k [.el (.sc (.bo (notFin c)))] = some out) : ∃ rs, Real Try.prog 95 ∧ COK Try.prog 95 [.el (.sc (.fl .f32 c))] rs ∧ k rs = some out := by
  exact ⟨_, real Try.func95 (by kernel_rfl), fn_ok tok1 (A := none0) (L := noL) (r := none) Try.func95 (by kernel_rfl) (by kernel_rfl) (loops0 (by kernel_rfl)) (by rw [s95]), h⟩

def S2 : SFn := fun f args k => match f, args with
  | 18, [.vw none ⟨.f32, xs⟩, .vw none ⟨.f32, ys⟩] => (match (Nat.beq xs.length ys.length : Bool) with
    | true => (match (Nat.ble xs.length big : Bool) with
      | true => k [.el (.sc (.bo (all2 sameW xs ys)))]
      | false => none)
    | false => k [.el (.sc (.bo false))])
  | 54, [.vw none ⟨.f32, xs⟩] => (match (Nat.ble xs.length big : Bool) with
    | true => k [.el (.sc (.bo (listOk xs 1)))]
    | false => none)
  | 65, [.el (.sc (.fl .f32 c))] => k [.el (.sc (.fl .f32 (numOf c))), .el (.sc (.bo (fin c)))]
  | 66, [.el (.sc (.fl .f32 c))] => k [.el (.sc (.fl .f32 (numOf c))), .el (.sc (.bo (fin c)))]
  | 70, [.vw none ⟨.f32, xs⟩] => (match (Nat.ble xs.length big : Bool) with
    | true => k [.el (.sc (.fl .f32 (meanF xs)))]
    | false => none)
  | 72, [.el (.sc (.fl .f32 c))] => k [.el (.sc (.bo (atLeast0 c)))]
  | 90, [.vw none ⟨.f32, xs⟩] => (match (Nat.ble xs.length big : Bool) with
    | true => k [.el (.sc (.bo (xs.all fin)))]
    | false => none)
  | 95, [.el (.sc (.fl .f32 c))] => k [.el (.sc (.bo (notFin c)))]
  | _, _ => S1 f args k
abbrev M2 : MFn := M1
def T2 : TT := tab.T S2 muts M2
theorem tok2 : TOK Try.prog T2 := by
  refine (tab_ok tabok).tok (fun f args k out h => ?_) (fun f vec args k out h => ?_)
  · change S2 f args k = some out at h
    unfold S2 at h
    split at h
    · exact c18 _ _ k out h
    · exact c54 _ k out h
    · exact c65 _ k out h
    · exact c66 _ k out h
    · exact c70 _ k out h
    · exact c72 _ k out h
    · exact c90 _ k out h
    · exact c95 _ k out h
    · exact tok1.S f args k out h
  · exact tok1.M f vec args k out h

end Go.Sm.Ytdnfgoolapikmaa
