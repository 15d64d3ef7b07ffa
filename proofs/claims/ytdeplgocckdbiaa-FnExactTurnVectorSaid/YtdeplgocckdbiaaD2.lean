/- What the functions hand back: level 1. -/
import Derived.Test.YtdeplgocckdbiaaD1
namespace Go.Sm.Ytdeplgocckdbiaa
open Go Go.Sm Go.RowKit Go.Proofs

/-! laws.eqFloat32S -/
def a18 : Ann := ann [(4, [0, 1, 5], [])] [4] 0
def lp18 : St → (Ex → St → R) → R := fun s k => match s with
  | ⟨[(0, .fv (.vw (some 0) ⟨.f32, xs⟩)), (1, .fv (.vw (some 1) ⟨.f32, ys⟩)), (5, .fv (.el (.sc (.int .i64 i))))], []⟩ => (match (decide (i = 0) && (Nat.beq xs.length ys.length && Nat.ble xs.length big) : Bool) with
    | true => (match (all2 sameW xs ys : Bool) with
      | true => k (.exit 0) ⟨[], []⟩
      | false => k .ret ⟨[(4, .fv (.el (.sc (.bo false))))], []⟩)
    | false => none)
  | _ => none
def l18 : Loops := fun key s k => bif Nat.beq key 4 then lp18 s k else none
theorem st18 (xs : List Nat) (ys : List Nat) (i : Int) (m : Nat) (k : Ex → St → R) : iterK a18 [0, 1, 5] [] (codeK T1 a18 l18 Try.f18.ntmps (loopAt Try.f18 0)) (m + 1) ⟨[(0, .fv (.vw (some 0) ⟨.f32, xs⟩)), (1, .fv (.vw (some 1) ⟨.f32, ys⟩)), (5, .fv (.el (.sc (.int .i64 i))))], []⟩ k = (match (decide ((i : Int) < (xs.length : Int)) : Bool) with
  | true => (match (decide (0 ≤ (i : Int) ∧ (i : Int) < (xs.length : Int)) && true : Bool) with
    | true => (match (xs : List Nat)[Int.toNat i]? with
      | some x1 => (match (decide (0 ≤ (i : Int) ∧ (i : Int) < (ys.length : Int)) && true : Bool) with
        | true => (match (ys : List Nat)[Int.toNat i]? with
          | some x2 => (match (!(sameF (wid x1) (wid x2)) : Bool) with
            | true => k .ret ⟨[(4, .fv (.el (.sc (.bo false))))], []⟩
            | false => iterK a18 [0, 1, 5] [] (codeK T1 a18 l18 Try.f18.ntmps (loopAt Try.f18 0)) m ⟨[(0, .fv (.vw (some 0) ⟨.f32, xs⟩)), (1, .fv (.vw (some 1) ⟨.f32, ys⟩)), (5, .fv (.el (.sc (.int .i64 (IntKind.i64.wrap (i + 1))))))], []⟩ k)
          | none => none)
        | false => none)
      | none => none)
    | false => none)
  | false => k (.exit 0) ⟨[], []⟩) := by kernel_rfl
theorem ind18 (xs ys : List Nat) (hl : xs.length = ys.length) (hx : Nat.ble xs.length big = true) (k : Ex → St → R) : ∀ (m j : Nat), j + m = xs.length → iterK a18 [0, 1, 5] [] (codeK T1 a18 l18 Try.f18.ntmps (loopAt Try.f18 0)) (m + 1) ⟨[(0, .fv (.vw (some 0) ⟨.f32, xs⟩)), (1, .fv (.vw (some 1) ⟨.f32, ys⟩)), (5, .fv (.el (.sc (.int .i64 (j : Int)))))], []⟩ k =
    (match all2 sameW (xs.drop j) (ys.drop j) with
    | true => k (.exit 0) ⟨[], []⟩
    | false => k .ret ⟨[(4, .fv (.el (.sc (.bo false))))], []⟩) := by
  intro m
  induction m with
  | zero =>
    intro j hj
    have h1 : ¬ ((j : Int) < (xs.length : Int)) := by omega
    rw [st18, List.drop_of_length_le (by omega)]
    simp [h1, all2]
  | succ m ih =>
    intro j hj
    have hlt : j < xs.length := by omega
    have hlt2 : j < ys.length := by omega
    have h1 : ((j : Int) < (xs.length : Int)) := by omega
    have h12 : ((j : Int) < (ys.length : Int)) := by omega
    have h2 : (0 : Int) ≤ (j : Int) := by omega
    rw [st18, wrap_succ hlt hx]
    have h3 : xs[Int.toNat (j : Int)]? = some xs[j] := by simp [hlt]
    have h4 : ys[Int.toNat (j : Int)]? = some ys[j] := by simp [hlt2]
    rw [List.drop_eq_getElem_cons hlt, List.drop_eq_getElem_cons hlt2, ih (j + 1) (by omega)]
    simp only [h1, h12, h2, h3, h4, and_self, decide_true, Bool.and_true, all2]
    unfold sameW
    cases hp : sameF (wid xs[j]) (wid ys[j]) <;> simp

theorem lk18 : LOK T1 a18 l18 Try.f18.ntmps (loopAt Try.f18 0) := by
  intro ins outs hA s k out h
  have hA' : ([0, 1, 5], []) = (ins, outs) := Option.some.inj ((show a18.lp (firstRegion (loopAt Try.f18 0)) = some ([0, 1, 5], []) by kernel_rfl).symm.trans hA)
  cases hA'
  have hk : firstRegion (loopAt Try.f18 0) = 4 := by kernel_rfl
  rw [hk] at h
  change lp18 s k = some out at h
  unfold lp18 at h
  split at h
  · rename_i xs ys i
    cases hg : (decide (i = 0) && (Nat.beq xs.length ys.length && Nat.ble xs.length big)) with
    | false => rw [hg] at h; cases h
    | true =>
      rw [hg] at h
      simp only [Bool.and_eq_true, decide_eq_true_eq] at hg
      obtain ⟨rfl, hl, hx⟩ := hg
      refine ⟨xs.length + 1, ?_⟩
      exact (ind18 xs ys (Nat.eq_of_beq_eq_true hl) hx k xs.length 0 (by omega)).trans h
  · cases h
theorem e18 (xs : List Nat) (ys : List Nat) : runFn T1 a18 l18 Try.f18 [.vw none ⟨.f32, xs⟩, .vw none ⟨.f32, ys⟩] = (match (!(((xs.length : Int) : Int) == (ys.length : Int)) : Bool) with
  | true => some ⟨[.el (.sc (.bo false))], none⟩
  | false => (match (decide (0 = 0) && (Nat.beq xs.length ys.length && Nat.ble xs.length big) : Bool) with
    | true => (match (all2 sameW xs ys : Bool) with
      | true => some ⟨[.el (.sc (.bo true))], none⟩
      | false => some ⟨[.el (.sc (.bo false))], none⟩)
    | false => none)) := by kernel_rfl
theorem s18 (xs : List Nat) (ys : List Nat) : runFn T1 a18 l18 Try.f18 [.vw none ⟨.f32, xs⟩, .vw none ⟨.f32, ys⟩] = (match (Nat.beq xs.length ys.length : Bool) with
  | true => (match (Nat.ble xs.length big : Bool) with
    | true => some ⟨[.el (.sc (.bo (all2 sameW xs ys)))], none⟩
    | false => none)
  | false => some ⟨[.el (.sc (.bo false))], none⟩) := by
  rw [e18]
  cases hl : Nat.beq xs.length ys.length with
  | false =>
    have h1 : xs.length ≠ ys.length := fun e => by rw [e, Nat.beq_refl] at hl; cases hl
    have h2 : ((xs.length : Int) == (ys.length : Int)) = false := beq_false_of_ne (by omega)
    simp only [h2, Bool.not_false]
  | true =>
    have h1 := Nat.eq_of_beq_eq_true hl
    have h2 : ((xs.length : Int) == (ys.length : Int)) = true := beq_iff_eq.2 (by omega)
    simp only [h2, Bool.not_true]
    cases h : Nat.ble xs.length big with
    | false => simp
    | true => cases h3 : all2 sameW xs ys <;> simp
theorem c18 (xs : List Nat) (ys : List Nat) (k : List RV → R) (out : Out) (h : (match (Nat.beq xs.length ys.length : Bool) with
  | true => (match (Nat.ble xs.length big : Bool) with
    | true => k [.el (.sc (.bo (all2 sameW xs ys)))]
    | false => none)
  | false => k [.el (.sc (.bo false))]) = some out) : ∃ rs, Real Try.prog 18 ∧ COK Try.prog 18 [.vw none ⟨.f32, xs⟩, .vw none ⟨.f32, ys⟩] rs ∧ k rs = some out := by
  cases g0 : (Nat.beq xs.length ys.length : Bool) with
  | true =>
    rw [g0] at h
    cases g1 : (Nat.ble xs.length big : Bool) with
    | true =>
      rw [g1] at h
      exact ⟨_, real Try.func18 (by kernel_rfl), fn_ok tok1 (A := a18) (L := l18) (r := none) Try.func18 (by kernel_rfl) (by kernel_rfl) (loops1 (by kernel_rfl) lk18) (by rw [s18, g0, g1]), h⟩
    | false =>
      rw [g1] at h
      cases h
  | false =>
    rw [g0] at h
    exact ⟨_, real Try.func18 (by kernel_rfl), fn_ok tok1 (A := a18) (L := l18) (r := none) Try.func18 (by kernel_rfl) (by kernel_rfl) (loops1 (by kernel_rfl) lk18) (by rw [s18, g0]), h⟩

/-! spec.l02Above -/
theorem e95 (c : Nat) : runFn T1 none0 noL Try.f95 [.el (.sc (.fl .f32 c))] = (match (fin c : Bool) with
  | true => some ⟨[.el (.sc (.bo (fcmp .gtr .f32 c 0)))], none⟩
  | false => some ⟨[.el (.sc (.bo false))], none⟩) := by kernel_rfl
theorem s95 (c : Nat) : runFn T1 none0 noL Try.f95 [.el (.sc (.fl .f32 c))] = some ⟨[.el (.sc (.bo (above c)))], none⟩ := by
  rw [e95]
  unfold above
  cases fin c <;> rfl
theorem c95 (c : Nat) (k : List RV → R) (out : Out) (h : k [.el (.sc (.bo (above c)))] = some out) : ∃ rs, Real Try.prog 95 ∧ COK Try.prog 95 [.el (.sc (.fl .f32 c))] rs ∧ k rs = some out := by
  exact ⟨_, real Try.func95 (by kernel_rfl), fn_ok tok1 (A := none0) (L := noL) (r := none) Try.func95 (by kernel_rfl) (by kernel_rfl) (loops0 (by kernel_rfl)) (by rw [s95]), h⟩

/-! spec.l02Finite -/
def a145 : Ann := ann [(2, [0, 3], [])] [2] 0
def lp145 : St → (Ex → St → R) → R := fun s k => match s with
  | ⟨[(0, .fv (.vw (some 0) ⟨.f32, xs⟩)), (3, .fv (.el (.sc (.int .i64 i))))], []⟩ => (match ((decide (i = 0) && Nat.ble xs.length big) : Bool) with
    | true => (match (xs.all fin : Bool) with
      | true => k (.exit 0) ⟨[], []⟩
      | false => k .ret ⟨[(2, .fv (.el (.sc (.bo false))))], []⟩)
    | false => none)
  | _ => none
def l145 : Loops := fun key s k => bif Nat.beq key 2 then lp145 s k else none
theorem st145 (xs : List Nat) (i : Int) (m : Nat) (k : Ex → St → R) : iterK a145 [0, 3] [] (codeK T1 a145 l145 Try.f145.ntmps (loopAt Try.f145 0)) (m + 1) ⟨[(0, .fv (.vw (some 0) ⟨.f32, xs⟩)), (3, .fv (.el (.sc (.int .i64 i))))], []⟩ k = (match (decide ((i : Int) < (xs.length : Int)) : Bool) with
  | true => (match (decide (0 ≤ (i : Int) ∧ (i : Int) < (xs.length : Int)) && true : Bool) with
    | true => (match (xs : List Nat)[Int.toNat i]? with
      | some x1 => (match (!(fin x1) : Bool) with
        | true => k .ret ⟨[(2, .fv (.el (.sc (.bo false))))], []⟩
        | false => iterK a145 [0, 3] [] (codeK T1 a145 l145 Try.f145.ntmps (loopAt Try.f145 0)) m ⟨[(0, .fv (.vw (some 0) ⟨.f32, xs⟩)), (3, .fv (.el (.sc (.int .i64 (IntKind.i64.wrap (i + 1))))))], []⟩ k)
      | none => none)
    | false => none)
  | false => k (.exit 0) ⟨[], []⟩) := by kernel_rfl
theorem ind145 (xs : List Nat)  (hx : Nat.ble xs.length big = true) (k : Ex → St → R) : ∀ (m j : Nat), j + m = xs.length → iterK a145 [0, 3] [] (codeK T1 a145 l145 Try.f145.ntmps (loopAt Try.f145 0)) (m + 1) ⟨[(0, .fv (.vw (some 0) ⟨.f32, xs⟩)), (3, .fv (.el (.sc (.int .i64 (j : Int)))))], []⟩ k =
    (match (xs.drop j).all fin with
    | true => k (.exit 0) ⟨[], []⟩
    | false => k .ret ⟨[(2, .fv (.el (.sc (.bo false))))], []⟩) := by
  intro m
  induction m with
  | zero =>
    intro j hj
    have h1 : ¬ ((j : Int) < (xs.length : Int)) := by omega
    rw [st145, List.drop_of_length_le (by omega)]
    simp [h1]
  | succ m ih =>
    intro j hj
    have hlt : j < xs.length := by omega
    have h1 : ((j : Int) < (xs.length : Int)) := by omega
    have h2 : (0 : Int) ≤ (j : Int) := by omega
    rw [st145, wrap_succ hlt hx]
    have h3 : xs[Int.toNat (j : Int)]? = some xs[j] := by simp [hlt]
    rw [List.drop_eq_getElem_cons hlt, List.all_cons, ih (j + 1) (by omega)]
    simp only [h1, h2, h3, and_self, decide_true, Bool.and_true]
    cases hp : fin xs[j] <;> simp [hp]

theorem lk145 : LOK T1 a145 l145 Try.f145.ntmps (loopAt Try.f145 0) := by
  intro ins outs hA s k out h
  have hA' : ([0, 3], []) = (ins, outs) := Option.some.inj ((show a145.lp (firstRegion (loopAt Try.f145 0)) = some ([0, 3], []) by kernel_rfl).symm.trans hA)
  cases hA'
  have hk : firstRegion (loopAt Try.f145 0) = 2 := by kernel_rfl
  rw [hk] at h
  change lp145 s k = some out at h
  unfold lp145 at h
  split at h
  · rename_i xs i
    cases hg : (decide (i = 0) && Nat.ble xs.length big) with
    | false => rw [hg] at h; cases h
    | true =>
      rw [hg] at h
      simp only [Bool.and_eq_true, decide_eq_true_eq] at hg
      obtain ⟨rfl, hx⟩ := hg
      refine ⟨xs.length + 1, ?_⟩
      exact (ind145 xs  hx k xs.length 0 (by omega)).trans h
  · cases h
theorem e145 (xs : List Nat) : runFn T1 a145 l145 Try.f145 [.vw none ⟨.f32, xs⟩] = (match ((decide (0 = 0) && Nat.ble xs.length big) : Bool) with
  | true => (match (xs.all fin : Bool) with
    | true => some ⟨[.el (.sc (.bo true))], none⟩
    | false => some ⟨[.el (.sc (.bo false))], none⟩)
  | false => none) := by kernel_rfl
theorem s145 (xs : List Nat) : runFn T1 a145 l145 Try.f145 [.vw none ⟨.f32, xs⟩] = (match (Nat.ble xs.length big : Bool) with
  | true => some ⟨[.el (.sc (.bo (xs.all fin)))], none⟩
  | false => none) := by
  rw [e145]
  cases h : Nat.ble xs.length big with
  | false => simp
  | true => cases h2 : xs.all fin <;> simp
theorem c145 (xs : List Nat) (k : List RV → R) (out : Out) (h : (match (Nat.ble xs.length big : Bool) with
  | true => k [.el (.sc (.bo (xs.all fin)))]
  | false => none) = some out) : ∃ rs, Real Try.prog 145 ∧ COK Try.prog 145 [.vw none ⟨.f32, xs⟩] rs ∧ k rs = some out := by
  cases g0 : (Nat.ble xs.length big : Bool) with
  | true =>
    rw [g0] at h
    exact ⟨_, real Try.func145 (by kernel_rfl), fn_ok tok1 (A := a145) (L := l145) (r := none) Try.func145 (by kernel_rfl) (by kernel_rfl) (loops1 (by kernel_rfl) lk145) (by rw [s145, g0]), h⟩
  | false =>
    rw [g0] at h
    cases h

/-! spec.l01From -/
theorem s146 (n : Int) : runFn T1 none0 noL Try.f146 [.el (.sc (.int .i64 n))] = some ⟨[.el (.sc (.fl .f32 (cn .f32 (Int.toNat (IntKind.u32.wrap n)))))], none⟩ := by kernel_rfl
theorem c146 (n : Int) (k : List RV → R) (out : Out) (h : k [.el (.sc (.fl .f32 (cn .f32 (Int.toNat (IntKind.u32.wrap n)))))] = some out) : ∃ rs, Real Try.prog 146 ∧ COK Try.prog 146 [.el (.sc (.int .i64 n))] rs ∧ k rs = some out := by
  exact ⟨_, real Try.func146 (by kernel_rfl), fn_ok tok1 (A := none0) (L := noL) (r := none) Try.func146 (by kernel_rfl) (by kernel_rfl) (loops0 (by kernel_rfl)) (by rw [s146]), h⟩

/-! math.NaN -/
theorem s149  : runFn T1 none0 noL Try.f149 [] = some ⟨[.el (.sc (.fl .f64 (nanOf .f64)))], none⟩ := by kernel_rfl
theorem c149  (k : List RV → R) (out : Out) (h : k [.el (.sc (.fl .f64 (nanOf .f64)))] = some out) : ∃ rs, Real Try.prog 149 ∧ COK Try.prog 149 [] rs ∧ k rs = some out := by
  exact ⟨_, real Try.func149 (by kernel_rfl), fn_ok tok1 (A := none0) (L := noL) (r := none) Try.func149 (by kernel_rfl) (by kernel_rfl) (loops0 (by kernel_rfl)) (by rw [s149]), h⟩

/-! impl.areFinite$1 -/
theorem s157 (c : Nat) : runFn T1 none0 noL Try.f157 [.el (.sc (.fl .f32 c))] = some ⟨[.el (.sc (.bo (notFin c)))], none⟩ := by kernel_rfl
theorem c157 (c : Nat) (k : List RV → R) (out : Out) (h : k [.el (.sc (.bo (notFin c)))] = some out) : ∃ rs, Real Try.prog 157 ∧ COK Try.prog 157 [.el (.sc (.fl .f32 c))] rs ∧ k rs = some out := by
  exact ⟨_, real Try.func157 (by kernel_rfl), fn_ok tok1 (A := none0) (L := noL) (r := none) Try.func157 (by kernel_rfl) (by kernel_rfl) (loops0 (by kernel_rfl)) (by rw [s157]), h⟩

/-! math.Sqrt -/
theorem s159 (c : Nat) : runFn T1 none0 noL Try.f159 [.el (.sc (.fl .f64 c))] = some ⟨[.el (.sc (.fl .f64 (fsqrt c)))], none⟩ := by kernel_rfl
theorem c159 (c : Nat) (k : List RV → R) (out : Out) (h : k [.el (.sc (.fl .f64 (fsqrt c)))] = some out) : ∃ rs, Real Try.prog 159 ∧ COK Try.prog 159 [.el (.sc (.fl .f64 c))] rs ∧ k rs = some out := by
  exact ⟨_, real Try.func159 (by kernel_rfl), fn_ok tok1 (A := none0) (L := noL) (r := none) Try.func159 (by kernel_rfl) (by kernel_rfl) (loops0 (by kernel_rfl)) (by rw [s159]), h⟩

/-! math.Abs -/
theorem e186 (c : Nat) : runFn T1 none0 noL Try.f186 [.el (.sc (.fl .f64 c))] = (match (isN .f64 c : Bool) with
  | true => none
  | false => some ⟨[.el (.sc (.fl .f64 (cn .f64 (Int.toNat (andNotI .u64 ((c : Int)) 9223372036854775808)))))], none⟩) := by kernel_rfl
theorem s186 (c : Nat) (hg : (!isN .f64 c) = true) : runFn T1 none0 noL Try.f186 [.el (.sc (.fl .f64 c))] = some ⟨[.el (.sc (.fl .f64 (fabs c)))], none⟩ := by
  rw [e186]
  have hN : isN .f64 c = false := by simpa using hg
  rw [hN]
  rfl
theorem c186 (c : Nat) (k : List RV → R) (out : Out) (h : (match (!isN .f64 c : Bool) with
  | true => k [.el (.sc (.fl .f64 (fabs c)))]
  | false => none) = some out) : ∃ rs, Real Try.prog 186 ∧ COK Try.prog 186 [.el (.sc (.fl .f64 c))] rs ∧ k rs = some out := by
  cases g0 : (!isN .f64 c : Bool) with
  | true =>
    rw [g0] at h
    exact ⟨_, real Try.func186 (by kernel_rfl), fn_ok tok1 (A := none0) (L := noL) (r := none) Try.func186 (by kernel_rfl) (by kernel_rfl) (loops0 (by kernel_rfl)) (by rw [s186 _ g0]), h⟩
  | false =>
    rw [g0] at h
    cases h

/-! math.Trunc -/
theorem s187 (c : Nat) : runFn T1 none0 noL Try.f187 [.el (.sc (.fl .f64 c))] = some ⟨[.el (.sc (.fl .f64 (fround .zero c)))], none⟩ := by kernel_rfl
theorem c187 (c : Nat) (k : List RV → R) (out : Out) (h : k [.el (.sc (.fl .f64 (fround .zero c)))] = some out) : ∃ rs, Real Try.prog 187 ∧ COK Try.prog 187 [.el (.sc (.fl .f64 c))] rs ∧ k rs = some out := by
  exact ⟨_, real Try.func187 (by kernel_rfl), fn_ok tok1 (A := none0) (L := noL) (r := none) Try.func187 (by kernel_rfl) (by kernel_rfl) (loops0 (by kernel_rfl)) (by rw [s187]), h⟩

def S2 : SFn := fun f args k => match f, args with
  | 18, [.vw none ⟨.f32, xs⟩, .vw none ⟨.f32, ys⟩] => (match (Nat.beq xs.length ys.length : Bool) with
    | true => (match (Nat.ble xs.length big : Bool) with
      | true => k [.el (.sc (.bo (all2 sameW xs ys)))]
      | false => none)
    | false => k [.el (.sc (.bo false))])
  | 95, [.el (.sc (.fl .f32 c))] => k [.el (.sc (.bo (above c)))]
  | 145, [.vw none ⟨.f32, xs⟩] => (match (Nat.ble xs.length big : Bool) with
    | true => k [.el (.sc (.bo (xs.all fin)))]
    | false => none)
  | 146, [.el (.sc (.int .i64 n))] => k [.el (.sc (.fl .f32 (cn .f32 (Int.toNat (IntKind.u32.wrap n)))))]
  | 149, [] => k [.el (.sc (.fl .f64 (nanOf .f64)))]
  | 157, [.el (.sc (.fl .f32 c))] => k [.el (.sc (.bo (notFin c)))]
  | 159, [.el (.sc (.fl .f64 c))] => k [.el (.sc (.fl .f64 (fsqrt c)))]
  | 186, [.el (.sc (.fl .f64 c))] => (match (!isN .f64 c : Bool) with
    | true => k [.el (.sc (.fl .f64 (fabs c)))]
    | false => none)
  | 187, [.el (.sc (.fl .f64 c))] => k [.el (.sc (.fl .f64 (fround .zero c)))]
  | _, _ => S1 f args k
abbrev M2 : MFn := M1
def T2 : TT := tab.T S2 muts M2
theorem tok2 : TOK Try.prog T2 := by
  refine (tab_ok tabok).tok (fun f args k out h => ?_) (fun f vec args k out h => ?_)
  · change S2 f args k = some out at h
    unfold S2 at h
    split at h
    · exact (fun k out h => cok_call (c18 _ _ k out h)) k out h
    · exact (fun k out h => cok_call (c95 _ k out h)) k out h
    · exact (fun k out h => cok_call (c145 _ k out h)) k out h
    · exact (fun k out h => cok_call (c146 _ k out h)) k out h
    · exact (fun k out h => cok_call (c149 k out h)) k out h
    · exact (fun k out h => cok_call (c157 _ k out h)) k out h
    · exact (fun k out h => cok_call (c159 _ k out h)) k out h
    · exact (fun k out h => cok_call (c186 _ k out h)) k out h
    · exact (fun k out h => cok_call (c187 _ k out h)) k out h
    · exact tok1.S f args k out h
  · exact tok1.M f vec args k out h

end Go.Sm.Ytdeplgocckdbiaa
