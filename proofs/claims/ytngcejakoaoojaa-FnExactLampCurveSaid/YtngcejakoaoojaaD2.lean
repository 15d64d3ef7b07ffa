/- What the functions hand back: level 1. -/
import Derived.Test.YtngcejakoaoojaaD1
namespace Go.Sm.Ytngcejakoaoojaa
open Go Go.Sm Go.RowKit Go.Proofs

/-! laws.eqFloat32S -/
def a17 : Ann := ann [(4, [0, 1, 5], [])] [4] 0
def lp17 : St → (Ex → St → R) → R := fun s k => match s with
  | ⟨[(0, .fv (.vw (some 0) ⟨.f32, xs⟩)), (1, .fv (.vw (some 1) ⟨.f32, ys⟩)), (5, .fv (.el (.sc (.int .i64 i))))], []⟩ => (match (decide (i = 0) && (Nat.beq xs.length ys.length && Nat.ble xs.length big) : Bool) with
    | true => (match (all2 sameW xs ys : Bool) with
      | true => k (.exit 0) ⟨[], []⟩
      | false => k .ret ⟨[(4, .fv (.el (.sc (.bo false))))], []⟩)
    | false => none)
  | _ => none
def l17 : Loops := fun key s k => bif Nat.beq key 4 then lp17 s k else none
theorem st17 (xs : List Nat) (ys : List Nat) (i : Int) (m : Nat) (k : Ex → St → R) : iterK a17 [0, 1, 5] [] (codeK T1 a17 l17 Try.f17.ntmps (loopAt Try.f17 0)) (m + 1) ⟨[(0, .fv (.vw (some 0) ⟨.f32, xs⟩)), (1, .fv (.vw (some 1) ⟨.f32, ys⟩)), (5, .fv (.el (.sc (.int .i64 i))))], []⟩ k = (match (decide ((i : Int) < (xs.length : Int)) : Bool) with
  | true => (match (decide (0 ≤ (i : Int) ∧ (i : Int) < (xs.length : Int)) && true : Bool) with
    | true => (match (xs : List Nat)[Int.toNat i]? with
      | some x1 => (match (decide (0 ≤ (i : Int) ∧ (i : Int) < (ys.length : Int)) && true : Bool) with
        | true => (match (ys : List Nat)[Int.toNat i]? with
          | some x2 => (match (!(sameF (wid x1) (wid x2)) : Bool) with
            | true => k .ret ⟨[(4, .fv (.el (.sc (.bo false))))], []⟩
            | false => iterK a17 [0, 1, 5] [] (codeK T1 a17 l17 Try.f17.ntmps (loopAt Try.f17 0)) m ⟨[(0, .fv (.vw (some 0) ⟨.f32, xs⟩)), (1, .fv (.vw (some 1) ⟨.f32, ys⟩)), (5, .fv (.el (.sc (.int .i64 (IntKind.i64.wrap (i + 1))))))], []⟩ k)
          | none => none)
        | false => none)
      | none => none)
    | false => none)
  | false => k (.exit 0) ⟨[], []⟩) := by kernel_rfl
theorem ind17 (xs ys : List Nat) (hl : xs.length = ys.length) (hx : Nat.ble xs.length big = true) (k : Ex → St → R) : ∀ (m j : Nat), j + m = xs.length → iterK a17 [0, 1, 5] [] (codeK T1 a17 l17 Try.f17.ntmps (loopAt Try.f17 0)) (m + 1) ⟨[(0, .fv (.vw (some 0) ⟨.f32, xs⟩)), (1, .fv (.vw (some 1) ⟨.f32, ys⟩)), (5, .fv (.el (.sc (.int .i64 (j : Int)))))], []⟩ k =
    (match all2 sameW (xs.drop j) (ys.drop j) with
    | true => k (.exit 0) ⟨[], []⟩
    | false => k .ret ⟨[(4, .fv (.el (.sc (.bo false))))], []⟩) := by
  intro m
  induction m with
  | zero =>
    intro j hj
    have h1 : ¬ ((j : Int) < (xs.length : Int)) := by omega
    rw [st17, List.drop_of_length_le (by omega)]
    simp [h1, all2]
  | succ m ih =>
    intro j hj
    have hlt : j < xs.length := by omega
    have hlt2 : j < ys.length := by omega
    have h1 : ((j : Int) < (xs.length : Int)) := by omega
    have h12 : ((j : Int) < (ys.length : Int)) := by omega
    have h2 : (0 : Int) ≤ (j : Int) := by omega
    rw [st17, wrap_succ hlt hx]
    have h3 : xs[Int.toNat (j : Int)]? = some xs[j] := by simp [hlt]
    have h4 : ys[Int.toNat (j : Int)]? = some ys[j] := by simp [hlt2]
    rw [List.drop_eq_getElem_cons hlt, List.drop_eq_getElem_cons hlt2, ih (j + 1) (by omega)]
    simp only [h1, h12, h2, h3, h4, and_self, decide_true, Bool.and_true, all2]
    unfold sameW
    cases hp : sameF (wid xs[j]) (wid ys[j]) <;> simp

theorem lk17 : LOK T1 a17 l17 Try.f17.ntmps (loopAt Try.f17 0) := by
  intro ins outs hA s k out h
  have hA' : ([0, 1, 5], []) = (ins, outs) := Option.some.inj ((show a17.lp (firstRegion (loopAt Try.f17 0)) = some ([0, 1, 5], []) by kernel_rfl).symm.trans hA)
  cases hA'
  have hk : firstRegion (loopAt Try.f17 0) = 4 := by kernel_rfl
  rw [hk] at h
  change lp17 s k = some out at h
  unfold lp17 at h
  split at h
  · rename_i xs ys i
    cases hg : (decide (i = 0) && (Nat.beq xs.length ys.length && Nat.ble xs.length big)) with
    | false => rw [hg] at h; cases h
    | true =>
      rw [hg] at h
      simp only [Bool.and_eq_true, decide_eq_true_eq] at hg
      obtain ⟨rfl, hl, hx⟩ := hg
      refine ⟨xs.length + 1, ?_⟩
      exact (ind17 xs ys (Nat.eq_of_beq_eq_true hl) hx k xs.length 0 (by omega)).trans h
  · cases h
theorem e17 (xs : List Nat) (ys : List Nat) : runFn T1 a17 l17 Try.f17 [.vw none ⟨.f32, xs⟩, .vw none ⟨.f32, ys⟩] = (match (!(((xs.length : Int) : Int) == (ys.length : Int)) : Bool) with
  | true => some ⟨[.el (.sc (.bo false))], none⟩
  | false => (match (decide (0 = 0) && (Nat.beq xs.length ys.length && Nat.ble xs.length big) : Bool) with
    | true => (match (all2 sameW xs ys : Bool) with
      | true => some ⟨[.el (.sc (.bo true))], none⟩
      | false => some ⟨[.el (.sc (.bo false))], none⟩)
    | false => none)) := by kernel_rfl
theorem s17 (xs : List Nat) (ys : List Nat) : runFn T1 a17 l17 Try.f17 [.vw none ⟨.f32, xs⟩, .vw none ⟨.f32, ys⟩] = (match (Nat.beq xs.length ys.length : Bool) with
  | true => (match (Nat.ble xs.length big : Bool) with
    | true => some ⟨[.el (.sc (.bo (all2 sameW xs ys)))], none⟩
    | false => none)
  | false => some ⟨[.el (.sc (.bo false))], none⟩) := by
  rw [e17]
  cases hl : Nat.beq xs.length ys.length with
  | false =>
    have h1 : xs.length ≠ ys.length := fun e => by rw [e, Nat.beq_refl] at hl; cases hl
    have h2 : ((xs.length : Int) == (ys.length : Int)) = false := beq_false_of_ne (by omega)
    simp only [h2, Bool.not_false]
  | true =>
    have h1 := Nat.eq_of_beq_eq_true hl
    have h2 : ((xs.length : Int) == (ys.length : Int)) = true := beq_iff_eq.2 (by omega)
    simp only [h2, Bool.not_true]
    cases h : Nat.ble xs.length big with
    | false => simp
    | true => cases h3 : all2 sameW xs ys <;> simp
theorem c17 (xs : List Nat) (ys : List Nat) (k : List RV → R) (out : Out) (h : (match (Nat.beq xs.length ys.length : Bool) with
  | true => (match (Nat.ble xs.length big : Bool) with
    | true => k [.el (.sc (.bo (all2 sameW xs ys)))]
    | false => none)
  | false => k [.el (.sc (.bo false))]) = some out) : ∃ rs, Real Try.prog 17 ∧ COK Try.prog 17 [.vw none ⟨.f32, xs⟩, .vw none ⟨.f32, ys⟩] rs ∧ k rs = some out := by
  cases g0 : (Nat.beq xs.length ys.length : Bool) with
  | true =>
    rw [g0] at h
    cases g1 : (Nat.ble xs.length big : Bool) with
    | true =>
      rw [g1] at h
      exact ⟨_, real Try.func17 (by kernel_rfl), fn_ok tok1 (A := a17) (L := l17) (r := none) Try.func17 (by kernel_rfl) (by kernel_rfl) (loops1 (by kernel_rfl) lk17) (by rw [s17, g0, g1]), h⟩
    | false =>
      rw [g1] at h
      cases h
  | false =>
    rw [g0] at h
    exact ⟨_, real Try.func17 (by kernel_rfl), fn_ok tok1 (A := a17) (L := l17) (r := none) Try.func17 (by kernel_rfl) (by kernel_rfl) (loops1 (by kernel_rfl) lk17) (by rw [s17, g0]), h⟩

/-! spec.l02Finite -/
def a68 : Ann := ann [(2, [0, 3], [])] [2] 0
def lp68 : St → (Ex → St → R) → R := fun s k => match s with
  | ⟨[(0, .fv (.vw (some 0) ⟨.f32, xs⟩)), (3, .fv (.el (.sc (.int .i64 i))))], []⟩ => (match ((decide (i = 0) && Nat.ble xs.length big) : Bool) with
    | true => (match (xs.all fin : Bool) with
      | true => k (.exit 0) ⟨[], []⟩
      | false => k .ret ⟨[(2, .fv (.el (.sc (.bo false))))], []⟩)
    | false => none)
  | _ => none
def l68 : Loops := fun key s k => bif Nat.beq key 2 then lp68 s k else none
theorem st68 (xs : List Nat) (i : Int) (m : Nat) (k : Ex → St → R) : iterK a68 [0, 3] [] (codeK T1 a68 l68 Try.f68.ntmps (loopAt Try.f68 0)) (m + 1) ⟨[(0, .fv (.vw (some 0) ⟨.f32, xs⟩)), (3, .fv (.el (.sc (.int .i64 i))))], []⟩ k = (match (decide ((i : Int) < (xs.length : Int)) : Bool) with
  | true => (match (decide (0 ≤ (i : Int) ∧ (i : Int) < (xs.length : Int)) && true : Bool) with
    | true => (match (xs : List Nat)[Int.toNat i]? with
      | some x1 => (match (!(fin x1) : Bool) with
        | true => k .ret ⟨[(2, .fv (.el (.sc (.bo false))))], []⟩
        | false => iterK a68 [0, 3] [] (codeK T1 a68 l68 Try.f68.ntmps (loopAt Try.f68 0)) m ⟨[(0, .fv (.vw (some 0) ⟨.f32, xs⟩)), (3, .fv (.el (.sc (.int .i64 (IntKind.i64.wrap (i + 1))))))], []⟩ k)
      | none => none)
    | false => none)
  | false => k (.exit 0) ⟨[], []⟩) := by kernel_rfl
theorem ind68 (xs : List Nat)  (hx : Nat.ble xs.length big = true) (k : Ex → St → R) : ∀ (m j : Nat), j + m = xs.length → iterK a68 [0, 3] [] (codeK T1 a68 l68 Try.f68.ntmps (loopAt Try.f68 0)) (m + 1) ⟨[(0, .fv (.vw (some 0) ⟨.f32, xs⟩)), (3, .fv (.el (.sc (.int .i64 (j : Int)))))], []⟩ k =
    (match (xs.drop j).all fin with
    | true => k (.exit 0) ⟨[], []⟩
    | false => k .ret ⟨[(2, .fv (.el (.sc (.bo false))))], []⟩) := by
  intro m
  induction m with
  | zero =>
    intro j hj
    have h1 : ¬ ((j : Int) < (xs.length : Int)) := by omega
    rw [st68, List.drop_of_length_le (by omega)]
    simp [h1]
  | succ m ih =>
    intro j hj
    have hlt : j < xs.length := by omega
    have h1 : ((j : Int) < (xs.length : Int)) := by omega
    have h2 : (0 : Int) ≤ (j : Int) := by omega
    rw [st68, wrap_succ hlt hx]
    have h3 : xs[Int.toNat (j : Int)]? = some xs[j] := by simp [hlt]
    rw [List.drop_eq_getElem_cons hlt, List.all_cons, ih (j + 1) (by omega)]
    simp only [h1, h2, h3, and_self, decide_true, Bool.and_true]
    cases hp : fin xs[j] <;> simp [hp]

theorem lk68 : LOK T1 a68 l68 Try.f68.ntmps (loopAt Try.f68 0) := by
  intro ins outs hA s k out h
  have hA' : ([0, 3], []) = (ins, outs) := Option.some.inj ((show a68.lp (firstRegion (loopAt Try.f68 0)) = some ([0, 3], []) by kernel_rfl).symm.trans hA)
  cases hA'
  have hk : firstRegion (loopAt Try.f68 0) = 2 := by kernel_rfl
  rw [hk] at h
  change lp68 s k = some out at h
  unfold lp68 at h
  split at h
  · rename_i xs i
    cases hg : (decide (i = 0) && Nat.ble xs.length big) with
    | false => rw [hg] at h; cases h
    | true =>
      rw [hg] at h
      simp only [Bool.and_eq_true, decide_eq_true_eq] at hg
      obtain ⟨rfl, hx⟩ := hg
      refine ⟨xs.length + 1, ?_⟩
      exact (ind68 xs  hx k xs.length 0 (by omega)).trans h
  · cases h
theorem e68 (xs : List Nat) : runFn T1 a68 l68 Try.f68 [.vw none ⟨.f32, xs⟩] = (match ((decide (0 = 0) && Nat.ble xs.length big) : Bool) with
  | true => (match (xs.all fin : Bool) with
    | true => some ⟨[.el (.sc (.bo true))], none⟩
    | false => some ⟨[.el (.sc (.bo false))], none⟩)
  | false => none) := by kernel_rfl
theorem s68 (xs : List Nat) : runFn T1 a68 l68 Try.f68 [.vw none ⟨.f32, xs⟩] = (match (Nat.ble xs.length big : Bool) with
  | true => some ⟨[.el (.sc (.bo (xs.all fin)))], none⟩
  | false => none) := by
  rw [e68]
  cases h : Nat.ble xs.length big with
  | false => simp
  | true => cases h2 : xs.all fin <;> simp
theorem c68 (xs : List Nat) (k : List RV → R) (out : Out) (h : (match (Nat.ble xs.length big : Bool) with
  | true => k [.el (.sc (.bo (xs.all fin)))]
  | false => none) = some out) : ∃ rs, Real Try.prog 68 ∧ COK Try.prog 68 [.vw none ⟨.f32, xs⟩] rs ∧ k rs = some out := by
  cases g0 : (Nat.ble xs.length big : Bool) with
  | true =>
    rw [g0] at h
    exact ⟨_, real Try.func68 (by kernel_rfl), fn_ok tok1 (A := a68) (L := l68) (r := none) Try.func68 (by kernel_rfl) (by kernel_rfl) (loops1 (by kernel_rfl) lk68) (by rw [s68, g0]), h⟩
  | false =>
    rw [g0] at h
    cases h

/-! impl.areFinite$1 -/
theorem s73 (c : Nat) : runFn T1 none0 noL Try.f73 [.el (.sc (.fl .f32 c))] = some ⟨[.el (.sc (.bo (notFin c)))], none⟩ := by kernel_rfl
theorem c73 (c : Nat) (k : List RV → R) (out : Out) (h : k [.el (.sc (.bo (notFin c)))] = some out) : ∃ rs, Real Try.prog 73 ∧ COK Try.prog 73 [.el (.sc (.fl .f32 c))] rs ∧ k rs = some out := by
  exact ⟨_, real Try.func73 (by kernel_rfl), fn_ok tok1 (A := none0) (L := noL) (r := none) Try.func73 (by kernel_rfl) (by kernel_rfl) (loops0 (by kernel_rfl)) (by rw [s73]), h⟩

def S2 : SFn := fun f args k => match f, args with
  | 17, [.vw none ⟨.f32, xs⟩, .vw none ⟨.f32, ys⟩] => (match (Nat.beq xs.length ys.length : Bool) with
    | true => (match (Nat.ble xs.length big : Bool) with
      | true => k [.el (.sc (.bo (all2 sameW xs ys)))]
      | false => none)
    | false => k [.el (.sc (.bo false))])
  | 68, [.vw none ⟨.f32, xs⟩] => (match (Nat.ble xs.length big : Bool) with
    | true => k [.el (.sc (.bo (xs.all fin)))]
    | false => none)
  | 73, [.el (.sc (.fl .f32 c))] => k [.el (.sc (.bo (notFin c)))]
  | _, _ => S1 f args k
abbrev M2 : MFn := M1
def T2 : TT := tab.T S2 muts M2
theorem tok2 : TOK Try.prog T2 := by
  refine (tab_ok tabok).tok (fun f args k out h => ?_) (fun f vec args k out h => ?_)
  · change S2 f args k = some out at h
    unfold S2 at h
    split at h
    · exact (fun k out h => cok_call (c17 _ _ k out h)) k out h
    · exact (fun k out h => cok_call (c68 _ k out h)) k out h
    · exact (fun k out h => cok_call (c73 _ k out h)) k out h
    · exact tok1.S f args k out h
  · exact tok1.M f vec args k out h

end Go.Sm.Ytngcejakoaoojaa
