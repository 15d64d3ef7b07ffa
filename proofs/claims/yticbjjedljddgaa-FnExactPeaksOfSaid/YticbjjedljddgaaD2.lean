/- What the functions hand back: level 1. -/
import Derived.Test.YticbjjedljddgaaD1
namespace Go.Sm.Yticbjjedljddgaa
open Go Go.Sm Go.RowKit Go.Proofs

/-! laws.eqFloat32S -/
def a8 : Ann := ann [(4, [0, 1, 5], [])] [4] 0
def lp8 : St → (Ex → St → R) → R := fun s k => match s with
  | ⟨[(0, .fv (.vw (some 0) ⟨.f32, xs⟩)), (1, .fv (.vw (some 1) ⟨.f32, ys⟩)), (5, .fv (.el (.sc (.int .i64 i))))], []⟩ => (match (decide (i = 0) && (Nat.beq xs.length ys.length && Nat.ble xs.length big) : Bool) with | true => (match (all2 sameW xs ys : Bool) with | true => k (.exit 0) ⟨[], []⟩ | false => k .ret ⟨[(4, .fv (.el (.sc (.bo false))))], []⟩) | false => none)
  | _ => none
def l8 : Loops := fun key s k => bif Nat.beq key 4 then lp8 s k else none
theorem st8 (xs : List Nat) (ys : List Nat) (i : Int) (m : Nat) (k : Ex → St → R) : iterK a8 [0, 1, 5] [] (codeK T1 a8 l8 Try.f8.ntmps (loopAt Try.f8 0)) (m + 1) ⟨[(0, .fv (.vw (some 0) ⟨.f32, xs⟩)), (1, .fv (.vw (some 1) ⟨.f32, ys⟩)), (5, .fv (.el (.sc (.int .i64 i))))], []⟩ k = (match (decide ((i : Int) < (xs.length : Int)) : Bool) with | true => (match (decide (0 ≤ (i : Int) ∧ (i : Int) < (xs.length : Int)) && true : Bool) with | true => (match (xs : List Nat)[Int.toNat i]? with | some x1 => (match (decide (0 ≤ (i : Int) ∧ (i : Int) < (ys.length : Int)) && true : Bool) with | true => (match (ys : List Nat)[Int.toNat i]? with | some x2 => (match (!(sameF (wid x1) (wid x2)) : Bool) with | true => k .ret ⟨[(4, .fv (.el (.sc (.bo false))))], []⟩ | false => iterK a8 [0, 1, 5] [] (codeK T1 a8 l8 Try.f8.ntmps (loopAt Try.f8 0)) m ⟨[(0, .fv (.vw (some 0) ⟨.f32, xs⟩)), (1, .fv (.vw (some 1) ⟨.f32, ys⟩)), (5, .fv (.el (.sc (.int .i64 (IntKind.i64.wrap (i + 1))))))], []⟩ k) | none => none) | false => none) | none => none) | false => none) | false => k (.exit 0) ⟨[], []⟩) := by kernel_rfl
theorem ind8 (xs ys : List Nat) (hl : xs.length = ys.length) (hx : Nat.ble xs.length big = true) (k : Ex → St → R) : ∀ (m j : Nat), j + m = xs.length → iterK a8 [0, 1, 5] [] (codeK T1 a8 l8 Try.f8.ntmps (loopAt Try.f8 0)) (m + 1) ⟨[(0, .fv (.vw (some 0) ⟨.f32, xs⟩)), (1, .fv (.vw (some 1) ⟨.f32, ys⟩)), (5, .fv (.el (.sc (.int .i64 (j : Int)))))], []⟩ k =
    (match all2 sameW (xs.drop j) (ys.drop j) with
    | true => k (.exit 0) ⟨[], []⟩
    | false => k .ret ⟨[(4, .fv (.el (.sc (.bo false))))], []⟩) := by
  intro m
  induction m with
  | zero =>
    intro j hj
    have h1 : ¬ ((j : Int) < (xs.length : Int)) := by omega
    rw [st8, List.drop_of_length_le (by omega)]
    simp [h1, all2]
  | succ m ih =>
    intro j hj
    have hlt : j < xs.length := by omega
    have hlt2 : j < ys.length := by omega
    have h1 : ((j : Int) < (xs.length : Int)) := by omega
    have h12 : ((j : Int) < (ys.length : Int)) := by omega
    have h2 : (0 : Int) ≤ (j : Int) := by omega
    rw [st8, wrap_succ hlt hx]
    have h3 : xs[Int.toNat (j : Int)]? = some xs[j] := by simp [hlt]
    have h4 : ys[Int.toNat (j : Int)]? = some ys[j] := by simp [hlt2]
    rw [List.drop_eq_getElem_cons hlt, List.drop_eq_getElem_cons hlt2, ih (j + 1) (by omega)]
    simp only [h1, h12, h2, h3, h4, and_self, decide_true, Bool.and_true, all2]
    unfold sameW
    cases hp : sameF (wid xs[j]) (wid ys[j]) <;> simp

theorem lk8 : LOK T1 a8 l8 Try.f8.ntmps (loopAt Try.f8 0) := by
  intro ins outs hA s k out h
  have hA' : ([0, 1, 5], []) = (ins, outs) := Option.some.inj ((show a8.lp (firstRegion (loopAt Try.f8 0)) = some ([0, 1, 5], []) by kernel_rfl).symm.trans hA)
  cases hA'
  have hk : firstRegion (loopAt Try.f8 0) = 4 := by kernel_rfl
  rw [hk] at h
  change lp8 s k = some out at h
  unfold lp8 at h
  split at h
  · rename_i xs ys i
    cases hg : (decide (i = 0) && (Nat.beq xs.length ys.length && Nat.ble xs.length big)) with
    | false => rw [hg] at h; cases h
    | true =>
      rw [hg] at h
      simp only [Bool.and_eq_true, decide_eq_true_eq] at hg
      obtain ⟨rfl, hl, hx⟩ := hg
      refine ⟨xs.length + 1, ?_⟩
      exact (ind8 xs ys (Nat.eq_of_beq_eq_true hl) hx k xs.length 0 (by omega)).trans h
  · cases h
theorem e8 (xs : List Nat) (ys : List Nat) : runFn T1 a8 l8 Try.f8 [.vw none ⟨.f32, xs⟩, .vw none ⟨.f32, ys⟩] = (match (!(((xs.length : Int) : Int) == (ys.length : Int)) : Bool) with | true => some ⟨[.el (.sc (.bo false))], none⟩ | false => (match (decide (0 = 0) && (Nat.beq xs.length ys.length && Nat.ble xs.length big) : Bool) with | true => (match (all2 sameW xs ys : Bool) with | true => some ⟨[.el (.sc (.bo true))], none⟩ | false => some ⟨[.el (.sc (.bo false))], none⟩) | false => none)) := by kernel_rfl
theorem s8 (xs : List Nat) (ys : List Nat) : runFn T1 a8 l8 Try.f8 [.vw none ⟨.f32, xs⟩, .vw none ⟨.f32, ys⟩] = (match (Nat.beq xs.length ys.length : Bool) with | true => (match (Nat.ble xs.length big : Bool) with | true => some ⟨[.el (.sc (.bo (all2 sameW xs ys)))], none⟩ | false => none) | false => some ⟨[.el (.sc (.bo false))], none⟩) := by
  rw [e8]
  cases hl : Nat.beq xs.length ys.length with
  | false =>
    have h1 : xs.length ≠ ys.length := fun e => by rw [e, Nat.beq_refl] at hl; cases hl
    have h2 : ((xs.length : Int) == (ys.length : Int)) = false := beq_false_of_ne (by omega)
    simp only [h2, Bool.not_false]
  | true =>
    have h1 := Nat.eq_of_beq_eq_true hl
    have h2 : ((xs.length : Int) == (ys.length : Int)) = true := beq_iff_eq.2 (by omega)
    simp only [h2, Bool.not_true]
    cases h : Nat.ble xs.length big with
    | false => simp
    | true => cases h3 : all2 sameW xs ys <;> simp
theorem c8 (xs : List Nat) (ys : List Nat) (k : List RV → R) (out : Out) (h : (match (Nat.beq xs.length ys.length : Bool) with | true => (match (Nat.ble xs.length big : Bool) with | true => k [.el (.sc (.bo (all2 sameW xs ys)))] | false => none) | false => k [.el (.sc (.bo false))]) = some out) : ∃ rs, Real Try.prog 8 ∧ COK Try.prog 8 [.vw none ⟨.f32, xs⟩, .vw none ⟨.f32, ys⟩] rs ∧ k rs = some out := by
  cases g0 : (Nat.beq xs.length ys.length : Bool) with
  | true =>
    rw [g0] at h
    cases g1 : (Nat.ble xs.length big : Bool) with
    | true =>
      rw [g1] at h
      exact ⟨_, real Try.func8 (by kernel_rfl), fn_ok tok1 (A := a8) (L := l8) (r := none) Try.func8 (by kernel_rfl) (by kernel_rfl) (loops1 (by kernel_rfl) lk8) (by rw [s8, g0, g1]), h⟩
    | false =>
      rw [g1] at h
      cases h
  | false =>
    rw [g0] at h
    exact ⟨_, real Try.func8 (by kernel_rfl), fn_ok tok1 (A := a8) (L := l8) (r := none) Try.func8 (by kernel_rfl) (by kernel_rfl) (loops1 (by kernel_rfl) lk8) (by rw [s8, g0]), h⟩

/-! spec.l05List -/
def a12 : Ann := ann [(2, [0, 5, 6], [0])] [2] 0
def lp12 : St → (Ex → St → R) → R := fun s k => match s with
  | ⟨[(0, .fv (.vw (some 0) ⟨.f32, xs⟩)), (5, .fv (.el (.sc (.int .i64 n)))), (6, .fv (.el (.sc (.int .i64 i))))], []⟩ => (match ((decide (n = (xs.length : Int)) && (decide (i = 0) && Nat.ble xs.length big)) : Bool) with | true => (match (xs.all fin : Bool) with | true => k (.exit 0) ⟨[(0, .fv (.vw (some 0) ⟨.f32, xs⟩))], []⟩ | false => k .ret ⟨[(2, .fv (.el (.sc (.bo false))))], []⟩) | false => none)
  | _ => none
def l12 : Loops := fun key s k => bif Nat.beq key 2 then lp12 s k else none
theorem st12 (xs : List Nat) (n : Int) (i : Int) (m : Nat) (k : Ex → St → R) : iterK a12 [0, 5, 6] [0] (codeK T1 a12 l12 Try.f12.ntmps (loopAt Try.f12 0)) (m + 1) ⟨[(0, .fv (.vw (some 0) ⟨.f32, xs⟩)), (5, .fv (.el (.sc (.int .i64 n)))), (6, .fv (.el (.sc (.int .i64 i))))], []⟩ k = (match (decide ((i : Int) < n) : Bool) with | true => (match (decide (0 ≤ (i : Int) ∧ (i : Int) < (xs.length : Int)) && true : Bool) with | true => (match (xs : List Nat)[Int.toNat i]? with | some x1 => (match (!(fin x1) : Bool) with | true => k .ret ⟨[(2, .fv (.el (.sc (.bo false))))], []⟩ | false => iterK a12 [0, 5, 6] [0] (codeK T1 a12 l12 Try.f12.ntmps (loopAt Try.f12 0)) m ⟨[(0, .fv (.vw (some 0) ⟨.f32, xs⟩)), (5, .fv (.el (.sc (.int .i64 n)))), (6, .fv (.el (.sc (.int .i64 (IntKind.i64.wrap (i + 1))))))], []⟩ k) | none => none) | false => none) | false => k (.exit 0) ⟨[(0, .fv (.vw (some 0) ⟨.f32, xs⟩))], []⟩) := by kernel_rfl
theorem ind12 (xs : List Nat)  (hx : Nat.ble xs.length big = true) (k : Ex → St → R) : ∀ (m j : Nat), j + m = xs.length → iterK a12 [0, 5, 6] [0] (codeK T1 a12 l12 Try.f12.ntmps (loopAt Try.f12 0)) (m + 1) ⟨[(0, .fv (.vw (some 0) ⟨.f32, xs⟩)), (5, .fv (.el (.sc (.int .i64 (xs.length : Int))))), (6, .fv (.el (.sc (.int .i64 (j : Int)))))], []⟩ k =
    (match (xs.drop j).all fin with
    | true => k (.exit 0) ⟨[(0, .fv (.vw (some 0) ⟨.f32, xs⟩))], []⟩
    | false => k .ret ⟨[(2, .fv (.el (.sc (.bo false))))], []⟩) := by
  intro m
  induction m with
  | zero =>
    intro j hj
    have h1 : ¬ ((j : Int) < (xs.length : Int)) := by omega
    rw [st12, List.drop_of_length_le (by omega)]
    simp [h1]
  | succ m ih =>
    intro j hj
    have hlt : j < xs.length := by omega
    have h1 : ((j : Int) < (xs.length : Int)) := by omega
    have h2 : (0 : Int) ≤ (j : Int) := by omega
    rw [st12, wrap_succ hlt hx]
    have h3 : xs[Int.toNat (j : Int)]? = some xs[j] := by simp [hlt]
    rw [List.drop_eq_getElem_cons hlt, List.all_cons, ih (j + 1) (by omega)]
    simp only [h1, h2, h3, and_self, decide_true, Bool.and_true]
    cases hp : fin xs[j] <;> simp [hp]

theorem lk12 : LOK T1 a12 l12 Try.f12.ntmps (loopAt Try.f12 0) := by
  intro ins outs hA s k out h
  have hA' : ([0, 5, 6], [0]) = (ins, outs) := Option.some.inj ((show a12.lp (firstRegion (loopAt Try.f12 0)) = some ([0, 5, 6], [0]) by kernel_rfl).symm.trans hA)
  cases hA'
  have hk : firstRegion (loopAt Try.f12 0) = 2 := by kernel_rfl
  rw [hk] at h
  change lp12 s k = some out at h
  unfold lp12 at h
  split at h
  · rename_i xs n i
    cases hg : (decide (n = (xs.length : Int)) && (decide (i = 0) && Nat.ble xs.length big)) with
    | false => rw [hg] at h; cases h
    | true =>
      rw [hg] at h
      simp only [Bool.and_eq_true, decide_eq_true_eq] at hg
      obtain ⟨rfl, rfl, hx⟩ := hg
      refine ⟨xs.length + 1, ?_⟩
      exact (ind12 xs  hx k xs.length 0 (by omega)).trans h
  · cases h
theorem e12 (xs : List Nat) : runFn T1 a12 l12 Try.f12 [.vw none ⟨.f32, xs⟩] = (match ((decide ((xs.length : Int) = (xs.length : Int)) && (decide (0 = 0) && Nat.ble xs.length big)) : Bool) with | true => (match (xs.all fin : Bool) with | true => (match (decide (((xs.length : Int) : Int) ≥ 1) : Bool) with | true => some ⟨[.el (.sc (.bo (decide (((xs.length : Int) : Int) ≤ 128))))], none⟩ | false => some ⟨[.el (.sc (.bo false))], none⟩) | false => some ⟨[.el (.sc (.bo false))], none⟩) | false => none) := by kernel_rfl
theorem s12 (xs : List Nat) : runFn T1 a12 l12 Try.f12 [.vw none ⟨.f32, xs⟩] = (match (Nat.ble xs.length big : Bool) with | true => some ⟨[.el (.sc (.bo (listOk xs 1)))], none⟩ | false => none) := by
  rw [e12]
  cases h : Nat.ble xs.length big with
  | false => simp
  | true =>
    unfold listOk
    cases h2 : xs.all fin with
    | false => simp
    | true =>
      have e3 : ((xs.length : Int) ≥ 1) ↔ xs.length ≥ 1 := by omega
      have e4 : ((xs.length : Int) ≤ 128) ↔ xs.length ≤ 128 := by omega
      by_cases h3 : (xs.length : Int) ≥ 1 <;> simp [e4, h3]
theorem c12 (xs : List Nat) (k : List RV → R) (out : Out) (h : (match (Nat.ble xs.length big : Bool) with | true => k [.el (.sc (.bo (listOk xs 1)))] | false => none) = some out) : ∃ rs, Real Try.prog 12 ∧ COK Try.prog 12 [.vw none ⟨.f32, xs⟩] rs ∧ k rs = some out := by
  cases g0 : (Nat.ble xs.length big : Bool) with
  | true =>
    rw [g0] at h
    exact ⟨_, real Try.func12 (by kernel_rfl), fn_ok tok1 (A := a12) (L := l12) (r := none) Try.func12 (by kernel_rfl) (by kernel_rfl) (loops1 (by kernel_rfl) lk12) (by rw [s12, g0]), h⟩
  | false =>
    rw [g0] at h
    cases h

/-! slices.DeleteFunc[[]int64,int64] -/
theorem strikes19 (b a : Int) : Strikes Try.prog 19 [⟨.v ⟨.i64, [b]⟩, 1, 0, 0⟩, ⟨.v ⟨.i64, [a]⟩, 1, 0, 0⟩] (struck b a) := by
  intro W Pr cs x hcs
  obtain ⟨a1, a2, rfl, g1, g2⟩ : ∃ a1 a2, cs = [.pointer (some a1), .pointer (some a2)] ∧ W.cell? a1 = some (.int .i64 b) ∧ W.cell? a2 = some (.int .i64 a) := by
    match cs, hcs with
    | [v1, v2], hcs =>
      obtain ⟨a1, _, h1, _, e1⟩ := hcs.1
      obtain ⟨a2, _, h2, _, e2⟩ := hcs.2.1
      obtain ⟨u1, g1, f1⟩ := h1 0 _ rfl
      obtain ⟨u2, g2, f2⟩ := h2 0 _ rfl
      have f1' : u1 = .int .i64 b := f1
      have f2' : u2 = .int .i64 a := f2
      subst f1' f2' e1 e2
      exact ⟨a1, a2, rfl, g1, g2⟩
  clear hcs
  show Calls Try.prog 19 #[.int .i64 x, .pointer (some a1), .pointer (some a2)] W _
  go_enter Try.func19, Try.ntmps19
  go_wp2
  all_goals (go_ret; exact ⟨by rw [← struck_eq]; simp_all, 0, rfl⟩)
theorem c18 (xs : List Int) (b a : Int) (k : Vec → R) (out : Out) (h : (match (!xs.isEmpty && Nat.ble xs.length big : Bool) with | true => k ⟨.i64, xs.filter fun x => !struck b a x⟩ | false => none) = some out) : ∃ vec, Real Try.prog 18 ∧ CutOK Try.prog 18 ⟨.i64, xs⟩ [.fn 19 [⟨.v ⟨.i64, [b]⟩, 1, 0, 0⟩, ⟨.v ⟨.i64, [a]⟩, 1, 0, 0⟩]] vec ∧ k vec = some out := by
  cases g0 : (!xs.isEmpty && Nat.ble xs.length big : Bool) with
  | true =>
    rw [g0] at h
    simp only [Bool.and_eq_true] at g0
    exact ⟨_, real Try.func18 (by kernel_rfl), del_cut delI rfl Try.zeroValue2 (real Try.func19 (by kernel_rfl)) (strikes19 b a) (by rintro rfl; exact absurd g0.1 (by decide)) (big_le g0.2), h⟩
  | false => rw [g0] at h; cases h

/-! impl.areFinite$1 -/
theorem s27 (c : Nat) : runFn T1 none0 noL Try.f27 [.el (.sc (.fl .f32 c))] = some ⟨[.el (.sc (.bo (notFin c)))], none⟩ := by kernel_rfl
theorem c27 (c : Nat) (k : List RV → R) (out : Out) (h : k [.el (.sc (.bo (notFin c)))] = some out) : ∃ rs, Real Try.prog 27 ∧ COK Try.prog 27 [.el (.sc (.fl .f32 c))] rs ∧ k rs = some out := by
  exact ⟨_, real Try.func27 (by kernel_rfl), fn_ok tok1 (A := none0) (L := noL) (r := none) Try.func27 (by kernel_rfl) (by kernel_rfl) (loops0 (by kernel_rfl)) (by rw [s27]), h⟩

def S2 : SFn := fun f args k => match f, args with
  | 8, [.vw none ⟨.f32, xs⟩, .vw none ⟨.f32, ys⟩] => (match (Nat.beq xs.length ys.length : Bool) with | true => (match (Nat.ble xs.length big : Bool) with | true => k [.el (.sc (.bo (all2 sameW xs ys)))] | false => none) | false => k [.el (.sc (.bo false))])
  | 12, [.vw none ⟨.f32, xs⟩] => (match (Nat.ble xs.length big : Bool) with | true => k [.el (.sc (.bo (listOk xs 1)))] | false => none)
  | 27, [.el (.sc (.fl .f32 c))] => k [.el (.sc (.bo (notFin c)))]
  | _, _ => S1 f args k
abbrev M2 : MFn := M1
def Dn2 : DFn := fun f vec args k => match f, vec, args with
  | 18, ⟨.i64, xs⟩, [.fn 19 [⟨.v ⟨.i64, [b]⟩, 1, 0, 0⟩, ⟨.v ⟨.i64, [a]⟩, 1, 0, 0⟩]] => (match (!xs.isEmpty && Nat.ble xs.length big : Bool) with | true => k ⟨.i64, xs.filter fun x => !struck b a x⟩ | false => none)
  | _, _, _ => noD f vec args k
def T2 : TT := tab.T S2 muts M2 Dn2
theorem tok2 : TOK Try.prog T2 := by
  refine (tab_ok tabok).tok (fun f args k out h => ?_) (fun f vec args k out h => ?_) (fun f vec args k out h => ?_)
  · change S2 f args k = some out at h
    unfold S2 at h
    split at h
    · exact (fun k out h => cok_call (c8 _ _ k out h)) k out h
    · exact (fun k out h => cok_call (c12 _ k out h)) k out h
    · exact (fun k out h => cok_call (c27 _ k out h)) k out h
    · exact tok1.S f args k out h
  · exact tok1.M f vec args k out h
  · change Dn2 f vec args k = some out at h
    unfold Dn2 at h
    split at h
    · exact c18 _ _ _ k out h
    · exact tok1.D f vec args k out h

end Go.Sm.Yticbjjedljddgaa
