/- What the functions hand back: level 4. -/
import Derived.Test.YtngcejakoaoojaaD4
namespace Go.Sm.Ytngcejakoaoojaa
open Go Go.Sm Go.RowKit Go.Proofs

/-! slices.EqualFunc[[]impl.Line,[]impl.Line,impl.Line,impl.Line] -/
def a35 : Ann := ann [(4, [1, 2, 15, 16, 17], [])] [6] 0
def lp35 : St → (Ex → St → R) → R := fun s k => match s with
  | ⟨[(1, .fv (.vw (some 1) ⟨.line, ys⟩)), (2, .fv (.fn 36 [])), (15, .fv (.vw (some 0) ⟨.line, xs⟩)), (16, .fv (.el (.sc (.int .i64 n)))), (17, .fv (.el (.sc (.int .i64 i))))], []⟩ => (match ((decide (n = (xs.length : Int)) && (decide (i = 0) && (Nat.beq xs.length ys.length && Nat.ble xs.length big))) : Bool) with
    | true => (match (all2 sameLn xs ys : Bool) with
      | true => k (.exit 0) ⟨[], []⟩
      | false => k .ret ⟨[(6, .fv (.el (.sc (.bo false))))], []⟩)
    | false => none)
  | _ => none
def l35 : Loops := fun key s k => bif Nat.beq key 4 then lp35 s k else none
theorem st35 (ys : List LineV) (xs : List LineV) (n : Int) (i : Int) (m : Nat) (k : Ex → St → R) : iterK a35 [1, 2, 15, 16, 17] [] (codeK T4 a35 l35 Try.f35.ntmps (loopAt Try.f35 0)) (m + 1) ⟨[(1, .fv (.vw (some 1) ⟨.line, ys⟩)), (2, .fv (.fn 36 [])), (15, .fv (.vw (some 0) ⟨.line, xs⟩)), (16, .fv (.el (.sc (.int .i64 n)))), (17, .fv (.el (.sc (.int .i64 i))))], []⟩ k = (match (decide ((i : Int) < n) : Bool) with
  | true => (match (decide (0 ≤ (i : Int) ∧ (i : Int) < (xs.length : Int)) && true : Bool) with
    | true => (match (xs : List LineV)[Int.toNat i]? with
      | some x1 => (match (decide (0 ≤ (i : Int) ∧ (i : Int) < (ys.length : Int)) && true : Bool) with
        | true => (match (ys : List LineV)[Int.toNat i]? with
          | some x2 => (match (!(sameLn x1 x2) : Bool) with
            | true => k .ret ⟨[(6, .fv (.el (.sc (.bo false))))], []⟩
            | false => iterK a35 [1, 2, 15, 16, 17] [] (codeK T4 a35 l35 Try.f35.ntmps (loopAt Try.f35 0)) m ⟨[(1, .fv (.vw (some 1) ⟨.line, ys⟩)), (2, .fv (.fn 36 [])), (15, .fv (.vw (some 0) ⟨.line, xs⟩)), (16, .fv (.el (.sc (.int .i64 n)))), (17, .fv (.el (.sc (.int .i64 (IntKind.i64.wrap (i + 1))))))], []⟩ k)
          | none => none)
        | false => none)
      | none => none)
    | false => none)
  | false => k (.exit 0) ⟨[], []⟩) := by kernel_rfl
theorem ind35 (xs ys : List LineV) (hl : xs.length = ys.length) (hx : Nat.ble xs.length big = true) (k : Ex → St → R) : ∀ (m j : Nat), j + m = xs.length → iterK a35 [1, 2, 15, 16, 17] [] (codeK T4 a35 l35 Try.f35.ntmps (loopAt Try.f35 0)) (m + 1) ⟨[(1, .fv (.vw (some 1) ⟨.line, ys⟩)), (2, .fv (.fn 36 [])), (15, .fv (.vw (some 0) ⟨.line, xs⟩)), (16, .fv (.el (.sc (.int .i64 (xs.length : Int))))), (17, .fv (.el (.sc (.int .i64 (j : Int)))))], []⟩ k =
    (match all2 sameLn (xs.drop j) (ys.drop j) with
    | true => k (.exit 0) ⟨[], []⟩
    | false => k .ret ⟨[(6, .fv (.el (.sc (.bo false))))], []⟩) := by
  intro m
  induction m with
  | zero =>
    intro j hj
    have h1 : ¬ ((j : Int) < (xs.length : Int)) := by omega
    rw [st35, List.drop_of_length_le (by omega)]
    simp [h1, all2]
  | succ m ih =>
    intro j hj
    have hlt : j < xs.length := by omega
    have hlt2 : j < ys.length := by omega
    have h1 : ((j : Int) < (xs.length : Int)) := by omega
    have h12 : ((j : Int) < (ys.length : Int)) := by omega
    have h2 : (0 : Int) ≤ (j : Int) := by omega
    rw [st35, wrap_succ hlt hx]
    have h3 : xs[Int.toNat (j : Int)]? = some xs[j] := by simp [hlt]
    have h4 : ys[Int.toNat (j : Int)]? = some ys[j] := by simp [hlt2]
    rw [List.drop_eq_getElem_cons hlt, List.drop_eq_getElem_cons hlt2, ih (j + 1) (by omega)]
    simp only [h1, h12, h2, h3, h4, and_self, decide_true, Bool.and_true, all2]
    cases hp : sameLn xs[j] ys[j] <;> simp

theorem lk35 : LOK T4 a35 l35 Try.f35.ntmps (loopAt Try.f35 0) := by
  intro ins outs hA s k out h
  have hA' : ([1, 2, 15, 16, 17], []) = (ins, outs) := Option.some.inj ((show a35.lp (firstRegion (loopAt Try.f35 0)) = some ([1, 2, 15, 16, 17], []) by kernel_rfl).symm.trans hA)
  cases hA'
  have hk : firstRegion (loopAt Try.f35 0) = 4 := by kernel_rfl
  rw [hk] at h
  change lp35 s k = some out at h
  unfold lp35 at h
  split at h
  · rename_i ys xs n i
    cases hg : (decide (n = (xs.length : Int)) && (decide (i = 0) && (Nat.beq xs.length ys.length && Nat.ble xs.length big))) with
    | false => rw [hg] at h; cases h
    | true =>
      rw [hg] at h
      simp only [Bool.and_eq_true, decide_eq_true_eq] at hg
      obtain ⟨rfl, rfl, hl, hx⟩ := hg
      refine ⟨xs.length + 1, ?_⟩
      exact (ind35 xs ys (Nat.eq_of_beq_eq_true hl) hx k xs.length 0 (by omega)).trans h
  · cases h
theorem e35 (xs : List LineV) (ys : List LineV) : runFn T4 a35 l35 Try.f35 [.vw none ⟨.line, xs⟩, .vw none ⟨.line, ys⟩, .fn 36 []] = (match (!(((xs.length : Int) : Int) == (ys.length : Int)) : Bool) with
  | true => some ⟨[.el (.sc (.bo false))], none⟩
  | false => (match ((decide (((xs.length : Int)) = (xs.length : Int)) && (decide (0 = 0) && (Nat.beq xs.length ys.length && Nat.ble xs.length big))) : Bool) with
    | true => (match (all2 sameLn xs ys : Bool) with
      | true => some ⟨[.el (.sc (.bo true))], none⟩
      | false => some ⟨[.el (.sc (.bo false))], none⟩)
    | false => none)) := by kernel_rfl
theorem s35 (xs : List LineV) (ys : List LineV) : runFn T4 a35 l35 Try.f35 [.vw none ⟨.line, xs⟩, .vw none ⟨.line, ys⟩, .fn 36 []] = (match (Nat.beq xs.length ys.length : Bool) with
  | true => (match (Nat.ble xs.length big : Bool) with
    | true => some ⟨[.el (.sc (.bo (all2 sameLn xs ys)))], none⟩
    | false => none)
  | false => some ⟨[.el (.sc (.bo false))], none⟩) := by
  rw [e35]
  have l1 : ((xs.length : Int) == (ys.length : Int)) = Nat.beq xs.length ys.length := by
    rw [Bool.eq_iff_iff, beq_iff_eq, Nat.beq_eq]
    omega
  rw [l1]
  cases hl : Nat.beq xs.length ys.length <;> cases hx : Nat.ble xs.length big <;> cases h3 : all2 sameLn xs ys <;> simp [hl, hx, h3]
theorem c35 (xs : List LineV) (ys : List LineV) (k : List RV → R) (out : Out) (h : (match (Nat.beq xs.length ys.length : Bool) with
  | true => (match (Nat.ble xs.length big : Bool) with
    | true => k [.el (.sc (.bo (all2 sameLn xs ys)))]
    | false => none)
  | false => k [.el (.sc (.bo false))]) = some out) : ∃ rs, Real Try.prog 35 ∧ COK Try.prog 35 [.vw none ⟨.line, xs⟩, .vw none ⟨.line, ys⟩, .fn 36 []] rs ∧ k rs = some out := by
  cases g0 : (Nat.beq xs.length ys.length : Bool) with
  | true =>
    rw [g0] at h
    cases g1 : (Nat.ble xs.length big : Bool) with
    | true =>
      rw [g1] at h
      exact ⟨_, real Try.func35 (by kernel_rfl), fn_ok tok4 (A := a35) (L := l35) (r := none) Try.func35 (by kernel_rfl) (by kernel_rfl) (loops1 (by kernel_rfl) lk35) (by rw [s35, g0, g1]), h⟩
    | false =>
      rw [g1] at h
      cases h
  | false =>
    rw [g0] at h
    exact ⟨_, real Try.func35 (by kernel_rfl), fn_ok tok4 (A := a35) (L := l35) (r := none) Try.func35 (by kernel_rfl) (by kernel_rfl) (loops1 (by kernel_rfl) lk35) (by rw [s35, g0]), h⟩

def S5 : SFn := fun f args k => match f, args with
  | 35, [.vw none ⟨.line, xs⟩, .vw none ⟨.line, ys⟩, .fn 36 []] => (match (Nat.beq xs.length ys.length : Bool) with
    | true => (match (Nat.ble xs.length big : Bool) with
      | true => k [.el (.sc (.bo (all2 sameLn xs ys)))]
      | false => none)
    | false => k [.el (.sc (.bo false))])
  | _, _ => S4 f args k
abbrev M5 : MFn := M4
def T5 : TT := tab.T S5 muts M5
theorem tok5 : TOK Try.prog T5 := by
  refine (tab_ok tabok).tok (fun f args k out h => ?_) (fun f vec args k out h => ?_)
  · change S5 f args k = some out at h
    unfold S5 at h
    split at h
    · exact (fun k out h => cok_call (c35 _ _ k out h)) k out h
    · exact tok4.S f args k out h
  · exact tok4.M f vec args k out h

end Go.Sm.Ytngcejakoaoojaa
