/- What the functions hand back: level 2. -/
import Derived.Test.YtngcejakoaoojaaD2
namespace Go.Sm.Ytngcejakoaoojaa
open Go Go.Sm Go.RowKit Go.Proofs

/-! laws.eqLineS -/
def a12 : Ann := ann [(4, [0, 1, 5], [])] [4] 0
def lp12 : St → (Ex → St → R) → R := fun s k => match s with
  | ⟨[(0, .fv (.vw (some 0) ⟨.line, xs⟩)), (1, .fv (.vw (some 1) ⟨.line, ys⟩)), (5, .fv (.el (.sc (.int .i64 i))))], []⟩ => (match (decide (i = 0) && (Nat.beq xs.length ys.length && Nat.ble xs.length big) : Bool) with
    | true => (match (all2 eqLineF xs ys : Bool) with
      | true => k (.exit 0) ⟨[], []⟩
      | false => k .ret ⟨[(4, .fv (.el (.sc (.bo false))))], []⟩)
    | false => none)
  | _ => none
def l12 : Loops := fun key s k => bif Nat.beq key 4 then lp12 s k else none
theorem st12 (xs : List LineV) (ys : List LineV) (i : Int) (m : Nat) (k : Ex → St → R) : iterK a12 [0, 1, 5] [] (codeK T2 a12 l12 Try.f12.ntmps (loopAt Try.f12 0)) (m + 1) ⟨[(0, .fv (.vw (some 0) ⟨.line, xs⟩)), (1, .fv (.vw (some 1) ⟨.line, ys⟩)), (5, .fv (.el (.sc (.int .i64 i))))], []⟩ k = (match (decide ((i : Int) < (xs.length : Int)) : Bool) with
  | true => (match (decide (0 ≤ (i : Int) ∧ (i : Int) < (xs.length : Int)) && true : Bool) with
    | true => (match (xs : List LineV)[Int.toNat i]? with
      | some x1 => (match (decide (0 ≤ (i : Int) ∧ (i : Int) < (ys.length : Int)) && true : Bool) with
        | true => (match (ys : List LineV)[Int.toNat i]? with
          | some x2 => (match (!(eqLineF x1 x2) : Bool) with
            | true => k .ret ⟨[(4, .fv (.el (.sc (.bo false))))], []⟩
            | false => iterK a12 [0, 1, 5] [] (codeK T2 a12 l12 Try.f12.ntmps (loopAt Try.f12 0)) m ⟨[(0, .fv (.vw (some 0) ⟨.line, xs⟩)), (1, .fv (.vw (some 1) ⟨.line, ys⟩)), (5, .fv (.el (.sc (.int .i64 (IntKind.i64.wrap (i + 1))))))], []⟩ k)
          | none => none)
        | false => none)
      | none => none)
    | false => none)
  | false => k (.exit 0) ⟨[], []⟩) := by kernel_rfl
theorem ind12 (xs ys : List LineV) (hl : xs.length = ys.length) (hx : Nat.ble xs.length big = true) (k : Ex → St → R) : ∀ (m j : Nat), j + m = xs.length → iterK a12 [0, 1, 5] [] (codeK T2 a12 l12 Try.f12.ntmps (loopAt Try.f12 0)) (m + 1) ⟨[(0, .fv (.vw (some 0) ⟨.line, xs⟩)), (1, .fv (.vw (some 1) ⟨.line, ys⟩)), (5, .fv (.el (.sc (.int .i64 (j : Int)))))], []⟩ k =
    (match all2 eqLineF (xs.drop j) (ys.drop j) with
    | true => k (.exit 0) ⟨[], []⟩
    | false => k .ret ⟨[(4, .fv (.el (.sc (.bo false))))], []⟩) := by
  intro m
  induction m with
  | zero =>
    intro j hj
    have h1 : ¬ ((j : Int) < (xs.length : Int)) := by omega
    rw [st12, List.drop_of_length_le (by omega)]
    simp [h1, all2]
  | succ m ih =>
    intro j hj
    have hlt : j < xs.length := by omega
    have hlt2 : j < ys.length := by omega
    have h1 : ((j : Int) < (xs.length : Int)) := by omega
    have h12 : ((j : Int) < (ys.length : Int)) := by omega
    have h2 : (0 : Int) ≤ (j : Int) := by omega
    rw [st12, wrap_succ hlt hx]
    have h3 : xs[Int.toNat (j : Int)]? = some xs[j] := by simp [hlt]
    have h4 : ys[Int.toNat (j : Int)]? = some ys[j] := by simp [hlt2]
    rw [List.drop_eq_getElem_cons hlt, List.drop_eq_getElem_cons hlt2, ih (j + 1) (by omega)]
    simp only [h1, h12, h2, h3, h4, and_self, decide_true, Bool.and_true, all2]
    cases hp : eqLineF xs[j] ys[j] <;> simp

theorem lk12 : LOK T2 a12 l12 Try.f12.ntmps (loopAt Try.f12 0) := by
  intro ins outs hA s k out h
  have hA' : ([0, 1, 5], []) = (ins, outs) := Option.some.inj ((show a12.lp (firstRegion (loopAt Try.f12 0)) = some ([0, 1, 5], []) by kernel_rfl).symm.trans hA)
  cases hA'
  have hk : firstRegion (loopAt Try.f12 0) = 4 := by kernel_rfl
  rw [hk] at h
  change lp12 s k = some out at h
  unfold lp12 at h
  split at h
  · rename_i xs ys i
    cases hg : (decide (i = 0) && (Nat.beq xs.length ys.length && Nat.ble xs.length big)) with
    | false => rw [hg] at h; cases h
    | true =>
      rw [hg] at h
      simp only [Bool.and_eq_true, decide_eq_true_eq] at hg
      obtain ⟨rfl, hl, hx⟩ := hg
      refine ⟨xs.length + 1, ?_⟩
      exact (ind12 xs ys (Nat.eq_of_beq_eq_true hl) hx k xs.length 0 (by omega)).trans h
  · cases h
theorem e12 (xs : List LineV) (ys : List LineV) : runFn T2 a12 l12 Try.f12 [.vw none ⟨.line, xs⟩, .vw none ⟨.line, ys⟩] = (match (!(((xs.length : Int) : Int) == (ys.length : Int)) : Bool) with
  | true => some ⟨[.el (.sc (.bo false))], none⟩
  | false => (match (decide (0 = 0) && (Nat.beq xs.length ys.length && Nat.ble xs.length big) : Bool) with
    | true => (match (all2 eqLineF xs ys : Bool) with
      | true => some ⟨[.el (.sc (.bo true))], none⟩
      | false => some ⟨[.el (.sc (.bo false))], none⟩)
    | false => none)) := by kernel_rfl
theorem s12 (xs : List LineV) (ys : List LineV) : runFn T2 a12 l12 Try.f12 [.vw none ⟨.line, xs⟩, .vw none ⟨.line, ys⟩] = (match (Nat.beq xs.length ys.length : Bool) with
  | true => (match (Nat.ble xs.length big : Bool) with
    | true => some ⟨[.el (.sc (.bo (all2 eqLineF xs ys)))], none⟩
    | false => none)
  | false => some ⟨[.el (.sc (.bo false))], none⟩) := by
  rw [e12]
  cases hl : Nat.beq xs.length ys.length with
  | false =>
    have h1 : xs.length ≠ ys.length := fun e => by rw [e, Nat.beq_refl] at hl; cases hl
    have h2 : ((xs.length : Int) == (ys.length : Int)) = false := beq_false_of_ne (by omega)
    simp only [h2, Bool.not_false]
  | true =>
    have h1 := Nat.eq_of_beq_eq_true hl
    have h2 : ((xs.length : Int) == (ys.length : Int)) = true := beq_iff_eq.2 (by omega)
    simp only [h2, Bool.not_true]
    cases h : Nat.ble xs.length big with
    | false => simp
    | true => cases h3 : all2 eqLineF xs ys <;> simp
theorem c12 (xs : List LineV) (ys : List LineV) (k : List RV → R) (out : Out) (h : (match (Nat.beq xs.length ys.length : Bool) with
  | true => (match (Nat.ble xs.length big : Bool) with
    | true => k [.el (.sc (.bo (all2 eqLineF xs ys)))]
    | false => none)
  | false => k [.el (.sc (.bo false))]) = some out) : ∃ rs, Real Try.prog 12 ∧ COK Try.prog 12 [.vw none ⟨.line, xs⟩, .vw none ⟨.line, ys⟩] rs ∧ k rs = some out := by
  cases g0 : (Nat.beq xs.length ys.length : Bool) with
  | true =>
    rw [g0] at h
    cases g1 : (Nat.ble xs.length big : Bool) with
    | true =>
      rw [g1] at h
      exact ⟨_, real Try.func12 (by kernel_rfl), fn_ok tok2 (A := a12) (L := l12) (r := none) Try.func12 (by kernel_rfl) (by kernel_rfl) (loops1 (by kernel_rfl) lk12) (by rw [s12, g0, g1]), h⟩
    | false =>
      rw [g1] at h
      cases h
  | false =>
    rw [g0] at h
    exact ⟨_, real Try.func12 (by kernel_rfl), fn_ok tok2 (A := a12) (L := l12) (r := none) Try.func12 (by kernel_rfl) (by kernel_rfl) (loops1 (by kernel_rfl) lk12) (by rw [s12, g0]), h⟩

/-! spec.l01Same -/
theorem e33 (a : Nat) (b : Nat) : runFn T2 none0 noL Try.f33 [.el (.sc (.fl .f32 a)), .el (.sc (.fl .f32 b))] = (match (decide (a < 4294967296) : Bool) with
  | true => (match (decide (b < 4294967296) : Bool) with
    | true => some ⟨[.el (.sc (.bo ((bitsI a : Int) == bitsI b)))], none⟩
    | false => none)
  | false => none) := by kernel_rfl
theorem s33 (a : Nat) (b : Nat) (hg : (decide (a < 4294967296) && decide (b < 4294967296)) = true) : runFn T2 none0 noL Try.f33 [.el (.sc (.fl .f32 a)), .el (.sc (.fl .f32 b))] = some ⟨[.el (.sc (.bo (sameBits a b)))], none⟩ := by
  rw [e33]
  rw [Bool.and_eq_true] at hg
  rw [hg.1, hg.2]
  have e := bits_same (of_decide_eq_true hg.1) (of_decide_eq_true hg.2)
  dsimp only
  rw [e]
theorem c33 (a : Nat) (b : Nat) (k : List RV → R) (out : Out) (h : (match (decide (a < 4294967296) && decide (b < 4294967296) : Bool) with
  | true => k [.el (.sc (.bo (sameBits a b)))]
  | false => none) = some out) : ∃ rs, Real Try.prog 33 ∧ COK Try.prog 33 [.el (.sc (.fl .f32 a)), .el (.sc (.fl .f32 b))] rs ∧ k rs = some out := by
  cases g0 : (decide (a < 4294967296) && decide (b < 4294967296) : Bool) with
  | true =>
    rw [g0] at h
    exact ⟨_, real Try.func33 (by kernel_rfl), fn_ok tok2 (A := none0) (L := noL) (r := none) Try.func33 (by kernel_rfl) (by kernel_rfl) (loops0 (by kernel_rfl)) (by rw [s33 _ _ g0]), h⟩
  | false =>
    rw [g0] at h
    cases h

/-! impl.SameNumber -/
theorem e37 (a : Nat) (b : Nat) : runFn T2 none0 noL Try.f37 [.el (.sc (.fl .f32 a)), .el (.sc (.fl .f32 b))] = (match (fcmp .neq .f32 a a : Bool) with
  | true => (match (fcmp .neq .f32 a a : Bool) with
    | true => some ⟨[.el (.sc (.bo (fcmp .neq .f32 b b)))], none⟩
    | false => some ⟨[.el (.sc (.bo false))], none⟩)
  | false => (match (fcmp .neq .f32 b b : Bool) with
    | true => (match (fcmp .neq .f32 a a : Bool) with
      | true => some ⟨[.el (.sc (.bo (fcmp .neq .f32 b b)))], none⟩
      | false => some ⟨[.el (.sc (.bo false))], none⟩)
    | false => (match (fcmp .eql .f32 a b : Bool) with
      | true => (match (!isN .f64 (wid a) : Bool) with
        | true => (match (!isN .f64 (wid b) : Bool) with
          | true => some ⟨[.el (.sc (.bo ((signF (wid a)) == (signF (wid b)))))], none⟩
          | false => none)
        | false => none)
      | false => some ⟨[.el (.sc (.bo false))], none⟩))) := by kernel_rfl
theorem s37 (a : Nat) (b : Nat) : runFn T2 none0 noL Try.f37 [.el (.sc (.fl .f32 a)), .el (.sc (.fl .f32 b))] = some ⟨[.el (.sc (.bo (sameBits a b)))], none⟩ := by
  rw [e37]
  unfold sameBits
  rw [fcmp_neq_self, fcmp_neq_self]
  cases xa : isN .f32 a with
  | true => cases xb : isN .f32 b <;> simp
  | false =>
    cases xb : isN .f32 b with
    | true => simp
    | false =>
      rw [wid_notN xa, wid_notN xb]
      cases fcmp .eql .f32 a b <;> rfl
theorem c37 (a : Nat) (b : Nat) (k : List RV → R) (out : Out) (h : k [.el (.sc (.bo (sameBits a b)))] = some out) : ∃ rs, Real Try.prog 37 ∧ COK Try.prog 37 [.el (.sc (.fl .f32 a)), .el (.sc (.fl .f32 b))] rs ∧ k rs = some out := by
  exact ⟨_, real Try.func37 (by kernel_rfl), fn_ok tok2 (A := none0) (L := noL) (r := none) Try.func37 (by kernel_rfl) (by kernel_rfl) (loops0 (by kernel_rfl)) (by rw [s37]), h⟩

def S3 : SFn := fun f args k => match f, args with
  | 12, [.vw none ⟨.line, xs⟩, .vw none ⟨.line, ys⟩] => (match (Nat.beq xs.length ys.length : Bool) with
    | true => (match (Nat.ble xs.length big : Bool) with
      | true => k [.el (.sc (.bo (all2 eqLineF xs ys)))]
      | false => none)
    | false => k [.el (.sc (.bo false))])
  | 33, [.el (.sc (.fl .f32 a)), .el (.sc (.fl .f32 b))] => (match (decide (a < 4294967296) && decide (b < 4294967296) : Bool) with
    | true => k [.el (.sc (.bo (sameBits a b)))]
    | false => none)
  | 37, [.el (.sc (.fl .f32 a)), .el (.sc (.fl .f32 b))] => k [.el (.sc (.bo (sameBits a b)))]
  | _, _ => S2 f args k
abbrev M3 : MFn := M2
def T3 : TT := tab.T S3 muts M3
theorem tok3 : TOK Try.prog T3 := by
  refine (tab_ok tabok).tok (fun f args k out h => ?_) (fun f vec args k out h => ?_)
  · change S3 f args k = some out at h
    unfold S3 at h
    split at h
    · exact (fun k out h => cok_call (c12 _ _ k out h)) k out h
    · exact (fun k out h => cok_call (c33 _ _ k out h)) k out h
    · exact (fun k out h => cok_call (c37 _ _ k out h)) k out h
    · exact tok2.S f args k out h
  · exact tok2.M f vec args k out h

end Go.Sm.Ytngcejakoaoojaa
