/- What the functions hand back: level 6. -/
import Derived.Test.YtlkphfpkohabeaaD6
namespace Go.Sm.Ytlkphfpkohabeaa
open Go Go.Sm Go.RowKit Go.Proofs

/-! impl.WaveAt -/
def a104 : Ann := ann [(5, [0, 1, 6, 7], [6])] [4, 5] 0
def lp104 : St → (Ex → St → R) → R := fun s k => match s with
  | ⟨[(0, .fv (.vw (some 0) ⟨.f32, xs⟩)), (1, .fv (.el (.sc (.fl .f32 p)))), (6, .fv (.el (.sc (.fl .f32 x)))), (7, .fv (.el (.sc (.int .i64 i))))], []⟩ => (match (decide (i = (xs.length : Int) - 1) && Nat.ble xs.length big : Bool) with
    | true => k (.exit 0) ⟨[(6, .fv (.el (.sc (.fl .f32 (horner p x xs)))))], []⟩
    | false => none)
  | _ => none
def l104 : Loops := fun key s k => bif Nat.beq key 5 then lp104 s k else none
theorem st104 (xs : List Nat) (p : Nat) (x : Nat) (i : Int) (m : Nat) (k : Ex → St → R) : iterK a104 [0, 1, 6, 7] [6] (codeK T6 a104 l104 Try.f104.ntmps (loopAt Try.f104 0)) (m + 1) ⟨[(0, .fv (.vw (some 0) ⟨.f32, xs⟩)), (1, .fv (.el (.sc (.fl .f32 p)))), (6, .fv (.el (.sc (.fl .f32 x)))), (7, .fv (.el (.sc (.int .i64 i))))], []⟩ k = (match (decide ((i : Int) ≥ 0) : Bool) with
  | true => (match (decide (0 ≤ (i : Int) ∧ (i : Int) < (xs.length : Int)) && true : Bool) with
    | true => (match (xs : List Nat)[Int.toNat i]? with
      | some x1 => iterK a104 [0, 1, 6, 7] [6] (codeK T6 a104 l104 Try.f104.ntmps (loopAt Try.f104 0)) m ⟨[(0, .fv (.vw (some 0) ⟨.f32, xs⟩)), (1, .fv (.el (.sc (.fl .f32 p)))), (6, .fv (.el (.sc (.fl .f32 (fop .add .f32 (fop .mul .f32 x p) x1))))), (7, .fv (.el (.sc (.int .i64 (IntKind.i64.wrap (i - 1))))))], []⟩ k
      | none => none)
    | false => none)
  | false => k (.exit 0) ⟨[(6, .fv (.el (.sc (.fl .f32 x))))], []⟩) := by kernel_rfl
theorem ind104 (xs : List Nat) (p : Nat) (hx : Nat.ble xs.length big = true) (k : Ex → St → R) : ∀ (j : Nat) (x : Nat), j ≤ xs.length → iterK a104 [0, 1, 6, 7] [6] (codeK T6 a104 l104 Try.f104.ntmps (loopAt Try.f104 0)) (j + 1) ⟨[(0, .fv (.vw (some 0) ⟨.f32, xs⟩)), (1, .fv (.el (.sc (.fl .f32 p)))), (6, .fv (.el (.sc (.fl .f32 x)))), (7, .fv (.el (.sc (.int .i64 ((j : Int) - 1)))))], []⟩ k =
    k (.exit 0) ⟨[(6, .fv (.el (.sc (.fl .f32 (horner p x (xs.take j))))))], []⟩ := by
  intro j
  induction j with
  | zero =>
    intro x hj
    have h1 : ¬ (((0 : Nat) : Int) - 1 ≥ 0) := by omega
    rw [st104]
    simp [horner]
  | succ j ih =>
    intro x hj
    have hlt : j < xs.length := by omega
    have hxl := Nat.le_of_ble_eq_true hx
    unfold big at hxl
    have e1 : ((j + 1 : Nat) : Int) - 1 = (j : Int) := by omega
    rw [e1, st104]
    have h1 : ((j : Int) ≥ 0) := by omega
    have h2 : (0 : Int) ≤ (j : Int) ∧ (j : Int) < (xs.length : Int) := by omega
    have hw : IntKind.i64.wrap ((j : Int) - 1) = (j : Int) - 1 := wrap64 (by omega) (by omega)
    have h3 : xs[Int.toNat (j : Int)]? = some xs[j] := by simp [hlt]
    rw [hw]
    simp only [h1, h2, h3, and_self, decide_true, Bool.and_true]
    refine (ih _ (by omega)).trans ?_
    have h5 : horner p x (xs.take (j + 1)) = horner p (fop .add .f32 (fop .mul .f32 x p) xs[j]) (xs.take j) := by
      unfold horner
      rw [List.take_succ_eq_append_getElem hlt, List.foldr_append]
      rfl
    rw [h5]

theorem lk104 : LOK T6 a104 l104 Try.f104.ntmps (loopAt Try.f104 0) := by
  intro ins outs hA s k out h
  have hA' : ([0, 1, 6, 7], [6]) = (ins, outs) := Option.some.inj ((show a104.lp (firstRegion (loopAt Try.f104 0)) = some ([0, 1, 6, 7], [6]) by kernel_rfl).symm.trans hA)
  cases hA'
  have hk : firstRegion (loopAt Try.f104 0) = 5 := by kernel_rfl
  rw [hk] at h
  change lp104 s k = some out at h
  unfold lp104 at h
  split at h
  · rename_i xs p x i
    cases hg : (decide (i = (xs.length : Int) - 1) && Nat.ble xs.length big) with
    | false => rw [hg] at h; cases h
    | true =>
      rw [hg] at h
      simp only [Bool.and_eq_true, decide_eq_true_eq] at hg
      obtain ⟨rfl, hx⟩ := hg
      refine ⟨xs.length + 1, ?_⟩
      have hh := ind104 xs p hx k xs.length x (Nat.le_refl _)
      rw [List.take_length] at hh
      exact hh.trans h
  · cases h
theorem e104 (xs : List Nat) (p : Nat) : runFn T6 a104 l104 Try.f104 [.vw none ⟨.f32, xs⟩, .el (.sc (.fl .f32 p))] = (match (!(xs.all fin && (decide (xs.length ≥ 1) && decide (xs.length ≤ 3))) : Bool) with
  | true => some ⟨[.el (.sc (.fl .f32 0)), .el (.sc (.bo false))], none⟩
  | false => (match (!(fin p) : Bool) with
    | true => some ⟨[.el (.sc (.fl .f32 0)), .el (.sc (.bo false))], none⟩
    | false => (match (decide (IntKind.i64.wrap (((xs.length : Int)) - 1) = (xs.length : Int) - 1) && Nat.ble xs.length big : Bool) with
      | true => some ⟨[.el (.sc (.fl .f32 (numOf (horner p 0 xs)))), .el (.sc (.bo (fin (horner p 0 xs))))], none⟩
      | false => none))) := by kernel_rfl
theorem s104 (xs : List Nat) (p : Nat) : runFn T6 a104 l104 Try.f104 [.vw none ⟨.f32, xs⟩, .el (.sc (.fl .f32 p))] = some ⟨[.el (.sc (.fl .f32 (orZero (((xs.all fin && (decide (xs.length ≥ 1) && decide (xs.length ≤ 3))) && fin p) && fin (horner p 0 xs)) (horner p 0 xs)))), .el (.sc (.bo (((xs.all fin && (decide (xs.length ≥ 1) && decide (xs.length ≤ 3))) && fin p) && fin (horner p 0 xs))))], none⟩ := by
  rw [e104]
  cases h : (xs.all fin && (decide (xs.length ≥ 1) && decide (xs.length ≤ 3))) with
  | false => simp [orZero]
  | true =>
    have h2 := h
    simp only [Bool.and_eq_true, decide_eq_true_eq] at h2
    have hb : Nat.ble xs.length big = true := Nat.ble_eq_true_of_le (by unfold big; omega)
    have hw : IntKind.i64.wrap ((xs.length : Int) - 1) = (xs.length : Int) - 1 := wrap64 (by omega) (by omega)
    unfold orZero numOf
    cases fin p <;> cases fin (horner p 0 xs) <;> simp [hb, hw]
theorem c104 (xs : List Nat) (p : Nat) (k : List RV → R) (out : Out) (h : k [.el (.sc (.fl .f32 (orZero (((xs.all fin && (decide (xs.length ≥ 1) && decide (xs.length ≤ 3))) && fin p) && fin (horner p 0 xs)) (horner p 0 xs)))), .el (.sc (.bo (((xs.all fin && (decide (xs.length ≥ 1) && decide (xs.length ≤ 3))) && fin p) && fin (horner p 0 xs))))] = some out) : ∃ rs, Real Try.prog 104 ∧ COK Try.prog 104 [.vw none ⟨.f32, xs⟩, .el (.sc (.fl .f32 p))] rs ∧ k rs = some out := by
  exact ⟨_, real Try.func104 (by kernel_rfl), fn_ok tok6 (A := a104) (L := l104) (r := none) Try.func104 (by kernel_rfl) (by kernel_rfl) (loops1 (by kernel_rfl) lk104) (by rw [s104]), h⟩

/-! impl.areLines$1 -/
theorem s112 (lp : Nat) (lh : Nat) (lw : Nat) (lk : Int) : runFn T6 none0 noL Try.f112 [.el (.ag [(.fl .f32 lp), (.fl .f32 lh), (.fl .f32 lw), (.int .i64 lk)])] = some ⟨[.el (.sc (.bo (notLine ((⟨lp, lh, lw, lk⟩ : LineV)))))], none⟩ := by kernel_rfl
theorem c112 (lp : Nat) (lh : Nat) (lw : Nat) (lk : Int) (k : List RV → R) (out : Out) (h : k [.el (.sc (.bo (notLine ((⟨lp, lh, lw, lk⟩ : LineV)))))] = some out) : ∃ rs, Real Try.prog 112 ∧ COK Try.prog 112 [.el (.ag [(.fl .f32 lp), (.fl .f32 lh), (.fl .f32 lw), (.int .i64 lk)])] rs ∧ k rs = some out := by
  exact ⟨_, real Try.func112 (by kernel_rfl), fn_ok tok6 (A := none0) (L := noL) (r := none) Try.func112 (by kernel_rfl) (by kernel_rfl) (loops0 (by kernel_rfl)) (by rw [s112]), h⟩

def S7 : SFn := fun f args k => match f, args with
  | 104, [.vw none ⟨.f32, xs⟩, .el (.sc (.fl .f32 p))] => k [.el (.sc (.fl .f32 (orZero (((xs.all fin && (decide (xs.length ≥ 1) && decide (xs.length ≤ 3))) && fin p) && fin (horner p 0 xs)) (horner p 0 xs)))), .el (.sc (.bo (((xs.all fin && (decide (xs.length ≥ 1) && decide (xs.length ≤ 3))) && fin p) && fin (horner p 0 xs))))]
  | 112, [.el (.ag [(.fl .f32 lp), (.fl .f32 lh), (.fl .f32 lw), (.int .i64 lk)])] => k [.el (.sc (.bo (notLine ((⟨lp, lh, lw, lk⟩ : LineV)))))]
  | _, _ => S6 f args k
abbrev M7 : MFn := M6
def T7 : TT := tab.T S7 muts M7
theorem tok7 : TOK Try.prog T7 := by
  refine (tab_ok tabok).tok (fun f args k out h => ?_) (fun f vec args k out h => ?_)
  · change S7 f args k = some out at h
    unfold S7 at h
    split at h
    · exact (fun k out h => cok_call (c104 _ _ k out h)) k out h
    · exact (fun k out h => cok_call (c112 _ _ _ _ k out h)) k out h
    · exact tok6.S f args k out h
  · exact tok6.M f vec args k out h

end Go.Sm.Ytlkphfpkohabeaa
