/- What the functions hand back: level 10. -/
import Derived.Test.YtpckpfbjhnllbaaD10
namespace Go.Sm.Ytpckpfbjhnllbaa
open Go Go.Sm Go.RowKit Go.Proofs

/-! impl.LinesAt -/
def a48 : Ann := ann [(5, [1, 6, 19, 20, 21], [6])] [4, 5] 0
def lp48 : St → (Ex → St → R) → R := fun s k => match s with
  | ⟨[(1, .fv (.el (.sc (.fl .f32 x)))), (6, .fv (.el (.sc (.fl .f32 a)))), (19, .fv (.vw (some 0) ⟨.line, xs⟩)), (20, .fv (.el (.sc (.int .i64 n)))), (21, .fv (.el (.sc (.int .i64 i))))], []⟩ => (match ((decide (n = (xs.length : Int)) && (decide (i = 0) && Nat.ble xs.length big)) : Bool) with | true => (match repE (fun j a => bif lineOk (xs.getD j noLine) x then some (fop .add .f32 a (lineV (xs.getD j noLine) x)) else none) (xs.length) 0 (a : Nat) with | some s => k (.exit 0) ⟨[(6, .fv (.el (.sc (.fl .f32 s))))], []⟩ | none => k .ret ⟨[(4, .fv (.el (.sc (.fl .f32 0)))), (5, .fv (.el (.sc (.bo false))))], []⟩) | false => none)
  | _ => none
def l48 : Loops := fun key s k => bif Nat.beq key 5 then lp48 s k else none
theorem st48 (x : Nat) (a : Nat) (xs : List LineV) (n : Int) (i : Int) (m : Nat) (k : Ex → St → R) : iterK a48 [1, 6, 19, 20, 21] [6] (codeK T10 a48 l48 Try.f48.ntmps (loopAt Try.f48 0)) (m + 1) ⟨[(1, .fv (.el (.sc (.fl .f32 x)))), (6, .fv (.el (.sc (.fl .f32 a)))), (19, .fv (.vw (some 0) ⟨.line, xs⟩)), (20, .fv (.el (.sc (.int .i64 n)))), (21, .fv (.el (.sc (.int .i64 i))))], []⟩ k = (match (decide ((i : Int) < n) : Bool) with | true => (match (decide (0 ≤ (i : Int) ∧ (i : Int) < (xs.length : Int)) && true : Bool) with | true => (match (xs : List LineV)[Int.toNat i]? with | some x1 => (match (!(lineOk x1 x) : Bool) with | true => k .ret ⟨[(4, .fv (.el (.sc (.fl .f32 0)))), (5, .fv (.el (.sc (.bo false))))], []⟩ | false => iterK a48 [1, 6, 19, 20, 21] [6] (codeK T10 a48 l48 Try.f48.ntmps (loopAt Try.f48 0)) m ⟨[(1, .fv (.el (.sc (.fl .f32 x)))), (6, .fv (.el (.sc (.fl .f32 (fop .add .f32 a (orZero (lineOk x1 x) (lineV x1 x))))))), (19, .fv (.vw (some 0) ⟨.line, xs⟩)), (20, .fv (.el (.sc (.int .i64 n)))), (21, .fv (.el (.sc (.int .i64 (IntKind.i64.wrap (i + 1))))))], []⟩ k) | none => none) | false => none) | false => k (.exit 0) ⟨[(6, .fv (.el (.sc (.fl .f32 a))))], []⟩) := by kernel_rfl
theorem ind48 (x : Nat) (xs : List LineV) (hx : (Nat.ble xs.length big) = true) (k : Ex → St → R) : ∀ (m j : Nat) (a : Nat), 0 ≤ j → j + m = xs.length → iterK a48 [1, 6, 19, 20, 21] [6] (codeK T10 a48 l48 Try.f48.ntmps (loopAt Try.f48 0)) (m + 1) ⟨[(1, .fv (.el (.sc (.fl .f32 x)))), (6, .fv (.el (.sc (.fl .f32 a)))), (19, .fv (.vw (some 0) ⟨.line, xs⟩)), (20, .fv (.el (.sc (.int .i64 (xs.length : Int))))), (21, .fv (.el (.sc (.int .i64 (j : Int)))))], []⟩ k =
    (match repE (fun j a => bif lineOk (xs.getD j noLine) x then some (fop .add .f32 a (lineV (xs.getD j noLine) x)) else none) m j (a : Nat) with
    | some s => k (.exit 0) ⟨[(6, .fv (.el (.sc (.fl .f32 s))))], []⟩
    | none => k .ret ⟨[(4, .fv (.el (.sc (.fl .f32 0)))), (5, .fv (.el (.sc (.bo false))))], []⟩) := by
  intro m
  induction m with
  | zero =>
    intro j a hlo hj
    have hx_ := big_le hx
    have h1 : ¬ (((j : Int) < (xs.length : Int))) := by omega
    rw [st48]
    simp only [h1, repE, decide_false] <;> rfl
  | succ m ih =>
    intro j a hlo hj
    have hx_ := big_le hx
    have h1 : ((j : Int) < (xs.length : Int)) := by omega
    have xb : (0 : Int) ≤ ((j : Nat) : Int) ∧ ((j : Nat) : Int) < (xs.length : Int) := by omega
    have xq : xs[Int.toNat ((j : Nat) : Int)]? = some (xs.getD (j) noLine) := getI (by omega)
    have xp : xs[j]? = some (xs.getD (j) noLine) := getI2 (by omega)
    have wn : IntKind.i64.wrap ((j : Int) + 1) = ((j + 1 : Nat) : Int) := wrapN (by omega) (by omega)
    rw [st48]
    simp only [h1, wn, xb, xq, xp, and_self, decide_true, Bool.and_true, Int.le_refl]
    rw [repE_succ]
    cases hf : lineOk (xs.getD j noLine) x with
    | true => simp only [orZero, cond_true]; exact ih (j + 1) _ (by omega) (by omega)
    | false => rfl

theorem lk48 : LOK T10 a48 l48 Try.f48.ntmps (loopAt Try.f48 0) := by
  intro ins outs hA s k out h
  have hA' : ([1, 6, 19, 20, 21], [6]) = (ins, outs) := Option.some.inj ((show a48.lp (firstRegion (loopAt Try.f48 0)) = some ([1, 6, 19, 20, 21], [6]) by kernel_rfl).symm.trans hA)
  cases hA'
  have hk : firstRegion (loopAt Try.f48 0) = 5 := by kernel_rfl
  rw [hk] at h
  change lp48 s k = some out at h
  unfold lp48 at h
  split at h
  · rename_i x a xs n i
    cases hg : (decide (n = (xs.length : Int)) && (decide (i = 0) && Nat.ble xs.length big)) with
    | false => rw [hg] at h; cases h
    | true =>
      rw [hg] at h
      simp only [Bool.and_eq_true, decide_eq_true_eq] at hg
      obtain ⟨rfl, rfl, hx⟩ := hg
      refine ⟨(xs.length) + 1, ?_⟩
      have hx_ := big_le hx
      exact (ind48 x xs hx k (xs.length) 0 a (by omega) (by omega)).trans h
  · cases h
theorem e48 (xs : List LineV) (x : Nat) : runFn T10 a48 l48 Try.f48 [.vw none ⟨.line, xs⟩, .el (.sc (.fl .f32 x))] = (match (decide (12 ≤ 1099511627776) : Bool) with | true => (match (!(linesIn xs 0 12) : Bool) with | true => some ⟨[.el (.sc (.fl .f32 0)), .el (.sc (.bo false))], none⟩ | false => (match (!(fin x) : Bool) with | true => some ⟨[.el (.sc (.fl .f32 0)), .el (.sc (.bo false))], none⟩ | false => (match ((decide (((xs.length : Int)) = (xs.length : Int)) && (decide (0 = 0) && Nat.ble xs.length big)) : Bool) with | true => (match repE (fun j a => bif lineOk (xs.getD j noLine) x then some (fop .add .f32 a (lineV (xs.getD j noLine) x)) else none) (xs.length) 0 (0 : Nat) with | some s => some ⟨[.el (.sc (.fl .f32 (numOf s))), .el (.sc (.bo (fin s)))], none⟩ | none => some ⟨[.el (.sc (.fl .f32 0)), .el (.sc (.bo false))], none⟩) | false => none))) | false => none) := by kernel_rfl
theorem s48 (xs : List LineV) (x : Nat) : runFn T10 a48 l48 Try.f48 [.vw none ⟨.line, xs⟩, .el (.sc (.fl .f32 x))] = some ⟨[.el (.sc (.fl .f32 (orZero (linesAtOk xs x) (linesSum xs x)))), .el (.sc (.bo (linesAtOk xs x)))], none⟩ := by
  rw [e48]
  rw [linesIn_12]
  unfold linesAtOk
  cases h1 : linesOk xs with
  | false => simp [orZero]
  | true =>
    have h1b := h1
    unfold linesOk at h1b
    rw [Bool.and_eq_true, decide_eq_true_eq] at h1b
    have hx : Nat.ble xs.length big = true := big_of (by omega)
    cases h2 : fin x with
    | false => simp [orZero]
    | true =>
      have e := repE_list noLine (fun l => lineOk l x) (fun a l => fop .add .f32 a (lineV l x)) xs xs.length 0 0 (by omega)
      rw [List.drop_zero] at e
      have e2 : xs.foldl (fun a l => fop .add .f32 a (lineV l x)) 0 = linesSum xs x := rfl
      rw [e2] at e
      simp only [hx, e, decide_true, Bool.not_true, Bool.true_and, Bool.and_true]
      cases h3 : xs.all (fun l => lineOk l x) with
      | true => unfold orZero numOf; cases h4 : fin (linesSum xs x) <;> simp [h4]
      | false => rw [sum_notFin h1b.2 h2 h3]; simp [orZero]
theorem c48 (xs : List LineV) (x : Nat) (k : List RV → R) (out : Out) (h : k [.el (.sc (.fl .f32 (orZero (linesAtOk xs x) (linesSum xs x)))), .el (.sc (.bo (linesAtOk xs x)))] = some out) : ∃ rs, Real Try.prog 48 ∧ COK Try.prog 48 [.vw none ⟨.line, xs⟩, .el (.sc (.fl .f32 x))] rs ∧ k rs = some out := by
  exact ⟨_, real Try.func48 (by kernel_rfl), fn_ok tok10 (A := a48) (L := l48) (r := none) Try.func48 (by kernel_rfl) (by kernel_rfl) (loops1 (by kernel_rfl) lk48) (by rw [s48]), h⟩

def S11 : SFn := fun f args k => match f, args with
  | 48, [.vw none ⟨.line, xs⟩, .el (.sc (.fl .f32 x))] => k [.el (.sc (.fl .f32 (orZero (linesAtOk xs x) (linesSum xs x)))), .el (.sc (.bo (linesAtOk xs x)))]
  | _, _ => S10 f args k
abbrev M11 : MFn := M10
def T11 : TT := tab.T S11 muts M11
theorem tok11 : TOK Try.prog T11 := by
  refine (tab_ok tabok).tok (fun f args k out h => ?_) (fun f vec args k out h => ?_)
  · change S11 f args k = some out at h
    unfold S11 at h
    split at h
    · exact (fun k out h => cok_call (c48 _ _ k out h)) k out h
    · exact tok10.S f args k out h
  · exact tok10.M f vec args k out h

end Go.Sm.Ytpckpfbjhnllbaa
