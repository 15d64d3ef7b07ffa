/- What the functions hand back: level 5. -/
import Derived.Test.YtpckpfbjhnllbaaD5
namespace Go.Sm.Ytpckpfbjhnllbaa
open Go Go.Sm Go.RowKit Go.Proofs

/-! impl.isList -/
theorem e27 (xs : List Nat) (n : Int) : runFn T5 none0 noL Try.f27 [.vw none ⟨.f32, xs⟩, .el (.sc (.int .i64 n))] = (match (decide (((xs.length : Int) : Int) ≥ n) : Bool) with | true => (match (decide (((xs.length : Int) : Int) ≤ 128) : Bool) with | true => (match (Nat.ble xs.length big : Bool) with | true => some ⟨[.el (.sc (.bo (xs.all fin)))], none⟩ | false => none) | false => some ⟨[.el (.sc (.bo false))], none⟩) | false => some ⟨[.el (.sc (.bo false))], none⟩) := by kernel_rfl
theorem s27 (xs : List Nat) (n : Int) : runFn T5 none0 noL Try.f27 [.vw none ⟨.f32, xs⟩, .el (.sc (.int .i64 n))] = some ⟨[.el (.sc (.bo (listOk xs n)))], none⟩ := by
  rw [e27]
  unfold listOk
  have e4 : ((xs.length : Int) ≤ 128) ↔ xs.length ≤ 128 := by omega
  by_cases h4 : xs.length ≤ 128
  · have h : Nat.ble xs.length big = true := Nat.ble_eq_true_of_le (by unfold big; omega)
    cases h3 : decide ((xs.length : Int) ≥ n) <;> simp [e4, h4, h]
  · cases h3 : decide ((xs.length : Int) ≥ n) <;> simp [e4, h4]
theorem c27 (xs : List Nat) (n : Int) (k : List RV → R) (out : Out) (h : k [.el (.sc (.bo (listOk xs n)))] = some out) : ∃ rs, Real Try.prog 27 ∧ COK Try.prog 27 [.vw none ⟨.f32, xs⟩, .el (.sc (.int .i64 n))] rs ∧ k rs = some out := by
  exact ⟨_, real Try.func27 (by kernel_rfl), fn_ok tok5 (A := none0) (L := noL) (r := none) Try.func27 (by kernel_rfl) (by kernel_rfl) (loops0 (by kernel_rfl)) (by rw [s27]), h⟩

/-! impl.ValidLine -/
theorem e38 (lp : Nat) (lh : Nat) (lw : Nat) (lk : Int) : runFn T5 none0 noL Try.f38 [.el (.ag [(.fl .f32 lp), (.fl .f32 lh), (.fl .f32 lw), (.int .i64 lk)])] = (match (([lp, lh]).all fin : Bool) with | true => (match (([lw]).all above : Bool) with | true => some ⟨[.el (.sc (.bo (within lk 0 3)))], none⟩ | false => some ⟨[.el (.sc (.bo false))], none⟩) | false => some ⟨[.el (.sc (.bo false))], none⟩) := by kernel_rfl
theorem s38 (lp : Nat) (lh : Nat) (lw : Nat) (lk : Int) : runFn T5 none0 noL Try.f38 [.el (.ag [(.fl .f32 lp), (.fl .f32 lh), (.fl .f32 lw), (.int .i64 lk)])] = some ⟨[.el (.sc (.bo (okLine ((⟨lp, lh, lw, lk⟩ : LineV)))))], none⟩ := by
  rw [e38]
  unfold okLine
  simp only [List.all_cons, List.all_nil, Bool.and_true]
  cases fin lp <;> cases fin lh <;> cases above lw <;> simp
theorem c38 (lp : Nat) (lh : Nat) (lw : Nat) (lk : Int) (k : List RV → R) (out : Out) (h : k [.el (.sc (.bo (okLine ((⟨lp, lh, lw, lk⟩ : LineV)))))] = some out) : ∃ rs, Real Try.prog 38 ∧ COK Try.prog 38 [.el (.ag [(.fl .f32 lp), (.fl .f32 lh), (.fl .f32 lw), (.int .i64 lk)])] rs ∧ k rs = some out := by
  exact ⟨_, real Try.func38 (by kernel_rfl), fn_ok tok5 (A := none0) (L := noL) (r := none) Try.func38 (by kernel_rfl) (by kernel_rfl) (loops0 (by kernel_rfl)) (by rw [s38]), h⟩

/-! spec.l05Sum -/
def a61 : Ann := ann [(3, [0, 1, 5, 8, 9], [5])] [4] 0
def lp61 : St → (Ex → St → R) → R := fun s k => match s with
  | ⟨[(0, .fv (.vw (some 0) ⟨.line, xs⟩)), (1, .fv (.el (.sc (.fl .f32 x)))), (5, .fv (.el (.sc (.fl .f32 a)))), (8, .fv (.el (.sc (.int .i64 n)))), (9, .fv (.el (.sc (.int .i64 i))))], []⟩ => (match ((decide (n = (xs.length : Int)) && (decide (i = 0) && Nat.ble xs.length big)) : Bool) with | true => k (.exit 0) ⟨[(5, .fv (.el (.sc (.fl .f32 (rep (fun j a => fop .add .f32 a (lineV (xs.getD j noLine) x)) (xs.length) 0 (a : Nat))))))], []⟩ | false => none)
  | _ => none
def l61 : Loops := fun key s k => bif Nat.beq key 3 then lp61 s k else none
theorem st61 (xs : List LineV) (x : Nat) (a : Nat) (n : Int) (i : Int) (m : Nat) (k : Ex → St → R) : iterK a61 [0, 1, 5, 8, 9] [5] (codeK T5 a61 l61 Try.f61.ntmps (loopAt Try.f61 0)) (m + 1) ⟨[(0, .fv (.vw (some 0) ⟨.line, xs⟩)), (1, .fv (.el (.sc (.fl .f32 x)))), (5, .fv (.el (.sc (.fl .f32 a)))), (8, .fv (.el (.sc (.int .i64 n)))), (9, .fv (.el (.sc (.int .i64 i))))], []⟩ k = (match (decide ((i : Int) < n) : Bool) with | true => (match (decide (0 ≤ (i : Int) ∧ (i : Int) < (xs.length : Int)) && true : Bool) with | true => (match xs[Int.toNat i]? with | some l_4 => iterK a61 [0, 1, 5, 8, 9] [5] (codeK T5 a61 l61 Try.f61.ntmps (loopAt Try.f61 0)) m ⟨[(0, .fv (.vw (some 0) ⟨.line, xs⟩)), (1, .fv (.el (.sc (.fl .f32 x)))), (5, .fv (.el (.sc (.fl .f32 (fop .add .f32 a (lineV l_4 x)))))), (8, .fv (.el (.sc (.int .i64 n)))), (9, .fv (.el (.sc (.int .i64 (IntKind.i64.wrap (i + 1))))))], []⟩ k | none => none) | false => none) | false => k (.exit 0) ⟨[(5, .fv (.el (.sc (.fl .f32 a))))], []⟩) := by kernel_rfl
theorem ind61 (xs : List LineV) (x : Nat) (hx : (Nat.ble xs.length big) = true) (k : Ex → St → R) : ∀ (m j : Nat) (a : Nat), 0 ≤ j → j + m = xs.length → iterK a61 [0, 1, 5, 8, 9] [5] (codeK T5 a61 l61 Try.f61.ntmps (loopAt Try.f61 0)) (m + 1) ⟨[(0, .fv (.vw (some 0) ⟨.line, xs⟩)), (1, .fv (.el (.sc (.fl .f32 x)))), (5, .fv (.el (.sc (.fl .f32 a)))), (8, .fv (.el (.sc (.int .i64 (xs.length : Int))))), (9, .fv (.el (.sc (.int .i64 (j : Int)))))], []⟩ k =
    k (.exit 0) ⟨[(5, .fv (.el (.sc (.fl .f32 (rep (fun j a => fop .add .f32 a (lineV (xs.getD j noLine) x)) m j (a : Nat))))))], []⟩ := by
  intro m
  induction m with
  | zero =>
    intro j a hlo hj
    have hx_ := big_le hx
    have h1 : ¬ (((j : Int) < (xs.length : Int))) := by omega
    rw [st61]
    simp only [h1, rep, decide_false] <;> rfl
  | succ m ih =>
    intro j a hlo hj
    have hx_ := big_le hx
    have h1 : ((j : Int) < (xs.length : Int)) := by omega
    have xb : (0 : Int) ≤ ((j : Nat) : Int) ∧ ((j : Nat) : Int) < (xs.length : Int) := by omega
    have xq : xs[Int.toNat ((j : Nat) : Int)]? = some (xs.getD (j) noLine) := getI (by omega)
    have xp : xs[j]? = some (xs.getD (j) noLine) := getI2 (by omega)
    have wn : IntKind.i64.wrap ((j : Int) + 1) = ((j + 1 : Nat) : Int) := wrapN (by omega) (by omega)
    rw [st61]
    simp only [h1, wn, xb, xq, xp, and_self, decide_true, Bool.and_true, Int.le_refl]
    exact ih (j + 1) _ (by omega) (by omega)

theorem lk61 : LOK T5 a61 l61 Try.f61.ntmps (loopAt Try.f61 0) := by
  intro ins outs hA s k out h
  have hA' : ([0, 1, 5, 8, 9], [5]) = (ins, outs) := Option.some.inj ((show a61.lp (firstRegion (loopAt Try.f61 0)) = some ([0, 1, 5, 8, 9], [5]) by kernel_rfl).symm.trans hA)
  cases hA'
  have hk : firstRegion (loopAt Try.f61 0) = 3 := by kernel_rfl
  rw [hk] at h
  change lp61 s k = some out at h
  unfold lp61 at h
  split at h
  · rename_i xs x a n i
    cases hg : (decide (n = (xs.length : Int)) && (decide (i = 0) && Nat.ble xs.length big)) with
    | false => rw [hg] at h; cases h
    | true =>
      rw [hg] at h
      simp only [Bool.and_eq_true, decide_eq_true_eq] at hg
      obtain ⟨rfl, rfl, hx⟩ := hg
      refine ⟨(xs.length) + 1, ?_⟩
      have hx_ := big_le hx
      exact (ind61 xs x hx k (xs.length) 0 a (by omega) (by omega)).trans h
  · cases h
theorem e61 (xs : List LineV) (x : Nat) : runFn T5 a61 l61 Try.f61 [.vw none ⟨.line, xs⟩, .el (.sc (.fl .f32 x))] = (match ((decide (((xs.length : Int)) = (xs.length : Int)) && (decide (0 = 0) && Nat.ble xs.length big)) : Bool) with | true => some ⟨[.el (.sc (.fl .f32 (rep (fun j a => fop .add .f32 a (lineV (xs.getD j noLine) x)) (xs.length) 0 (0 : Nat))))], none⟩ | false => none) := by kernel_rfl
theorem s61 (xs : List LineV) (x : Nat) : runFn T5 a61 l61 Try.f61 [.vw none ⟨.line, xs⟩, .el (.sc (.fl .f32 x))] = (match (Nat.ble xs.length big : Bool) with | true => some ⟨[.el (.sc (.fl .f32 (linesSum xs x)))], none⟩ | false => none) := by
  rw [e61]
  cases h : Nat.ble xs.length big with
  | false => simp [h]
  | true =>
    have e := rep_list noLine (fun a l => fop .add .f32 a (lineV l x)) xs xs.length 0 0 (by omega)
    rw [List.drop_zero] at e
    simp [-List.getD_eq_getElem?_getD, h, e, linesSum]
theorem c61 (xs : List LineV) (x : Nat) (k : List RV → R) (out : Out) (h : (match (Nat.ble xs.length big : Bool) with | true => k [.el (.sc (.fl .f32 (linesSum xs x)))] | false => none) = some out) : ∃ rs, Real Try.prog 61 ∧ COK Try.prog 61 [.vw none ⟨.line, xs⟩, .el (.sc (.fl .f32 x))] rs ∧ k rs = some out := by
  cases g0 : (Nat.ble xs.length big : Bool) with
  | true =>
    rw [g0] at h
    exact ⟨_, real Try.func61 (by kernel_rfl), fn_ok tok5 (A := a61) (L := l61) (r := none) Try.func61 (by kernel_rfl) (by kernel_rfl) (loops1 (by kernel_rfl) lk61) (by rw [s61, g0]), h⟩
  | false =>
    rw [g0] at h
    cases h

def S6 : SFn := fun f args k => match f, args with
  | 27, [.vw none ⟨.f32, xs⟩, .el (.sc (.int .i64 n))] => k [.el (.sc (.bo (listOk xs n)))]
  | 38, [.el (.ag [(.fl .f32 lp), (.fl .f32 lh), (.fl .f32 lw), (.int .i64 lk)])] => k [.el (.sc (.bo (okLine ((⟨lp, lh, lw, lk⟩ : LineV)))))]
  | 61, [.vw none ⟨.line, xs⟩, .el (.sc (.fl .f32 x))] => (match (Nat.ble xs.length big : Bool) with | true => k [.el (.sc (.fl .f32 (linesSum xs x)))] | false => none)
  | _, _ => S5 f args k
abbrev M6 : MFn := M5
def T6 : TT := tab.T S6 muts M6
theorem tok6 : TOK Try.prog T6 := by
  refine (tab_ok tabok).tok (fun f args k out h => ?_) (fun f vec args k out h => ?_)
  · change S6 f args k = some out at h
    unfold S6 at h
    split at h
    · exact (fun k out h => cok_call (c27 _ _ k out h)) k out h
    · exact (fun k out h => cok_call (c38 _ _ _ _ k out h)) k out h
    · exact (fun k out h => cok_call (c61 _ _ k out h)) k out h
    · exact tok5.S f args k out h
  · exact tok5.M f vec args k out h

end Go.Sm.Ytpckpfbjhnllbaa
