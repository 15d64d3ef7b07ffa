/- What the functions hand back: level 5. -/
import Derived.Test.YtpckpfbjhnllbaaD5
namespace Go.Sm.Ytpckpfbjhnllbaa
open Go Go.Sm Go.RowKit Go.Proofs

/-! spec.LineAt -/
theorem e21 (lp : Nat) (lh : Nat) (lw : Nat) (lk : Int) (x : Nat) : runFn T5 none0 noL Try.f21 [.el (.ag [(.fl .f32 lp), (.fl .f32 lh), (.fl .f32 lw), (.int .i64 lk)]), .el (.sc (.fl .f32 x))] = (match (!(okLine ((⟨lp, lh, lw, lk⟩ : LineV))) : Bool) with
  | true => some ⟨[.el (.sc (.fl .f32 0)), .el (.sc (.bo false))], none⟩
  | false => (match (!(fin x) : Bool) with
    | true => some ⟨[.el (.sc (.fl .f32 0)), .el (.sc (.bo false))], none⟩
    | false => some ⟨[.el (.sc (.fl .f32 (numOf (lineV ((⟨lp, lh, lw, lk⟩ : LineV)) x)))), .el (.sc (.bo (fin (lineV ((⟨lp, lh, lw, lk⟩ : LineV)) x))))], none⟩)) := by kernel_rfl
theorem s21 (lp : Nat) (lh : Nat) (lw : Nat) (lk : Int) (x : Nat) : runFn T5 none0 noL Try.f21 [.el (.ag [(.fl .f32 lp), (.fl .f32 lh), (.fl .f32 lw), (.int .i64 lk)]), .el (.sc (.fl .f32 x))] = some ⟨[.el (.sc (.fl .f32 (orZero (lineOk ((⟨lp, lh, lw, lk⟩ : LineV)) x) (lineV ((⟨lp, lh, lw, lk⟩ : LineV)) x)))), .el (.sc (.bo (lineOk ((⟨lp, lh, lw, lk⟩ : LineV)) x)))], none⟩ := by
  rw [e21]
  unfold lineOk orZero numOf
  cases okLine (⟨lp, lh, lw, lk⟩ : LineV) <;> cases fin x <;> cases fin (lineV (⟨lp, lh, lw, lk⟩ : LineV) x) <;> rfl
theorem c21 (lp : Nat) (lh : Nat) (lw : Nat) (lk : Int) (x : Nat) (k : List RV → R) (out : Out) (h : k [.el (.sc (.fl .f32 (orZero (lineOk ((⟨lp, lh, lw, lk⟩ : LineV)) x) (lineV ((⟨lp, lh, lw, lk⟩ : LineV)) x)))), .el (.sc (.bo (lineOk ((⟨lp, lh, lw, lk⟩ : LineV)) x)))] = some out) : ∃ rs, Real Try.prog 21 ∧ COK Try.prog 21 [.el (.ag [(.fl .f32 lp), (.fl .f32 lh), (.fl .f32 lw), (.int .i64 lk)]), .el (.sc (.fl .f32 x))] rs ∧ k rs = some out := by
  exact ⟨_, real Try.func21 (by kernel_rfl), fn_ok tok5 (A := none0) (L := noL) (r := none) Try.func21 (by kernel_rfl) (by kernel_rfl) (loops0 (by kernel_rfl)) (by rw [s21]), h⟩

/-! impl.isList -/
theorem e27 (xs : List Nat) (n : Int) : runFn T5 none0 noL Try.f27 [.vw none ⟨.f32, xs⟩, .el (.sc (.int .i64 n))] = (match (decide (((xs.length : Int) : Int) ≥ n) : Bool) with
  | true => (match (decide (((xs.length : Int) : Int) ≤ 128) : Bool) with
    | true => (match (Nat.ble xs.length big : Bool) with
      | true => some ⟨[.el (.sc (.bo (xs.all fin)))], none⟩
      | false => none)
    | false => some ⟨[.el (.sc (.bo false))], none⟩)
  | false => some ⟨[.el (.sc (.bo false))], none⟩) := by kernel_rfl
theorem s27 (xs : List Nat) (n : Int) : runFn T5 none0 noL Try.f27 [.vw none ⟨.f32, xs⟩, .el (.sc (.int .i64 n))] = some ⟨[.el (.sc (.bo (listOk xs n)))], none⟩ := by
  rw [e27]
  unfold listOk
  have e4 : ((xs.length : Int) ≤ 128) ↔ xs.length ≤ 128 := by omega
  by_cases h4 : xs.length ≤ 128
  · have h : Nat.ble xs.length big = true := Nat.ble_eq_true_of_le (by unfold big; omega)
    cases h3 : decide ((xs.length : Int) ≥ n) <;> simp [e4, h4, h]
  · cases h3 : decide ((xs.length : Int) ≥ n) <;> simp [e4, h4]
theorem c27 (xs : List Nat) (n : Int) (k : List RV → R) (out : Out) (h : k [.el (.sc (.bo (listOk xs n)))] = some out) : ∃ rs, Real Try.prog 27 ∧ COK Try.prog 27 [.vw none ⟨.f32, xs⟩, .el (.sc (.int .i64 n))] rs ∧ k rs = some out := by
  exact ⟨_, real Try.func27 (by kernel_rfl), fn_ok tok5 (A := none0) (L := noL) (r := none) Try.func27 (by kernel_rfl) (by kernel_rfl) (loops0 (by kernel_rfl)) (by rw [s27]), h⟩

/-! impl.ValidLine -/
theorem e38 (lp : Nat) (lh : Nat) (lw : Nat) (lk : Int) : runFn T5 none0 noL Try.f38 [.el (.ag [(.fl .f32 lp), (.fl .f32 lh), (.fl .f32 lw), (.int .i64 lk)])] = (match (([lp, lh]).all fin : Bool) with
  | true => (match (([lw]).all above : Bool) with
    | true => some ⟨[.el (.sc (.bo (within lk 0 3)))], none⟩
    | false => some ⟨[.el (.sc (.bo false))], none⟩)
  | false => some ⟨[.el (.sc (.bo false))], none⟩) := by kernel_rfl
theorem s38 (lp : Nat) (lh : Nat) (lw : Nat) (lk : Int) : runFn T5 none0 noL Try.f38 [.el (.ag [(.fl .f32 lp), (.fl .f32 lh), (.fl .f32 lw), (.int .i64 lk)])] = some ⟨[.el (.sc (.bo (okLine ((⟨lp, lh, lw, lk⟩ : LineV)))))], none⟩ := by
  rw [e38]
  unfold okLine
  simp only [List.all_cons, List.all_nil, Bool.and_true]
  cases fin lp <;> cases fin lh <;> cases above lw <;> simp
theorem c38 (lp : Nat) (lh : Nat) (lw : Nat) (lk : Int) (k : List RV → R) (out : Out) (h : k [.el (.sc (.bo (okLine ((⟨lp, lh, lw, lk⟩ : LineV)))))] = some out) : ∃ rs, Real Try.prog 38 ∧ COK Try.prog 38 [.el (.ag [(.fl .f32 lp), (.fl .f32 lh), (.fl .f32 lw), (.int .i64 lk)])] rs ∧ k rs = some out := by
  exact ⟨_, real Try.func38 (by kernel_rfl), fn_ok tok5 (A := none0) (L := noL) (r := none) Try.func38 (by kernel_rfl) (by kernel_rfl) (loops0 (by kernel_rfl)) (by rw [s38]), h⟩

def S6 : SFn := fun f args k => match f, args with
  | 21, [.el (.ag [(.fl .f32 lp), (.fl .f32 lh), (.fl .f32 lw), (.int .i64 lk)]), .el (.sc (.fl .f32 x))] => k [.el (.sc (.fl .f32 (orZero (lineOk ((⟨lp, lh, lw, lk⟩ : LineV)) x) (lineV ((⟨lp, lh, lw, lk⟩ : LineV)) x)))), .el (.sc (.bo (lineOk ((⟨lp, lh, lw, lk⟩ : LineV)) x)))]
  | 27, [.vw none ⟨.f32, xs⟩, .el (.sc (.int .i64 n))] => k [.el (.sc (.bo (listOk xs n)))]
  | 38, [.el (.ag [(.fl .f32 lp), (.fl .f32 lh), (.fl .f32 lw), (.int .i64 lk)])] => k [.el (.sc (.bo (okLine ((⟨lp, lh, lw, lk⟩ : LineV)))))]
  | _, _ => S5 f args k
abbrev M6 : MFn := M5
def T6 : TT := tab.T S6 muts M6
theorem tok6 : TOK Try.prog T6 := by
  refine (tab_ok tabok).tok (fun f args k out h => ?_) (fun f vec args k out h => ?_)
  · change S6 f args k = some out at h
    unfold S6 at h
    split at h
    · exact (fun k out h => cok_call (c21 _ _ _ _ _ k out h)) k out h
    · exact (fun k out h => cok_call (c27 _ _ k out h)) k out h
    · exact (fun k out h => cok_call (c38 _ _ _ _ k out h)) k out h
    · exact tok5.S f args k out h
  · exact tok5.M f vec args k out h

end Go.Sm.Ytpckpfbjhnllbaa
