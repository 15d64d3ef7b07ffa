/- What the functions hand back: level 5. -/
import Derived.Test.YtlkphfpkohabeaaD5
namespace Go.Sm.Ytlkphfpkohabeaa
open Go Go.Sm Go.RowKit Go.Proofs

/-! impl.ValidLine -/
theorem e79 (lp : Nat) (lh : Nat) (lw : Nat) (lk : Int) : runFn T5 none0 noL Try.f79 [.el (.ag [(.fl .f32 lp), (.fl .f32 lh), (.fl .f32 lw), (.int .i64 lk)])] = (match (([lp, lh]).all fin : Bool) with
  | true => (match (([lw]).all above : Bool) with
    | true => some ⟨[.el (.sc (.bo (within lk 0 3)))], none⟩
    | false => some ⟨[.el (.sc (.bo false))], none⟩)
  | false => some ⟨[.el (.sc (.bo false))], none⟩) := by kernel_rfl
theorem s79 (lp : Nat) (lh : Nat) (lw : Nat) (lk : Int) : runFn T5 none0 noL Try.f79 [.el (.ag [(.fl .f32 lp), (.fl .f32 lh), (.fl .f32 lw), (.int .i64 lk)])] = some ⟨[.el (.sc (.bo (okLine ((⟨lp, lh, lw, lk⟩ : LineV)))))], none⟩ := by
  rw [e79]
  unfold okLine
  simp only [List.all_cons, List.all_nil, Bool.and_true]
  cases fin lp <;> cases fin lh <;> cases above lw <;> simp
theorem c79 (lp : Nat) (lh : Nat) (lw : Nat) (lk : Int) (k : List RV → R) (out : Out) (h : k [.el (.sc (.bo (okLine ((⟨lp, lh, lw, lk⟩ : LineV)))))] = some out) : ∃ rs, Real Try.prog 79 ∧ COK Try.prog 79 [.el (.ag [(.fl .f32 lp), (.fl .f32 lh), (.fl .f32 lw), (.int .i64 lk)])] rs ∧ k rs = some out := by
  exact ⟨_, real Try.func79 (by kernel_rfl), fn_ok tok5 (A := none0) (L := noL) (r := none) Try.func79 (by kernel_rfl) (by kernel_rfl) (loops0 (by kernel_rfl)) (by rw [s79]), h⟩

/-! impl.areLamps -/
theorem e103 (xs : List Nat) (ys : List Nat) (n : Int) : runFn T5 none0 noL Try.f103 [.vw none ⟨.f32, xs⟩, .vw none ⟨.f32, ys⟩, .el (.sc (.int .i64 n))] = (match (decide (((xs.length : Int) : Int) ≥ n) : Bool) with
  | true => (match (decide (((xs.length : Int) : Int) ≤ 16) : Bool) with
    | true => (match (((ys.length : Int) : Int) == (xs.length : Int) : Bool) with
      | true => (match (Nat.ble xs.length big : Bool) with
        | true => (match (xs.all fin : Bool) with
          | true => (match (Nat.ble ys.length big : Bool) with
            | true => some ⟨[.el (.sc (.bo (ys.all fin)))], none⟩
            | false => none)
          | false => some ⟨[.el (.sc (.bo false))], none⟩)
        | false => none)
      | false => some ⟨[.el (.sc (.bo false))], none⟩)
    | false => some ⟨[.el (.sc (.bo false))], none⟩)
  | false => some ⟨[.el (.sc (.bo false))], none⟩) := by kernel_rfl
theorem s103 (xs : List Nat) (ys : List Nat) (n : Int) : runFn T5 none0 noL Try.f103 [.vw none ⟨.f32, xs⟩, .vw none ⟨.f32, ys⟩, .el (.sc (.int .i64 n))] = some ⟨[.el (.sc (.bo (lamps xs ys n)))], none⟩ := by
  rw [e103]
  unfold lamps
  have e4 : ((xs.length : Int) ≤ 16) ↔ xs.length ≤ 16 := by omega
  have e5 : ((ys.length : Int) == (xs.length : Int)) = decide (ys.length = xs.length) := by
    rw [Bool.eq_iff_iff]; simp; omega
  rw [e5]
  by_cases h4 : xs.length ≤ 16
  · by_cases h5 : ys.length = xs.length
    · have h : Nat.ble xs.length big = true := Nat.ble_eq_true_of_le (by unfold big; omega)
      have h2 : Nat.ble ys.length big = true := Nat.ble_eq_true_of_le (by unfold big; omega)
      cases h3 : decide ((xs.length : Int) ≥ n) <;> cases h6 : xs.all fin <;> simp [e4, h4, h5, h, h2, h6]
    · cases h3 : decide ((xs.length : Int) ≥ n) <;> simp [e4, h4, h5]
  · cases h3 : decide ((xs.length : Int) ≥ n) <;> simp [e4, h4]
theorem c103 (xs : List Nat) (ys : List Nat) (n : Int) (k : List RV → R) (out : Out) (h : k [.el (.sc (.bo (lamps xs ys n)))] = some out) : ∃ rs, Real Try.prog 103 ∧ COK Try.prog 103 [.vw none ⟨.f32, xs⟩, .vw none ⟨.f32, ys⟩, .el (.sc (.int .i64 n))] rs ∧ k rs = some out := by
  exact ⟨_, real Try.func103 (by kernel_rfl), fn_ok tok5 (A := none0) (L := noL) (r := none) Try.func103 (by kernel_rfl) (by kernel_rfl) (loops0 (by kernel_rfl)) (by rw [s103]), h⟩

/-! impl.isCurve -/
theorem e128 (xs : List Nat) : runFn T5 none0 noL Try.f128 [.vw none ⟨.f32, xs⟩] = (match (decide (((xs.length : Int) : Int) ≥ 1) : Bool) with
  | true => (match (decide (((xs.length : Int) : Int) ≤ 3) : Bool) with
    | true => (match (Nat.ble xs.length big : Bool) with
      | true => some ⟨[.el (.sc (.bo (xs.all fin)))], none⟩
      | false => none)
    | false => some ⟨[.el (.sc (.bo false))], none⟩)
  | false => some ⟨[.el (.sc (.bo false))], none⟩) := by kernel_rfl
theorem s128 (xs : List Nat) : runFn T5 none0 noL Try.f128 [.vw none ⟨.f32, xs⟩] = some ⟨[.el (.sc (.bo (xs.all fin && (decide (xs.length ≥ 1) && decide (xs.length ≤ 3)))))], none⟩ := by
  rw [e128]
  have e3 : ((xs.length : Int) ≥ 1) ↔ xs.length ≥ 1 := by omega
  have e4 : ((xs.length : Int) ≤ 3) ↔ xs.length ≤ 3 := by omega
  by_cases h4 : xs.length ≤ 3
  · have h : Nat.ble xs.length big = true := Nat.ble_eq_true_of_le (by unfold big; omega)
    by_cases h3 : xs.length ≥ 1 <;> simp [e3, e4, h3, h4, h]
  · by_cases h3 : xs.length ≥ 1 <;> simp [e3, e4, h3, h4]
theorem c128 (xs : List Nat) (k : List RV → R) (out : Out) (h : k [.el (.sc (.bo (xs.all fin && (decide (xs.length ≥ 1) && decide (xs.length ≤ 3)))))] = some out) : ∃ rs, Real Try.prog 128 ∧ COK Try.prog 128 [.vw none ⟨.f32, xs⟩] rs ∧ k rs = some out := by
  exact ⟨_, real Try.func128 (by kernel_rfl), fn_ok tok5 (A := none0) (L := noL) (r := none) Try.func128 (by kernel_rfl) (by kernel_rfl) (loops0 (by kernel_rfl)) (by rw [s128]), h⟩

def S6 : SFn := fun f args k => match f, args with
  | 79, [.el (.ag [(.fl .f32 lp), (.fl .f32 lh), (.fl .f32 lw), (.int .i64 lk)])] => k [.el (.sc (.bo (okLine ((⟨lp, lh, lw, lk⟩ : LineV)))))]
  | 103, [.vw none ⟨.f32, xs⟩, .vw none ⟨.f32, ys⟩, .el (.sc (.int .i64 n))] => k [.el (.sc (.bo (lamps xs ys n)))]
  | 128, [.vw none ⟨.f32, xs⟩] => k [.el (.sc (.bo (xs.all fin && (decide (xs.length ≥ 1) && decide (xs.length ≤ 3)))))]
  | _, _ => S5 f args k
abbrev M6 : MFn := M5
def T6 : TT := tab.T S6 muts M6
theorem tok6 : TOK Try.prog T6 := by
  refine (tab_ok tabok).tok (fun f args k out h => ?_) (fun f vec args k out h => ?_)
  · change S6 f args k = some out at h
    unfold S6 at h
    split at h
    · exact (fun k out h => cok_call (c79 _ _ _ _ k out h)) k out h
    · exact (fun k out h => cok_call (c103 _ _ _ k out h)) k out h
    · exact (fun k out h => cok_call (c128 _ k out h)) k out h
    · exact tok5.S f args k out h
  · exact tok5.M f vec args k out h

end Go.Sm.Ytlkphfpkohabeaa
