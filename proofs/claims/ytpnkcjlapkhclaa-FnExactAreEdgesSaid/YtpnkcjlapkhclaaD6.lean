/- What the functions hand back: level 5. -/
import Derived.Test.YtpnkcjlapkhclaaD5
namespace Go.Sm.Ytpnkcjlapkhclaa
open Go Go.Sm Go.RowKit Go.Proofs

/-! impl.ValidLine -/
theorem e16 (lp : Nat) (lh : Nat) (lw : Nat) (lk : Int) : runFn T5 none0 noL Try.f16 [.el (.ag [(.fl .f32 lp), (.fl .f32 lh), (.fl .f32 lw), (.int .i64 lk)])] = (match (([lp, lh]).all fin : Bool) with
  | true => (match (([lw]).all above : Bool) with
    | true => some ⟨[.el (.sc (.bo (within lk 0 3)))], none⟩
    | false => some ⟨[.el (.sc (.bo false))], none⟩)
  | false => some ⟨[.el (.sc (.bo false))], none⟩) := by kernel_rfl
theorem s16 (lp : Nat) (lh : Nat) (lw : Nat) (lk : Int) : runFn T5 none0 noL Try.f16 [.el (.ag [(.fl .f32 lp), (.fl .f32 lh), (.fl .f32 lw), (.int .i64 lk)])] = some ⟨[.el (.sc (.bo (okLine ((⟨lp, lh, lw, lk⟩ : LineV)))))], none⟩ := by
  rw [e16]
  unfold okLine
  simp only [List.all_cons, List.all_nil, Bool.and_true]
  cases fin lp <;> cases fin lh <;> cases above lw <;> simp
theorem c16 (lp : Nat) (lh : Nat) (lw : Nat) (lk : Int) (k : List RV → R) (out : Out) (h : k [.el (.sc (.bo (okLine ((⟨lp, lh, lw, lk⟩ : LineV)))))] = some out) : ∃ rs, Real Try.prog 16 ∧ COK Try.prog 16 [.el (.ag [(.fl .f32 lp), (.fl .f32 lh), (.fl .f32 lw), (.int .i64 lk)])] rs ∧ k rs = some out := by
  exact ⟨_, real Try.func16 (by kernel_rfl), fn_ok tok5 (A := none0) (L := noL) (r := none) Try.func16 (by kernel_rfl) (by kernel_rfl) (loops0 (by kernel_rfl)) (by rw [s16]), h⟩

/-! impl.GratingOut -/
theorem e21 (a : Nat) (b : Nat) (c : Nat) (n : Int) : runFn T5 none0 noL Try.f21 [.el (.sc (.fl .f32 a)), .el (.sc (.fl .f32 b)), .el (.sc (.fl .f32 c)), .el (.sc (.int .i64 n))] = (match (!(([a, b]).all above) : Bool) with
  | true => some ⟨[.el (.sc (.fl .f32 0)), .el (.sc (.bo false))], none⟩
  | false => (match (!(fin c) : Bool) with
    | true => some ⟨[.el (.sc (.fl .f32 0)), .el (.sc (.bo false))], none⟩
    | false => (match (!(within n ((-100)) 100) : Bool) with
      | true => some ⟨[.el (.sc (.fl .f32 0)), .el (.sc (.bo false))], none⟩
      | false => (match (!(fcmp .leq .f32 (mag (fop .sub .f32 (fop .quo .f32 (fop .mul .f32 (fint .f32 n) a) b) c)) 1065353216) : Bool) with
        | true => some ⟨[.el (.sc (.fl .f32 0)), .el (.sc (.bo false))], none⟩
        | false => some ⟨[.el (.sc (.fl .f32 (fop .sub .f32 (fop .quo .f32 (fop .mul .f32 (fint .f32 n) a) b) c))), .el (.sc (.bo true))], none⟩)))) := by kernel_rfl
theorem s21 (a : Nat) (b : Nat) (c : Nat) (n : Int) : runFn T5 none0 noL Try.f21 [.el (.sc (.fl .f32 a)), .el (.sc (.fl .f32 b)), .el (.sc (.fl .f32 c)), .el (.sc (.int .i64 n))] = some ⟨[.el (.sc (.fl .f32 (orZero (((above a && above b) && (fin c && within n (-100) 100)) && unit (gout a b c n)) (gout a b c n)))), .el (.sc (.bo (((above a && above b) && (fin c && within n (-100) 100)) && unit (gout a b c n))))], none⟩ := by
  rw [e21]
  rw [unit_mag]
  unfold orZero gout
  simp only [List.all_cons, List.all_nil, Bool.and_true]
  cases above a <;> cases above b <;> cases fin c <;> cases within n (-100) 100 <;> cases fcmp .leq .f32 (mag (fop .sub .f32 (fop .quo .f32 (fop .mul .f32 (fint .f32 n) a) b) c)) 1065353216 <;> simp
theorem c21 (a : Nat) (b : Nat) (c : Nat) (n : Int) (k : List RV → R) (out : Out) (h : k [.el (.sc (.fl .f32 (orZero (((above a && above b) && (fin c && within n (-100) 100)) && unit (gout a b c n)) (gout a b c n)))), .el (.sc (.bo (((above a && above b) && (fin c && within n (-100) 100)) && unit (gout a b c n))))] = some out) : ∃ rs, Real Try.prog 21 ∧ COK Try.prog 21 [.el (.sc (.fl .f32 a)), .el (.sc (.fl .f32 b)), .el (.sc (.fl .f32 c)), .el (.sc (.int .i64 n))] rs ∧ k rs = some out := by
  exact ⟨_, real Try.func21 (by kernel_rfl), fn_ok tok5 (A := none0) (L := noL) (r := none) Try.func21 (by kernel_rfl) (by kernel_rfl) (loops0 (by kernel_rfl)) (by rw [s21]), h⟩

/-! impl.isLadder -/
theorem e61 (xs : List Nat) : runFn T5 none0 noL Try.f61 [.vw none ⟨.f32, xs⟩] = (match (decide (((xs.length : Int) : Int) ≥ 3) : Bool) with
  | true => (match (decide (((xs.length : Int) : Int) ≤ 32) : Bool) with
    | true => (match (Nat.ble xs.length big : Bool) with
      | true => some ⟨[.el (.sc (.bo (xs.all fin)))], none⟩
      | false => none)
    | false => some ⟨[.el (.sc (.bo false))], none⟩)
  | false => some ⟨[.el (.sc (.bo false))], none⟩) := by kernel_rfl
theorem s61 (xs : List Nat) : runFn T5 none0 noL Try.f61 [.vw none ⟨.f32, xs⟩] = some ⟨[.el (.sc (.bo (xs.all fin && (decide (xs.length ≥ 3) && decide (xs.length ≤ 32)))))], none⟩ := by
  rw [e61]
  have e3 : ((xs.length : Int) ≥ 3) ↔ xs.length ≥ 3 := by omega
  have e4 : ((xs.length : Int) ≤ 32) ↔ xs.length ≤ 32 := by omega
  by_cases h4 : xs.length ≤ 32
  · have h : Nat.ble xs.length big = true := Nat.ble_eq_true_of_le (by unfold big; omega)
    by_cases h3 : xs.length ≥ 3 <;> simp [e3, e4, h3, h4, h]
  · by_cases h3 : xs.length ≥ 3 <;> simp [e3, e4, h3, h4]
theorem c61 (xs : List Nat) (k : List RV → R) (out : Out) (h : k [.el (.sc (.bo (xs.all fin && (decide (xs.length ≥ 3) && decide (xs.length ≤ 32)))))] = some out) : ∃ rs, Real Try.prog 61 ∧ COK Try.prog 61 [.vw none ⟨.f32, xs⟩] rs ∧ k rs = some out := by
  exact ⟨_, real Try.func61 (by kernel_rfl), fn_ok tok5 (A := none0) (L := noL) (r := none) Try.func61 (by kernel_rfl) (by kernel_rfl) (loops0 (by kernel_rfl)) (by rw [s61]), h⟩

def S6 : SFn := fun f args k => match f, args with
  | 16, [.el (.ag [(.fl .f32 lp), (.fl .f32 lh), (.fl .f32 lw), (.int .i64 lk)])] => k [.el (.sc (.bo (okLine ((⟨lp, lh, lw, lk⟩ : LineV)))))]
  | 21, [.el (.sc (.fl .f32 a)), .el (.sc (.fl .f32 b)), .el (.sc (.fl .f32 c)), .el (.sc (.int .i64 n))] => k [.el (.sc (.fl .f32 (orZero (((above a && above b) && (fin c && within n (-100) 100)) && unit (gout a b c n)) (gout a b c n)))), .el (.sc (.bo (((above a && above b) && (fin c && within n (-100) 100)) && unit (gout a b c n))))]
  | 61, [.vw none ⟨.f32, xs⟩] => k [.el (.sc (.bo (xs.all fin && (decide (xs.length ≥ 3) && decide (xs.length ≤ 32)))))]
  | _, _ => S5 f args k
abbrev M6 : MFn := M5
def T6 : TT := tab.T S6 muts M6
theorem tok6 : TOK Try.prog T6 := by
  refine (tab_ok tabok).tok (fun f args k out h => ?_) (fun f vec args k out h => ?_)
  · change S6 f args k = some out at h
    unfold S6 at h
    split at h
    · exact c16 _ _ _ _ k out h
    · exact c21 _ _ _ _ k out h
    · exact c61 _ k out h
    · exact tok5.S f args k out h
  · exact tok5.M f vec args k out h

end Go.Sm.Ytpnkcjlapkhclaa
