/- What the functions hand back: level 5. -/
import Derived.Test.YtpnkcjlapkhclaaD5
namespace Go.Sm.Ytpnkcjlapkhclaa
open Go Go.Sm Go.RowKit Go.Proofs

/-! impl.FreeRange -/
theorem e18 (w : Nat) (n : Int) : runFn T5 none0 noL Try.f18 [.el (.sc (.fl .f32 w)), .el (.sc (.int .i64 n))] = (match (!(([w]).all above) : Bool) with
  | true => some ⟨[.el (.sc (.fl .f32 0)), .el (.sc (.bo false))], none⟩
  | false => (match (!(within n 1 100) : Bool) with
    | true => some ⟨[.el (.sc (.fl .f32 0)), .el (.sc (.bo false))], none⟩
    | false => some ⟨[.el (.sc (.fl .f32 (numOf (fop .quo .f32 w (fint .f32 n))))), .el (.sc (.bo (fin (fop .quo .f32 w (fint .f32 n)))))], none⟩)) := by kernel_rfl
theorem s18 (w : Nat) (n : Int) : runFn T5 none0 noL Try.f18 [.el (.sc (.fl .f32 w)), .el (.sc (.int .i64 n))] = some ⟨[.el (.sc (.fl .f32 (orZero ((above w && within n 1 100) && fin (fop .quo .f32 w (fint .f32 n))) (fop .quo .f32 w (fint .f32 n))))), .el (.sc (.bo ((above w && within n 1 100) && fin (fop .quo .f32 w (fint .f32 n)))))], none⟩ := by
  rw [e18]
  unfold orZero numOf
  simp only [List.all_cons, List.all_nil, Bool.and_true]
  cases above w <;> cases within n 1 100 <;> cases fin (fop .quo .f32 w (fint .f32 n)) <;> simp
theorem c18 (w : Nat) (n : Int) (k : List RV → R) (out : Out) (h : k [.el (.sc (.fl .f32 (orZero ((above w && within n 1 100) && fin (fop .quo .f32 w (fint .f32 n))) (fop .quo .f32 w (fint .f32 n))))), .el (.sc (.bo ((above w && within n 1 100) && fin (fop .quo .f32 w (fint .f32 n)))))] = some out) : ∃ rs, Real Try.prog 18 ∧ COK Try.prog 18 [.el (.sc (.fl .f32 w)), .el (.sc (.int .i64 n))] rs ∧ k rs = some out := by
  exact ⟨_, real Try.func18 (by kernel_rfl), fn_ok tok5 (A := none0) (L := noL) (r := none) Try.func18 (by kernel_rfl) (by kernel_rfl) (loops0 (by kernel_rfl)) (by rw [s18]), h⟩

/-! impl.GratingOut -/
theorem e21 (a : Nat) (b : Nat) (c : Nat) (n : Int) : runFn T5 none0 noL Try.f21 [.el (.sc (.fl .f32 a)), .el (.sc (.fl .f32 b)), .el (.sc (.fl .f32 c)), .el (.sc (.int .i64 n))] = (match (!(([a, b]).all above) : Bool) with
  | true => some ⟨[.el (.sc (.fl .f32 0)), .el (.sc (.bo false))], none⟩
  | false => (match (!(fin c) : Bool) with
    | true => some ⟨[.el (.sc (.fl .f32 0)), .el (.sc (.bo false))], none⟩
    | false => (match (!(within n ((-100)) 100) : Bool) with
      | true => some ⟨[.el (.sc (.fl .f32 0)), .el (.sc (.bo false))], none⟩
      | false => (match (!(fcmp .leq .f32 (mag (fop .sub .f32 (fop .quo .f32 (fop .mul .f32 (fint .f32 n) a) b) c)) 1065353216) : Bool) with
        | true => some ⟨[.el (.sc (.fl .f32 0)), .el (.sc (.bo false))], none⟩
        | false => some ⟨[.el (.sc (.fl .f32 (fop .sub .f32 (fop .quo .f32 (fop .mul .f32 (fint .f32 n) a) b) c))), .el (.sc (.bo true))], none⟩)))) := by kernel_rfl
theorem s21 (a : Nat) (b : Nat) (c : Nat) (n : Int) : runFn T5 none0 noL Try.f21 [.el (.sc (.fl .f32 a)), .el (.sc (.fl .f32 b)), .el (.sc (.fl .f32 c)), .el (.sc (.int .i64 n))] = some ⟨[.el (.sc (.fl .f32 (orZero (((above a && above b) && (fin c && within n (-100) 100)) && unit (gout a b c n)) (gout a b c n)))), .el (.sc (.bo (((above a && above b) && (fin c && within n (-100) 100)) && unit (gout a b c n))))], none⟩ := by
  rw [e21]
  rw [unit_mag]
  unfold orZero gout
  simp only [List.all_cons, List.all_nil, Bool.and_true]
  cases above a <;> cases above b <;> cases fin c <;> cases within n (-100) 100 <;> cases fcmp .leq .f32 (mag (fop .sub .f32 (fop .quo .f32 (fop .mul .f32 (fint .f32 n) a) b) c)) 1065353216 <;> simp
theorem c21 (a : Nat) (b : Nat) (c : Nat) (n : Int) (k : List RV → R) (out : Out) (h : k [.el (.sc (.fl .f32 (orZero (((above a && above b) && (fin c && within n (-100) 100)) && unit (gout a b c n)) (gout a b c n)))), .el (.sc (.bo (((above a && above b) && (fin c && within n (-100) 100)) && unit (gout a b c n))))] = some out) : ∃ rs, Real Try.prog 21 ∧ COK Try.prog 21 [.el (.sc (.fl .f32 a)), .el (.sc (.fl .f32 b)), .el (.sc (.fl .f32 c)), .el (.sc (.int .i64 n))] rs ∧ k rs = some out := by
  exact ⟨_, real Try.func21 (by kernel_rfl), fn_ok tok5 (A := none0) (L := noL) (r := none) Try.func21 (by kernel_rfl) (by kernel_rfl) (loops0 (by kernel_rfl)) (by rw [s21]), h⟩

/-! impl.checkedNumbers -/
theorem e68 (xs : List Nat) : runFn T5 none0 noL Try.f68 [.vw none ⟨.f32, xs⟩] = (match (Nat.ble xs.length big : Bool) with
  | true => (match (!(xs.all fin) : Bool) with
    | true => some ⟨[.nil, .el (.sc (.bo false))], none⟩
    | false => some ⟨[.arg 0, .el (.sc (.bo true))], none⟩)
  | false => none) := by kernel_rfl
theorem s68 (xs : List Nat) : runFn T5 none0 noL Try.f68 [.vw none ⟨.f32, xs⟩] = (match (Nat.ble xs.length big : Bool) with
  | true => (match (xs.all fin : Bool) with
    | true => some ⟨[.arg 0, .el (.sc (.bo true))], none⟩
    | false => some ⟨[.nil, .el (.sc (.bo false))], none⟩)
  | false => none) := by
  rw [e68]
  cases Nat.ble xs.length big <;> cases xs.all fin <;> simp
theorem c68 (xs : List Nat) (k : List RV → R) (out : Out) (h : (match (Nat.ble xs.length big : Bool) with
  | true => (match (xs.all fin : Bool) with
    | true => k [.arg 0, .el (.sc (.bo true))]
    | false => k [.nil, .el (.sc (.bo false))])
  | false => none) = some out) : ∃ rs, Real Try.prog 68 ∧ COK Try.prog 68 [.vw none ⟨.f32, xs⟩] rs ∧ k rs = some out := by
  cases g0 : (Nat.ble xs.length big : Bool) with
  | true =>
    rw [g0] at h
    cases g1 : (xs.all fin : Bool) with
    | true =>
      rw [g1] at h
      exact ⟨_, real Try.func68 (by kernel_rfl), fn_ok tok5 (A := none0) (L := noL) (r := none) Try.func68 (by kernel_rfl) (by kernel_rfl) (loops0 (by kernel_rfl)) (by rw [s68, g0, g1]), h⟩
    | false =>
      rw [g1] at h
      exact ⟨_, real Try.func68 (by kernel_rfl), fn_ok tok5 (A := none0) (L := noL) (r := none) Try.func68 (by kernel_rfl) (by kernel_rfl) (loops0 (by kernel_rfl)) (by rw [s68, g0, g1]), h⟩
  | false =>
    rw [g0] at h
    cases h

/-! impl.isCurve -/
theorem e71 (xs : List Nat) : runFn T5 none0 noL Try.f71 [.vw none ⟨.f32, xs⟩] = (match (decide (((xs.length : Int) : Int) ≥ 1) : Bool) with
  | true => (match (decide (((xs.length : Int) : Int) ≤ 3) : Bool) with
    | true => (match (Nat.ble xs.length big : Bool) with
      | true => some ⟨[.el (.sc (.bo (xs.all fin)))], none⟩
      | false => none)
    | false => some ⟨[.el (.sc (.bo false))], none⟩)
  | false => some ⟨[.el (.sc (.bo false))], none⟩) := by kernel_rfl
theorem s71 (xs : List Nat) : runFn T5 none0 noL Try.f71 [.vw none ⟨.f32, xs⟩] = some ⟨[.el (.sc (.bo (xs.all fin && (decide (xs.length ≥ 1) && decide (xs.length ≤ 3)))))], none⟩ := by
  rw [e71]
  have e3 : ((xs.length : Int) ≥ 1) ↔ xs.length ≥ 1 := by omega
  have e4 : ((xs.length : Int) ≤ 3) ↔ xs.length ≤ 3 := by omega
  by_cases h4 : xs.length ≤ 3
  · have h : Nat.ble xs.length big = true := Nat.ble_eq_true_of_le (by unfold big; omega)
    by_cases h3 : xs.length ≥ 1 <;> simp [e3, e4, h3, h4, h]
  · by_cases h3 : xs.length ≥ 1 <;> simp [e3, e4, h3, h4]
theorem c71 (xs : List Nat) (k : List RV → R) (out : Out) (h : k [.el (.sc (.bo (xs.all fin && (decide (xs.length ≥ 1) && decide (xs.length ≤ 3)))))] = some out) : ∃ rs, Real Try.prog 71 ∧ COK Try.prog 71 [.vw none ⟨.f32, xs⟩] rs ∧ k rs = some out := by
  exact ⟨_, real Try.func71 (by kernel_rfl), fn_ok tok5 (A := none0) (L := noL) (r := none) Try.func71 (by kernel_rfl) (by kernel_rfl) (loops0 (by kernel_rfl)) (by rw [s71]), h⟩

def S6 : SFn := fun f args k => match f, args with
  | 18, [.el (.sc (.fl .f32 w)), .el (.sc (.int .i64 n))] => k [.el (.sc (.fl .f32 (orZero ((above w && within n 1 100) && fin (fop .quo .f32 w (fint .f32 n))) (fop .quo .f32 w (fint .f32 n))))), .el (.sc (.bo ((above w && within n 1 100) && fin (fop .quo .f32 w (fint .f32 n)))))]
  | 21, [.el (.sc (.fl .f32 a)), .el (.sc (.fl .f32 b)), .el (.sc (.fl .f32 c)), .el (.sc (.int .i64 n))] => k [.el (.sc (.fl .f32 (orZero (((above a && above b) && (fin c && within n (-100) 100)) && unit (gout a b c n)) (gout a b c n)))), .el (.sc (.bo (((above a && above b) && (fin c && within n (-100) 100)) && unit (gout a b c n))))]
  | 68, [.vw none ⟨.f32, xs⟩] => (match (Nat.ble xs.length big : Bool) with
    | true => (match (xs.all fin : Bool) with
      | true => k [.arg 0, .el (.sc (.bo true))]
      | false => k [.nil, .el (.sc (.bo false))])
    | false => none)
  | 71, [.vw none ⟨.f32, xs⟩] => k [.el (.sc (.bo (xs.all fin && (decide (xs.length ≥ 1) && decide (xs.length ≤ 3)))))]
  | _, _ => S5 f args k
abbrev M6 : MFn := M5
def T6 : TT := tab.T S6 muts M6
theorem tok6 : TOK Try.prog T6 := by
  refine (tab_ok tabok).tok (fun f args k out h => ?_) (fun f vec args k out h => ?_)
  · change S6 f args k = some out at h
    unfold S6 at h
    split at h
    · exact c18 _ _ k out h
    · exact c21 _ _ _ _ k out h
    · exact c68 _ k out h
    · exact c71 _ k out h
    · exact tok5.S f args k out h
  · exact tok5.M f vec args k out h

end Go.Sm.Ytpnkcjlapkhclaa
