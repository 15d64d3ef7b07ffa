/- What the functions hand back: level 5. -/
import Derived.Test.YtdnfgoolapikmaaD5
namespace Go.Sm.Ytdnfgoolapikmaa
open Go Go.Sm Go.RowKit Go.Proofs

/-! impl.isScan -/
theorem e52 (xs : List Nat) : runFn T5 none0 noL Try.f52 [.vw none ⟨.f32, xs⟩] = (match (decide (((xs.length : Int) : Int) ≥ 2) : Bool) with
  | true => (match (decide (((xs.length : Int) : Int) ≤ 64) : Bool) with
    | true => (match (Nat.ble xs.length big : Bool) with
      | true => some ⟨[.el (.sc (.bo (xs.all fin)))], none⟩
      | false => none)
    | false => some ⟨[.el (.sc (.bo false))], none⟩)
  | false => some ⟨[.el (.sc (.bo false))], none⟩) := by kernel_rfl
theorem s52 (xs : List Nat) : runFn T5 none0 noL Try.f52 [.vw none ⟨.f32, xs⟩] = some ⟨[.el (.sc (.bo (bins xs 2)))], none⟩ := by
  rw [e52]
  unfold bins
  have e4 : ((xs.length : Int) ≤ 64) ↔ xs.length ≤ 64 := by omega
  by_cases h4 : xs.length ≤ 64
  · have h : Nat.ble xs.length big = true := Nat.ble_eq_true_of_le (by unfold big; omega)
    cases h3 : decide ((xs.length : Int) ≥ 2) <;> simp [e4, h4, h]
  · cases h3 : decide ((xs.length : Int) ≥ 2) <;> simp [e4, h4]
theorem c52 (xs : List Nat) (k : List RV → R) (out : Out) (h : k [.el (.sc (.bo (bins xs 2)))] = some out) : ∃ rs, Real Try.prog 52 ∧ COK Try.prog 52 [.vw none ⟨.f32, xs⟩] rs ∧ k rs = some out := by
  exact ⟨_, real Try.func52 (by kernel_rfl), fn_ok tok5 (A := none0) (L := noL) (r := none) Try.func52 (by kernel_rfl) (by kernel_rfl) (loops0 (by kernel_rfl)) (by rw [s52]), h⟩

/-! impl.isList -/
theorem e57 (xs : List Nat) (n : Int) : runFn T5 none0 noL Try.f57 [.vw none ⟨.f32, xs⟩, .el (.sc (.int .i64 n))] = (match (decide (((xs.length : Int) : Int) ≥ n) : Bool) with
  | true => (match (decide (((xs.length : Int) : Int) ≤ 128) : Bool) with
    | true => (match (Nat.ble xs.length big : Bool) with
      | true => some ⟨[.el (.sc (.bo (xs.all fin)))], none⟩
      | false => none)
    | false => some ⟨[.el (.sc (.bo false))], none⟩)
  | false => some ⟨[.el (.sc (.bo false))], none⟩) := by kernel_rfl
theorem s57 (xs : List Nat) (n : Int) : runFn T5 none0 noL Try.f57 [.vw none ⟨.f32, xs⟩, .el (.sc (.int .i64 n))] = some ⟨[.el (.sc (.bo (listOk xs n)))], none⟩ := by
  rw [e57]
  unfold listOk
  have e4 : ((xs.length : Int) ≤ 128) ↔ xs.length ≤ 128 := by omega
  by_cases h4 : xs.length ≤ 128
  · have h : Nat.ble xs.length big = true := Nat.ble_eq_true_of_le (by unfold big; omega)
    cases h3 : decide ((xs.length : Int) ≥ n) <;> simp [e4, h4, h]
  · cases h3 : decide ((xs.length : Int) ≥ n) <;> simp [e4, h4]
theorem c57 (xs : List Nat) (n : Int) (k : List RV → R) (out : Out) (h : k [.el (.sc (.bo (listOk xs n)))] = some out) : ∃ rs, Real Try.prog 57 ∧ COK Try.prog 57 [.vw none ⟨.f32, xs⟩, .el (.sc (.int .i64 n))] rs ∧ k rs = some out := by
  exact ⟨_, real Try.func57 (by kernel_rfl), fn_ok tok5 (A := none0) (L := noL) (r := none) Try.func57 (by kernel_rfl) (by kernel_rfl) (loops0 (by kernel_rfl)) (by rw [s57]), h⟩

/-! impl.checkedNumbers -/
theorem e58 (xs : List Nat) : runFn T5 none0 noL Try.f58 [.vw none ⟨.f32, xs⟩] = (match (Nat.ble xs.length big : Bool) with
  | true => (match (!(xs.all fin) : Bool) with
    | true => some ⟨[.nil, .el (.sc (.bo false))], none⟩
    | false => some ⟨[.arg 0, .el (.sc (.bo true))], none⟩)
  | false => none) := by kernel_rfl
theorem s58 (xs : List Nat) : runFn T5 none0 noL Try.f58 [.vw none ⟨.f32, xs⟩] = (match (Nat.ble xs.length big : Bool) with
  | true => (match (xs.all fin : Bool) with
    | true => some ⟨[.arg 0, .el (.sc (.bo true))], none⟩
    | false => some ⟨[.nil, .el (.sc (.bo false))], none⟩)
  | false => none) := by
  rw [e58]
  cases Nat.ble xs.length big <;> cases xs.all fin <;> simp
theorem c58 (xs : List Nat) (k : List RV → R) (out : Out) (h : (match (Nat.ble xs.length big : Bool) with
  | true => (match (xs.all fin : Bool) with
    | true => k [.arg 0, .el (.sc (.bo true))]
    | false => k [.nil, .el (.sc (.bo false))])
  | false => none) = some out) : ∃ rs, Real Try.prog 58 ∧ COK Try.prog 58 [.vw none ⟨.f32, xs⟩] rs ∧ k rs = some out := by
  cases g0 : (Nat.ble xs.length big : Bool) with
  | true =>
    rw [g0] at h
    cases g1 : (xs.all fin : Bool) with
    | true =>
      rw [g1] at h
      exact ⟨_, real Try.func58 (by kernel_rfl), fn_ok tok5 (A := none0) (L := noL) (r := none) Try.func58 (by kernel_rfl) (by kernel_rfl) (loops0 (by kernel_rfl)) (by rw [s58, g0, g1]), h⟩
    | false =>
      rw [g1] at h
      exact ⟨_, real Try.func58 (by kernel_rfl), fn_ok tok5 (A := none0) (L := noL) (r := none) Try.func58 (by kernel_rfl) (by kernel_rfl) (loops0 (by kernel_rfl)) (by rw [s58, g0, g1]), h⟩
  | false =>
    rw [g0] at h
    cases h

/-! impl.areLamps -/
theorem e69 (xs : List Nat) (ys : List Nat) (n : Int) : runFn T5 none0 noL Try.f69 [.vw none ⟨.f32, xs⟩, .vw none ⟨.f32, ys⟩, .el (.sc (.int .i64 n))] = (match (decide (((xs.length : Int) : Int) ≥ n) : Bool) with
  | true => (match (decide (((xs.length : Int) : Int) ≤ 16) : Bool) with
    | true => (match (((ys.length : Int) : Int) == (xs.length : Int) : Bool) with
      | true => (match (Nat.ble xs.length big : Bool) with
        | true => (match (xs.all fin : Bool) with
          | true => (match (Nat.ble ys.length big : Bool) with
            | true => some ⟨[.el (.sc (.bo (ys.all fin)))], none⟩
            | false => none)
          | false => some ⟨[.el (.sc (.bo false))], none⟩)
        | false => none)
      | false => some ⟨[.el (.sc (.bo false))], none⟩)
    | false => some ⟨[.el (.sc (.bo false))], none⟩)
  | false => some ⟨[.el (.sc (.bo false))], none⟩) := by kernel_rfl
theorem s69 (xs : List Nat) (ys : List Nat) (n : Int) : runFn T5 none0 noL Try.f69 [.vw none ⟨.f32, xs⟩, .vw none ⟨.f32, ys⟩, .el (.sc (.int .i64 n))] = some ⟨[.el (.sc (.bo (lamps xs ys n)))], none⟩ := by
  rw [e69]
  unfold lamps
  have e4 : ((xs.length : Int) ≤ 16) ↔ xs.length ≤ 16 := by omega
  have e5 : ((ys.length : Int) == (xs.length : Int)) = decide (ys.length = xs.length) := by
    rw [Bool.eq_iff_iff]; simp; omega
  rw [e5]
  by_cases h4 : xs.length ≤ 16
  · by_cases h5 : ys.length = xs.length
    · have h : Nat.ble xs.length big = true := Nat.ble_eq_true_of_le (by unfold big; omega)
      have h2 : Nat.ble ys.length big = true := Nat.ble_eq_true_of_le (by unfold big; omega)
      cases h3 : decide ((xs.length : Int) ≥ n) <;> cases h6 : xs.all fin <;> simp [e4, h4, h5, h, h2, h6]
    · cases h3 : decide ((xs.length : Int) ≥ n) <;> simp [e4, h4, h5]
  · cases h3 : decide ((xs.length : Int) ≥ n) <;> simp [e4, h4]
theorem c69 (xs : List Nat) (ys : List Nat) (n : Int) (k : List RV → R) (out : Out) (h : k [.el (.sc (.bo (lamps xs ys n)))] = some out) : ∃ rs, Real Try.prog 69 ∧ COK Try.prog 69 [.vw none ⟨.f32, xs⟩, .vw none ⟨.f32, ys⟩, .el (.sc (.int .i64 n))] rs ∧ k rs = some out := by
  exact ⟨_, real Try.func69 (by kernel_rfl), fn_ok tok5 (A := none0) (L := noL) (r := none) Try.func69 (by kernel_rfl) (by kernel_rfl) (loops0 (by kernel_rfl)) (by rw [s69]), h⟩

/-! impl.isBins -/
theorem e79 (xs : List Nat) (n : Int) : runFn T5 none0 noL Try.f79 [.vw none ⟨.f32, xs⟩, .el (.sc (.int .i64 n))] = (match (decide (((xs.length : Int) : Int) ≥ n) : Bool) with
  | true => (match (decide (((xs.length : Int) : Int) ≤ 64) : Bool) with
    | true => (match (Nat.ble xs.length big : Bool) with
      | true => some ⟨[.el (.sc (.bo (xs.all fin)))], none⟩
      | false => none)
    | false => some ⟨[.el (.sc (.bo false))], none⟩)
  | false => some ⟨[.el (.sc (.bo false))], none⟩) := by kernel_rfl
theorem s79 (xs : List Nat) (n : Int) : runFn T5 none0 noL Try.f79 [.vw none ⟨.f32, xs⟩, .el (.sc (.int .i64 n))] = some ⟨[.el (.sc (.bo (bins xs n)))], none⟩ := by
  rw [e79]
  unfold bins
  have e4 : ((xs.length : Int) ≤ 64) ↔ xs.length ≤ 64 := by omega
  by_cases h4 : xs.length ≤ 64
  · have h : Nat.ble xs.length big = true := Nat.ble_eq_true_of_le (by unfold big; omega)
    cases h3 : decide ((xs.length : Int) ≥ n) <;> simp [e4, h4, h]
  · cases h3 : decide ((xs.length : Int) ≥ n) <;> simp [e4, h4]
theorem c79 (xs : List Nat) (n : Int) (k : List RV → R) (out : Out) (h : k [.el (.sc (.bo (bins xs n)))] = some out) : ∃ rs, Real Try.prog 79 ∧ COK Try.prog 79 [.vw none ⟨.f32, xs⟩, .el (.sc (.int .i64 n))] rs ∧ k rs = some out := by
  exact ⟨_, real Try.func79 (by kernel_rfl), fn_ok tok5 (A := none0) (L := noL) (r := none) Try.func79 (by kernel_rfl) (by kernel_rfl) (loops0 (by kernel_rfl)) (by rw [s79]), h⟩

/-! impl.isCurve -/
theorem e105 (xs : List Nat) : runFn T5 none0 noL Try.f105 [.vw none ⟨.f32, xs⟩] = (match (decide (((xs.length : Int) : Int) ≥ 1) : Bool) with
  | true => (match (decide (((xs.length : Int) : Int) ≤ 3) : Bool) with
    | true => (match (Nat.ble xs.length big : Bool) with
      | true => some ⟨[.el (.sc (.bo (xs.all fin)))], none⟩
      | false => none)
    | false => some ⟨[.el (.sc (.bo false))], none⟩)
  | false => some ⟨[.el (.sc (.bo false))], none⟩) := by kernel_rfl
theorem s105 (xs : List Nat) : runFn T5 none0 noL Try.f105 [.vw none ⟨.f32, xs⟩] = some ⟨[.el (.sc (.bo (xs.all fin && (decide (xs.length ≥ 1) && decide (xs.length ≤ 3)))))], none⟩ := by
  rw [e105]
  have e3 : ((xs.length : Int) ≥ 1) ↔ xs.length ≥ 1 := by omega
  have e4 : ((xs.length : Int) ≤ 3) ↔ xs.length ≤ 3 := by omega
  by_cases h4 : xs.length ≤ 3
  · have h : Nat.ble xs.length big = true := Nat.ble_eq_true_of_le (by unfold big; omega)
    by_cases h3 : xs.length ≥ 1 <;> simp [e3, e4, h3, h4, h]
  · by_cases h3 : xs.length ≥ 1 <;> simp [e3, e4, h3, h4]
theorem c105 (xs : List Nat) (k : List RV → R) (out : Out) (h : k [.el (.sc (.bo (xs.all fin && (decide (xs.length ≥ 1) && decide (xs.length ≤ 3)))))] = some out) : ∃ rs, Real Try.prog 105 ∧ COK Try.prog 105 [.vw none ⟨.f32, xs⟩] rs ∧ k rs = some out := by
  exact ⟨_, real Try.func105 (by kernel_rfl), fn_ok tok5 (A := none0) (L := noL) (r := none) Try.func105 (by kernel_rfl) (by kernel_rfl) (loops0 (by kernel_rfl)) (by rw [s105]), h⟩

def S6 : SFn := fun f args k => match f, args with
  | 52, [.vw none ⟨.f32, xs⟩] => k [.el (.sc (.bo (bins xs 2)))]
  | 57, [.vw none ⟨.f32, xs⟩, .el (.sc (.int .i64 n))] => k [.el (.sc (.bo (listOk xs n)))]
  | 58, [.vw none ⟨.f32, xs⟩] => (match (Nat.ble xs.length big : Bool) with
    | true => (match (xs.all fin : Bool) with
      | true => k [.arg 0, .el (.sc (.bo true))]
      | false => k [.nil, .el (.sc (.bo false))])
    | false => none)
  | 69, [.vw none ⟨.f32, xs⟩, .vw none ⟨.f32, ys⟩, .el (.sc (.int .i64 n))] => k [.el (.sc (.bo (lamps xs ys n)))]
  | 79, [.vw none ⟨.f32, xs⟩, .el (.sc (.int .i64 n))] => k [.el (.sc (.bo (bins xs n)))]
  | 105, [.vw none ⟨.f32, xs⟩] => k [.el (.sc (.bo (xs.all fin && (decide (xs.length ≥ 1) && decide (xs.length ≤ 3)))))]
  | _, _ => S5 f args k
abbrev M6 : MFn := M5
def T6 : TT := tab.T S6 muts M6
theorem tok6 : TOK Try.prog T6 := by
  refine (tab_ok tabok).tok (fun f args k out h => ?_) (fun f vec args k out h => ?_)
  · change S6 f args k = some out at h
    unfold S6 at h
    split at h
    · exact c52 _ k out h
    · exact c57 _ _ k out h
    · exact c58 _ k out h
    · exact c69 _ _ _ k out h
    · exact c79 _ _ k out h
    · exact c105 _ k out h
    · exact tok5.S f args k out h
  · exact tok5.M f vec args k out h

end Go.Sm.Ytdnfgoolapikmaa
