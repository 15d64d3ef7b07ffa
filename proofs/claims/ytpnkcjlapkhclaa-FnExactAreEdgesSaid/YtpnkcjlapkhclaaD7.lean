/- What the functions hand back: level 6. -/
import Derived.Test.YtpnkcjlapkhclaaD6
namespace Go.Sm.Ytpnkcjlapkhclaa
open Go Go.Sm Go.RowKit Go.Proofs

/-! impl.LadderFit -/
theorem e24 (xs : List Nat) : runFn T6 none0 noL Try.f24 [.vw none ⟨.f32, xs⟩] = (match (!(xs.all fin && (decide (xs.length ≥ 3) && decide (xs.length ≤ 32))) : Bool) with
  | true => some ⟨[.el (.sc (.fl .f32 0)), .el (.sc (.fl .f32 0)), .el (.sc (.fl .f32 0)), .el (.sc (.bo false))], none⟩
  | false => (match (decide (0 ≤ (2 : Int) ∧ (2 : Int) < (xs.length : Int)) && true : Bool) with
    | true => (match (xs : List Nat)[Int.toNat 2]? with
      | some x1 => (match (decide (0 ≤ (1 : Int) ∧ (1 : Int) < (xs.length : Int)) && true : Bool) with
        | true => (match (xs : List Nat)[Int.toNat 1]? with
          | some x2 => (match (decide (0 ≤ (0 : Int) ∧ (0 : Int) < (xs.length : Int)) && true : Bool) with
            | true => (match (xs : List Nat)[Int.toNat 0]? with
              | some x3 => (match (decide (0 ≤ (1 : Int) ∧ (1 : Int) < (xs.length : Int)) && true : Bool) with
                | true => (match (xs : List Nat)[Int.toNat 1]? with
                  | some x4 => (match (decide (0 ≤ (0 : Int) ∧ (0 : Int) < (xs.length : Int)) && true : Bool) with
                    | true => (match (xs : List Nat)[Int.toNat 0]? with
                      | some x5 => (match (!(([fop .sub .f32 (fop .sub .f32 x4 x5) (fop .mul .f32 1056964608 (fop .add .f32 (fop .sub .f32 x1 (fop .mul .f32 1073741824 x2)) x3)), fop .mul .f32 1056964608 (fop .add .f32 (fop .sub .f32 x1 (fop .mul .f32 1073741824 x2)) x3)]).all fin) : Bool) with
                        | true => some ⟨[.el (.sc (.fl .f32 0)), .el (.sc (.fl .f32 0)), .el (.sc (.fl .f32 0)), .el (.sc (.bo false))], none⟩
                        | false => (match (decide (0 ≤ (0 : Int) ∧ (0 : Int) < (xs.length : Int)) && true : Bool) with
                          | true => (match (xs : List Nat)[Int.toNat 0]? with
                            | some x6 => some ⟨[.el (.sc (.fl .f32 x6)), .el (.sc (.fl .f32 (fop .sub .f32 (fop .sub .f32 x4 x5) (fop .mul .f32 1056964608 (fop .add .f32 (fop .sub .f32 x1 (fop .mul .f32 1073741824 x2)) x3))))), .el (.sc (.fl .f32 (fop .mul .f32 1056964608 (fop .add .f32 (fop .sub .f32 x1 (fop .mul .f32 1073741824 x2)) x3)))), .el (.sc (.bo true))], none⟩
                            | none => none)
                          | false => none))
                      | none => none)
                    | false => none)
                  | none => none)
                | false => none)
              | none => none)
            | false => none)
          | none => none)
        | false => none)
      | none => none)
    | false => none)) := by kernel_rfl
theorem s24 (xs : List Nat) : runFn T6 none0 noL Try.f24 [.vw none ⟨.f32, xs⟩] = some ⟨[.el (.sc (.fl .f32 (orZero (ladOk xs) (xs.getD 0 0)))), .el (.sc (.fl .f32 (orZero (ladOk xs) (ladB xs)))), .el (.sc (.fl .f32 (orZero (ladOk xs) (ladC xs)))), .el (.sc (.bo (ladOk xs)))], none⟩ := by
  rw [e24]
  by_cases h3 : xs.length ≥ 3
  · have i0 : (0 : Int) < (xs.length : Int) := by omega
    have i1 : (1 : Int) < (xs.length : Int) := by omega
    have i2 : (2 : Int) < (xs.length : Int) := by omega
    have e0 : xs[Int.toNat 0]? = some (xs.getD 0 0) := getq (by omega)
    have e1 : xs[Int.toNat 1]? = some (xs.getD 1 0) := getq (by omega)
    have e2 : xs[Int.toNat 2]? = some (xs.getD 2 0) := getq (by omega)
    simp only [i0, i1, i2, e0, e1, e2, Int.le_refl, (by decide : (0 : Int) ≤ 1), (by decide : (0 : Int) ≤ 2), and_self, decide_true, Bool.and_true]
    unfold ladOk orZero
    cases xs.all fin && (decide (xs.length ≥ 3) && decide (xs.length ≤ 32)) with
    | false => simp
    | true =>
      unfold ladB ladC
      try simp only [List.all_cons, List.all_nil, Bool.and_true]
      cases fin (fop .sub .f32 (fop .sub .f32 (xs.getD 1 0) (xs.getD 0 0)) (fop .mul .f32 1056964608 (fop .add .f32 (fop .sub .f32 (xs.getD 2 0) (fop .mul .f32 1073741824 (xs.getD 1 0))) (xs.getD 0 0)))) <;> cases fin (fop .mul .f32 1056964608 (fop .add .f32 (fop .sub .f32 (xs.getD 2 0) (fop .mul .f32 1073741824 (xs.getD 1 0))) (xs.getD 0 0))) <;> simp
  · simp [ladOk, orZero, h3]
theorem c24 (xs : List Nat) (k : List RV → R) (out : Out) (h : k [.el (.sc (.fl .f32 (orZero (ladOk xs) (xs.getD 0 0)))), .el (.sc (.fl .f32 (orZero (ladOk xs) (ladB xs)))), .el (.sc (.fl .f32 (orZero (ladOk xs) (ladC xs)))), .el (.sc (.bo (ladOk xs)))] = some out) : ∃ rs, Real Try.prog 24 ∧ COK Try.prog 24 [.vw none ⟨.f32, xs⟩] rs ∧ k rs = some out := by
  exact ⟨_, real Try.func24 (by kernel_rfl), fn_ok tok6 (A := none0) (L := noL) (r := none) Try.func24 (by kernel_rfl) (by kernel_rfl) (loops0 (by kernel_rfl)) (by rw [s24]), h⟩

/-! impl.AreaOf -/
theorem e27 (lp : Nat) (lh : Nat) (lw : Nat) (lk : Int) : runFn T6 none0 noL Try.f27 [.el (.ag [(.fl .f32 lp), (.fl .f32 lh), (.fl .f32 lw), (.int .i64 lk)])] = (match (!(okLine ((⟨lp, lh, lw, lk⟩ : LineV))) : Bool) with
  | true => some ⟨[.el (.sc (.fl .f32 0)), .el (.sc (.bo false))], none⟩
  | false => (match (decide (0 ≤ (lk : Int) ∧ (lk : Int) < (([1071833029, 1078530011, 1075658719, 1065353216] : List Nat).length : Int)) && true : Bool) with
    | true => (match ([1071833029, 1078530011, 1075658719, 1065353216] : List Nat)[Int.toNat lk]? with
      | some x1 => some ⟨[.el (.sc (.fl .f32 (numOf (fop .mul .f32 (fop .mul .f32 lh lw) x1)))), .el (.sc (.bo (fin (fop .mul .f32 (fop .mul .f32 lh lw) x1))))], none⟩
      | none => none)
    | false => none)) := by kernel_rfl
theorem s27 (lp : Nat) (lh : Nat) (lw : Nat) (lk : Int) : runFn T6 none0 noL Try.f27 [.el (.ag [(.fl .f32 lp), (.fl .f32 lh), (.fl .f32 lw), (.int .i64 lk)])] = some ⟨[.el (.sc (.fl .f32 (orZero (okLine ((⟨lp, lh, lw, lk⟩ : LineV)) && fin (areaX ((⟨lp, lh, lw, lk⟩ : LineV)))) (areaX ((⟨lp, lh, lw, lk⟩ : LineV)))))), .el (.sc (.bo (okLine ((⟨lp, lh, lw, lk⟩ : LineV)) && fin (areaX ((⟨lp, lh, lw, lk⟩ : LineV))))))], none⟩ := by
  rw [e27]
  cases ho : okLine (⟨lp, lh, lw, lk⟩ : LineV) with
  | false => simp [orZero]
  | true =>
    have hk := okLine_kind ho
    dsimp only at hk
    have h4 : lk = 0 ∨ lk = 1 ∨ lk = 2 ∨ lk = 3 := by omega
    rcases h4 with h | h | h | h <;> subst h <;> simp [numOf, orZero, areaX, shapeBy] <;> split <;> simp_all
theorem c27 (lp : Nat) (lh : Nat) (lw : Nat) (lk : Int) (k : List RV → R) (out : Out) (h : k [.el (.sc (.fl .f32 (orZero (okLine ((⟨lp, lh, lw, lk⟩ : LineV)) && fin (areaX ((⟨lp, lh, lw, lk⟩ : LineV)))) (areaX ((⟨lp, lh, lw, lk⟩ : LineV)))))), .el (.sc (.bo (okLine ((⟨lp, lh, lw, lk⟩ : LineV)) && fin (areaX ((⟨lp, lh, lw, lk⟩ : LineV))))))] = some out) : ∃ rs, Real Try.prog 27 ∧ COK Try.prog 27 [.el (.ag [(.fl .f32 lp), (.fl .f32 lh), (.fl .f32 lw), (.int .i64 lk)])] rs ∧ k rs = some out := by
  exact ⟨_, real Try.func27 (by kernel_rfl), fn_ok tok6 (A := none0) (L := noL) (r := none) Try.func27 (by kernel_rfl) (by kernel_rfl) (loops0 (by kernel_rfl)) (by rw [s27]), h⟩

/-! impl.LadderNext -/
theorem e29 (xs : List Nat) : runFn T6 none0 noL Try.f29 [.vw none ⟨.f32, xs⟩] = (match (!(xs.all fin && (decide (xs.length ≥ 3) && decide (xs.length ≤ 32))) : Bool) with
  | true => some ⟨[.el (.sc (.fl .f32 0)), .el (.sc (.bo false))], none⟩
  | false => (match (decide (0 ≤ (IntKind.i64.wrap (((xs.length : Int)) - 1) : Int) ∧ (IntKind.i64.wrap (((xs.length : Int)) - 1) : Int) < (xs.length : Int)) && true : Bool) with
    | true => (match (xs : List Nat)[Int.toNat (IntKind.i64.wrap (((xs.length : Int)) - 1))]? with
      | some x1 => (match (decide (0 ≤ (IntKind.i64.wrap (((xs.length : Int)) - 2) : Int) ∧ (IntKind.i64.wrap (((xs.length : Int)) - 2) : Int) < (xs.length : Int)) && true : Bool) with
        | true => (match (xs : List Nat)[Int.toNat (IntKind.i64.wrap (((xs.length : Int)) - 2))]? with
          | some x2 => (match (decide (0 ≤ (IntKind.i64.wrap (((xs.length : Int)) - 3) : Int) ∧ (IntKind.i64.wrap (((xs.length : Int)) - 3) : Int) < (xs.length : Int)) && true : Bool) with
            | true => (match (xs : List Nat)[Int.toNat (IntKind.i64.wrap (((xs.length : Int)) - 3))]? with
              | some x3 => some ⟨[.el (.sc (.fl .f32 (numOf (fop .add .f32 (fop .sub .f32 (fop .mul .f32 1077936128 x1) (fop .mul .f32 1077936128 x2)) x3)))), .el (.sc (.bo (fin (fop .add .f32 (fop .sub .f32 (fop .mul .f32 1077936128 x1) (fop .mul .f32 1077936128 x2)) x3))))], none⟩
              | none => none)
            | false => none)
          | none => none)
        | false => none)
      | none => none)
    | false => none)) := by kernel_rfl
theorem s29 (xs : List Nat) : runFn T6 none0 noL Try.f29 [.vw none ⟨.f32, xs⟩] = some ⟨[.el (.sc (.fl .f32 (orZero ((xs.all fin && (decide (xs.length ≥ 3) && decide (xs.length ≤ 32))) && fin (ladN xs)) (ladN xs)))), .el (.sc (.bo ((xs.all fin && (decide (xs.length ≥ 3) && decide (xs.length ≤ 32))) && fin (ladN xs))))], none⟩ := by
  rw [e29]
  cases h : (xs.all fin && (decide (xs.length ≥ 3) && decide (xs.length ≤ 32))) with
  | false => simp [orZero]
  | true =>
    have h2 := h
    simp only [Bool.and_eq_true, decide_eq_true_eq] at h2
    have w1 : IntKind.i64.wrap ((xs.length : Int) - 1) = ((xs.length - 1 : Nat) : Int) := by rw [wrap64 (by omega) (by omega)]; omega
    have w2 : IntKind.i64.wrap ((xs.length : Int) - 2) = ((xs.length - 2 : Nat) : Int) := by rw [wrap64 (by omega) (by omega)]; omega
    have w3 : IntKind.i64.wrap ((xs.length : Int) - 3) = ((xs.length - 3 : Nat) : Int) := by rw [wrap64 (by omega) (by omega)]; omega
    have e1 : xs[Int.toNat ((xs.length - 1 : Nat) : Int)]? = some (xs.getD (xs.length - 1) 0) := getq (by omega)
    have e2 : xs[Int.toNat ((xs.length - 2 : Nat) : Int)]? = some (xs.getD (xs.length - 2) 0) := getq (by omega)
    have e3 : xs[Int.toNat ((xs.length - 3 : Nat) : Int)]? = some (xs.getD (xs.length - 3) 0) := getq (by omega)
    have i1 : (0 : Int) ≤ ((xs.length - 1 : Nat) : Int) ∧ ((xs.length - 1 : Nat) : Int) < (xs.length : Int) := by omega
    have i2 : (0 : Int) ≤ ((xs.length - 2 : Nat) : Int) ∧ ((xs.length - 2 : Nat) : Int) < (xs.length : Int) := by omega
    have i3 : (0 : Int) ≤ ((xs.length - 3 : Nat) : Int) ∧ ((xs.length - 3 : Nat) : Int) < (xs.length : Int) := by omega
    simp only [w1, w2, w3, e1, e2, e3, i1, i2, i3, and_self, decide_true, Bool.and_true, Bool.not_true, Bool.true_and]
    unfold orZero numOf ladN
    cases fin (fop .add .f32 (fop .sub .f32 (fop .mul .f32 1077936128 (xs.getD (xs.length - 1) 0)) (fop .mul .f32 1077936128 (xs.getD (xs.length - 2) 0))) (xs.getD (xs.length - 3) 0)) <;> rfl
theorem c29 (xs : List Nat) (k : List RV → R) (out : Out) (h : k [.el (.sc (.fl .f32 (orZero ((xs.all fin && (decide (xs.length ≥ 3) && decide (xs.length ≤ 32))) && fin (ladN xs)) (ladN xs)))), .el (.sc (.bo ((xs.all fin && (decide (xs.length ≥ 3) && decide (xs.length ≤ 32))) && fin (ladN xs))))] = some out) : ∃ rs, Real Try.prog 29 ∧ COK Try.prog 29 [.vw none ⟨.f32, xs⟩] rs ∧ k rs = some out := by
  exact ⟨_, real Try.func29 (by kernel_rfl), fn_ok tok6 (A := none0) (L := noL) (r := none) Try.func29 (by kernel_rfl) (by kernel_rfl) (loops0 (by kernel_rfl)) (by rw [s29]), h⟩

def S7 : SFn := fun f args k => match f, args with
  | 24, [.vw none ⟨.f32, xs⟩] => k [.el (.sc (.fl .f32 (orZero (ladOk xs) (xs.getD 0 0)))), .el (.sc (.fl .f32 (orZero (ladOk xs) (ladB xs)))), .el (.sc (.fl .f32 (orZero (ladOk xs) (ladC xs)))), .el (.sc (.bo (ladOk xs)))]
  | 27, [.el (.ag [(.fl .f32 lp), (.fl .f32 lh), (.fl .f32 lw), (.int .i64 lk)])] => k [.el (.sc (.fl .f32 (orZero (okLine ((⟨lp, lh, lw, lk⟩ : LineV)) && fin (areaX ((⟨lp, lh, lw, lk⟩ : LineV)))) (areaX ((⟨lp, lh, lw, lk⟩ : LineV)))))), .el (.sc (.bo (okLine ((⟨lp, lh, lw, lk⟩ : LineV)) && fin (areaX ((⟨lp, lh, lw, lk⟩ : LineV))))))]
  | 29, [.vw none ⟨.f32, xs⟩] => k [.el (.sc (.fl .f32 (orZero ((xs.all fin && (decide (xs.length ≥ 3) && decide (xs.length ≤ 32))) && fin (ladN xs)) (ladN xs)))), .el (.sc (.bo ((xs.all fin && (decide (xs.length ≥ 3) && decide (xs.length ≤ 32))) && fin (ladN xs))))]
  | _, _ => S6 f args k
abbrev M7 : MFn := M6
def T7 : TT := tab.T S7 muts M7
theorem tok7 : TOK Try.prog T7 := by
  refine (tab_ok tabok).tok (fun f args k out h => ?_) (fun f vec args k out h => ?_)
  · change S7 f args k = some out at h
    unfold S7 at h
    split at h
    · exact c24 _ k out h
    · exact c27 _ _ _ _ k out h
    · exact c29 _ k out h
    · exact tok6.S f args k out h
  · exact tok6.M f vec args k out h

end Go.Sm.Ytpnkcjlapkhclaa
