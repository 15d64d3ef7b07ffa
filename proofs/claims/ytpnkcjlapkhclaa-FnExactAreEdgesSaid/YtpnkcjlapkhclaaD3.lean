/- What the functions hand back: level 2. -/
import Derived.Test.YtpnkcjlapkhclaaD2
namespace Go.Sm.Ytpnkcjlapkhclaa
open Go Go.Sm Go.RowKit Go.Proofs

/-! spec.GratingOut -/
theorem e20 (a : Nat) (b : Nat) (c : Nat) (n : Int) : runFn T2 none0 noL Try.f20 [.el (.sc (.fl .f32 a)), .el (.sc (.fl .f32 b)), .el (.sc (.fl .f32 c)), .el (.sc (.int .i64 n))] = (match (!(above a) : Bool) with
  | true => some ⟨[.el (.sc (.fl .f32 0)), .el (.sc (.bo false))], none⟩
  | false => (match (!(above b) : Bool) with
    | true => some ⟨[.el (.sc (.fl .f32 0)), .el (.sc (.bo false))], none⟩
    | false => (match (!(fin c) : Bool) with
      | true => some ⟨[.el (.sc (.fl .f32 0)), .el (.sc (.bo false))], none⟩
      | false => (match (!(within n ((-100)) 100) : Bool) with
        | true => some ⟨[.el (.sc (.fl .f32 0)), .el (.sc (.bo false))], none⟩
        | false => (match (!(unit (gout a b c n)) : Bool) with
          | true => some ⟨[.el (.sc (.fl .f32 0)), .el (.sc (.bo false))], none⟩
          | false => some ⟨[.el (.sc (.fl .f32 (gout a b c n))), .el (.sc (.bo true))], none⟩))))) := by kernel_rfl
theorem s20 (a : Nat) (b : Nat) (c : Nat) (n : Int) : runFn T2 none0 noL Try.f20 [.el (.sc (.fl .f32 a)), .el (.sc (.fl .f32 b)), .el (.sc (.fl .f32 c)), .el (.sc (.int .i64 n))] = some ⟨[.el (.sc (.fl .f32 (orZero (((above a && above b) && (fin c && within n (-100) 100)) && unit (gout a b c n)) (gout a b c n)))), .el (.sc (.bo (((above a && above b) && (fin c && within n (-100) 100)) && unit (gout a b c n))))], none⟩ := by
  rw [e20]
  unfold orZero
  cases above a <;> cases above b <;> cases fin c <;> cases within n (-100) 100 <;> cases unit (gout a b c n) <;> simp
theorem c20 (a : Nat) (b : Nat) (c : Nat) (n : Int) (k : List RV → R) (out : Out) (h : k [.el (.sc (.fl .f32 (orZero (((above a && above b) && (fin c && within n (-100) 100)) && unit (gout a b c n)) (gout a b c n)))), .el (.sc (.bo (((above a && above b) && (fin c && within n (-100) 100)) && unit (gout a b c n))))] = some out) : ∃ rs, Real Try.prog 20 ∧ COK Try.prog 20 [.el (.sc (.fl .f32 a)), .el (.sc (.fl .f32 b)), .el (.sc (.fl .f32 c)), .el (.sc (.int .i64 n))] rs ∧ k rs = some out := by
  exact ⟨_, real Try.func20 (by kernel_rfl), fn_ok tok2 (A := none0) (L := noL) (r := none) Try.func20 (by kernel_rfl) (by kernel_rfl) (loops0 (by kernel_rfl)) (by rw [s20]), h⟩

/-! spec.LadderFit -/
theorem e22 (xs : List Nat) : runFn T2 none0 noL Try.f22 [.vw none ⟨.f32, xs⟩] = (match (Nat.ble xs.length big : Bool) with
  | true => (match (!(xs.all fin && (decide (xs.length ≥ 3) && decide (xs.length ≤ 32))) : Bool) with
    | true => some ⟨[.el (.sc (.fl .f32 0)), .el (.sc (.fl .f32 0)), .el (.sc (.fl .f32 0)), .el (.sc (.bo false))], none⟩
    | false => (match (decide (0 ≤ (2 : Int) ∧ (2 : Int) < (xs.length : Int)) && true : Bool) with
      | true => (match (xs : List Nat)[Int.toNat 2]? with
        | some x1 => (match (decide (0 ≤ (1 : Int) ∧ (1 : Int) < (xs.length : Int)) && true : Bool) with
          | true => (match (xs : List Nat)[Int.toNat 1]? with
            | some x2 => (match (decide (0 ≤ (0 : Int) ∧ (0 : Int) < (xs.length : Int)) && true : Bool) with
              | true => (match (xs : List Nat)[Int.toNat 0]? with
                | some x3 => (match (decide (0 ≤ (1 : Int) ∧ (1 : Int) < (xs.length : Int)) && true : Bool) with
                  | true => (match (xs : List Nat)[Int.toNat 1]? with
                    | some x4 => (match (decide (0 ≤ (0 : Int) ∧ (0 : Int) < (xs.length : Int)) && true : Bool) with
                      | true => (match (xs : List Nat)[Int.toNat 0]? with
                        | some x5 => (match (!(fin (fop .sub .f32 (fop .sub .f32 x4 x5) (fop .mul .f32 1056964608 (fop .add .f32 (fop .sub .f32 x1 (fop .mul .f32 1073741824 x2)) x3)))) : Bool) with
                          | true => some ⟨[.el (.sc (.fl .f32 0)), .el (.sc (.fl .f32 0)), .el (.sc (.fl .f32 0)), .el (.sc (.bo false))], none⟩
                          | false => (match (!(fin (fop .mul .f32 1056964608 (fop .add .f32 (fop .sub .f32 x1 (fop .mul .f32 1073741824 x2)) x3))) : Bool) with
                            | true => some ⟨[.el (.sc (.fl .f32 0)), .el (.sc (.fl .f32 0)), .el (.sc (.fl .f32 0)), .el (.sc (.bo false))], none⟩
                            | false => (match (decide (0 ≤ (0 : Int) ∧ (0 : Int) < (xs.length : Int)) && true : Bool) with
                              | true => (match (xs : List Nat)[Int.toNat 0]? with
                                | some x6 => some ⟨[.el (.sc (.fl .f32 x6)), .el (.sc (.fl .f32 (fop .sub .f32 (fop .sub .f32 x4 x5) (fop .mul .f32 1056964608 (fop .add .f32 (fop .sub .f32 x1 (fop .mul .f32 1073741824 x2)) x3))))), .el (.sc (.fl .f32 (fop .mul .f32 1056964608 (fop .add .f32 (fop .sub .f32 x1 (fop .mul .f32 1073741824 x2)) x3)))), .el (.sc (.bo true))], none⟩
                                | none => none)
                              | false => none)))
                        | none => none)
                      | false => none)
                    | none => none)
                  | false => none)
                | none => none)
              | false => none)
            | none => none)
          | false => none)
        | none => none)
      | false => none))
  | false => none) := by kernel_rfl
theorem s22 (xs : List Nat) : runFn T2 none0 noL Try.f22 [.vw none ⟨.f32, xs⟩] = (match (Nat.ble xs.length big : Bool) with
  | true => some ⟨[.el (.sc (.fl .f32 (orZero (ladOk xs) (xs.getD 0 0)))), .el (.sc (.fl .f32 (orZero (ladOk xs) (ladB xs)))), .el (.sc (.fl .f32 (orZero (ladOk xs) (ladC xs)))), .el (.sc (.bo (ladOk xs)))], none⟩
  | false => none) := by
  rw [e22]
  cases hb : Nat.ble xs.length big with
  | false => rfl
  | true =>
  dsimp only
  by_cases h3 : xs.length ≥ 3
  · have i0 : (0 : Int) < (xs.length : Int) := by omega
    have i1 : (1 : Int) < (xs.length : Int) := by omega
    have i2 : (2 : Int) < (xs.length : Int) := by omega
    have e0 : xs[Int.toNat 0]? = some (xs.getD 0 0) := getq (by omega)
    have e1 : xs[Int.toNat 1]? = some (xs.getD 1 0) := getq (by omega)
    have e2 : xs[Int.toNat 2]? = some (xs.getD 2 0) := getq (by omega)
    simp only [i0, i1, i2, e0, e1, e2, Int.le_refl, (by decide : (0 : Int) ≤ 1), (by decide : (0 : Int) ≤ 2), and_self, decide_true, Bool.and_true]
    unfold ladOk orZero
    cases xs.all fin && (decide (xs.length ≥ 3) && decide (xs.length ≤ 32)) with
    | false => simp
    | true =>
      unfold ladB ladC
      try simp only [List.all_cons, List.all_nil, Bool.and_true]
      cases fin (fop .sub .f32 (fop .sub .f32 (xs.getD 1 0) (xs.getD 0 0)) (fop .mul .f32 1056964608 (fop .add .f32 (fop .sub .f32 (xs.getD 2 0) (fop .mul .f32 1073741824 (xs.getD 1 0))) (xs.getD 0 0)))) <;> cases fin (fop .mul .f32 1056964608 (fop .add .f32 (fop .sub .f32 (xs.getD 2 0) (fop .mul .f32 1073741824 (xs.getD 1 0))) (xs.getD 0 0))) <;> simp
  · simp [ladOk, orZero, h3]
theorem c22 (xs : List Nat) (k : List RV → R) (out : Out) (h : (match (Nat.ble xs.length big : Bool) with
  | true => k [.el (.sc (.fl .f32 (orZero (ladOk xs) (xs.getD 0 0)))), .el (.sc (.fl .f32 (orZero (ladOk xs) (ladB xs)))), .el (.sc (.fl .f32 (orZero (ladOk xs) (ladC xs)))), .el (.sc (.bo (ladOk xs)))]
  | false => none) = some out) : ∃ rs, Real Try.prog 22 ∧ COK Try.prog 22 [.vw none ⟨.f32, xs⟩] rs ∧ k rs = some out := by
  cases g0 : (Nat.ble xs.length big : Bool) with
  | true =>
    rw [g0] at h
    exact ⟨_, real Try.func22 (by kernel_rfl), fn_ok tok2 (A := none0) (L := noL) (r := none) Try.func22 (by kernel_rfl) (by kernel_rfl) (loops0 (by kernel_rfl)) (by rw [s22, g0]), h⟩
  | false =>
    rw [g0] at h
    cases h

/-! spec.AreaOf -/
theorem e26 (lp : Nat) (lh : Nat) (lw : Nat) (lk : Int) : runFn T2 none0 noL Try.f26 [.el (.ag [(.fl .f32 lp), (.fl .f32 lh), (.fl .f32 lw), (.int .i64 lk)])] = (match (!(okLine ((⟨lp, lh, lw, lk⟩ : LineV))) : Bool) with
  | true => some ⟨[.el (.sc (.fl .f32 0)), .el (.sc (.bo false))], none⟩
  | false => (match ((lk : Int) == 0 : Bool) with
    | true => some ⟨[.el (.sc (.fl .f32 (numOf (fop .mul .f32 (fop .mul .f32 lh lw) 1071833029)))), .el (.sc (.bo (fin (fop .mul .f32 (fop .mul .f32 lh lw) 1071833029))))], none⟩
    | false => (match ((lk : Int) == 1 : Bool) with
      | true => some ⟨[.el (.sc (.fl .f32 (numOf (fop .mul .f32 (fop .mul .f32 lh lw) 1078530011)))), .el (.sc (.bo (fin (fop .mul .f32 (fop .mul .f32 lh lw) 1078530011))))], none⟩
      | false => (match ((lk : Int) == 2 : Bool) with
        | true => some ⟨[.el (.sc (.fl .f32 (numOf (fop .mul .f32 (fop .mul .f32 lh lw) 1075658719)))), .el (.sc (.bo (fin (fop .mul .f32 (fop .mul .f32 lh lw) 1075658719))))], none⟩
        | false => some ⟨[.el (.sc (.fl .f32 (numOf (fop .mul .f32 (fop .mul .f32 lh lw) 1065353216)))), .el (.sc (.bo (fin (fop .mul .f32 (fop .mul .f32 lh lw) 1065353216))))], none⟩)))) := by kernel_rfl
theorem s26 (lp : Nat) (lh : Nat) (lw : Nat) (lk : Int) : runFn T2 none0 noL Try.f26 [.el (.ag [(.fl .f32 lp), (.fl .f32 lh), (.fl .f32 lw), (.int .i64 lk)])] = some ⟨[.el (.sc (.fl .f32 (orZero (okLine ((⟨lp, lh, lw, lk⟩ : LineV)) && fin (areaX ((⟨lp, lh, lw, lk⟩ : LineV)))) (areaX ((⟨lp, lh, lw, lk⟩ : LineV)))))), .el (.sc (.bo (okLine ((⟨lp, lh, lw, lk⟩ : LineV)) && fin (areaX ((⟨lp, lh, lw, lk⟩ : LineV))))))], none⟩ := by
  rw [e26]
  unfold orZero numOf areaX shapeBy
  cases okLine (⟨lp, lh, lw, lk⟩ : LineV) <;> cases lk == 0 <;> cases lk == 1 <;> cases lk == 2 <;> simp <;> split <;> simp_all
theorem c26 (lp : Nat) (lh : Nat) (lw : Nat) (lk : Int) (k : List RV → R) (out : Out) (h : k [.el (.sc (.fl .f32 (orZero (okLine ((⟨lp, lh, lw, lk⟩ : LineV)) && fin (areaX ((⟨lp, lh, lw, lk⟩ : LineV)))) (areaX ((⟨lp, lh, lw, lk⟩ : LineV)))))), .el (.sc (.bo (okLine ((⟨lp, lh, lw, lk⟩ : LineV)) && fin (areaX ((⟨lp, lh, lw, lk⟩ : LineV))))))] = some out) : ∃ rs, Real Try.prog 26 ∧ COK Try.prog 26 [.el (.ag [(.fl .f32 lp), (.fl .f32 lh), (.fl .f32 lw), (.int .i64 lk)])] rs ∧ k rs = some out := by
  exact ⟨_, real Try.func26 (by kernel_rfl), fn_ok tok2 (A := none0) (L := noL) (r := none) Try.func26 (by kernel_rfl) (by kernel_rfl) (loops0 (by kernel_rfl)) (by rw [s26]), h⟩

/-! spec.LadderNext -/
theorem e28 (xs : List Nat) : runFn T2 none0 noL Try.f28 [.vw none ⟨.f32, xs⟩] = (match (Nat.ble xs.length big : Bool) with
  | true => (match (!(xs.all fin && (decide (xs.length ≥ 3) && decide (xs.length ≤ 32))) : Bool) with
    | true => some ⟨[.el (.sc (.fl .f32 0)), .el (.sc (.bo false))], none⟩
    | false => (match (decide (0 ≤ (IntKind.i64.wrap (((xs.length : Int)) - 1) : Int) ∧ (IntKind.i64.wrap (((xs.length : Int)) - 1) : Int) < (xs.length : Int)) && true : Bool) with
      | true => (match (xs : List Nat)[Int.toNat (IntKind.i64.wrap (((xs.length : Int)) - 1))]? with
        | some x1 => (match (decide (0 ≤ (IntKind.i64.wrap (((xs.length : Int)) - 2) : Int) ∧ (IntKind.i64.wrap (((xs.length : Int)) - 2) : Int) < (xs.length : Int)) && true : Bool) with
          | true => (match (xs : List Nat)[Int.toNat (IntKind.i64.wrap (((xs.length : Int)) - 2))]? with
            | some x2 => (match (decide (0 ≤ (IntKind.i64.wrap (((xs.length : Int)) - 3) : Int) ∧ (IntKind.i64.wrap (((xs.length : Int)) - 3) : Int) < (xs.length : Int)) && true : Bool) with
              | true => (match (xs : List Nat)[Int.toNat (IntKind.i64.wrap (((xs.length : Int)) - 3))]? with
                | some x3 => some ⟨[.el (.sc (.fl .f32 (numOf (fop .add .f32 (fop .sub .f32 (fop .mul .f32 1077936128 x1) (fop .mul .f32 1077936128 x2)) x3)))), .el (.sc (.bo (fin (fop .add .f32 (fop .sub .f32 (fop .mul .f32 1077936128 x1) (fop .mul .f32 1077936128 x2)) x3))))], none⟩
                | none => none)
              | false => none)
            | none => none)
          | false => none)
        | none => none)
      | false => none))
  | false => none) := by kernel_rfl
theorem s28 (xs : List Nat) : runFn T2 none0 noL Try.f28 [.vw none ⟨.f32, xs⟩] = (match (Nat.ble xs.length big : Bool) with
  | true => some ⟨[.el (.sc (.fl .f32 (orZero ((xs.all fin && (decide (xs.length ≥ 3) && decide (xs.length ≤ 32))) && fin (ladN xs)) (ladN xs)))), .el (.sc (.bo ((xs.all fin && (decide (xs.length ≥ 3) && decide (xs.length ≤ 32))) && fin (ladN xs))))], none⟩
  | false => none) := by
  rw [e28]
  cases hb : Nat.ble xs.length big with
  | false => rfl
  | true =>
  dsimp only
  cases h : (xs.all fin && (decide (xs.length ≥ 3) && decide (xs.length ≤ 32))) with
  | false => simp [orZero]
  | true =>
    have h2 := h
    simp only [Bool.and_eq_true, decide_eq_true_eq] at h2
    have w1 : IntKind.i64.wrap ((xs.length : Int) - 1) = ((xs.length - 1 : Nat) : Int) := by rw [wrap64 (by omega) (by omega)]; omega
    have w2 : IntKind.i64.wrap ((xs.length : Int) - 2) = ((xs.length - 2 : Nat) : Int) := by rw [wrap64 (by omega) (by omega)]; omega
    have w3 : IntKind.i64.wrap ((xs.length : Int) - 3) = ((xs.length - 3 : Nat) : Int) := by rw [wrap64 (by omega) (by omega)]; omega
    have e1 : xs[Int.toNat ((xs.length - 1 : Nat) : Int)]? = some (xs.getD (xs.length - 1) 0) := getq (by omega)
    have e2 : xs[Int.toNat ((xs.length - 2 : Nat) : Int)]? = some (xs.getD (xs.length - 2) 0) := getq (by omega)
    have e3 : xs[Int.toNat ((xs.length - 3 : Nat) : Int)]? = some (xs.getD (xs.length - 3) 0) := getq (by omega)
    have i1 : (0 : Int) ≤ ((xs.length - 1 : Nat) : Int) ∧ ((xs.length - 1 : Nat) : Int) < (xs.length : Int) := by omega
    have i2 : (0 : Int) ≤ ((xs.length - 2 : Nat) : Int) ∧ ((xs.length - 2 : Nat) : Int) < (xs.length : Int) := by omega
    have i3 : (0 : Int) ≤ ((xs.length - 3 : Nat) : Int) ∧ ((xs.length - 3 : Nat) : Int) < (xs.length : Int) := by omega
    simp only [w1, w2, w3, e1, e2, e3, i1, i2, i3, and_self, decide_true, Bool.and_true, Bool.not_true, Bool.true_and]
    unfold orZero numOf ladN
    cases fin (fop .add .f32 (fop .sub .f32 (fop .mul .f32 1077936128 (xs.getD (xs.length - 1) 0)) (fop .mul .f32 1077936128 (xs.getD (xs.length - 2) 0))) (xs.getD (xs.length - 3) 0)) <;> rfl
theorem c28 (xs : List Nat) (k : List RV → R) (out : Out) (h : (match (Nat.ble xs.length big : Bool) with
  | true => k [.el (.sc (.fl .f32 (orZero ((xs.all fin && (decide (xs.length ≥ 3) && decide (xs.length ≤ 32))) && fin (ladN xs)) (ladN xs)))), .el (.sc (.bo ((xs.all fin && (decide (xs.length ≥ 3) && decide (xs.length ≤ 32))) && fin (ladN xs))))]
  | false => none) = some out) : ∃ rs, Real Try.prog 28 ∧ COK Try.prog 28 [.vw none ⟨.f32, xs⟩] rs ∧ k rs = some out := by
  cases g0 : (Nat.ble xs.length big : Bool) with
  | true =>
    rw [g0] at h
    exact ⟨_, real Try.func28 (by kernel_rfl), fn_ok tok2 (A := none0) (L := noL) (r := none) Try.func28 (by kernel_rfl) (by kernel_rfl) (loops0 (by kernel_rfl)) (by rw [s28, g0]), h⟩
  | false =>
    rw [g0] at h
    cases h

/-! spec.AreEdges -/
theorem s31 (v : Int) (es : List EdgeV) : runFn T2 none0 noL Try.f31 [.el (.sc (.int .i64 v)), .vw none ⟨.edge, es⟩] = some ⟨[.el (.sc (.bo ((within v 1 12 && decide (es.length ≤ 32)) && es.all (edgeOk v))))], none⟩ := by kernel_rfl
theorem c31 (v : Int) (es : List EdgeV) (k : List RV → R) (out : Out) (h : k [.el (.sc (.bo ((within v 1 12 && decide (es.length ≤ 32)) && es.all (edgeOk v))))] = some out) : ∃ rs, Real Try.prog 31 ∧ COK Try.prog 31 [.el (.sc (.int .i64 v)), .vw none ⟨.edge, es⟩] rs ∧ k rs = some out := by
  exact ⟨_, real Try.func31 (by kernel_rfl), fn_ok tok2 (A := none0) (L := noL) (r := none) Try.func31 (by kernel_rfl) (by kernel_rfl) (loops0 (by kernel_rfl)) (by rw [s31]), h⟩

/-! laws.eqEdgeS -/
def a34 : Ann := ann [(4, [0, 1, 5], [])] [4] 0
def l34 : Loops := fun key s k => match key, s with
  | 4, ⟨[(0, .fv (.vw (some 0) ⟨.edge, xs⟩)), (1, .fv (.vw (some 1) ⟨.edge, ys⟩)), (5, .fv (.el (.sc (.int .i64 i))))], []⟩ => (match (decide (i = 0) && (Nat.beq xs.length ys.length && Nat.ble xs.length big) : Bool) with
    | true => (match (all2 eqEdgeF xs ys : Bool) with
      | true => k (.exit 0) ⟨[], []⟩
      | false => k .ret ⟨[(4, .fv (.el (.sc (.bo false))))], []⟩)
    | false => none)
  | _, _ => none
theorem st34 (xs : List EdgeV) (ys : List EdgeV) (i : Int) (m : Nat) (k : Ex → St → R) : iterK a34 [0, 1, 5] [] (codeK T2 a34 l34 Try.f34.ntmps (loopAt Try.f34 0)) (m + 1) ⟨[(0, .fv (.vw (some 0) ⟨.edge, xs⟩)), (1, .fv (.vw (some 1) ⟨.edge, ys⟩)), (5, .fv (.el (.sc (.int .i64 i))))], []⟩ k = (match (decide ((i : Int) < (xs.length : Int)) : Bool) with
  | true => (match (decide (0 ≤ (i : Int) ∧ (i : Int) < (xs.length : Int)) && true : Bool) with
    | true => (match (xs : List EdgeV)[Int.toNat i]? with
      | some x1 => (match (decide (0 ≤ (i : Int) ∧ (i : Int) < (ys.length : Int)) && true : Bool) with
        | true => (match (ys : List EdgeV)[Int.toNat i]? with
          | some x2 => (match (!(eqEdgeF x1 x2) : Bool) with
            | true => k .ret ⟨[(4, .fv (.el (.sc (.bo false))))], []⟩
            | false => iterK a34 [0, 1, 5] [] (codeK T2 a34 l34 Try.f34.ntmps (loopAt Try.f34 0)) m ⟨[(0, .fv (.vw (some 0) ⟨.edge, xs⟩)), (1, .fv (.vw (some 1) ⟨.edge, ys⟩)), (5, .fv (.el (.sc (.int .i64 (IntKind.i64.wrap (i + 1))))))], []⟩ k)
          | none => none)
        | false => none)
      | none => none)
    | false => none)
  | false => k (.exit 0) ⟨[], []⟩) := by kernel_rfl
theorem ind34 (xs ys : List EdgeV) (hl : xs.length = ys.length) (hx : Nat.ble xs.length big = true) (k : Ex → St → R) : ∀ (m j : Nat), j + m = xs.length → iterK a34 [0, 1, 5] [] (codeK T2 a34 l34 Try.f34.ntmps (loopAt Try.f34 0)) (m + 1) ⟨[(0, .fv (.vw (some 0) ⟨.edge, xs⟩)), (1, .fv (.vw (some 1) ⟨.edge, ys⟩)), (5, .fv (.el (.sc (.int .i64 (j : Int)))))], []⟩ k =
    (match all2 eqEdgeF (xs.drop j) (ys.drop j) with
    | true => k (.exit 0) ⟨[], []⟩
    | false => k .ret ⟨[(4, .fv (.el (.sc (.bo false))))], []⟩) := by
  intro m
  induction m with
  | zero =>
    intro j hj
    have h1 : ¬ ((j : Int) < (xs.length : Int)) := by omega
    rw [st34, List.drop_of_length_le (by omega)]
    simp [h1, all2]
  | succ m ih =>
    intro j hj
    have hlt : j < xs.length := by omega
    have hlt2 : j < ys.length := by omega
    have h1 : ((j : Int) < (xs.length : Int)) := by omega
    have h12 : ((j : Int) < (ys.length : Int)) := by omega
    have h2 : (0 : Int) ≤ (j : Int) := by omega
    rw [st34, wrap_succ hlt hx]
    have h3 : xs[Int.toNat (j : Int)]? = some xs[j] := by simp [hlt]
    have h4 : ys[Int.toNat (j : Int)]? = some ys[j] := by simp [hlt2]
    rw [List.drop_eq_getElem_cons hlt, List.drop_eq_getElem_cons hlt2, ih (j + 1) (by omega)]
    simp only [h1, h12, h2, h3, h4, and_self, decide_true, Bool.and_true, all2]
    cases hp : eqEdgeF xs[j] ys[j] <;> simp

theorem lk34 : LOK T2 a34 l34 Try.f34.ntmps (loopAt Try.f34 0) := by
  intro ins outs hA s k out h
  have hA' : ([0, 1, 5], []) = (ins, outs) := Option.some.inj ((show a34.lp (firstRegion (loopAt Try.f34 0)) = some ([0, 1, 5], []) by kernel_rfl).symm.trans hA)
  cases hA'
  have hk : firstRegion (loopAt Try.f34 0) = 4 := by kernel_rfl
  rw [hk] at h
  unfold l34 at h
  split at h
  · rename_i xs ys i _
    cases hg : (decide (i = 0) && (Nat.beq xs.length ys.length && Nat.ble xs.length big)) with
    | false => rw [hg] at h; cases h
    | true =>
      rw [hg] at h
      simp only [Bool.and_eq_true, decide_eq_true_eq] at hg
      obtain ⟨rfl, hl, hx⟩ := hg
      refine ⟨xs.length + 1, ?_⟩
      exact (ind34 xs ys (Nat.eq_of_beq_eq_true hl) hx k xs.length 0 (by omega)).trans h
  · cases h
theorem e34 (xs : List EdgeV) (ys : List EdgeV) : runFn T2 a34 l34 Try.f34 [.vw none ⟨.edge, xs⟩, .vw none ⟨.edge, ys⟩] = (match (!(((xs.length : Int) : Int) == (ys.length : Int)) : Bool) with
  | true => some ⟨[.el (.sc (.bo false))], none⟩
  | false => (match (decide (0 = 0) && (Nat.beq xs.length ys.length && Nat.ble xs.length big) : Bool) with
    | true => (match (all2 eqEdgeF xs ys : Bool) with
      | true => some ⟨[.el (.sc (.bo true))], none⟩
      | false => some ⟨[.el (.sc (.bo false))], none⟩)
    | false => none)) := by kernel_rfl
theorem s34 (xs : List EdgeV) (ys : List EdgeV) : runFn T2 a34 l34 Try.f34 [.vw none ⟨.edge, xs⟩, .vw none ⟨.edge, ys⟩] = (match (Nat.beq xs.length ys.length : Bool) with
  | true => (match (Nat.ble xs.length big : Bool) with
    | true => some ⟨[.el (.sc (.bo (all2 eqEdgeF xs ys)))], none⟩
    | false => none)
  | false => some ⟨[.el (.sc (.bo false))], none⟩) := by
  rw [e34]
  cases hl : Nat.beq xs.length ys.length with
  | false =>
    have h1 : xs.length ≠ ys.length := fun e => by rw [e, Nat.beq_refl] at hl; cases hl
    have h2 : ((xs.length : Int) == (ys.length : Int)) = false := beq_false_of_ne (by omega)
    simp only [h2, Bool.not_false]
  | true =>
    have h1 := Nat.eq_of_beq_eq_true hl
    have h2 : ((xs.length : Int) == (ys.length : Int)) = true := beq_iff_eq.2 (by omega)
    simp only [h2, Bool.not_true]
    cases h : Nat.ble xs.length big with
    | false => simp
    | true => cases h3 : all2 eqEdgeF xs ys <;> simp
theorem c34 (xs : List EdgeV) (ys : List EdgeV) (k : List RV → R) (out : Out) (h : (match (Nat.beq xs.length ys.length : Bool) with
  | true => (match (Nat.ble xs.length big : Bool) with
    | true => k [.el (.sc (.bo (all2 eqEdgeF xs ys)))]
    | false => none)
  | false => k [.el (.sc (.bo false))]) = some out) : ∃ rs, Real Try.prog 34 ∧ COK Try.prog 34 [.vw none ⟨.edge, xs⟩, .vw none ⟨.edge, ys⟩] rs ∧ k rs = some out := by
  cases g0 : (Nat.beq xs.length ys.length : Bool) with
  | true =>
    rw [g0] at h
    cases g1 : (Nat.ble xs.length big : Bool) with
    | true =>
      rw [g1] at h
      exact ⟨_, real Try.func34 (by kernel_rfl), fn_ok tok2 (A := a34) (L := l34) (r := none) Try.func34 (by kernel_rfl) (by kernel_rfl) (loops1 (by kernel_rfl) lk34) (by rw [s34, g0, g1]), h⟩
    | false =>
      rw [g1] at h
      cases h
  | false =>
    rw [g0] at h
    exact ⟨_, real Try.func34 (by kernel_rfl), fn_ok tok2 (A := a34) (L := l34) (r := none) Try.func34 (by kernel_rfl) (by kernel_rfl) (loops1 (by kernel_rfl) lk34) (by rw [s34, g0]), h⟩

/-! slices.IndexFunc[[]impl.Edge,impl.Edge] -/
def a75 : Ann := ann [(2, [0, 1, 7, 8], [])] [4] 0
def l75 : Loops := fun key s k => match key, s with
  | 2, ⟨[(0, .fv (.vw (some 0) ⟨.edge, xs⟩)), (1, .fv (.fn 66 [⟨.v ⟨.i64, [v]⟩, 1, 0, 0⟩])), (7, .fv (.el (.sc (.int .i64 n)))), (8, .fv (.el (.sc (.int .i64 i))))], []⟩ => (match (decide (n = (xs.length : Int)) && (decide (i = 0) && Nat.ble xs.length big) : Bool) with
    | true => (match xs.findIdx? (notEdge v) with
      | some q => k .ret ⟨[(4, .fv (.el (.sc (.int .i64 ((q : Int))))))], []⟩
      | none => k (.exit 0) ⟨[], []⟩)
    | false => none)
  | _, _ => none
theorem st75 (xs : List EdgeV) (v : Int) (n : Int) (i : Int) (m : Nat) (k : Ex → St → R) : iterK a75 [0, 1, 7, 8] [] (codeK T2 a75 l75 Try.f75.ntmps (loopAt Try.f75 0)) (m + 1) ⟨[(0, .fv (.vw (some 0) ⟨.edge, xs⟩)), (1, .fv (.fn 66 [⟨.v ⟨.i64, [v]⟩, 1, 0, 0⟩])), (7, .fv (.el (.sc (.int .i64 n)))), (8, .fv (.el (.sc (.int .i64 i))))], []⟩ k = (match (decide ((i : Int) < n) : Bool) with
  | true => (match (decide (0 ≤ (i : Int) ∧ (i : Int) < (xs.length : Int)) && true : Bool) with
    | true => (match (xs : List EdgeV)[Int.toNat i]? with
      | some x1 => (match (notEdge v x1 : Bool) with
        | true => k .ret ⟨[(4, .fv (.el (.sc (.int .i64 i))))], []⟩
        | false => iterK a75 [0, 1, 7, 8] [] (codeK T2 a75 l75 Try.f75.ntmps (loopAt Try.f75 0)) m ⟨[(0, .fv (.vw (some 0) ⟨.edge, xs⟩)), (1, .fv (.fn 66 [⟨.v ⟨.i64, [v]⟩, 1, 0, 0⟩])), (7, .fv (.el (.sc (.int .i64 n)))), (8, .fv (.el (.sc (.int .i64 (IntKind.i64.wrap (i + 1))))))], []⟩ k)
      | none => none)
    | false => none)
  | false => k (.exit 0) ⟨[], []⟩) := by kernel_rfl
theorem ind75 (xs : List EdgeV) (v : Int) (hx : Nat.ble xs.length big = true) (k : Ex → St → R) : ∀ (m j : Nat), j + m = xs.length → iterK a75 [0, 1, 7, 8] [] (codeK T2 a75 l75 Try.f75.ntmps (loopAt Try.f75 0)) (m + 1) ⟨[(0, .fv (.vw (some 0) ⟨.edge, xs⟩)), (1, .fv (.fn 66 [⟨.v ⟨.i64, [v]⟩, 1, 0, 0⟩])), (7, .fv (.el (.sc (.int .i64 (xs.length : Int))))), (8, .fv (.el (.sc (.int .i64 (j : Int)))))], []⟩ k =
    (match (xs.drop j).findIdx? (notEdge v) with
    | some q => k .ret ⟨[(4, .fv (.el (.sc (.int .i64 ((j + q : Nat) : Int)))))], []⟩
    | none => k (.exit 0) ⟨[], []⟩) := by
  intro m
  induction m with
  | zero =>
    intro j hj
    have h1 : ¬ ((j : Int) < (xs.length : Int)) := by omega
    rw [st75]
    have h2 : xs.drop j = [] := List.drop_of_length_le (by omega)
    simp [h1, h2]
  | succ m ih =>
    intro j hj
    have hlt : j < xs.length := by omega
    have h1 : ((j : Int) < (xs.length : Int)) := by omega
    have h2 : (0 : Int) ≤ (j : Int) := by omega
    rw [st75, wrap_succ hlt hx]
    have h3 : xs[Int.toNat (j : Int)]? = some xs[j] := by simp [hlt]
    rw [List.drop_eq_getElem_cons hlt, List.findIdx?_cons]
    simp only [h1, h2, h3, and_self, decide_true, Bool.and_true]
    cases hp : (notEdge v) xs[j] with
    | true => simp
    | false =>
      rw [ih (j + 1) (by omega)]
      cases (xs.drop (j + 1)).findIdx? (notEdge v) with
      | none => rfl
      | some q => simp only [Bool.false_eq_true, if_false, Option.map_some]; rw [show j + 1 + q = j + (q + 1) by omega]
theorem lk75 : LOK T2 a75 l75 Try.f75.ntmps (loopAt Try.f75 0) := by
  intro ins outs hA s k out h
  have hA' : ([0, 1, 7, 8], []) = (ins, outs) := Option.some.inj ((show a75.lp (firstRegion (loopAt Try.f75 0)) = some ([0, 1, 7, 8], []) by kernel_rfl).symm.trans hA)
  cases hA'
  have hk : firstRegion (loopAt Try.f75 0) = 2 := by kernel_rfl
  rw [hk] at h
  unfold l75 at h
  split at h
  · rename_i xs v n i _
    cases hg : (decide (n = (xs.length : Int)) && (decide (i = 0) && Nat.ble xs.length big)) with
    | false => rw [hg] at h; cases h
    | true =>
      rw [hg] at h
      simp only [Bool.and_eq_true, decide_eq_true_eq] at hg
      obtain ⟨rfl, rfl, hx⟩ := hg
      refine ⟨xs.length + 1, ?_⟩
      have := ind75 xs v hx k xs.length 0 (by omega)
      simp only [List.drop_zero, Nat.zero_add] at this
      exact this.trans h
  · cases h
theorem e75 (xs : List EdgeV) (v : Int) : runFn T2 a75 l75 Try.f75 [.vw none ⟨.edge, xs⟩, .fn 66 [⟨.v ⟨.i64, [v]⟩, 1, 0, 0⟩]] = (match (decide ((xs.length : Int) = (xs.length : Int)) && (decide (0 = 0) && Nat.ble xs.length big) : Bool) with
  | true => (match xs.findIdx? (notEdge v) with
    | some q => some ⟨[.el (.sc (.int .i64 ((q : Int))))], none⟩
    | none => some ⟨[.el (.sc (.int .i64 ((-1))))], none⟩)
  | false => none) := by kernel_rfl
theorem s75 (xs : List EdgeV) (v : Int) : runFn T2 a75 l75 Try.f75 [.vw none ⟨.edge, xs⟩, .fn 66 [⟨.v ⟨.i64, [v]⟩, 1, 0, 0⟩]] = (match (Nat.ble xs.length big : Bool) with
  | true => some ⟨[.el (.sc (.int .i64 (firstAt (notEdge v) xs)))], none⟩
  | false => none) := by
  rw [e75]
  unfold firstAt
  cases h : Nat.ble xs.length big with
  | false => simp [h]
  | true =>
    cases h2 : xs.findIdx? (notEdge v) with
    | some q => simp [h, h2]
    | none => simp [h, h2]
theorem c75 (xs : List EdgeV) (v : Int) (k : List RV → R) (out : Out) (h : (match (Nat.ble xs.length big : Bool) with
  | true => k [.el (.sc (.int .i64 (firstAt (notEdge v) xs)))]
  | false => none) = some out) : ∃ rs, Real Try.prog 75 ∧ COK Try.prog 75 [.vw none ⟨.edge, xs⟩, .fn 66 [⟨.v ⟨.i64, [v]⟩, 1, 0, 0⟩]] rs ∧ k rs = some out := by
  cases g0 : (Nat.ble xs.length big : Bool) with
  | true =>
    rw [g0] at h
    exact ⟨_, real Try.func75 (by kernel_rfl), fn_ok tok2 (A := a75) (L := l75) (r := none) Try.func75 (by kernel_rfl) (by kernel_rfl) (loops1 (by kernel_rfl) lk75) (by rw [s75, g0]), h⟩
  | false =>
    rw [g0] at h
    cases h

/-! slices.IndexFunc[[]float32,float32] -/
def a77 : Ann := ann [(2, [0, 1, 7, 8], [])] [4] 0
def l77 : Loops := fun key s k => match key, s with
  | 2, ⟨[(0, .fv (.vw (some 0) ⟨.f32, xs⟩)), (1, .fv (.fn 73 [])), (7, .fv (.el (.sc (.int .i64 n)))), (8, .fv (.el (.sc (.int .i64 i))))], []⟩ => (match (decide (n = (xs.length : Int)) && (decide (i = 0) && Nat.ble xs.length big) : Bool) with
    | true => (match xs.findIdx? notFin with
      | some q => k .ret ⟨[(4, .fv (.el (.sc (.int .i64 ((q : Int))))))], []⟩
      | none => k (.exit 0) ⟨[], []⟩)
    | false => none)
  | _, _ => none
theorem st77 (xs : List Nat) (n : Int) (i : Int) (m : Nat) (k : Ex → St → R) : iterK a77 [0, 1, 7, 8] [] (codeK T2 a77 l77 Try.f77.ntmps (loopAt Try.f77 0)) (m + 1) ⟨[(0, .fv (.vw (some 0) ⟨.f32, xs⟩)), (1, .fv (.fn 73 [])), (7, .fv (.el (.sc (.int .i64 n)))), (8, .fv (.el (.sc (.int .i64 i))))], []⟩ k = (match (decide ((i : Int) < n) : Bool) with
  | true => (match (decide (0 ≤ (i : Int) ∧ (i : Int) < (xs.length : Int)) && true : Bool) with
    | true => (match (xs : List Nat)[Int.toNat i]? with
      | some x1 => (match (notFin x1 : Bool) with
        | true => k .ret ⟨[(4, .fv (.el (.sc (.int .i64 i))))], []⟩
        | false => iterK a77 [0, 1, 7, 8] [] (codeK T2 a77 l77 Try.f77.ntmps (loopAt Try.f77 0)) m ⟨[(0, .fv (.vw (some 0) ⟨.f32, xs⟩)), (1, .fv (.fn 73 [])), (7, .fv (.el (.sc (.int .i64 n)))), (8, .fv (.el (.sc (.int .i64 (IntKind.i64.wrap (i + 1))))))], []⟩ k)
      | none => none)
    | false => none)
  | false => k (.exit 0) ⟨[], []⟩) := by kernel_rfl
theorem ind77 (xs : List Nat) (hx : Nat.ble xs.length big = true) (k : Ex → St → R) : ∀ (m j : Nat), j + m = xs.length → iterK a77 [0, 1, 7, 8] [] (codeK T2 a77 l77 Try.f77.ntmps (loopAt Try.f77 0)) (m + 1) ⟨[(0, .fv (.vw (some 0) ⟨.f32, xs⟩)), (1, .fv (.fn 73 [])), (7, .fv (.el (.sc (.int .i64 (xs.length : Int))))), (8, .fv (.el (.sc (.int .i64 (j : Int)))))], []⟩ k =
    (match (xs.drop j).findIdx? notFin with
    | some q => k .ret ⟨[(4, .fv (.el (.sc (.int .i64 ((j + q : Nat) : Int)))))], []⟩
    | none => k (.exit 0) ⟨[], []⟩) := by
  intro m
  induction m with
  | zero =>
    intro j hj
    have h1 : ¬ ((j : Int) < (xs.length : Int)) := by omega
    rw [st77]
    have h2 : xs.drop j = [] := List.drop_of_length_le (by omega)
    simp [h1, h2]
  | succ m ih =>
    intro j hj
    have hlt : j < xs.length := by omega
    have h1 : ((j : Int) < (xs.length : Int)) := by omega
    have h2 : (0 : Int) ≤ (j : Int) := by omega
    rw [st77, wrap_succ hlt hx]
    have h3 : xs[Int.toNat (j : Int)]? = some xs[j] := by simp [hlt]
    rw [List.drop_eq_getElem_cons hlt, List.findIdx?_cons]
    simp only [h1, h2, h3, and_self, decide_true, Bool.and_true]
    cases hp : notFin xs[j] with
    | true => simp
    | false =>
      rw [ih (j + 1) (by omega)]
      cases (xs.drop (j + 1)).findIdx? notFin with
      | none => rfl
      | some q => simp only [Bool.false_eq_true, if_false, Option.map_some]; rw [show j + 1 + q = j + (q + 1) by omega]
theorem lk77 : LOK T2 a77 l77 Try.f77.ntmps (loopAt Try.f77 0) := by
  intro ins outs hA s k out h
  have hA' : ([0, 1, 7, 8], []) = (ins, outs) := Option.some.inj ((show a77.lp (firstRegion (loopAt Try.f77 0)) = some ([0, 1, 7, 8], []) by kernel_rfl).symm.trans hA)
  cases hA'
  have hk : firstRegion (loopAt Try.f77 0) = 2 := by kernel_rfl
  rw [hk] at h
  unfold l77 at h
  split at h
  · rename_i xs n i _
    cases hg : (decide (n = (xs.length : Int)) && (decide (i = 0) && Nat.ble xs.length big)) with
    | false => rw [hg] at h; cases h
    | true =>
      rw [hg] at h
      simp only [Bool.and_eq_true, decide_eq_true_eq] at hg
      obtain ⟨rfl, rfl, hx⟩ := hg
      refine ⟨xs.length + 1, ?_⟩
      have := ind77 xs hx k xs.length 0 (by omega)
      simp only [List.drop_zero, Nat.zero_add] at this
      exact this.trans h
  · cases h
theorem e77 (xs : List Nat) : runFn T2 a77 l77 Try.f77 [.vw none ⟨.f32, xs⟩, .fn 73 []] = (match (decide ((xs.length : Int) = (xs.length : Int)) && (decide (0 = 0) && Nat.ble xs.length big) : Bool) with
  | true => (match xs.findIdx? notFin with
    | some q => some ⟨[.el (.sc (.int .i64 ((q : Int))))], none⟩
    | none => some ⟨[.el (.sc (.int .i64 ((-1))))], none⟩)
  | false => none) := by kernel_rfl
theorem s77 (xs : List Nat) : runFn T2 a77 l77 Try.f77 [.vw none ⟨.f32, xs⟩, .fn 73 []] = (match (Nat.ble xs.length big : Bool) with
  | true => some ⟨[.el (.sc (.int .i64 (firstAt notFin xs)))], none⟩
  | false => none) := by
  rw [e77]
  unfold firstAt
  cases h : Nat.ble xs.length big with
  | false => simp [h]
  | true =>
    cases h2 : xs.findIdx? notFin with
    | some q => simp [h, h2]
    | none => simp [h, h2]
theorem c77 (xs : List Nat) (k : List RV → R) (out : Out) (h : (match (Nat.ble xs.length big : Bool) with
  | true => k [.el (.sc (.int .i64 (firstAt notFin xs)))]
  | false => none) = some out) : ∃ rs, Real Try.prog 77 ∧ COK Try.prog 77 [.vw none ⟨.f32, xs⟩, .fn 73 []] rs ∧ k rs = some out := by
  cases g0 : (Nat.ble xs.length big : Bool) with
  | true =>
    rw [g0] at h
    exact ⟨_, real Try.func77 (by kernel_rfl), fn_ok tok2 (A := a77) (L := l77) (r := none) Try.func77 (by kernel_rfl) (by kernel_rfl) (loops1 (by kernel_rfl) lk77) (by rw [s77, g0]), h⟩
  | false =>
    rw [g0] at h
    cases h

/-! slices.IndexFunc[[]float32,float32] -/
def a77b : Ann := ann [(2, [0, 1, 7, 8], [])] [4] 0
def l77b : Loops := fun key s k => match key, s with
  | 2, ⟨[(0, .fv (.vw (some 0) ⟨.f32, xs⟩)), (1, .fv (.fn 74 [])), (7, .fv (.el (.sc (.int .i64 n)))), (8, .fv (.el (.sc (.int .i64 i))))], []⟩ => (match (decide (n = (xs.length : Int)) && (decide (i = 0) && Nat.ble xs.length big) : Bool) with
    | true => (match xs.findIdx? notPos with
      | some q => k .ret ⟨[(4, .fv (.el (.sc (.int .i64 ((q : Int))))))], []⟩
      | none => k (.exit 0) ⟨[], []⟩)
    | false => none)
  | _, _ => none
theorem st77b (xs : List Nat) (n : Int) (i : Int) (m : Nat) (k : Ex → St → R) : iterK a77b [0, 1, 7, 8] [] (codeK T2 a77b l77b Try.f77.ntmps (loopAt Try.f77 0)) (m + 1) ⟨[(0, .fv (.vw (some 0) ⟨.f32, xs⟩)), (1, .fv (.fn 74 [])), (7, .fv (.el (.sc (.int .i64 n)))), (8, .fv (.el (.sc (.int .i64 i))))], []⟩ k = (match (decide ((i : Int) < n) : Bool) with
  | true => (match (decide (0 ≤ (i : Int) ∧ (i : Int) < (xs.length : Int)) && true : Bool) with
    | true => (match (xs : List Nat)[Int.toNat i]? with
      | some x1 => (match (notPos x1 : Bool) with
        | true => k .ret ⟨[(4, .fv (.el (.sc (.int .i64 i))))], []⟩
        | false => iterK a77b [0, 1, 7, 8] [] (codeK T2 a77b l77b Try.f77.ntmps (loopAt Try.f77 0)) m ⟨[(0, .fv (.vw (some 0) ⟨.f32, xs⟩)), (1, .fv (.fn 74 [])), (7, .fv (.el (.sc (.int .i64 n)))), (8, .fv (.el (.sc (.int .i64 (IntKind.i64.wrap (i + 1))))))], []⟩ k)
      | none => none)
    | false => none)
  | false => k (.exit 0) ⟨[], []⟩) := by kernel_rfl
theorem ind77b (xs : List Nat) (hx : Nat.ble xs.length big = true) (k : Ex → St → R) : ∀ (m j : Nat), j + m = xs.length → iterK a77b [0, 1, 7, 8] [] (codeK T2 a77b l77b Try.f77.ntmps (loopAt Try.f77 0)) (m + 1) ⟨[(0, .fv (.vw (some 0) ⟨.f32, xs⟩)), (1, .fv (.fn 74 [])), (7, .fv (.el (.sc (.int .i64 (xs.length : Int))))), (8, .fv (.el (.sc (.int .i64 (j : Int)))))], []⟩ k =
    (match (xs.drop j).findIdx? notPos with
    | some q => k .ret ⟨[(4, .fv (.el (.sc (.int .i64 ((j + q : Nat) : Int)))))], []⟩
    | none => k (.exit 0) ⟨[], []⟩) := by
  intro m
  induction m with
  | zero =>
    intro j hj
    have h1 : ¬ ((j : Int) < (xs.length : Int)) := by omega
    rw [st77b]
    have h2 : xs.drop j = [] := List.drop_of_length_le (by omega)
    simp [h1, h2]
  | succ m ih =>
    intro j hj
    have hlt : j < xs.length := by omega
    have h1 : ((j : Int) < (xs.length : Int)) := by omega
    have h2 : (0 : Int) ≤ (j : Int) := by omega
    rw [st77b, wrap_succ hlt hx]
    have h3 : xs[Int.toNat (j : Int)]? = some xs[j] := by simp [hlt]
    rw [List.drop_eq_getElem_cons hlt, List.findIdx?_cons]
    simp only [h1, h2, h3, and_self, decide_true, Bool.and_true]
    cases hp : notPos xs[j] with
    | true => simp
    | false =>
      rw [ih (j + 1) (by omega)]
      cases (xs.drop (j + 1)).findIdx? notPos with
      | none => rfl
      | some q => simp only [Bool.false_eq_true, if_false, Option.map_some]; rw [show j + 1 + q = j + (q + 1) by omega]
theorem lk77b : LOK T2 a77b l77b Try.f77.ntmps (loopAt Try.f77 0) := by
  intro ins outs hA s k out h
  have hA' : ([0, 1, 7, 8], []) = (ins, outs) := Option.some.inj ((show a77b.lp (firstRegion (loopAt Try.f77 0)) = some ([0, 1, 7, 8], []) by kernel_rfl).symm.trans hA)
  cases hA'
  have hk : firstRegion (loopAt Try.f77 0) = 2 := by kernel_rfl
  rw [hk] at h
  unfold l77b at h
  split at h
  · rename_i xs n i _
    cases hg : (decide (n = (xs.length : Int)) && (decide (i = 0) && Nat.ble xs.length big)) with
    | false => rw [hg] at h; cases h
    | true =>
      rw [hg] at h
      simp only [Bool.and_eq_true, decide_eq_true_eq] at hg
      obtain ⟨rfl, rfl, hx⟩ := hg
      refine ⟨xs.length + 1, ?_⟩
      have := ind77b xs hx k xs.length 0 (by omega)
      simp only [List.drop_zero, Nat.zero_add] at this
      exact this.trans h
  · cases h
theorem e77b (xs : List Nat) : runFn T2 a77b l77b Try.f77 [.vw none ⟨.f32, xs⟩, .fn 74 []] = (match (decide ((xs.length : Int) = (xs.length : Int)) && (decide (0 = 0) && Nat.ble xs.length big) : Bool) with
  | true => (match xs.findIdx? notPos with
    | some q => some ⟨[.el (.sc (.int .i64 ((q : Int))))], none⟩
    | none => some ⟨[.el (.sc (.int .i64 ((-1))))], none⟩)
  | false => none) := by kernel_rfl
theorem s77b (xs : List Nat) : runFn T2 a77b l77b Try.f77 [.vw none ⟨.f32, xs⟩, .fn 74 []] = (match (Nat.ble xs.length big : Bool) with
  | true => some ⟨[.el (.sc (.int .i64 (firstAt notPos xs)))], none⟩
  | false => none) := by
  rw [e77b]
  unfold firstAt
  cases h : Nat.ble xs.length big with
  | false => simp [h]
  | true =>
    cases h2 : xs.findIdx? notPos with
    | some q => simp [h, h2]
    | none => simp [h, h2]
theorem c77b (xs : List Nat) (k : List RV → R) (out : Out) (h : (match (Nat.ble xs.length big : Bool) with
  | true => k [.el (.sc (.int .i64 (firstAt notPos xs)))]
  | false => none) = some out) : ∃ rs, Real Try.prog 77 ∧ COK Try.prog 77 [.vw none ⟨.f32, xs⟩, .fn 74 []] rs ∧ k rs = some out := by
  cases g0 : (Nat.ble xs.length big : Bool) with
  | true =>
    rw [g0] at h
    exact ⟨_, real Try.func77 (by kernel_rfl), fn_ok tok2 (A := a77b) (L := l77b) (r := none) Try.func77 (by kernel_rfl) (by kernel_rfl) (loops1 (by kernel_rfl) lk77b) (by rw [s77b, g0]), h⟩
  | false =>
    rw [g0] at h
    cases h

def S3 : SFn := fun f args k => match f, args with
  | 20, [.el (.sc (.fl .f32 a)), .el (.sc (.fl .f32 b)), .el (.sc (.fl .f32 c)), .el (.sc (.int .i64 n))] => k [.el (.sc (.fl .f32 (orZero (((above a && above b) && (fin c && within n (-100) 100)) && unit (gout a b c n)) (gout a b c n)))), .el (.sc (.bo (((above a && above b) && (fin c && within n (-100) 100)) && unit (gout a b c n))))]
  | 22, [.vw none ⟨.f32, xs⟩] => (match (Nat.ble xs.length big : Bool) with
    | true => k [.el (.sc (.fl .f32 (orZero (ladOk xs) (xs.getD 0 0)))), .el (.sc (.fl .f32 (orZero (ladOk xs) (ladB xs)))), .el (.sc (.fl .f32 (orZero (ladOk xs) (ladC xs)))), .el (.sc (.bo (ladOk xs)))]
    | false => none)
  | 26, [.el (.ag [(.fl .f32 lp), (.fl .f32 lh), (.fl .f32 lw), (.int .i64 lk)])] => k [.el (.sc (.fl .f32 (orZero (okLine ((⟨lp, lh, lw, lk⟩ : LineV)) && fin (areaX ((⟨lp, lh, lw, lk⟩ : LineV)))) (areaX ((⟨lp, lh, lw, lk⟩ : LineV)))))), .el (.sc (.bo (okLine ((⟨lp, lh, lw, lk⟩ : LineV)) && fin (areaX ((⟨lp, lh, lw, lk⟩ : LineV))))))]
  | 28, [.vw none ⟨.f32, xs⟩] => (match (Nat.ble xs.length big : Bool) with
    | true => k [.el (.sc (.fl .f32 (orZero ((xs.all fin && (decide (xs.length ≥ 3) && decide (xs.length ≤ 32))) && fin (ladN xs)) (ladN xs)))), .el (.sc (.bo ((xs.all fin && (decide (xs.length ≥ 3) && decide (xs.length ≤ 32))) && fin (ladN xs))))]
    | false => none)
  | 31, [.el (.sc (.int .i64 v)), .vw none ⟨.edge, es⟩] => k [.el (.sc (.bo ((within v 1 12 && decide (es.length ≤ 32)) && es.all (edgeOk v))))]
  | 34, [.vw none ⟨.edge, xs⟩, .vw none ⟨.edge, ys⟩] => (match (Nat.beq xs.length ys.length : Bool) with
    | true => (match (Nat.ble xs.length big : Bool) with
      | true => k [.el (.sc (.bo (all2 eqEdgeF xs ys)))]
      | false => none)
    | false => k [.el (.sc (.bo false))])
  | 75, [.vw none ⟨.edge, xs⟩, .fn 66 [⟨.v ⟨.i64, [v]⟩, 1, 0, 0⟩]] => (match (Nat.ble xs.length big : Bool) with
    | true => k [.el (.sc (.int .i64 (firstAt (notEdge v) xs)))]
    | false => none)
  | 77, [.vw none ⟨.f32, xs⟩, .fn 73 []] => (match (Nat.ble xs.length big : Bool) with
    | true => k [.el (.sc (.int .i64 (firstAt notFin xs)))]
    | false => none)
  | 77, [.vw none ⟨.f32, xs⟩, .fn 74 []] => (match (Nat.ble xs.length big : Bool) with
    | true => k [.el (.sc (.int .i64 (firstAt notPos xs)))]
    | false => none)
  | _, _ => S2 f args k
abbrev M3 : MFn := M2
def T3 : TT := tab.T S3 muts M3
theorem tok3 : TOK Try.prog T3 := by
  refine (tab_ok tabok).tok (fun f args k out h => ?_) (fun f vec args k out h => ?_)
  · change S3 f args k = some out at h
    unfold S3 at h
    split at h
    · exact c20 _ _ _ _ k out h
    · exact c22 _ k out h
    · exact c26 _ _ _ _ k out h
    · exact c28 _ k out h
    · exact c31 _ _ k out h
    · exact c34 _ _ k out h
    · exact c75 _ _ k out h
    · exact c77 _ k out h
    · exact c77b _ k out h
    · exact tok2.S f args k out h
  · exact tok2.M f vec args k out h

end Go.Sm.Ytpnkcjlapkhclaa
