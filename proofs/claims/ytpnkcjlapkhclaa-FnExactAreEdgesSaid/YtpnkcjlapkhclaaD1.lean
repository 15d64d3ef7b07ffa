/- What the functions hand back: level 0. -/
import Derived.Test.YtpnkcjlapkhclaaD0
namespace Go.Sm.Ytpnkcjlapkhclaa
open Go Go.Sm Go.RowKit Go.Proofs

/-! laws.toLine -/
theorem s15 (lp : Nat) (lh : Nat) (lw : Nat) (lk : Int) : runFn T0 none0 noL Try.f15 [.el (.ag [(.fl .f32 lp), (.fl .f32 lh), (.fl .f32 lw), (.int .i64 lk)])] = some ⟨[.el (.ag [(.fl .f32 (((⟨lp, lh, lw, lk⟩ : LineV)).p)), (.fl .f32 (((⟨lp, lh, lw, lk⟩ : LineV)).h)), (.fl .f32 (((⟨lp, lh, lw, lk⟩ : LineV)).w)), (.int .i64 (((⟨lp, lh, lw, lk⟩ : LineV)).k))])], none⟩ := by kernel_rfl
theorem c15 (lp : Nat) (lh : Nat) (lw : Nat) (lk : Int) (k : List RV → R) (out : Out) (h : k [.el (.ag [(.fl .f32 (((⟨lp, lh, lw, lk⟩ : LineV)).p)), (.fl .f32 (((⟨lp, lh, lw, lk⟩ : LineV)).h)), (.fl .f32 (((⟨lp, lh, lw, lk⟩ : LineV)).w)), (.int .i64 (((⟨lp, lh, lw, lk⟩ : LineV)).k))])] = some out) : ∃ rs, Real Try.prog 15 ∧ COK Try.prog 15 [.el (.ag [(.fl .f32 lp), (.fl .f32 lh), (.fl .f32 lw), (.int .i64 lk)])] rs ∧ k rs = some out := by
  exact ⟨_, real Try.func15 (by kernel_rfl), fn_ok tok0 (A := none0) (L := noL) (r := none) Try.func15 (by kernel_rfl) (by kernel_rfl) (loops0 (by kernel_rfl)) (by rw [s15]), h⟩

/-! laws.sameFloat -/
theorem e19 (a : Nat) (b : Nat) : runFn T0 none0 noL Try.f19 [.el (.sc (.fl .f64 a)), .el (.sc (.fl .f64 b))] = (match (fcmp .neq .f64 a a : Bool) with
  | true => (match (fcmp .neq .f64 a a : Bool) with
    | true => some ⟨[.el (.sc (.bo (fcmp .neq .f64 b b)))], none⟩
    | false => some ⟨[.el (.sc (.bo false))], none⟩)
  | false => (match (fcmp .neq .f64 b b : Bool) with
    | true => (match (fcmp .neq .f64 a a : Bool) with
      | true => some ⟨[.el (.sc (.bo (fcmp .neq .f64 b b)))], none⟩
      | false => some ⟨[.el (.sc (.bo false))], none⟩)
    | false => (match (fcmp .eql .f64 a 0 : Bool) with
      | true => (match (fcmp .eql .f64 b 0 : Bool) with
        | true => some ⟨[.el (.sc (.bo ((fcmp .gtr .f64 (fop .quo .f64 4607182418800017408 a) 0) == (fcmp .gtr .f64 (fop .quo .f64 4607182418800017408 b) 0))))], none⟩
        | false => some ⟨[.el (.sc (.bo (fcmp .eql .f64 a b)))], none⟩)
      | false => some ⟨[.el (.sc (.bo (fcmp .eql .f64 a b)))], none⟩))) := by kernel_rfl
theorem s19 (a : Nat) (b : Nat) : runFn T0 none0 noL Try.f19 [.el (.sc (.fl .f64 a)), .el (.sc (.fl .f64 b))] = some ⟨[.el (.sc (.bo (sameF a b)))], none⟩ := by
  rw [e19]
  unfold sameF
  cases fcmp .neq .f64 a a <;> cases fcmp .neq .f64 b b <;> cases fcmp .eql .f64 a 0 <;> cases fcmp .eql .f64 b 0 <;> rfl
theorem c19 (a : Nat) (b : Nat) (k : List RV → R) (out : Out) (h : k [.el (.sc (.bo (sameF a b)))] = some out) : ∃ rs, Real Try.prog 19 ∧ COK Try.prog 19 [.el (.sc (.fl .f64 a)), .el (.sc (.fl .f64 b))] rs ∧ k rs = some out := by
  exact ⟨_, real Try.func19 (by kernel_rfl), fn_ok tok0 (A := none0) (L := noL) (r := none) Try.func19 (by kernel_rfl) (by kernel_rfl) (loops0 (by kernel_rfl)) (by rw [s19]), h⟩

/-! laws.toFloat32S -/
def a23 : Ann := ann [(3, [0, 3, 4], [3])] [2] 0
def l23 : Loops := fun key s k => match key, s with
  | 3, ⟨[(0, .fv (.vw (some 0) ⟨.f32, xs⟩)), (3, .fv (.own 0)), (4, .fv (.el (.sc (.int .i64 i))))], [some ⟨e0, ⟨.f32, ys⟩⟩]⟩ => (match (decide (i = 0) && (Nat.beq (ys : List Nat).length xs.length && Nat.ble xs.length big) : Bool) with
    | true => k (.exit 0) ⟨[(3, .fv (.own 0))], [some ⟨e0, ⟨.f32, xs⟩⟩]⟩
    | false => none)
  | _, _ => none
theorem st23 (xs : List Nat) (i : Int) (ys : List Nat) (e0 : Nat) (m : Nat) (k : Ex → St → R) : iterK a23 [0, 3, 4] [3] (codeK T0 a23 l23 Try.f23.ntmps (loopAt Try.f23 0)) (m + 1) ⟨[(0, .fv (.vw (some 0) ⟨.f32, xs⟩)), (3, .fv (.own 0)), (4, .fv (.el (.sc (.int .i64 i))))], [some ⟨e0, ⟨.f32, ys⟩⟩]⟩ k = (match (decide ((i : Int) < (xs.length : Int)) : Bool) with
  | true => (match (decide (0 ≤ (i : Int) ∧ (i : Int) < (xs.length : Int)) && true : Bool) with
    | true => (match (xs : List Nat)[Int.toNat i]? with
      | some x1 => (match (decide (0 ≤ (i : Int) ∧ (i : Int) < (ys.length : Int)) && true : Bool) with
        | true => (match (ys : List Nat)[Int.toNat i]? with
          | some x2 => iterK a23 [0, 3, 4] [3] (codeK T0 a23 l23 Try.f23.ntmps (loopAt Try.f23 0)) m ⟨[(0, .fv (.vw (some 0) ⟨.f32, xs⟩)), (3, .fv (.own 0)), (4, .fv (.el (.sc (.int .i64 (IntKind.i64.wrap (i + 1))))))], [some ⟨e0, ⟨.f32, (ys : List Nat).set (Int.toNat i) x1⟩⟩]⟩ k
          | none => none)
        | false => none)
      | none => none)
    | false => none)
  | false => k (.exit 0) ⟨[(3, .fv (.own 0))], [some ⟨e0, ⟨.f32, ys⟩⟩]⟩) := by kernel_rfl
theorem ind23 (xs : List Nat) (hx : Nat.ble xs.length big = true) (e0 : Nat) (k : Ex → St → R) : ∀ (m j : Nat) (ys : List Nat), ys.length = xs.length → j + m = xs.length → iterK a23 [0, 3, 4] [3] (codeK T0 a23 l23 Try.f23.ntmps (loopAt Try.f23 0)) (m + 1) ⟨[(0, .fv (.vw (some 0) ⟨.f32, xs⟩)), (3, .fv (.own 0)), (4, .fv (.el (.sc (.int .i64 (j : Int)))))], [some ⟨e0, ⟨.f32, ys⟩⟩]⟩ k =
    k (.exit 0) ⟨[(3, .fv (.own 0))], [some ⟨e0, ⟨.f32, ys.take j ++ xs.drop j⟩⟩]⟩ := by
  intro m
  induction m with
  | zero =>
    intro j ys hl hj
    have h1 : ¬ ((j : Int) < (xs.length : Int)) := by omega
    rw [st23, List.drop_of_length_le (show xs.length ≤ j by omega), List.take_of_length_le (show ys.length ≤ j by omega)]
    simp [h1]
  | succ m ih =>
    intro j ys hl hj
    have hlt : j < xs.length := by omega
    have hlt2 : j < ys.length := by omega
    have h1 : ((j : Int) < (xs.length : Int)) := by omega
    have h12 : ((j : Int) < (ys.length : Int)) := by omega
    have h2 : (0 : Int) ≤ (j : Int) := by omega
    rw [st23, wrap_succ hlt hx]
    have h3 : xs[Int.toNat (j : Int)]? = some xs[j] := by simp [hlt]
    have h4 : ys[Int.toNat (j : Int)]? = some ys[j] := by simp [hlt2]
    simp only [h1, h12, h2, h3, h4, and_self, decide_true, Bool.and_true]
    refine (ih (j + 1) (ys.set (Int.toNat (j : Int)) xs[j]) (by simpa using hl) (by omega)).trans ?_
    have h5 : (ys.set (Int.toNat (j : Int)) xs[j]).take (j + 1) ++ xs.drop (j + 1) = ys.take j ++ xs.drop j := by
      rw [List.drop_eq_getElem_cons hlt]
      exact set_take hlt2 _ _
    rw [h5]

theorem lk23 : LOK T0 a23 l23 Try.f23.ntmps (loopAt Try.f23 0) := by
  intro ins outs hA s k out h
  have hA' : ([0, 3, 4], [3]) = (ins, outs) := Option.some.inj ((show a23.lp (firstRegion (loopAt Try.f23 0)) = some ([0, 3, 4], [3]) by kernel_rfl).symm.trans hA)
  cases hA'
  have hk : firstRegion (loopAt Try.f23 0) = 3 := by kernel_rfl
  rw [hk] at h
  unfold l23 at h
  split at h
  · rename_i xs i e0 ys _
    cases hg : (decide (i = 0) && (Nat.beq ys.length xs.length && Nat.ble xs.length big)) with
    | false => rw [hg] at h; cases h
    | true =>
      rw [hg] at h
      simp only [Bool.and_eq_true, decide_eq_true_eq] at hg
      obtain ⟨rfl, hl, hx⟩ := hg
      refine ⟨xs.length + 1, ?_⟩
      have hh := ind23 xs hx e0 k xs.length 0 ys (Nat.eq_of_beq_eq_true hl) (by omega)
      simp only [List.take_zero, List.nil_append, List.drop_zero] at hh
      exact hh.trans h
  · cases h
theorem e23 (xs : List Nat) : runFn T0 a23 l23 Try.f23 [.vw none ⟨.f32, xs⟩] = (match (decide (0 ≤ ((xs.length : Int) : Int) ∧ ((xs.length : Int) : Int) = (xs.length : Int) ∧ ((xs.length : Int) : Int) ≤ 1099511627776) : Bool) with
  | true => (match (decide (0 = 0) && (Nat.beq (List.replicate (Int.toNat ((xs.length : Int))) ((0 : Nat)) : List Nat).length xs.length && Nat.ble xs.length big) : Bool) with
    | true => some ⟨[.fresh 22 ⟨.f32, xs⟩], none⟩
    | false => none)
  | false => none) := by kernel_rfl
theorem s23 (xs : List Nat) : runFn T0 a23 l23 Try.f23 [.vw none ⟨.f32, xs⟩] = (match (Nat.ble xs.length big : Bool) with
  | true => some ⟨[.fresh 22 ⟨.f32, xs⟩], none⟩
  | false => none) := by
  rw [e23]
  cases h : Nat.ble xs.length big with
  | false => cases hd : decide ((xs.length : Int) ≤ 1099511627776) <;> simp [hd]
  | true =>
    have hx := Nat.le_of_ble_eq_true h
    unfold big at hx
    have h2 : ((xs.length : Int) ≤ 1099511627776) := by omega
    simp [h2]
theorem c23 (xs : List Nat) (k : List RV → R) (out : Out) (h : (match (Nat.ble xs.length big : Bool) with
  | true => k [.fresh 22 ⟨.f32, xs⟩]
  | false => none) = some out) : ∃ rs, Real Try.prog 23 ∧ COK Try.prog 23 [.vw none ⟨.f32, xs⟩] rs ∧ k rs = some out := by
  cases g0 : (Nat.ble xs.length big : Bool) with
  | true =>
    rw [g0] at h
    exact ⟨_, real Try.func23 (by kernel_rfl), fn_ok tok0 (A := a23) (L := l23) (r := none) Try.func23 (by kernel_rfl) (by kernel_rfl) (loops1 (by kernel_rfl) lk23) (by rw [s23, g0]), h⟩
  | false =>
    rw [g0] at h
    cases h

/-! laws.szEdgeS -/
theorem e30 (xs : List EdgeV) (n : Int) : runFn T0 none0 noL Try.f30 [.vw none ⟨.edge, xs⟩, .el (.sc (.int .i64 n))] = (match (decide ((IntKind.i64.wrap (n - ((xs.length : Int))) : Int) < 0) : Bool) with
  | true => some ⟨[.el (.sc (.int .i64 ((-1))))], none⟩
  | false => some ⟨[.el (.sc (.int .i64 (IntKind.i64.wrap (n - ((xs.length : Int))))))], none⟩) := by kernel_rfl
theorem s30 (xs : List EdgeV) (n : Int) : runFn T0 none0 noL Try.f30 [.vw none ⟨.edge, xs⟩, .el (.sc (.int .i64 n))] = some ⟨[.el (.sc (.int .i64 (szLeft xs.length n)))], none⟩ := by
  rw [e30]
  unfold szLeft
  cases decide ((IntKind.i64.wrap (n - (xs.length : Int)) : Int) < 0) <;> simp
theorem c30 (xs : List EdgeV) (n : Int) (k : List RV → R) (out : Out) (h : k [.el (.sc (.int .i64 (szLeft xs.length n)))] = some out) : ∃ rs, Real Try.prog 30 ∧ COK Try.prog 30 [.vw none ⟨.edge, xs⟩, .el (.sc (.int .i64 n))] rs ∧ k rs = some out := by
  exact ⟨_, real Try.func30 (by kernel_rfl), fn_ok tok0 (A := none0) (L := noL) (r := none) Try.func30 (by kernel_rfl) (by kernel_rfl) (loops0 (by kernel_rfl)) (by rw [s30]), h⟩

/-! impl.within -/
theorem e52 (n : Int) (a : Int) (b : Int) : runFn T0 none0 noL Try.f52 [.el (.sc (.int .i64 n)), .el (.sc (.int .i64 a)), .el (.sc (.int .i64 b))] = (match (decide ((n : Int) ≥ a) : Bool) with
  | true => some ⟨[.el (.sc (.bo (decide ((n : Int) ≤ b))))], none⟩
  | false => some ⟨[.el (.sc (.bo false))], none⟩) := by kernel_rfl
theorem s52 (n : Int) (a : Int) (b : Int) : runFn T0 none0 noL Try.f52 [.el (.sc (.int .i64 n)), .el (.sc (.int .i64 a)), .el (.sc (.int .i64 b))] = some ⟨[.el (.sc (.bo (within n a b)))], none⟩ := by
  rw [e52]
  unfold within
  cases decide (n ≥ a) <;> rfl
theorem c52 (n : Int) (a : Int) (b : Int) (k : List RV → R) (out : Out) (h : k [.el (.sc (.bo (within n a b)))] = some out) : ∃ rs, Real Try.prog 52 ∧ COK Try.prog 52 [.el (.sc (.int .i64 n)), .el (.sc (.int .i64 a)), .el (.sc (.int .i64 b))] rs ∧ k rs = some out := by
  exact ⟨_, real Try.func52 (by kernel_rfl), fn_ok tok0 (A := none0) (L := noL) (r := none) Try.func52 (by kernel_rfl) (by kernel_rfl) (loops0 (by kernel_rfl)) (by rw [s52]), h⟩

/-! spec.l00In -/
theorem e54 (n : Int) (a : Int) (b : Int) : runFn T0 none0 noL Try.f54 [.el (.sc (.int .i64 n)), .el (.sc (.int .i64 a)), .el (.sc (.int .i64 b))] = (match (decide ((n : Int) ≥ a) : Bool) with
  | true => some ⟨[.el (.sc (.bo (decide ((n : Int) ≤ b))))], none⟩
  | false => some ⟨[.el (.sc (.bo false))], none⟩) := by kernel_rfl
theorem s54 (n : Int) (a : Int) (b : Int) : runFn T0 none0 noL Try.f54 [.el (.sc (.int .i64 n)), .el (.sc (.int .i64 a)), .el (.sc (.int .i64 b))] = some ⟨[.el (.sc (.bo (within n a b)))], none⟩ := by
  rw [e54]
  unfold within
  cases decide (n ≥ a) <;> rfl
theorem c54 (n : Int) (a : Int) (b : Int) (k : List RV → R) (out : Out) (h : k [.el (.sc (.bo (within n a b)))] = some out) : ∃ rs, Real Try.prog 54 ∧ COK Try.prog 54 [.el (.sc (.int .i64 n)), .el (.sc (.int .i64 a)), .el (.sc (.int .i64 b))] rs ∧ k rs = some out := by
  exact ⟨_, real Try.func54 (by kernel_rfl), fn_ok tok0 (A := none0) (L := noL) (r := none) Try.func54 (by kernel_rfl) (by kernel_rfl) (loops0 (by kernel_rfl)) (by rw [s54]), h⟩

/-! spec.l01Finite -/
theorem s56 (c : Nat) : runFn T0 none0 noL Try.f56 [.el (.sc (.fl .f32 c))] = some ⟨[.el (.sc (.bo (fin c)))], none⟩ := by kernel_rfl
theorem c56 (c : Nat) (k : List RV → R) (out : Out) (h : k [.el (.sc (.bo (fin c)))] = some out) : ∃ rs, Real Try.prog 56 ∧ COK Try.prog 56 [.el (.sc (.fl .f32 c))] rs ∧ k rs = some out := by
  exact ⟨_, real Try.func56 (by kernel_rfl), fn_ok tok0 (A := none0) (L := noL) (r := none) Try.func56 (by kernel_rfl) (by kernel_rfl) (loops0 (by kernel_rfl)) (by rw [s56]), h⟩

/-! spec.l06Out -/
theorem e57 (a : Nat) (b : Nat) (c : Nat) (n : Int) : runFn T0 none0 noL Try.f57 [.el (.sc (.fl .f32 a)), .el (.sc (.fl .f32 b)), .el (.sc (.fl .f32 c)), .el (.sc (.int .i64 n))] = (match (fcmp .geq .f32 (fop .sub .f32 (fop .quo .f32 (fop .mul .f32 (fint .f32 n) a) b) c) 3212836864 : Bool) with
  | true => some ⟨[.el (.sc (.fl .f32 (fop .sub .f32 (fop .quo .f32 (fop .mul .f32 (fint .f32 n) a) b) c))), .el (.sc (.bo (fcmp .leq .f32 (fop .sub .f32 (fop .quo .f32 (fop .mul .f32 (fint .f32 n) a) b) c) 1065353216)))], none⟩
  | false => some ⟨[.el (.sc (.fl .f32 (fop .sub .f32 (fop .quo .f32 (fop .mul .f32 (fint .f32 n) a) b) c))), .el (.sc (.bo false))], none⟩) := by kernel_rfl
theorem s57 (a : Nat) (b : Nat) (c : Nat) (n : Int) : runFn T0 none0 noL Try.f57 [.el (.sc (.fl .f32 a)), .el (.sc (.fl .f32 b)), .el (.sc (.fl .f32 c)), .el (.sc (.int .i64 n))] = some ⟨[.el (.sc (.fl .f32 (gout a b c n))), .el (.sc (.bo (unit (gout a b c n))))], none⟩ := by
  rw [e57]
  unfold unit gout
  cases fcmp .geq .f32 (fop .sub .f32 (fop .quo .f32 (fop .mul .f32 (fint .f32 n) a) b) c) 3212836864 <;> rfl
theorem c57 (a : Nat) (b : Nat) (c : Nat) (n : Int) (k : List RV → R) (out : Out) (h : k [.el (.sc (.fl .f32 (gout a b c n))), .el (.sc (.bo (unit (gout a b c n))))] = some out) : ∃ rs, Real Try.prog 57 ∧ COK Try.prog 57 [.el (.sc (.fl .f32 a)), .el (.sc (.fl .f32 b)), .el (.sc (.fl .f32 c)), .el (.sc (.int .i64 n))] rs ∧ k rs = some out := by
  exact ⟨_, real Try.func57 (by kernel_rfl), fn_ok tok0 (A := none0) (L := noL) (r := none) Try.func57 (by kernel_rfl) (by kernel_rfl) (loops0 (by kernel_rfl)) (by rw [s57]), h⟩

/-! impl.IsFinite -/
theorem s58 (c : Nat) : runFn T0 none0 noL Try.f58 [.el (.sc (.fl .f32 c))] = some ⟨[.el (.sc (.bo (fin c)))], none⟩ := by kernel_rfl
theorem c58 (c : Nat) (k : List RV → R) (out : Out) (h : k [.el (.sc (.bo (fin c)))] = some out) : ∃ rs, Real Try.prog 58 ∧ COK Try.prog 58 [.el (.sc (.fl .f32 c))] rs ∧ k rs = some out := by
  exact ⟨_, real Try.func58 (by kernel_rfl), fn_ok tok0 (A := none0) (L := noL) (r := none) Try.func58 (by kernel_rfl) (by kernel_rfl) (loops0 (by kernel_rfl)) (by rw [s58]), h⟩

/-! impl.magnitude -/
theorem e59 (c : Nat) : runFn T0 none0 noL Try.f59 [.el (.sc (.fl .f32 c))] = (match (fcmp .lss .f32 c 0 : Bool) with
  | true => some ⟨[.el (.sc (.fl .f32 (fneg .f32 c)))], none⟩
  | false => some ⟨[.el (.sc (.fl .f32 c))], none⟩) := by kernel_rfl
theorem s59 (c : Nat) : runFn T0 none0 noL Try.f59 [.el (.sc (.fl .f32 c))] = some ⟨[.el (.sc (.fl .f32 (mag c)))], none⟩ := by
  rw [e59]
  unfold mag
  cases fcmp .lss .f32 c 0 <;> rfl
theorem c59 (c : Nat) (k : List RV → R) (out : Out) (h : k [.el (.sc (.fl .f32 (mag c)))] = some out) : ∃ rs, Real Try.prog 59 ∧ COK Try.prog 59 [.el (.sc (.fl .f32 c))] rs ∧ k rs = some out := by
  exact ⟨_, real Try.func59 (by kernel_rfl), fn_ok tok0 (A := none0) (L := noL) (r := none) Try.func59 (by kernel_rfl) (by kernel_rfl) (loops0 (by kernel_rfl)) (by rw [s59]), h⟩

/-! laws.toEdge -/
theorem s64 (lf : Int) (lt : Int) (lp : Nat) : runFn T0 none0 noL Try.f64 [.el (.ag [(.int .i64 lf), (.int .i64 lt), (.fl .f32 lp)])] = some ⟨[.el (.ag [(.int .i64 (((⟨lf, lt, lp⟩ : EdgeV)).f)), (.int .i64 (((⟨lf, lt, lp⟩ : EdgeV)).t)), (.fl .f32 (((⟨lf, lt, lp⟩ : EdgeV)).p))])], none⟩ := by kernel_rfl
theorem c64 (lf : Int) (lt : Int) (lp : Nat) (k : List RV → R) (out : Out) (h : k [.el (.ag [(.int .i64 (((⟨lf, lt, lp⟩ : EdgeV)).f)), (.int .i64 (((⟨lf, lt, lp⟩ : EdgeV)).t)), (.fl .f32 (((⟨lf, lt, lp⟩ : EdgeV)).p))])] = some out) : ∃ rs, Real Try.prog 64 ∧ COK Try.prog 64 [.el (.ag [(.int .i64 lf), (.int .i64 lt), (.fl .f32 lp)])] rs ∧ k rs = some out := by
  exact ⟨_, real Try.func64 (by kernel_rfl), fn_ok tok0 (A := none0) (L := noL) (r := none) Try.func64 (by kernel_rfl) (by kernel_rfl) (loops0 (by kernel_rfl)) (by rw [s64]), h⟩

def S1 : SFn := fun f args k => match f, args with
  | 15, [.el (.ag [(.fl .f32 lp), (.fl .f32 lh), (.fl .f32 lw), (.int .i64 lk)])] => k [.el (.ag [(.fl .f32 (((⟨lp, lh, lw, lk⟩ : LineV)).p)), (.fl .f32 (((⟨lp, lh, lw, lk⟩ : LineV)).h)), (.fl .f32 (((⟨lp, lh, lw, lk⟩ : LineV)).w)), (.int .i64 (((⟨lp, lh, lw, lk⟩ : LineV)).k))])]
  | 19, [.el (.sc (.fl .f64 a)), .el (.sc (.fl .f64 b))] => k [.el (.sc (.bo (sameF a b)))]
  | 23, [.vw none ⟨.f32, xs⟩] => (match (Nat.ble xs.length big : Bool) with
    | true => k [.fresh 22 ⟨.f32, xs⟩]
    | false => none)
  | 30, [.vw none ⟨.edge, xs⟩, .el (.sc (.int .i64 n))] => k [.el (.sc (.int .i64 (szLeft xs.length n)))]
  | 52, [.el (.sc (.int .i64 n)), .el (.sc (.int .i64 a)), .el (.sc (.int .i64 b))] => k [.el (.sc (.bo (within n a b)))]
  | 54, [.el (.sc (.int .i64 n)), .el (.sc (.int .i64 a)), .el (.sc (.int .i64 b))] => k [.el (.sc (.bo (within n a b)))]
  | 56, [.el (.sc (.fl .f32 c))] => k [.el (.sc (.bo (fin c)))]
  | 57, [.el (.sc (.fl .f32 a)), .el (.sc (.fl .f32 b)), .el (.sc (.fl .f32 c)), .el (.sc (.int .i64 n))] => k [.el (.sc (.fl .f32 (gout a b c n))), .el (.sc (.bo (unit (gout a b c n))))]
  | 58, [.el (.sc (.fl .f32 c))] => k [.el (.sc (.bo (fin c)))]
  | 59, [.el (.sc (.fl .f32 c))] => k [.el (.sc (.fl .f32 (mag c)))]
  | 64, [.el (.ag [(.int .i64 lf), (.int .i64 lt), (.fl .f32 lp)])] => k [.el (.ag [(.int .i64 (((⟨lf, lt, lp⟩ : EdgeV)).f)), (.int .i64 (((⟨lf, lt, lp⟩ : EdgeV)).t)), (.fl .f32 (((⟨lf, lt, lp⟩ : EdgeV)).p))])]
  | _, _ => S0 f args k
abbrev M1 : MFn := M0
def T1 : TT := tab.T S1 muts M1
theorem tok1 : TOK Try.prog T1 := by
  refine (tab_ok tabok).tok (fun f args k out h => ?_) (fun f vec args k out h => ?_)
  · change S1 f args k = some out at h
    unfold S1 at h
    split at h
    · exact c15 _ _ _ _ k out h
    · exact c19 _ _ k out h
    · exact c23 _ k out h
    · exact c30 _ _ k out h
    · exact c52 _ _ _ k out h
    · exact c54 _ _ _ k out h
    · exact c56 _ k out h
    · exact c57 _ _ _ _ k out h
    · exact c58 _ k out h
    · exact c59 _ k out h
    · exact c64 _ _ _ k out h
    · exact tok0.S f args k out h
  · exact tok0.M f vec args k out h

end Go.Sm.Ytpnkcjlapkhclaa
