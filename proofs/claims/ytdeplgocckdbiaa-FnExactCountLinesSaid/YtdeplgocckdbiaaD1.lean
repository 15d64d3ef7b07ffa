/- What the functions hand back: level 0. -/
import Derived.Test.YtdeplgocckdbiaaD0
namespace Go.Sm.Ytdeplgocckdbiaa
open Go Go.Sm Go.RowKit Go.Proofs

/-! laws.toFloat32S -/
def a16 : Ann := ann [(3, [0, 3, 4], [3])] [2] 0
def lp16 : St → (Ex → St → R) → R := fun s k => match s with
  | ⟨[(0, .fv (.vw (some 0) ⟨.f32, xs⟩)), (3, .fv (.own 0)), (4, .fv (.el (.sc (.int .i64 i))))], [some ⟨e0, ⟨.f32, ys⟩⟩]⟩ => (match (decide (i = 0) && (Nat.beq (ys : List Nat).length xs.length && Nat.ble xs.length big) : Bool) with
    | true => k (.exit 0) ⟨[(3, .fv (.own 0))], [some ⟨e0, ⟨.f32, xs⟩⟩]⟩
    | false => none)
  | _ => none
def l16 : Loops := fun key s k => bif Nat.beq key 3 then lp16 s k else none
theorem st16 (xs : List Nat) (i : Int) (ys : List Nat) (e0 : Nat) (m : Nat) (k : Ex → St → R) : iterK a16 [0, 3, 4] [3] (codeK T0 a16 l16 Try.f16.ntmps (loopAt Try.f16 0)) (m + 1) ⟨[(0, .fv (.vw (some 0) ⟨.f32, xs⟩)), (3, .fv (.own 0)), (4, .fv (.el (.sc (.int .i64 i))))], [some ⟨e0, ⟨.f32, ys⟩⟩]⟩ k = (match (decide ((i : Int) < (xs.length : Int)) : Bool) with
  | true => (match (decide (0 ≤ (i : Int) ∧ (i : Int) < (xs.length : Int)) && true : Bool) with
    | true => (match (xs : List Nat)[Int.toNat i]? with
      | some x1 => (match (decide (0 ≤ (i : Int) ∧ (i : Int) < (ys.length : Int)) && true : Bool) with
        | true => (match (ys : List Nat)[Int.toNat i]? with
          | some x2 => iterK a16 [0, 3, 4] [3] (codeK T0 a16 l16 Try.f16.ntmps (loopAt Try.f16 0)) m ⟨[(0, .fv (.vw (some 0) ⟨.f32, xs⟩)), (3, .fv (.own 0)), (4, .fv (.el (.sc (.int .i64 (IntKind.i64.wrap (i + 1))))))], [some ⟨e0, ⟨.f32, (ys : List Nat).set (Int.toNat i) x1⟩⟩]⟩ k
          | none => none)
        | false => none)
      | none => none)
    | false => none)
  | false => k (.exit 0) ⟨[(3, .fv (.own 0))], [some ⟨e0, ⟨.f32, ys⟩⟩]⟩) := by kernel_rfl
theorem ind16 (xs : List Nat) (hx : Nat.ble xs.length big = true) (e0 : Nat) (k : Ex → St → R) : ∀ (m j : Nat) (ys : List Nat), ys.length = xs.length → j + m = xs.length → iterK a16 [0, 3, 4] [3] (codeK T0 a16 l16 Try.f16.ntmps (loopAt Try.f16 0)) (m + 1) ⟨[(0, .fv (.vw (some 0) ⟨.f32, xs⟩)), (3, .fv (.own 0)), (4, .fv (.el (.sc (.int .i64 (j : Int)))))], [some ⟨e0, ⟨.f32, ys⟩⟩]⟩ k =
    k (.exit 0) ⟨[(3, .fv (.own 0))], [some ⟨e0, ⟨.f32, ys.take j ++ xs.drop j⟩⟩]⟩ := by
  intro m
  induction m with
  | zero =>
    intro j ys hl hj
    have h1 : ¬ ((j : Int) < (xs.length : Int)) := by omega
    rw [st16, List.drop_of_length_le (show xs.length ≤ j by omega), List.take_of_length_le (show ys.length ≤ j by omega)]
    simp [h1]
  | succ m ih =>
    intro j ys hl hj
    have hlt : j < xs.length := by omega
    have hlt2 : j < ys.length := by omega
    have h1 : ((j : Int) < (xs.length : Int)) := by omega
    have h12 : ((j : Int) < (ys.length : Int)) := by omega
    have h2 : (0 : Int) ≤ (j : Int) := by omega
    rw [st16, wrap_succ hlt hx]
    have h3 : xs[Int.toNat (j : Int)]? = some xs[j] := by simp [hlt]
    have h4 : ys[Int.toNat (j : Int)]? = some ys[j] := by simp [hlt2]
    simp only [h1, h12, h2, h3, h4, and_self, decide_true, Bool.and_true]
    refine (ih (j + 1) (ys.set (Int.toNat (j : Int)) xs[j]) (by simpa using hl) (by omega)).trans ?_
    have h5 : (ys.set (Int.toNat (j : Int)) xs[j]).take (j + 1) ++ xs.drop (j + 1) = ys.take j ++ xs.drop j := by
      rw [List.drop_eq_getElem_cons hlt]
      exact set_take hlt2 _ _
    rw [h5]

theorem lk16 : LOK T0 a16 l16 Try.f16.ntmps (loopAt Try.f16 0) := by
  intro ins outs hA s k out h
  have hA' : ([0, 3, 4], [3]) = (ins, outs) := Option.some.inj ((show a16.lp (firstRegion (loopAt Try.f16 0)) = some ([0, 3, 4], [3]) by kernel_rfl).symm.trans hA)
  cases hA'
  have hk : firstRegion (loopAt Try.f16 0) = 3 := by kernel_rfl
  rw [hk] at h
  change lp16 s k = some out at h
  unfold lp16 at h
  split at h
  · rename_i xs i e0 ys
    cases hg : (decide (i = 0) && (Nat.beq ys.length xs.length && Nat.ble xs.length big)) with
    | false => rw [hg] at h; cases h
    | true =>
      rw [hg] at h
      simp only [Bool.and_eq_true, decide_eq_true_eq] at hg
      obtain ⟨rfl, hl, hx⟩ := hg
      refine ⟨xs.length + 1, ?_⟩
      have hh := ind16 xs hx e0 k xs.length 0 ys (Nat.eq_of_beq_eq_true hl) (by omega)
      simp only [List.take_zero, List.nil_append, List.drop_zero] at hh
      exact hh.trans h
  · cases h
theorem e16 (xs : List Nat) : runFn T0 a16 l16 Try.f16 [.vw none ⟨.f32, xs⟩] = (match (decide (0 ≤ ((xs.length : Int) : Int) ∧ ((xs.length : Int) : Int) = (xs.length : Int) ∧ ((xs.length : Int) : Int) ≤ 1099511627776) : Bool) with
  | true => (match (decide (0 = 0) && (Nat.beq (List.replicate (Int.toNat ((xs.length : Int))) ((0 : Nat)) : List Nat).length xs.length && Nat.ble xs.length big) : Bool) with
    | true => some ⟨[.fresh 30 ⟨.f32, xs⟩], none⟩
    | false => none)
  | false => none) := by kernel_rfl
theorem s16 (xs : List Nat) : runFn T0 a16 l16 Try.f16 [.vw none ⟨.f32, xs⟩] = (match (Nat.ble xs.length big : Bool) with
  | true => some ⟨[.fresh 30 ⟨.f32, xs⟩], none⟩
  | false => none) := by
  rw [e16]
  cases h : Nat.ble xs.length big with
  | false => cases hd : decide ((xs.length : Int) ≤ 1099511627776) <;> simp [hd]
  | true =>
    have hx := Nat.le_of_ble_eq_true h
    unfold big at hx
    have h2 : ((xs.length : Int) ≤ 1099511627776) := by omega
    simp [h2]
theorem c16 (xs : List Nat) (k : List RV → R) (out : Out) (h : (match (Nat.ble xs.length big : Bool) with
  | true => k [.fresh 30 ⟨.f32, xs⟩]
  | false => none) = some out) : ∃ rs, Real Try.prog 16 ∧ COK Try.prog 16 [.vw none ⟨.f32, xs⟩] rs ∧ k rs = some out := by
  cases g0 : (Nat.ble xs.length big : Bool) with
  | true =>
    rw [g0] at h
    exact ⟨_, real Try.func16 (by kernel_rfl), fn_ok tok0 (A := a16) (L := l16) (r := none) Try.func16 (by kernel_rfl) (by kernel_rfl) (loops1 (by kernel_rfl) lk16) (by rw [s16, g0]), h⟩
  | false =>
    rw [g0] at h
    cases h

/-! laws.szLineS -/
theorem e21 (xs : List LineV) (n : Int) : runFn T0 none0 noL Try.f21 [.vw none ⟨.line, xs⟩, .el (.sc (.int .i64 n))] = (match (decide ((IntKind.i64.wrap (n - ((xs.length : Int))) : Int) < 0) : Bool) with
  | true => some ⟨[.el (.sc (.int .i64 ((-1))))], none⟩
  | false => some ⟨[.el (.sc (.int .i64 (IntKind.i64.wrap (n - ((xs.length : Int))))))], none⟩) := by kernel_rfl
theorem s21 (xs : List LineV) (n : Int) : runFn T0 none0 noL Try.f21 [.vw none ⟨.line, xs⟩, .el (.sc (.int .i64 n))] = some ⟨[.el (.sc (.int .i64 (szLeft xs.length n)))], none⟩ := by
  rw [e21]
  unfold szLeft
  cases decide ((IntKind.i64.wrap (n - (xs.length : Int)) : Int) < 0) <;> simp
theorem c21 (xs : List LineV) (n : Int) (k : List RV → R) (out : Out) (h : k [.el (.sc (.int .i64 (szLeft xs.length n)))] = some out) : ∃ rs, Real Try.prog 21 ∧ COK Try.prog 21 [.vw none ⟨.line, xs⟩, .el (.sc (.int .i64 n))] rs ∧ k rs = some out := by
  exact ⟨_, real Try.func21 (by kernel_rfl), fn_ok tok0 (A := none0) (L := noL) (r := none) Try.func21 (by kernel_rfl) (by kernel_rfl) (loops0 (by kernel_rfl)) (by rw [s21]), h⟩

/-! laws.sameFloat -/
theorem e29 (a : Nat) (b : Nat) : runFn T0 none0 noL Try.f29 [.el (.sc (.fl .f64 a)), .el (.sc (.fl .f64 b))] = (match (fcmp .neq .f64 a a : Bool) with
  | true => (match (fcmp .neq .f64 a a : Bool) with
    | true => some ⟨[.el (.sc (.bo (fcmp .neq .f64 b b)))], none⟩
    | false => some ⟨[.el (.sc (.bo false))], none⟩)
  | false => (match (fcmp .neq .f64 b b : Bool) with
    | true => (match (fcmp .neq .f64 a a : Bool) with
      | true => some ⟨[.el (.sc (.bo (fcmp .neq .f64 b b)))], none⟩
      | false => some ⟨[.el (.sc (.bo false))], none⟩)
    | false => (match (fcmp .eql .f64 a 0 : Bool) with
      | true => (match (fcmp .eql .f64 b 0 : Bool) with
        | true => some ⟨[.el (.sc (.bo ((fcmp .gtr .f64 (fop .quo .f64 4607182418800017408 a) 0) == (fcmp .gtr .f64 (fop .quo .f64 4607182418800017408 b) 0))))], none⟩
        | false => some ⟨[.el (.sc (.bo (fcmp .eql .f64 a b)))], none⟩)
      | false => some ⟨[.el (.sc (.bo (fcmp .eql .f64 a b)))], none⟩))) := by kernel_rfl
theorem s29 (a : Nat) (b : Nat) : runFn T0 none0 noL Try.f29 [.el (.sc (.fl .f64 a)), .el (.sc (.fl .f64 b))] = some ⟨[.el (.sc (.bo (sameF a b)))], none⟩ := by
  rw [e29]
  unfold sameF
  cases fcmp .neq .f64 a a <;> cases fcmp .neq .f64 b b <;> cases fcmp .eql .f64 a 0 <;> cases fcmp .eql .f64 b 0 <;> rfl
theorem c29 (a : Nat) (b : Nat) (k : List RV → R) (out : Out) (h : k [.el (.sc (.bo (sameF a b)))] = some out) : ∃ rs, Real Try.prog 29 ∧ COK Try.prog 29 [.el (.sc (.fl .f64 a)), .el (.sc (.fl .f64 b))] rs ∧ k rs = some out := by
  exact ⟨_, real Try.func29 (by kernel_rfl), fn_ok tok0 (A := none0) (L := noL) (r := none) Try.func29 (by kernel_rfl) (by kernel_rfl) (loops0 (by kernel_rfl)) (by rw [s29]), h⟩

/-! laws.toLine -/
theorem s47 (lp : Nat) (lh : Nat) (lw : Nat) (lk : Int) : runFn T0 none0 noL Try.f47 [.el (.ag [(.fl .f32 lp), (.fl .f32 lh), (.fl .f32 lw), (.int .i64 lk)])] = some ⟨[.el (.ag [(.fl .f32 (((⟨lp, lh, lw, lk⟩ : LineV)).p)), (.fl .f32 (((⟨lp, lh, lw, lk⟩ : LineV)).h)), (.fl .f32 (((⟨lp, lh, lw, lk⟩ : LineV)).w)), (.int .i64 (((⟨lp, lh, lw, lk⟩ : LineV)).k))])], none⟩ := by kernel_rfl
theorem c47 (lp : Nat) (lh : Nat) (lw : Nat) (lk : Int) (k : List RV → R) (out : Out) (h : k [.el (.ag [(.fl .f32 (((⟨lp, lh, lw, lk⟩ : LineV)).p)), (.fl .f32 (((⟨lp, lh, lw, lk⟩ : LineV)).h)), (.fl .f32 (((⟨lp, lh, lw, lk⟩ : LineV)).w)), (.int .i64 (((⟨lp, lh, lw, lk⟩ : LineV)).k))])] = some out) : ∃ rs, Real Try.prog 47 ∧ COK Try.prog 47 [.el (.ag [(.fl .f32 lp), (.fl .f32 lh), (.fl .f32 lw), (.int .i64 lk)])] rs ∧ k rs = some out := by
  exact ⟨_, real Try.func47 (by kernel_rfl), fn_ok tok0 (A := none0) (L := noL) (r := none) Try.func47 (by kernel_rfl) (by kernel_rfl) (loops0 (by kernel_rfl)) (by rw [s47]), h⟩

/-! spec.l00In -/
theorem e76 (n : Int) (a : Int) (b : Int) : runFn T0 none0 noL Try.f76 [.el (.sc (.int .i64 n)), .el (.sc (.int .i64 a)), .el (.sc (.int .i64 b))] = (match (decide ((n : Int) ≥ a) : Bool) with
  | true => some ⟨[.el (.sc (.bo (decide ((n : Int) ≤ b))))], none⟩
  | false => some ⟨[.el (.sc (.bo false))], none⟩) := by kernel_rfl
theorem s76 (n : Int) (a : Int) (b : Int) : runFn T0 none0 noL Try.f76 [.el (.sc (.int .i64 n)), .el (.sc (.int .i64 a)), .el (.sc (.int .i64 b))] = some ⟨[.el (.sc (.bo (within n a b)))], none⟩ := by
  rw [e76]
  unfold within
  cases decide (n ≥ a) <;> rfl
theorem c76 (n : Int) (a : Int) (b : Int) (k : List RV → R) (out : Out) (h : k [.el (.sc (.bo (within n a b)))] = some out) : ∃ rs, Real Try.prog 76 ∧ COK Try.prog 76 [.el (.sc (.int .i64 n)), .el (.sc (.int .i64 a)), .el (.sc (.int .i64 b))] rs ∧ k rs = some out := by
  exact ⟨_, real Try.func76 (by kernel_rfl), fn_ok tok0 (A := none0) (L := noL) (r := none) Try.func76 (by kernel_rfl) (by kernel_rfl) (loops0 (by kernel_rfl)) (by rw [s76]), h⟩

/-! impl.within -/
theorem e80 (n : Int) (a : Int) (b : Int) : runFn T0 none0 noL Try.f80 [.el (.sc (.int .i64 n)), .el (.sc (.int .i64 a)), .el (.sc (.int .i64 b))] = (match (decide ((n : Int) ≥ a) : Bool) with
  | true => some ⟨[.el (.sc (.bo (decide ((n : Int) ≤ b))))], none⟩
  | false => some ⟨[.el (.sc (.bo false))], none⟩) := by kernel_rfl
theorem s80 (n : Int) (a : Int) (b : Int) : runFn T0 none0 noL Try.f80 [.el (.sc (.int .i64 n)), .el (.sc (.int .i64 a)), .el (.sc (.int .i64 b))] = some ⟨[.el (.sc (.bo (within n a b)))], none⟩ := by
  rw [e80]
  unfold within
  cases decide (n ≥ a) <;> rfl
theorem c80 (n : Int) (a : Int) (b : Int) (k : List RV → R) (out : Out) (h : k [.el (.sc (.bo (within n a b)))] = some out) : ∃ rs, Real Try.prog 80 ∧ COK Try.prog 80 [.el (.sc (.int .i64 n)), .el (.sc (.int .i64 a)), .el (.sc (.int .i64 b))] rs ∧ k rs = some out := by
  exact ⟨_, real Try.func80 (by kernel_rfl), fn_ok tok0 (A := none0) (L := noL) (r := none) Try.func80 (by kernel_rfl) (by kernel_rfl) (loops0 (by kernel_rfl)) (by rw [s80]), h⟩

/-! spec.l01Finite -/
theorem s92 (c : Nat) : runFn T0 none0 noL Try.f92 [.el (.sc (.fl .f32 c))] = some ⟨[.el (.sc (.bo (fin c)))], none⟩ := by kernel_rfl
theorem c92 (c : Nat) (k : List RV → R) (out : Out) (h : k [.el (.sc (.bo (fin c)))] = some out) : ∃ rs, Real Try.prog 92 ∧ COK Try.prog 92 [.el (.sc (.fl .f32 c))] rs ∧ k rs = some out := by
  exact ⟨_, real Try.func92 (by kernel_rfl), fn_ok tok0 (A := none0) (L := noL) (r := none) Try.func92 (by kernel_rfl) (by kernel_rfl) (loops0 (by kernel_rfl)) (by rw [s92]), h⟩

/-! impl.IsFinite -/
theorem s97 (c : Nat) : runFn T0 none0 noL Try.f97 [.el (.sc (.fl .f32 c))] = some ⟨[.el (.sc (.bo (fin c)))], none⟩ := by kernel_rfl
theorem c97 (c : Nat) (k : List RV → R) (out : Out) (h : k [.el (.sc (.bo (fin c)))] = some out) : ∃ rs, Real Try.prog 97 ∧ COK Try.prog 97 [.el (.sc (.fl .f32 c))] rs ∧ k rs = some out := by
  exact ⟨_, real Try.func97 (by kernel_rfl), fn_ok tok0 (A := none0) (L := noL) (r := none) Try.func97 (by kernel_rfl) (by kernel_rfl) (loops0 (by kernel_rfl)) (by rw [s97]), h⟩

/-! spec.l05Place -/
theorem s114 (b : Nat) (d : Nat) (i : Int) : runFn T0 none0 noL Try.f114 [.el (.sc (.fl .f32 b)), .el (.sc (.fl .f32 d)), .el (.sc (.int .i64 i))] = some ⟨[.el (.sc (.fl .f32 (placeAt b d i)))], none⟩ := by kernel_rfl
theorem c114 (b : Nat) (d : Nat) (i : Int) (k : List RV → R) (out : Out) (h : k [.el (.sc (.fl .f32 (placeAt b d i)))] = some out) : ∃ rs, Real Try.prog 114 ∧ COK Try.prog 114 [.el (.sc (.fl .f32 b)), .el (.sc (.fl .f32 d)), .el (.sc (.int .i64 i))] rs ∧ k rs = some out := by
  exact ⟨_, real Try.func114 (by kernel_rfl), fn_ok tok0 (A := none0) (L := noL) (r := none) Try.func114 (by kernel_rfl) (by kernel_rfl) (loops0 (by kernel_rfl)) (by rw [s114]), h⟩

/-! impl.magnitude -/
theorem e137 (c : Nat) : runFn T0 none0 noL Try.f137 [.el (.sc (.fl .f32 c))] = (match (fcmp .lss .f32 c 0 : Bool) with
  | true => some ⟨[.el (.sc (.fl .f32 (fneg .f32 c)))], none⟩
  | false => some ⟨[.el (.sc (.fl .f32 c))], none⟩) := by kernel_rfl
theorem s137 (c : Nat) : runFn T0 none0 noL Try.f137 [.el (.sc (.fl .f32 c))] = some ⟨[.el (.sc (.fl .f32 (mag c)))], none⟩ := by
  rw [e137]
  unfold mag
  cases fcmp .lss .f32 c 0 <;> rfl
theorem c137 (c : Nat) (k : List RV → R) (out : Out) (h : k [.el (.sc (.fl .f32 (mag c)))] = some out) : ∃ rs, Real Try.prog 137 ∧ COK Try.prog 137 [.el (.sc (.fl .f32 c))] rs ∧ k rs = some out := by
  exact ⟨_, real Try.func137 (by kernel_rfl), fn_ok tok0 (A := none0) (L := noL) (r := none) Try.func137 (by kernel_rfl) (by kernel_rfl) (loops0 (by kernel_rfl)) (by rw [s137]), h⟩

/-! spec.l01Narrow -/
theorem s148 (c : Nat) : runFn T0 none0 noL Try.f148 [.el (.sc (.fl .f64 c))] = (match fconv .f64 .f32 c with
  | some rn1 => some ⟨[.el (.sc (.fl .f32 rn1))], none⟩
  | none => none) := by kernel_rfl
theorem c148 (c : Nat) (k : List RV → R) (out : Out) (h : (match fconv .f64 .f32 c with
  | some rn0 => k [.el (.sc (.fl .f32 rn0))]
  | none => none) = some out) : ∃ rs, Real Try.prog 148 ∧ COK Try.prog 148 [.el (.sc (.fl .f64 c))] rs ∧ k rs = some out := by
  cases g0 : (fconv .f64 .f32 c) with
  | some rn0 =>
    rw [g0] at h
    exact ⟨_, real Try.func148 (by kernel_rfl), fn_ok tok0 (A := none0) (L := noL) (r := none) Try.func148 (by kernel_rfl) (by kernel_rfl) (loops0 (by kernel_rfl)) (by rw [s148, g0]), h⟩
  | none =>
    rw [g0] at h
    cases h

/-! math.Float64frombits -/
theorem c185 (n : Int) (k : List RV → R) (out : Out) (h : k [.el (.sc (.fl .f64 (cn .f64 (Int.toNat n))))] = some out) : ∃ rs, CallOK Try.prog 185 [.el (.sc (.int .u64 n))] rs ∧ k rs = some out := by
  exact ⟨_, x_f64from Try.func185 (by kernel_rfl) (by kernel_rfl) (by kernel_rfl) (by kernel_rfl), h⟩

/-! impl.logarithm -/
def a203 : Ann := ann [(2, [0, 3], [0, 3]), (5, [0, 3], [0, 3]), (11, [3, 4, 5, 6, 7], [3, 4, 6])] [2] 0
def lp203 : St → (Ex → St → R) → R := fun s k => match s with
  | ⟨[(0, .fv (.el (.sc (.fl .f64 y)))), (3, .fv (.el (.sc (.fl .f64 e))))], []⟩ => (match ((!fcmp .lss .f64 (lgDn 200 y).1 4604930618986332160 && (Nat.beq e 0 && Nat.ble (lgDn 200 y).2 400)) : Bool) with
    | true => k (.exit 0) ⟨[(0, .fv (.el (.sc (.fl .f64 ((lgDn 200 y).1))))), (3, .fv (.el (.sc (.fl .f64 (fint .f64 (-((lgDn 200 y).2 : Int)))))))], []⟩
    | false => none)
  | _ => none
def lp203_1 : St → (Ex → St → R) → R := fun s k => match s with
  | ⟨[(0, .fv (.el (.sc (.fl .f64 y)))), (3, .fv (.el (.sc (.fl .f64 e))))], []⟩ => (match ((!fcmp .geq .f64 (lgUp 200 y).1 4609434218613702656 && ((Nat.beq e 0 || Nat.beq (lgUp 200 y).2 0) && Nat.ble (lgUp 200 y).2 400)) : Bool) with
    | true => k (.exit 2) ⟨[(0, .fv (.el (.sc (.fl .f64 ((lgUp 200 y).1))))), (3, .fv (.el (.sc (.fl .f64 (lgE e ((lgUp 200 y).2))))))], []⟩
    | false => none)
  | _ => none
def lp203_2 : St → (Ex → St → R) → R := fun s k => match s with
  | ⟨[(3, .fv (.el (.sc (.fl .f64 e)))), (4, .fv (.el (.sc (.fl .f64 z)))), (5, .fv (.el (.sc (.fl .f64 u)))), (6, .fv (.el (.sc (.fl .f64 q)))), (7, .fv (.el (.sc (.fl .f64 i))))], []⟩ => (match (Nat.beq i 4627730092099895296 : Bool) with
    | true => k (.exit 4) ⟨[(3, .fv (.el (.sc (.fl .f64 e)))), (4, .fv (.el (.sc (.fl .f64 z)))), (6, .fv (.el (.sc (.fl .f64 (lgPoly u q)))))], []⟩
    | false => none)
  | _ => none
def l203 : Loops := fun key s k => bif Nat.beq key 2 then lp203 s k else bif Nat.beq key 5 then lp203_1 s k else bif Nat.beq key 11 then lp203_2 s k else none
theorem st203 (y : Nat) (e : Nat) (m : Nat) (k : Ex → St → R) : iterK a203 [0, 3] [0, 3] (codeK T0 a203 l203 Try.f203.ntmps (loopAt Try.f203 0)) (m + 1) ⟨[(0, .fv (.el (.sc (.fl .f64 y)))), (3, .fv (.el (.sc (.fl .f64 e))))], []⟩ k = (match (fcmp .lss .f64 y 4604930618986332160 : Bool) with
  | true => iterK a203 [0, 3] [0, 3] (codeK T0 a203 l203 Try.f203.ntmps (loopAt Try.f203 0)) m ⟨[(0, .fv (.el (.sc (.fl .f64 (fop .mul .f64 y 4611686018427387904))))), (3, .fv (.el (.sc (.fl .f64 (fop .sub .f64 e 4607182418800017408)))))], []⟩ k
  | false => k (.exit 0) ⟨[(0, .fv (.el (.sc (.fl .f64 y)))), (3, .fv (.el (.sc (.fl .f64 e))))], []⟩) := by kernel_rfl
theorem ind203 (k : Ex → St → R) : ∀ (m y c : Nat), c + m ≤ 400 → fcmp .lss .f64 (lgDn m y).1 4604930618986332160 = false → iterK a203 [0, 3] [0, 3] (codeK T0 a203 l203 Try.f203.ntmps (loopAt Try.f203 0)) (m + 1) ⟨[(0, .fv (.el (.sc (.fl .f64 y)))), (3, .fv (.el (.sc (.fl .f64 (fint .f64 (-(c : Int)))))))], []⟩ k = k (.exit 0) ⟨[(0, .fv (.el (.sc (.fl .f64 ((lgDn m y).1))))), (3, .fv (.el (.sc (.fl .f64 (fint .f64 (-((c + (lgDn m y).2 : Nat) : Int)))))))], []⟩ := by
  intro m
  induction m with
  | zero =>
    intro y c h0 hd
    rw [st203]
    have hd2 : fcmp .lss .f64 y 4604930618986332160 = false := hd
    rw [hd2]
    rfl
  | succ m ih =>
    intro y c h0 hd
    have hc := (count_up (n := c) (by omega)).2
    rw [st203, hc]
    unfold lgDn at hd ⊢
    cases hg : fcmp .lss .f64 y 4604930618986332160 with
    | true =>
      rw [hg] at hd
      refine (ih (fop .mul .f64 y 4611686018427387904) (c + 1) (by omega) hd).trans ?_
      have he : ∀ q : Nat, c + 1 + q = c + (q + 1) := by intro q; omega
      rw [he]
      rfl
    | false => rfl

theorem lk203 : LOK T0 a203 l203 Try.f203.ntmps (loopAt Try.f203 0) := by
  intro ins outs hA s k out h
  have hA' : ([0, 3], [0, 3]) = (ins, outs) := Option.some.inj ((show a203.lp (firstRegion (loopAt Try.f203 0)) = some ([0, 3], [0, 3]) by kernel_rfl).symm.trans hA)
  cases hA'
  have hk : firstRegion (loopAt Try.f203 0) = 2 := by kernel_rfl
  rw [hk] at h
  change lp203 s k = some out at h
  unfold lp203 at h
  split at h
  · rename_i y e
    cases hg : (!fcmp .lss .f64 (lgDn 200 y).1 4604930618986332160 && (Nat.beq e 0 && Nat.ble (lgDn 200 y).2 400)) with
    | false => rw [hg] at h; cases h
    | true =>
      rw [hg] at h
      simp only [Bool.and_eq_true, decide_eq_true_eq] at hg
      obtain ⟨hd, he, hm⟩ := hg
      refine ⟨201, ?_⟩
      rw [Bool.not_eq_true'] at hd
      have he2 := Nat.eq_of_beq_eq_true he
      subst he2
      have hi := ind203 k 200 y 0 (by omega) hd
      rw [show fint .f64 (-((0 : Nat) : Int)) = 0 by decide +kernel, Nat.zero_add] at hi
      exact hi.trans h
  · cases h
theorem st203_1 (y : Nat) (e : Nat) (m : Nat) (k : Ex → St → R) : iterK a203 [0, 3] [0, 3] (codeK T0 a203 l203 Try.f203.ntmps (loopAt Try.f203 1)) (m + 1) ⟨[(0, .fv (.el (.sc (.fl .f64 y)))), (3, .fv (.el (.sc (.fl .f64 e))))], []⟩ k = (match (fcmp .geq .f64 y 4609434218613702656 : Bool) with
  | true => iterK a203 [0, 3] [0, 3] (codeK T0 a203 l203 Try.f203.ntmps (loopAt Try.f203 1)) m ⟨[(0, .fv (.el (.sc (.fl .f64 (fop .quo .f64 y 4611686018427387904))))), (3, .fv (.el (.sc (.fl .f64 (fop .add .f64 e 4607182418800017408)))))], []⟩ k
  | false => k (.exit 2) ⟨[(0, .fv (.el (.sc (.fl .f64 y)))), (3, .fv (.el (.sc (.fl .f64 e))))], []⟩) := by kernel_rfl
theorem ind203_1 (k : Ex → St → R) : ∀ (m y c : Nat), c + m ≤ 400 → fcmp .geq .f64 (lgUp m y).1 4609434218613702656 = false → iterK a203 [0, 3] [0, 3] (codeK T0 a203 l203 Try.f203.ntmps (loopAt Try.f203 1)) (m + 1) ⟨[(0, .fv (.el (.sc (.fl .f64 y)))), (3, .fv (.el (.sc (.fl .f64 (fint .f64 ((c : Int)))))))], []⟩ k = k (.exit 2) ⟨[(0, .fv (.el (.sc (.fl .f64 ((lgUp m y).1))))), (3, .fv (.el (.sc (.fl .f64 (fint .f64 (((c + (lgUp m y).2 : Nat) : Int)))))))], []⟩ := by
  intro m
  induction m with
  | zero =>
    intro y c h0 hd
    rw [st203_1]
    have hd2 : fcmp .geq .f64 y 4609434218613702656 = false := hd
    rw [hd2]
    rfl
  | succ m ih =>
    intro y c h0 hd
    have hc := (count_up (n := c) (by omega)).1
    rw [st203_1, hc]
    unfold lgUp at hd ⊢
    cases hg : fcmp .geq .f64 y 4609434218613702656 with
    | true =>
      rw [hg] at hd
      refine (ih (fop .quo .f64 y 4611686018427387904) (c + 1) (by omega) hd).trans ?_
      have he : ∀ q : Nat, c + 1 + q = c + (q + 1) := by intro q; omega
      rw [he]
      rfl
    | false => rfl

theorem lk203_1 : LOK T0 a203 l203 Try.f203.ntmps (loopAt Try.f203 1) := by
  intro ins outs hA s k out h
  have hA' : ([0, 3], [0, 3]) = (ins, outs) := Option.some.inj ((show a203.lp (firstRegion (loopAt Try.f203 1)) = some ([0, 3], [0, 3]) by kernel_rfl).symm.trans hA)
  cases hA'
  have hk : firstRegion (loopAt Try.f203 1) = 5 := by kernel_rfl
  rw [hk] at h
  change lp203_1 s k = some out at h
  unfold lp203_1 at h
  split at h
  · rename_i y e
    cases hg : (!fcmp .geq .f64 (lgUp 200 y).1 4609434218613702656 && ((Nat.beq e 0 || Nat.beq (lgUp 200 y).2 0) && Nat.ble (lgUp 200 y).2 400)) with
    | false => rw [hg] at h; cases h
    | true =>
      rw [hg] at h
      simp only [Bool.and_eq_true, decide_eq_true_eq] at hg
      obtain ⟨hd, he, hm⟩ := hg
      refine ⟨201, ?_⟩
      rw [Bool.not_eq_true'] at hd
      have hi := ind203_1 k 200 y 0 (by omega) hd
      rw [show fint .f64 (((0 : Nat) : Int)) = 0 by decide +kernel, Nat.zero_add] at hi
      cases hn : Nat.beq (lgUp 200 y).2 0 with
      | false =>
        have he2 : e = 0 := by
          rw [hn, Bool.or_false] at he
          exact Nat.eq_of_beq_eq_true he
        subst he2
        unfold lgE at h
        rw [hn] at h
        exact hi.trans h
      | true =>
        have hg2 : fcmp .geq .f64 y 4609434218613702656 = false := by
          cases hg : fcmp .geq .f64 y 4609434218613702656 with
          | false => rfl
          | true =>
            have hn2 := Nat.eq_of_beq_eq_true hn
            have : (lgUp (199 + 1) y).2 = 0 := hn2
            unfold lgUp at this
            rw [hg] at this
            exact absurd this (Nat.succ_ne_zero _)
        have hy : lgUp 200 y = (y, 0) := by
          show lgUp (199 + 1) y = (y, 0)
          unfold lgUp
          rw [hg2]
          rfl
        rw [hy] at h
        rw [st203_1, hg2]
        exact h
  · cases h
theorem st203_2 (e : Nat) (z : Nat) (u : Nat) (q : Nat) (i : Nat) (m : Nat) (k : Ex → St → R) : iterK a203 [3, 4, 5, 6, 7] [3, 4, 6] (codeK T0 a203 l203 Try.f203.ntmps (loopAt Try.f203 2)) (m + 1) ⟨[(3, .fv (.el (.sc (.fl .f64 e)))), (4, .fv (.el (.sc (.fl .f64 z)))), (5, .fv (.el (.sc (.fl .f64 u)))), (6, .fv (.el (.sc (.fl .f64 q)))), (7, .fv (.el (.sc (.fl .f64 i))))], []⟩ k = (match (fcmp .geq .f64 i 4607182418800017408 : Bool) with
  | true => iterK a203 [3, 4, 5, 6, 7] [3, 4, 6] (codeK T0 a203 l203 Try.f203.ntmps (loopAt Try.f203 2)) m ⟨[(3, .fv (.el (.sc (.fl .f64 e)))), (4, .fv (.el (.sc (.fl .f64 z)))), (5, .fv (.el (.sc (.fl .f64 u)))), (6, .fv (.el (.sc (.fl .f64 (fop .add .f64 (fop .quo .f64 4607182418800017408 i) (fop .mul .f64 u q)))))), (7, .fv (.el (.sc (.fl .f64 (fop .sub .f64 i 4611686018427387904)))))], []⟩ k
  | false => k (.exit 4) ⟨[(3, .fv (.el (.sc (.fl .f64 e)))), (4, .fv (.el (.sc (.fl .f64 z)))), (6, .fv (.el (.sc (.fl .f64 q))))], []⟩) := by kernel_rfl
theorem un203_2 (e : Nat) (z : Nat) (u : Nat) (q : Nat) (k : Ex → St → R) : iterK a203 [3, 4, 5, 6, 7] [3, 4, 6] (codeK T0 a203 l203 Try.f203.ntmps (loopAt Try.f203 2)) 14 ⟨[(3, .fv (.el (.sc (.fl .f64 e)))), (4, .fv (.el (.sc (.fl .f64 z)))), (5, .fv (.el (.sc (.fl .f64 u)))), (6, .fv (.el (.sc (.fl .f64 q)))), (7, .fv (.el (.sc (.fl .f64 4627730092099895296))))], []⟩ k = k (.exit 4) ⟨[(3, .fv (.el (.sc (.fl .f64 e)))), (4, .fv (.el (.sc (.fl .f64 z)))), (6, .fv (.el (.sc (.fl .f64 (lgPoly u q)))))], []⟩ := by kernel_rfl

theorem lk203_2 : LOK T0 a203 l203 Try.f203.ntmps (loopAt Try.f203 2) := by
  intro ins outs hA s k out h
  have hA' : ([3, 4, 5, 6, 7], [3, 4, 6]) = (ins, outs) := Option.some.inj ((show a203.lp (firstRegion (loopAt Try.f203 2)) = some ([3, 4, 5, 6, 7], [3, 4, 6]) by kernel_rfl).symm.trans hA)
  cases hA'
  have hk : firstRegion (loopAt Try.f203 2) = 11 := by kernel_rfl
  rw [hk] at h
  change lp203_2 s k = some out at h
  unfold lp203_2 at h
  split at h
  · rename_i e z u q i
    cases hg : Nat.beq i 4627730092099895296 with
    | false => rw [hg] at h; cases h
    | true =>
      rw [hg] at h
      replace hg := Nat.eq_of_beq_eq_true hg
      subst hg
      refine ⟨14, ?_⟩
      exact (un203_2 e z u q k).trans h
  · cases h
theorem e203 (y : Nat) : runFn T0 a203 l203 Try.f203 [.el (.sc (.fl .f64 y))] = (match ((!fcmp .lss .f64 (lgDn 200 y).1 4604930618986332160 && (Nat.beq 0 0 && Nat.ble (lgDn 200 y).2 400)) : Bool) with
  | true => (match ((!fcmp .geq .f64 (lgUp 200 ((lgDn 200 y).1)).1 4609434218613702656 && ((Nat.beq (fint .f64 (-((lgDn 200 y).2 : Int))) 0 || Nat.beq (lgUp 200 ((lgDn 200 y).1)).2 0) && Nat.ble (lgUp 200 ((lgDn 200 y).1)).2 400)) : Bool) with
    | true => (match (Nat.beq 4627730092099895296 4627730092099895296 : Bool) with
      | true => some ⟨[.el (.sc (.fl .f64 (fop .add .f64 (fop .mul .f64 4611686018427387904 (fop .mul .f64 ((fop .quo .f64 (fop .sub .f64 ((lgUp 200 ((lgDn 200 y).1)).1) 4607182418800017408) (fop .add .f64 ((lgUp 200 ((lgDn 200 y).1)).1) 4607182418800017408))) (lgPoly (fop .mul .f64 (fop .quo .f64 (fop .sub .f64 ((lgUp 200 ((lgDn 200 y).1)).1) 4607182418800017408) (fop .add .f64 ((lgUp 200 ((lgDn 200 y).1)).1) 4607182418800017408)) (fop .quo .f64 (fop .sub .f64 ((lgUp 200 ((lgDn 200 y).1)).1) 4607182418800017408) (fop .add .f64 ((lgUp 200 ((lgDn 200 y).1)).1) 4607182418800017408))) 0))) (fop .mul .f64 ((lgE ((fint .f64 (-((lgDn 200 y).2 : Int)))) ((lgUp 200 ((lgDn 200 y).1)).2))) 4604418534313441775))))], none⟩
      | false => none)
    | false => none)
  | false => none) := by kernel_rfl
theorem s203 (y : Nat) (hg : (lgIn y) = true) : runFn T0 a203 l203 Try.f203 [.el (.sc (.fl .f64 y))] = some ⟨[.el (.sc (.fl .f64 (logV y)))], none⟩ := by
  rw [e203]
  obtain ⟨f1, f2, f3, f4, f5, f6, f7, f8, f9, f10, f11, f12, f13, f14⟩ := lg_all (lgIn_of hg).1 (lgIn_of hg).2
  have b1 : Nat.ble (lgUp 200 y).2 400 = true := Nat.ble_eq_true_of_le (by omega)
  have b2 : Nat.ble (lgDn 200 y).2 400 = true := Nat.ble_eq_true_of_le (by omega)
  have b3 : Nat.ble (lgUp 200 (lgDn 200 y).1).2 400 = true := Nat.ble_eq_true_of_le (by omega)
  have hE : lgE (fint .f64 (-((lgDn 200 y).2 : Int))) (lgUp 200 (lgDn 200 y).1).2 = fint .f64 (lgN y) := f7
  have g5 : (Nat.beq (fint .f64 (-((lgDn 200 y).2 : Int))) 0 || Nat.beq (lgUp 200 (lgDn 200 y).1).2 0) = true := by
    rw [Bool.or_eq_true] at f5 ⊢
    rcases f5 with h | h
    · left
      rw [Nat.eq_of_beq_eq_true h]
      decide +kernel
    · exact .inr h
  rw [f6] at f4
  simp only [f3, f4, g5, hE, f6, b2, b3, decide_true, Nat.beq_refl, Bool.not_false, Bool.and_self, Bool.true_and, Bool.and_true]
  rfl
theorem c203 (y : Nat) (k : List RV → R) (out : Out) (h : (match (lgIn y : Bool) with
  | true => k [.el (.sc (.fl .f64 (logV y)))]
  | false => none) = some out) : ∃ rs, Real Try.prog 203 ∧ COK Try.prog 203 [.el (.sc (.fl .f64 y))] rs ∧ k rs = some out := by
  cases g0 : (lgIn y : Bool) with
  | true =>
    rw [g0] at h
    exact ⟨_, real Try.func203 (by kernel_rfl), fn_ok tok0 (A := a203) (L := l203) (r := none) Try.func203 (by kernel_rfl) (by kernel_rfl) (loops3 (by kernel_rfl) lk203 lk203_1 lk203_2) (by rw [s203 _ g0]), h⟩
  | false =>
    rw [g0] at h
    cases h

/-! math.Float64bits -/
theorem c217 (c : Nat) (k : List RV → R) (out : Out) (h : (match (isN .f64 c : Bool) with
  | true => none
  | false => k [.el (.sc (.int .u64 ((c : Int))))]) = some out) : ∃ rs, CallOK Try.prog 217 [.el (.sc (.fl .f64 c))] rs ∧ k rs = some out := by
  cases g0 : (isN .f64 c : Bool) with
  | true =>
    rw [g0] at h
    cases h
  | false =>
    rw [g0] at h
    exact ⟨_, x_f64bits Try.func217 (by kernel_rfl) (by kernel_rfl) (by kernel_rfl) (by kernel_rfl) g0, h⟩

def S1 : SFn := fun f args k => match f, args with
  | 16, [.vw none ⟨.f32, xs⟩] => (match (Nat.ble xs.length big : Bool) with
    | true => k [.fresh 30 ⟨.f32, xs⟩]
    | false => none)
  | 21, [.vw none ⟨.line, xs⟩, .el (.sc (.int .i64 n))] => k [.el (.sc (.int .i64 (szLeft xs.length n)))]
  | 29, [.el (.sc (.fl .f64 a)), .el (.sc (.fl .f64 b))] => k [.el (.sc (.bo (sameF a b)))]
  | 47, [.el (.ag [(.fl .f32 lp), (.fl .f32 lh), (.fl .f32 lw), (.int .i64 lk)])] => k [.el (.ag [(.fl .f32 (((⟨lp, lh, lw, lk⟩ : LineV)).p)), (.fl .f32 (((⟨lp, lh, lw, lk⟩ : LineV)).h)), (.fl .f32 (((⟨lp, lh, lw, lk⟩ : LineV)).w)), (.int .i64 (((⟨lp, lh, lw, lk⟩ : LineV)).k))])]
  | 76, [.el (.sc (.int .i64 n)), .el (.sc (.int .i64 a)), .el (.sc (.int .i64 b))] => k [.el (.sc (.bo (within n a b)))]
  | 80, [.el (.sc (.int .i64 n)), .el (.sc (.int .i64 a)), .el (.sc (.int .i64 b))] => k [.el (.sc (.bo (within n a b)))]
  | 92, [.el (.sc (.fl .f32 c))] => k [.el (.sc (.bo (fin c)))]
  | 97, [.el (.sc (.fl .f32 c))] => k [.el (.sc (.bo (fin c)))]
  | 114, [.el (.sc (.fl .f32 b)), .el (.sc (.fl .f32 d)), .el (.sc (.int .i64 i))] => k [.el (.sc (.fl .f32 (placeAt b d i)))]
  | 137, [.el (.sc (.fl .f32 c))] => k [.el (.sc (.fl .f32 (mag c)))]
  | 148, [.el (.sc (.fl .f64 c))] => (match fconv .f64 .f32 c with
    | some rn2 => k [.el (.sc (.fl .f32 rn2))]
    | none => none)
  | 185, [.el (.sc (.int .u64 n))] => k [.el (.sc (.fl .f64 (cn .f64 (Int.toNat n))))]
  | 203, [.el (.sc (.fl .f64 y))] => (match (lgIn y : Bool) with
    | true => k [.el (.sc (.fl .f64 (logV y)))]
    | false => none)
  | 217, [.el (.sc (.fl .f64 c))] => (match (isN .f64 c : Bool) with
    | true => none
    | false => k [.el (.sc (.int .u64 ((c : Int))))])
  | _, _ => S0 f args k
abbrev M1 : MFn := M0
def T1 : TT := tab.T S1 muts M1
theorem tok1 : TOK Try.prog T1 := by
  refine (tab_ok tabok).tok (fun f args k out h => ?_) (fun f vec args k out h => ?_)
  · change S1 f args k = some out at h
    unfold S1 at h
    split at h
    · exact (fun k out h => cok_call (c16 _ k out h)) k out h
    · exact (fun k out h => cok_call (c21 _ _ k out h)) k out h
    · exact (fun k out h => cok_call (c29 _ _ k out h)) k out h
    · exact (fun k out h => cok_call (c47 _ _ _ _ k out h)) k out h
    · exact (fun k out h => cok_call (c76 _ _ _ k out h)) k out h
    · exact (fun k out h => cok_call (c80 _ _ _ k out h)) k out h
    · exact (fun k out h => cok_call (c92 _ k out h)) k out h
    · exact (fun k out h => cok_call (c97 _ k out h)) k out h
    · exact (fun k out h => cok_call (c114 _ _ _ k out h)) k out h
    · exact (fun k out h => cok_call (c137 _ k out h)) k out h
    · exact (fun k out h => cok_call (c148 _ k out h)) k out h
    · exact c185 _ k out h
    · exact (fun k out h => cok_call (c203 _ k out h)) k out h
    · exact c217 _ k out h
    · exact tok0.S f args k out h
  · exact tok0.M f vec args k out h

end Go.Sm.Ytdeplgocckdbiaa
