/- What the functions hand back: level 0. -/
import Derived.Test.YtpckpfbjhnllbaaD0
namespace Go.Sm.Ytpckpfbjhnllbaa
open Go Go.Sm Go.RowKit Go.Proofs

/-! laws.toFloat32S -/
def a8 : Ann := ann [(3, [0, 3, 4], [3])] [2] 0
def lp8 : St → (Ex → St → R) → R := fun s k => match s with
  | ⟨[(0, .fv (.vw (some 0) ⟨.f32, xs⟩)), (3, .fv (.own 0)), (4, .fv (.el (.sc (.int .i64 i))))], [some ⟨e0, ⟨.f32, ys⟩⟩]⟩ => (match (decide (i = 0) && (Nat.beq (ys : List Nat).length xs.length && Nat.ble xs.length big) : Bool) with | true => k (.exit 0) ⟨[(3, .fv (.own 0))], [some ⟨e0, ⟨.f32, xs⟩⟩]⟩ | false => none)
  | _ => none
def l8 : Loops := fun key s k => bif Nat.beq key 3 then lp8 s k else none
theorem st8 (xs : List Nat) (i : Int) (ys : List Nat) (e0 : Nat) (m : Nat) (k : Ex → St → R) : iterK a8 [0, 3, 4] [3] (codeK T0 a8 l8 Try.f8.ntmps (loopAt Try.f8 0)) (m + 1) ⟨[(0, .fv (.vw (some 0) ⟨.f32, xs⟩)), (3, .fv (.own 0)), (4, .fv (.el (.sc (.int .i64 i))))], [some ⟨e0, ⟨.f32, ys⟩⟩]⟩ k = (match (decide ((i : Int) < (xs.length : Int)) : Bool) with | true => (match (decide (0 ≤ (i : Int) ∧ (i : Int) < (xs.length : Int)) && true : Bool) with | true => (match (xs : List Nat)[Int.toNat i]? with | some x1 => (match (decide (0 ≤ (i : Int) ∧ (i : Int) < (ys.length : Int)) && true : Bool) with | true => (match (ys : List Nat)[Int.toNat i]? with | some x2 => iterK a8 [0, 3, 4] [3] (codeK T0 a8 l8 Try.f8.ntmps (loopAt Try.f8 0)) m ⟨[(0, .fv (.vw (some 0) ⟨.f32, xs⟩)), (3, .fv (.own 0)), (4, .fv (.el (.sc (.int .i64 (IntKind.i64.wrap (i + 1))))))], [some ⟨e0, ⟨.f32, (ys : List Nat).set (Int.toNat i) x1⟩⟩]⟩ k | none => none) | false => none) | none => none) | false => none) | false => k (.exit 0) ⟨[(3, .fv (.own 0))], [some ⟨e0, ⟨.f32, ys⟩⟩]⟩) := by kernel_rfl
theorem ind8 (xs : List Nat) (hx : Nat.ble xs.length big = true) (e0 : Nat) (k : Ex → St → R) : ∀ (m j : Nat) (ys : List Nat), ys.length = xs.length → j + m = xs.length → iterK a8 [0, 3, 4] [3] (codeK T0 a8 l8 Try.f8.ntmps (loopAt Try.f8 0)) (m + 1) ⟨[(0, .fv (.vw (some 0) ⟨.f32, xs⟩)), (3, .fv (.own 0)), (4, .fv (.el (.sc (.int .i64 (j : Int)))))], [some ⟨e0, ⟨.f32, ys⟩⟩]⟩ k =
    k (.exit 0) ⟨[(3, .fv (.own 0))], [some ⟨e0, ⟨.f32, ys.take j ++ xs.drop j⟩⟩]⟩ := by
  intro m
  induction m with
  | zero =>
    intro j ys hl hj
    have h1 : ¬ ((j : Int) < (xs.length : Int)) := by omega
    rw [st8, List.drop_of_length_le (show xs.length ≤ j by omega), List.take_of_length_le (show ys.length ≤ j by omega)]
    simp [h1]
  | succ m ih =>
    intro j ys hl hj
    have hlt : j < xs.length := by omega
    have hlt2 : j < ys.length := by omega
    have h1 : ((j : Int) < (xs.length : Int)) := by omega
    have h12 : ((j : Int) < (ys.length : Int)) := by omega
    have h2 : (0 : Int) ≤ (j : Int) := by omega
    rw [st8, wrap_succ hlt hx]
    have h3 : xs[Int.toNat (j : Int)]? = some xs[j] := by simp [hlt]
    have h4 : ys[Int.toNat (j : Int)]? = some ys[j] := by simp [hlt2]
    simp only [h1, h12, h2, h3, h4, and_self, decide_true, Bool.and_true]
    refine (ih (j + 1) (ys.set (Int.toNat (j : Int)) xs[j]) (by simpa using hl) (by omega)).trans ?_
    have h5 : (ys.set (Int.toNat (j : Int)) xs[j]).take (j + 1) ++ xs.drop (j + 1) = ys.take j ++ xs.drop j := by
      rw [List.drop_eq_getElem_cons hlt]
      exact set_take hlt2 _ _
    rw [h5]

theorem lk8 : LOK T0 a8 l8 Try.f8.ntmps (loopAt Try.f8 0) := by
  intro ins outs hA s k out h
  have hA' : ([0, 3, 4], [3]) = (ins, outs) := Option.some.inj ((show a8.lp (firstRegion (loopAt Try.f8 0)) = some ([0, 3, 4], [3]) by kernel_rfl).symm.trans hA)
  cases hA'
  have hk : firstRegion (loopAt Try.f8 0) = 3 := by kernel_rfl
  rw [hk] at h
  change lp8 s k = some out at h
  unfold lp8 at h
  split at h
  · rename_i xs i e0 ys
    cases hg : (decide (i = 0) && (Nat.beq ys.length xs.length && Nat.ble xs.length big)) with
    | false => rw [hg] at h; cases h
    | true =>
      rw [hg] at h
      simp only [Bool.and_eq_true, decide_eq_true_eq] at hg
      obtain ⟨rfl, hl, hx⟩ := hg
      refine ⟨xs.length + 1, ?_⟩
      have hh := ind8 xs hx e0 k xs.length 0 ys (Nat.eq_of_beq_eq_true hl) (by omega)
      simp only [List.take_zero, List.nil_append, List.drop_zero] at hh
      exact hh.trans h
  · cases h
theorem e8 (xs : List Nat) : runFn T0 a8 l8 Try.f8 [.vw none ⟨.f32, xs⟩] = (match (decide (0 ≤ ((xs.length : Int) : Int) ∧ ((xs.length : Int) : Int) = (xs.length : Int) ∧ ((xs.length : Int) : Int) ≤ 1099511627776) : Bool) with | true => (match (decide (0 = 0) && (Nat.beq (List.replicate (Int.toNat ((xs.length : Int))) ((0 : Nat)) : List Nat).length xs.length && Nat.ble xs.length big) : Bool) with | true => some ⟨[.fresh 24 ⟨.f32, xs⟩], none⟩ | false => none) | false => none) := by kernel_rfl
theorem s8 (xs : List Nat) : runFn T0 a8 l8 Try.f8 [.vw none ⟨.f32, xs⟩] = (match (Nat.ble xs.length big : Bool) with | true => some ⟨[.fresh 24 ⟨.f32, xs⟩], none⟩ | false => none) := by
  rw [e8]
  cases h : Nat.ble xs.length big with
  | false => cases hd : decide ((xs.length : Int) ≤ 1099511627776) <;> simp [hd]
  | true =>
    have hx := Nat.le_of_ble_eq_true h
    unfold big at hx
    have h2 : ((xs.length : Int) ≤ 1099511627776) := by omega
    simp [h2]
theorem c8 (xs : List Nat) (k : List RV → R) (out : Out) (h : (match (Nat.ble xs.length big : Bool) with | true => k [.fresh 24 ⟨.f32, xs⟩] | false => none) = some out) : ∃ rs, Real Try.prog 8 ∧ COK Try.prog 8 [.vw none ⟨.f32, xs⟩] rs ∧ k rs = some out := by
  cases g0 : (Nat.ble xs.length big : Bool) with
  | true =>
    rw [g0] at h
    exact ⟨_, real Try.func8 (by kernel_rfl), fn_ok tok0 (A := a8) (L := l8) (r := none) Try.func8 (by kernel_rfl) (by kernel_rfl) (loops1 (by kernel_rfl) lk8) (by rw [s8, g0]), h⟩
  | false =>
    rw [g0] at h
    cases h

/-! laws.toLine -/
theorem s16 (lp : Nat) (lh : Nat) (lw : Nat) (lk : Int) : runFn T0 none0 noL Try.f16 [.el (.ag [(.fl .f32 lp), (.fl .f32 lh), (.fl .f32 lw), (.int .i64 lk)])] = some ⟨[.el (.ag [(.fl .f32 (((⟨lp, lh, lw, lk⟩ : LineV)).p)), (.fl .f32 (((⟨lp, lh, lw, lk⟩ : LineV)).h)), (.fl .f32 (((⟨lp, lh, lw, lk⟩ : LineV)).w)), (.int .i64 (((⟨lp, lh, lw, lk⟩ : LineV)).k))])], none⟩ := by kernel_rfl
theorem c16 (lp : Nat) (lh : Nat) (lw : Nat) (lk : Int) (k : List RV → R) (out : Out) (h : k [.el (.ag [(.fl .f32 (((⟨lp, lh, lw, lk⟩ : LineV)).p)), (.fl .f32 (((⟨lp, lh, lw, lk⟩ : LineV)).h)), (.fl .f32 (((⟨lp, lh, lw, lk⟩ : LineV)).w)), (.int .i64 (((⟨lp, lh, lw, lk⟩ : LineV)).k))])] = some out) : ∃ rs, Real Try.prog 16 ∧ COK Try.prog 16 [.el (.ag [(.fl .f32 lp), (.fl .f32 lh), (.fl .f32 lw), (.int .i64 lk)])] rs ∧ k rs = some out := by
  exact ⟨_, real Try.func16 (by kernel_rfl), fn_ok tok0 (A := none0) (L := noL) (r := none) Try.func16 (by kernel_rfl) (by kernel_rfl) (loops0 (by kernel_rfl)) (by rw [s16]), h⟩

/-! laws.sameFloat -/
theorem e19 (a : Nat) (b : Nat) : runFn T0 none0 noL Try.f19 [.el (.sc (.fl .f64 a)), .el (.sc (.fl .f64 b))] = (match (fcmp .neq .f64 a a : Bool) with | true => (match (fcmp .neq .f64 a a : Bool) with | true => some ⟨[.el (.sc (.bo (fcmp .neq .f64 b b)))], none⟩ | false => some ⟨[.el (.sc (.bo false))], none⟩) | false => (match (fcmp .neq .f64 b b : Bool) with | true => (match (fcmp .neq .f64 a a : Bool) with | true => some ⟨[.el (.sc (.bo (fcmp .neq .f64 b b)))], none⟩ | false => some ⟨[.el (.sc (.bo false))], none⟩) | false => (match (fcmp .eql .f64 a 0 : Bool) with | true => (match (fcmp .eql .f64 b 0 : Bool) with | true => some ⟨[.el (.sc (.bo ((fcmp .gtr .f64 (fop .quo .f64 4607182418800017408 a) 0) == (fcmp .gtr .f64 (fop .quo .f64 4607182418800017408 b) 0))))], none⟩ | false => some ⟨[.el (.sc (.bo (fcmp .eql .f64 a b)))], none⟩) | false => some ⟨[.el (.sc (.bo (fcmp .eql .f64 a b)))], none⟩))) := by kernel_rfl
theorem s19 (a : Nat) (b : Nat) : runFn T0 none0 noL Try.f19 [.el (.sc (.fl .f64 a)), .el (.sc (.fl .f64 b))] = some ⟨[.el (.sc (.bo (sameF a b)))], none⟩ := by
  rw [e19]
  unfold sameF
  cases fcmp .neq .f64 a a <;> cases fcmp .neq .f64 b b <;> cases fcmp .eql .f64 a 0 <;> cases fcmp .eql .f64 b 0 <;> rfl
theorem c19 (a : Nat) (b : Nat) (k : List RV → R) (out : Out) (h : k [.el (.sc (.bo (sameF a b)))] = some out) : ∃ rs, Real Try.prog 19 ∧ COK Try.prog 19 [.el (.sc (.fl .f64 a)), .el (.sc (.fl .f64 b))] rs ∧ k rs = some out := by
  exact ⟨_, real Try.func19 (by kernel_rfl), fn_ok tok0 (A := none0) (L := noL) (r := none) Try.func19 (by kernel_rfl) (by kernel_rfl) (loops0 (by kernel_rfl)) (by rw [s19]), h⟩

/-! spec.l05Place -/
theorem s22 (b : Nat) (d : Nat) (i : Int) : runFn T0 none0 noL Try.f22 [.el (.sc (.fl .f32 b)), .el (.sc (.fl .f32 d)), .el (.sc (.int .i64 i))] = some ⟨[.el (.sc (.fl .f32 (placeAt b d i)))], none⟩ := by kernel_rfl
theorem c22 (b : Nat) (d : Nat) (i : Int) (k : List RV → R) (out : Out) (h : k [.el (.sc (.fl .f32 (placeAt b d i)))] = some out) : ∃ rs, Real Try.prog 22 ∧ COK Try.prog 22 [.el (.sc (.fl .f32 b)), .el (.sc (.fl .f32 d)), .el (.sc (.int .i64 i))] rs ∧ k rs = some out := by
  exact ⟨_, real Try.func22 (by kernel_rfl), fn_ok tok0 (A := none0) (L := noL) (r := none) Try.func22 (by kernel_rfl) (by kernel_rfl) (loops0 (by kernel_rfl)) (by rw [s22]), h⟩

/-! spec.l01Finite -/
theorem s34 (c : Nat) : runFn T0 none0 noL Try.f34 [.el (.sc (.fl .f32 c))] = some ⟨[.el (.sc (.bo (fin c)))], none⟩ := by kernel_rfl
theorem c34 (c : Nat) (k : List RV → R) (out : Out) (h : k [.el (.sc (.bo (fin c)))] = some out) : ∃ rs, Real Try.prog 34 ∧ COK Try.prog 34 [.el (.sc (.fl .f32 c))] rs ∧ k rs = some out := by
  exact ⟨_, real Try.func34 (by kernel_rfl), fn_ok tok0 (A := none0) (L := noL) (r := none) Try.func34 (by kernel_rfl) (by kernel_rfl) (loops0 (by kernel_rfl)) (by rw [s34]), h⟩

/-! spec.l00In -/
theorem e35 (n : Int) (a : Int) (b : Int) : runFn T0 none0 noL Try.f35 [.el (.sc (.int .i64 n)), .el (.sc (.int .i64 a)), .el (.sc (.int .i64 b))] = (match (decide ((n : Int) ≥ a) : Bool) with | true => some ⟨[.el (.sc (.bo (decide ((n : Int) ≤ b))))], none⟩ | false => some ⟨[.el (.sc (.bo false))], none⟩) := by kernel_rfl
theorem s35 (n : Int) (a : Int) (b : Int) : runFn T0 none0 noL Try.f35 [.el (.sc (.int .i64 n)), .el (.sc (.int .i64 a)), .el (.sc (.int .i64 b))] = some ⟨[.el (.sc (.bo (within n a b)))], none⟩ := by
  rw [e35]
  unfold within
  cases decide (n ≥ a) <;> rfl
theorem c35 (n : Int) (a : Int) (b : Int) (k : List RV → R) (out : Out) (h : k [.el (.sc (.bo (within n a b)))] = some out) : ∃ rs, Real Try.prog 35 ∧ COK Try.prog 35 [.el (.sc (.int .i64 n)), .el (.sc (.int .i64 a)), .el (.sc (.int .i64 b))] rs ∧ k rs = some out := by
  exact ⟨_, real Try.func35 (by kernel_rfl), fn_ok tok0 (A := none0) (L := noL) (r := none) Try.func35 (by kernel_rfl) (by kernel_rfl) (loops0 (by kernel_rfl)) (by rw [s35]), h⟩

/-! impl.within -/
theorem e40 (n : Int) (a : Int) (b : Int) : runFn T0 none0 noL Try.f40 [.el (.sc (.int .i64 n)), .el (.sc (.int .i64 a)), .el (.sc (.int .i64 b))] = (match (decide ((n : Int) ≥ a) : Bool) with | true => some ⟨[.el (.sc (.bo (decide ((n : Int) ≤ b))))], none⟩ | false => some ⟨[.el (.sc (.bo false))], none⟩) := by kernel_rfl
theorem s40 (n : Int) (a : Int) (b : Int) : runFn T0 none0 noL Try.f40 [.el (.sc (.int .i64 n)), .el (.sc (.int .i64 a)), .el (.sc (.int .i64 b))] = some ⟨[.el (.sc (.bo (within n a b)))], none⟩ := by
  rw [e40]
  unfold within
  cases decide (n ≥ a) <;> rfl
theorem c40 (n : Int) (a : Int) (b : Int) (k : List RV → R) (out : Out) (h : k [.el (.sc (.bo (within n a b)))] = some out) : ∃ rs, Real Try.prog 40 ∧ COK Try.prog 40 [.el (.sc (.int .i64 n)), .el (.sc (.int .i64 a)), .el (.sc (.int .i64 b))] rs ∧ k rs = some out := by
  exact ⟨_, real Try.func40 (by kernel_rfl), fn_ok tok0 (A := none0) (L := noL) (r := none) Try.func40 (by kernel_rfl) (by kernel_rfl) (loops0 (by kernel_rfl)) (by rw [s40]), h⟩

/-! spec.l05Wide -/
theorem e44 (c : Nat) : runFn T0 none0 noL Try.f44 [.el (.sc (.fl .f32 c))] = (match (fcmp .lss .f32 c 0 : Bool) with | true => some ⟨[.el (.sc (.fl .f32 (fneg .f32 c)))], none⟩ | false => some ⟨[.el (.sc (.fl .f32 c))], none⟩) := by kernel_rfl
theorem s44 (c : Nat) : runFn T0 none0 noL Try.f44 [.el (.sc (.fl .f32 c))] = some ⟨[.el (.sc (.fl .f32 (mag c)))], none⟩ := by
  rw [e44]
  unfold mag
  cases fcmp .lss .f32 c 0 <;> rfl
theorem c44 (c : Nat) (k : List RV → R) (out : Out) (h : k [.el (.sc (.fl .f32 (mag c)))] = some out) : ∃ rs, Real Try.prog 44 ∧ COK Try.prog 44 [.el (.sc (.fl .f32 c))] rs ∧ k rs = some out := by
  exact ⟨_, real Try.func44 (by kernel_rfl), fn_ok tok0 (A := none0) (L := noL) (r := none) Try.func44 (by kernel_rfl) (by kernel_rfl) (loops0 (by kernel_rfl)) (by rw [s44]), h⟩

/-! spec.l05Product -/
def a45 : Ann := ann [(3, [0, 1, 5, 8, 9], [5])] [4] 0
def lp45 : St → (Ex → St → R) → R := fun s k => match s with
  | ⟨[(0, .fv (.vw (some 0) ⟨.f32, xs⟩)), (1, .fv (.vw (some 1) ⟨.f32, ys⟩)), (5, .fv (.el (.sc (.fl .f32 a)))), (8, .fv (.el (.sc (.int .i64 n)))), (9, .fv (.el (.sc (.int .i64 i))))], []⟩ => (match ((decide (n = (xs.length : Int)) && (decide (i = 0) && (Nat.ble xs.length big && Nat.ble xs.length ys.length))) : Bool) with | true => k (.exit 0) ⟨[(5, .fv (.el (.sc (.fl .f32 (rep (dotF xs ys) (xs.length) 0 (a : Nat))))))], []⟩ | false => none)
  | _ => none
def l45 : Loops := fun key s k => bif Nat.beq key 3 then lp45 s k else none
theorem st45 (xs : List Nat) (ys : List Nat) (a : Nat) (n : Int) (i : Int) (m : Nat) (k : Ex → St → R) : iterK a45 [0, 1, 5, 8, 9] [5] (codeK T0 a45 l45 Try.f45.ntmps (loopAt Try.f45 0)) (m + 1) ⟨[(0, .fv (.vw (some 0) ⟨.f32, xs⟩)), (1, .fv (.vw (some 1) ⟨.f32, ys⟩)), (5, .fv (.el (.sc (.fl .f32 a)))), (8, .fv (.el (.sc (.int .i64 n)))), (9, .fv (.el (.sc (.int .i64 i))))], []⟩ k = (match (decide ((i : Int) < n) : Bool) with | true => (match (decide (0 ≤ (i : Int) ∧ (i : Int) < (xs.length : Int)) && true : Bool) with | true => (match (xs : List Nat)[Int.toNat i]? with | some x1 => (match (decide (0 ≤ (i : Int) ∧ (i : Int) < (ys.length : Int)) && true : Bool) with | true => (match (ys : List Nat)[Int.toNat i]? with | some x2 => iterK a45 [0, 1, 5, 8, 9] [5] (codeK T0 a45 l45 Try.f45.ntmps (loopAt Try.f45 0)) m ⟨[(0, .fv (.vw (some 0) ⟨.f32, xs⟩)), (1, .fv (.vw (some 1) ⟨.f32, ys⟩)), (5, .fv (.el (.sc (.fl .f32 (fop .add .f32 a (fop .mul .f32 x1 x2)))))), (8, .fv (.el (.sc (.int .i64 n)))), (9, .fv (.el (.sc (.int .i64 (IntKind.i64.wrap (i + 1))))))], []⟩ k | none => none) | false => none) | none => none) | false => none) | false => k (.exit 0) ⟨[(5, .fv (.el (.sc (.fl .f32 a))))], []⟩) := by kernel_rfl
theorem ind45 (xs : List Nat) (ys : List Nat) (hx : (Nat.ble xs.length big) = true) (hl : (Nat.ble xs.length ys.length) = true) (k : Ex → St → R) : ∀ (m j : Nat) (a : Nat), 0 ≤ j → j + m = xs.length → iterK a45 [0, 1, 5, 8, 9] [5] (codeK T0 a45 l45 Try.f45.ntmps (loopAt Try.f45 0)) (m + 1) ⟨[(0, .fv (.vw (some 0) ⟨.f32, xs⟩)), (1, .fv (.vw (some 1) ⟨.f32, ys⟩)), (5, .fv (.el (.sc (.fl .f32 a)))), (8, .fv (.el (.sc (.int .i64 (xs.length : Int))))), (9, .fv (.el (.sc (.int .i64 (j : Int)))))], []⟩ k =
    k (.exit 0) ⟨[(5, .fv (.el (.sc (.fl .f32 (rep (dotF xs ys) m j (a : Nat))))))], []⟩ := by
  intro m
  induction m with
  | zero =>
    intro j a hlo hj
    have hx_ := big_le hx
    have hl_ := Nat.le_of_ble_eq_true hl
    have h1 : ¬ (((j : Int) < (xs.length : Int))) := by omega
    rw [st45]
    simp only [h1, rep, decide_false] <;> rfl
  | succ m ih =>
    intro j a hlo hj
    have hx_ := big_le hx
    have hl_ := Nat.le_of_ble_eq_true hl
    have h1 : ((j : Int) < (xs.length : Int)) := by omega
    have xb : (0 : Int) ≤ ((j : Nat) : Int) ∧ ((j : Nat) : Int) < (xs.length : Int) := by omega
    have xq : xs[Int.toNat ((j : Nat) : Int)]? = some (xs.getD (j) 0) := getI (by omega)
    have xp : xs[j]? = some (xs.getD (j) 0) := getI2 (by omega)
    have yl : j < ys.length := by omega
    have yb : (0 : Int) ≤ ((j : Nat) : Int) ∧ ((j : Nat) : Int) < (ys.length : Int) := by omega
    have yq : ys[Int.toNat ((j : Nat) : Int)]? = some (ys.getD (j) 0) := getI (by omega)
    have yp : ys[j]? = some (ys.getD (j) 0) := getI2 (by omega)
    have wn : IntKind.i64.wrap ((j : Int) + 1) = ((j + 1 : Nat) : Int) := wrapN (by omega) (by omega)
    rw [st45]
    simp only [h1, wn, xb, xq, xp, yl, yb, yq, yp, and_self, decide_true, Bool.and_true, Int.le_refl]
    exact ih (j + 1) _ (by omega) (by omega)

theorem lk45 : LOK T0 a45 l45 Try.f45.ntmps (loopAt Try.f45 0) := by
  intro ins outs hA s k out h
  have hA' : ([0, 1, 5, 8, 9], [5]) = (ins, outs) := Option.some.inj ((show a45.lp (firstRegion (loopAt Try.f45 0)) = some ([0, 1, 5, 8, 9], [5]) by kernel_rfl).symm.trans hA)
  cases hA'
  have hk : firstRegion (loopAt Try.f45 0) = 3 := by kernel_rfl
  rw [hk] at h
  change lp45 s k = some out at h
  unfold lp45 at h
  split at h
  · rename_i xs ys a n i
    cases hg : (decide (n = (xs.length : Int)) && (decide (i = 0) && (Nat.ble xs.length big && Nat.ble xs.length ys.length))) with
    | false => rw [hg] at h; cases h
    | true =>
      rw [hg] at h
      simp only [Bool.and_eq_true, decide_eq_true_eq] at hg
      obtain ⟨rfl, rfl, hx, hl⟩ := hg
      refine ⟨(xs.length) + 1, ?_⟩
      have hx_ := big_le hx
      have hl_ := Nat.le_of_ble_eq_true hl
      exact (ind45 xs ys hx hl k (xs.length) 0 a (by omega) (by omega)).trans h
  · cases h
theorem e45 (xs : List Nat) (ys : List Nat) : runFn T0 a45 l45 Try.f45 [.vw none ⟨.f32, xs⟩, .vw none ⟨.f32, ys⟩] = (match ((decide (((xs.length : Int)) = (xs.length : Int)) && (decide (0 = 0) && (Nat.ble xs.length big && Nat.ble xs.length ys.length))) : Bool) with | true => some ⟨[.el (.sc (.fl .f32 (rep (dotF xs ys) (xs.length) 0 (0 : Nat))))], none⟩ | false => none) := by kernel_rfl
theorem s45 (xs : List Nat) (ys : List Nat) (hg : (Nat.ble xs.length big && Nat.ble xs.length ys.length) = true) : runFn T0 a45 l45 Try.f45 [.vw none ⟨.f32, xs⟩, .vw none ⟨.f32, ys⟩] = some ⟨[.el (.sc (.fl .f32 (dotP xs ys)))], none⟩ := by
  rw [e45]
  have hg2 := hg
  rw [Bool.and_eq_true] at hg2
  simp only [hg2.1, hg2.2, Bool.and_self]
  rfl
theorem c45 (xs : List Nat) (ys : List Nat) (k : List RV → R) (out : Out) (h : (match (Nat.ble xs.length big && Nat.ble xs.length ys.length : Bool) with | true => k [.el (.sc (.fl .f32 (dotP xs ys)))] | false => none) = some out) : ∃ rs, Real Try.prog 45 ∧ COK Try.prog 45 [.vw none ⟨.f32, xs⟩, .vw none ⟨.f32, ys⟩] rs ∧ k rs = some out := by
  cases g0 : (Nat.ble xs.length big && Nat.ble xs.length ys.length : Bool) with
  | true =>
    rw [g0] at h
    exact ⟨_, real Try.func45 (by kernel_rfl), fn_ok tok0 (A := a45) (L := l45) (r := none) Try.func45 (by kernel_rfl) (by kernel_rfl) (loops1 (by kernel_rfl) lk45) (by rw [s45 _ _ g0]), h⟩
  | false =>
    rw [g0] at h
    cases h

/-! impl.magnitude -/
theorem e49 (c : Nat) : runFn T0 none0 noL Try.f49 [.el (.sc (.fl .f32 c))] = (match (fcmp .lss .f32 c 0 : Bool) with | true => some ⟨[.el (.sc (.fl .f32 (fneg .f32 c)))], none⟩ | false => some ⟨[.el (.sc (.fl .f32 c))], none⟩) := by kernel_rfl
theorem s49 (c : Nat) : runFn T0 none0 noL Try.f49 [.el (.sc (.fl .f32 c))] = some ⟨[.el (.sc (.fl .f32 (mag c)))], none⟩ := by
  rw [e49]
  unfold mag
  cases fcmp .lss .f32 c 0 <;> rfl
theorem c49 (c : Nat) (k : List RV → R) (out : Out) (h : k [.el (.sc (.fl .f32 (mag c)))] = some out) : ∃ rs, Real Try.prog 49 ∧ COK Try.prog 49 [.el (.sc (.fl .f32 c))] rs ∧ k rs = some out := by
  exact ⟨_, real Try.func49 (by kernel_rfl), fn_ok tok0 (A := none0) (L := noL) (r := none) Try.func49 (by kernel_rfl) (by kernel_rfl) (loops0 (by kernel_rfl)) (by rw [s49]), h⟩

/-! slices.Clone[[][]float32,[]float32] -/
theorem c50 (xss : List (List Nat)) (k : List RV → R) (out : Out) (h : (match (decide (xss.length ≤ 1099511627776) : Bool) with
    | true => k [.newv 23 0]
    | false => none) = some out) : ∃ rs, Real Try.prog 50 ∧ COK Try.prog 50 [.vv none .f32 xss] rs ∧ k rs = some out := by
  cases g0 : (decide (xss.length ≤ 1099511627776) : Bool) with
  | false =>
    rw [g0] at h
    cases h
  | true =>
    rw [g0] at h
    exact ⟨_, real Try.func50 (by kernel_rfl), clone_vv (kd := .f32) tok0 (t := 47) (e := 23) (e2 := 24) (fn := Try.f50) Try.func50 rfl rfl rfl (by kernel_rfl) (by kernel_rfl) ⟨rfl, rfl, rfl⟩ ⟨rfl, rfl, rfl⟩ ⟨rfl, rfl, rfl⟩ ⟨rfl, rfl, rfl⟩ ⟨rfl, rfl, rfl⟩ ⟨rfl, rfl, rfl⟩ ⟨rfl, rfl, rfl⟩ ⟨rfl, rfl, rfl⟩ (of_decide_eq_true g0), h⟩

/-! impl.IsFinite -/
theorem s56 (c : Nat) : runFn T0 none0 noL Try.f56 [.el (.sc (.fl .f32 c))] = some ⟨[.el (.sc (.bo (fin c)))], none⟩ := by kernel_rfl
theorem c56 (c : Nat) (k : List RV → R) (out : Out) (h : k [.el (.sc (.bo (fin c)))] = some out) : ∃ rs, Real Try.prog 56 ∧ COK Try.prog 56 [.el (.sc (.fl .f32 c))] rs ∧ k rs = some out := by
  exact ⟨_, real Try.func56 (by kernel_rfl), fn_ok tok0 (A := none0) (L := noL) (r := none) Try.func56 (by kernel_rfl) (by kernel_rfl) (loops0 (by kernel_rfl)) (by rw [s56]), h⟩

/-! spec.l01Narrow -/
theorem s62 (c : Nat) : runFn T0 none0 noL Try.f62 [.el (.sc (.fl .f64 c))] = (match fconv .f64 .f32 c with | some rn1 => some ⟨[.el (.sc (.fl .f32 rn1))], none⟩ | none => none) := by kernel_rfl
theorem c62 (c : Nat) (k : List RV → R) (out : Out) (h : (match fconv .f64 .f32 c with | some rn0 => k [.el (.sc (.fl .f32 rn0))] | none => none) = some out) : ∃ rs, Real Try.prog 62 ∧ COK Try.prog 62 [.el (.sc (.fl .f64 c))] rs ∧ k rs = some out := by
  cases g0 : (fconv .f64 .f32 c) with
  | some rn0 =>
    rw [g0] at h
    exact ⟨_, real Try.func62 (by kernel_rfl), fn_ok tok0 (A := none0) (L := noL) (r := none) Try.func62 (by kernel_rfl) (by kernel_rfl) (loops0 (by kernel_rfl)) (by rw [s62, g0]), h⟩
  | none =>
    rw [g0] at h
    cases h

/-! math.Float64frombits -/
theorem c69 (n : Int) (k : List RV → R) (out : Out) (h : k [.el (.sc (.fl .f64 (cn .f64 (Int.toNat n))))] = some out) : ∃ rs, CallOK Try.prog 69 [.el (.sc (.int .u64 n))] rs ∧ k rs = some out := by
  exact ⟨_, x_f64from Try.func69 (by kernel_rfl) (by kernel_rfl) (by kernel_rfl) (by kernel_rfl), h⟩

def S1 : SFn := fun f args k => match f, args with
  | 8, [.vw none ⟨.f32, xs⟩] => (match (Nat.ble xs.length big : Bool) with | true => k [.fresh 24 ⟨.f32, xs⟩] | false => none)
  | 16, [.el (.ag [(.fl .f32 lp), (.fl .f32 lh), (.fl .f32 lw), (.int .i64 lk)])] => k [.el (.ag [(.fl .f32 (((⟨lp, lh, lw, lk⟩ : LineV)).p)), (.fl .f32 (((⟨lp, lh, lw, lk⟩ : LineV)).h)), (.fl .f32 (((⟨lp, lh, lw, lk⟩ : LineV)).w)), (.int .i64 (((⟨lp, lh, lw, lk⟩ : LineV)).k))])]
  | 19, [.el (.sc (.fl .f64 a)), .el (.sc (.fl .f64 b))] => k [.el (.sc (.bo (sameF a b)))]
  | 22, [.el (.sc (.fl .f32 b)), .el (.sc (.fl .f32 d)), .el (.sc (.int .i64 i))] => k [.el (.sc (.fl .f32 (placeAt b d i)))]
  | 34, [.el (.sc (.fl .f32 c))] => k [.el (.sc (.bo (fin c)))]
  | 35, [.el (.sc (.int .i64 n)), .el (.sc (.int .i64 a)), .el (.sc (.int .i64 b))] => k [.el (.sc (.bo (within n a b)))]
  | 40, [.el (.sc (.int .i64 n)), .el (.sc (.int .i64 a)), .el (.sc (.int .i64 b))] => k [.el (.sc (.bo (within n a b)))]
  | 44, [.el (.sc (.fl .f32 c))] => k [.el (.sc (.fl .f32 (mag c)))]
  | 45, [.vw none ⟨.f32, xs⟩, .vw none ⟨.f32, ys⟩] => (match (Nat.ble xs.length big && Nat.ble xs.length ys.length : Bool) with | true => k [.el (.sc (.fl .f32 (dotP xs ys)))] | false => none)
  | 49, [.el (.sc (.fl .f32 c))] => k [.el (.sc (.fl .f32 (mag c)))]
  | 50, [.vv none .f32 xss] => (match (decide (xss.length ≤ 1099511627776) : Bool) with | true => k [.newv 23 0] | false => none)
  | 56, [.el (.sc (.fl .f32 c))] => k [.el (.sc (.bo (fin c)))]
  | 62, [.el (.sc (.fl .f64 c))] => (match fconv .f64 .f32 c with | some rn2 => k [.el (.sc (.fl .f32 rn2))] | none => none)
  | 69, [.el (.sc (.int .u64 n))] => k [.el (.sc (.fl .f64 (cn .f64 (Int.toNat n))))]
  | _, _ => S0 f args k
abbrev M1 : MFn := M0
def T1 : TT := tab.T S1 muts M1
theorem tok1 : TOK Try.prog T1 := by
  refine (tab_ok tabok).tok (fun f args k out h => ?_) (fun f vec args k out h => ?_)
  · change S1 f args k = some out at h
    unfold S1 at h
    split at h
    · exact (fun k out h => cok_call (c8 _ k out h)) k out h
    · exact (fun k out h => cok_call (c16 _ _ _ _ k out h)) k out h
    · exact (fun k out h => cok_call (c19 _ _ k out h)) k out h
    · exact (fun k out h => cok_call (c22 _ _ _ k out h)) k out h
    · exact (fun k out h => cok_call (c34 _ k out h)) k out h
    · exact (fun k out h => cok_call (c35 _ _ _ k out h)) k out h
    · exact (fun k out h => cok_call (c40 _ _ _ k out h)) k out h
    · exact (fun k out h => cok_call (c44 _ k out h)) k out h
    · exact (fun k out h => cok_call (c45 _ _ k out h)) k out h
    · exact (fun k out h => cok_call (c49 _ k out h)) k out h
    · exact (fun k out h => cok_call (c50 _ k out h)) k out h
    · exact (fun k out h => cok_call (c56 _ k out h)) k out h
    · exact (fun k out h => cok_call (c62 _ k out h)) k out h
    · exact c69 _ k out h
    · exact tok0.S f args k out h
  · exact tok0.M f vec args k out h

end Go.Sm.Ytpckpfbjhnllbaa
