/- What the functions hand back: level 0. -/
import Derived.Test.YtdeplgocckdbiaaD0
namespace Go.Sm.Ytdeplgocckdbiaa
open Go Go.Sm Go.RowKit Go.Proofs

/-! spec.l00In -/
theorem e76 (n : Int) (a : Int) (b : Int) : runFn T0 none0 noL Try.f76 [.el (.sc (.int .i64 n)), .el (.sc (.int .i64 a)), .el (.sc (.int .i64 b))] = (match (decide ((n : Int) ≥ a) : Bool) with
  | true => some ⟨[.el (.sc (.bo (decide ((n : Int) ≤ b))))], none⟩
  | false => some ⟨[.el (.sc (.bo false))], none⟩) := by kernel_rfl
theorem s76 (n : Int) (a : Int) (b : Int) : runFn T0 none0 noL Try.f76 [.el (.sc (.int .i64 n)), .el (.sc (.int .i64 a)), .el (.sc (.int .i64 b))] = some ⟨[.el (.sc (.bo (within n a b)))], none⟩ := by
  rw [e76]
  unfold within
  cases decide (n ≥ a) <;> rfl
theorem c76 (n : Int) (a : Int) (b : Int) (k : List RV → R) (out : Out) (h : k [.el (.sc (.bo (within n a b)))] = some out) : ∃ rs, Real Try.prog 76 ∧ COK Try.prog 76 [.el (.sc (.int .i64 n)), .el (.sc (.int .i64 a)), .el (.sc (.int .i64 b))] rs ∧ k rs = some out := by
  exact ⟨_, real Try.func76 (by kernel_rfl), fn_ok tok0 (A := none0) (L := noL) (r := none) Try.func76 (by kernel_rfl) (by kernel_rfl) (loops0 (by kernel_rfl)) (by rw [s76]), h⟩

/-! impl.within -/
theorem e80 (n : Int) (a : Int) (b : Int) : runFn T0 none0 noL Try.f80 [.el (.sc (.int .i64 n)), .el (.sc (.int .i64 a)), .el (.sc (.int .i64 b))] = (match (decide ((n : Int) ≥ a) : Bool) with
  | true => some ⟨[.el (.sc (.bo (decide ((n : Int) ≤ b))))], none⟩
  | false => some ⟨[.el (.sc (.bo false))], none⟩) := by kernel_rfl
theorem s80 (n : Int) (a : Int) (b : Int) : runFn T0 none0 noL Try.f80 [.el (.sc (.int .i64 n)), .el (.sc (.int .i64 a)), .el (.sc (.int .i64 b))] = some ⟨[.el (.sc (.bo (within n a b)))], none⟩ := by
  rw [e80]
  unfold within
  cases decide (n ≥ a) <;> rfl
theorem c80 (n : Int) (a : Int) (b : Int) (k : List RV → R) (out : Out) (h : k [.el (.sc (.bo (within n a b)))] = some out) : ∃ rs, Real Try.prog 80 ∧ COK Try.prog 80 [.el (.sc (.int .i64 n)), .el (.sc (.int .i64 a)), .el (.sc (.int .i64 b))] rs ∧ k rs = some out := by
  exact ⟨_, real Try.func80 (by kernel_rfl), fn_ok tok0 (A := none0) (L := noL) (r := none) Try.func80 (by kernel_rfl) (by kernel_rfl) (loops0 (by kernel_rfl)) (by rw [s80]), h⟩

/-! spec.l01Finite -/
theorem s92 (c : Nat) : runFn T0 none0 noL Try.f92 [.el (.sc (.fl .f32 c))] = some ⟨[.el (.sc (.bo (fin c)))], none⟩ := by kernel_rfl
theorem c92 (c : Nat) (k : List RV → R) (out : Out) (h : k [.el (.sc (.bo (fin c)))] = some out) : ∃ rs, Real Try.prog 92 ∧ COK Try.prog 92 [.el (.sc (.fl .f32 c))] rs ∧ k rs = some out := by
  exact ⟨_, real Try.func92 (by kernel_rfl), fn_ok tok0 (A := none0) (L := noL) (r := none) Try.func92 (by kernel_rfl) (by kernel_rfl) (loops0 (by kernel_rfl)) (by rw [s92]), h⟩

/-! impl.IsFinite -/
theorem s97 (c : Nat) : runFn T0 none0 noL Try.f97 [.el (.sc (.fl .f32 c))] = some ⟨[.el (.sc (.bo (fin c)))], none⟩ := by kernel_rfl
theorem c97 (c : Nat) (k : List RV → R) (out : Out) (h : k [.el (.sc (.bo (fin c)))] = some out) : ∃ rs, Real Try.prog 97 ∧ COK Try.prog 97 [.el (.sc (.fl .f32 c))] rs ∧ k rs = some out := by
  exact ⟨_, real Try.func97 (by kernel_rfl), fn_ok tok0 (A := none0) (L := noL) (r := none) Try.func97 (by kernel_rfl) (by kernel_rfl) (loops0 (by kernel_rfl)) (by rw [s97]), h⟩

/-! spec.l05Place -/
theorem s114 (b : Nat) (d : Nat) (i : Int) : runFn T0 none0 noL Try.f114 [.el (.sc (.fl .f32 b)), .el (.sc (.fl .f32 d)), .el (.sc (.int .i64 i))] = some ⟨[.el (.sc (.fl .f32 (placeAt b d i)))], none⟩ := by kernel_rfl
theorem c114 (b : Nat) (d : Nat) (i : Int) (k : List RV → R) (out : Out) (h : k [.el (.sc (.fl .f32 (placeAt b d i)))] = some out) : ∃ rs, Real Try.prog 114 ∧ COK Try.prog 114 [.el (.sc (.fl .f32 b)), .el (.sc (.fl .f32 d)), .el (.sc (.int .i64 i))] rs ∧ k rs = some out := by
  exact ⟨_, real Try.func114 (by kernel_rfl), fn_ok tok0 (A := none0) (L := noL) (r := none) Try.func114 (by kernel_rfl) (by kernel_rfl) (loops0 (by kernel_rfl)) (by rw [s114]), h⟩

/-! impl.sum -/
def a129 : Ann := ann [(3, [3, 6, 7, 8], [3])] [2] 0
def lp129 : St → (Ex → St → R) → R := fun s k => match s with
  | ⟨[(3, .fv (.el (.sc (.fl .f32 a)))), (6, .fv (.vw (some 0) ⟨.f32, xs⟩)), (7, .fv (.el (.sc (.int .i64 n)))), (8, .fv (.el (.sc (.int .i64 i))))], []⟩ => (match ((decide (n = (xs.length : Int)) && (decide (i = 0) && Nat.ble xs.length big)) : Bool) with
    | true => k (.exit 0) ⟨[(3, .fv (.el (.sc (.fl .f32 (rep (fun j a => fop .add .f32 a (xs.getD j 0)) (xs.length) 0 (a : Nat))))))], []⟩
    | false => none)
  | _ => none
def l129 : Loops := fun key s k => bif Nat.beq key 3 then lp129 s k else none
theorem st129 (a : Nat) (xs : List Nat) (n : Int) (i : Int) (m : Nat) (k : Ex → St → R) : iterK a129 [3, 6, 7, 8] [3] (codeK T0 a129 l129 Try.f129.ntmps (loopAt Try.f129 0)) (m + 1) ⟨[(3, .fv (.el (.sc (.fl .f32 a)))), (6, .fv (.vw (some 0) ⟨.f32, xs⟩)), (7, .fv (.el (.sc (.int .i64 n)))), (8, .fv (.el (.sc (.int .i64 i))))], []⟩ k = (match (decide ((i : Int) < n) : Bool) with
  | true => (match (decide (0 ≤ (i : Int) ∧ (i : Int) < (xs.length : Int)) && true : Bool) with
    | true => (match (xs : List Nat)[Int.toNat i]? with
      | some x1 => iterK a129 [3, 6, 7, 8] [3] (codeK T0 a129 l129 Try.f129.ntmps (loopAt Try.f129 0)) m ⟨[(3, .fv (.el (.sc (.fl .f32 (fop .add .f32 a x1))))), (6, .fv (.vw (some 0) ⟨.f32, xs⟩)), (7, .fv (.el (.sc (.int .i64 n)))), (8, .fv (.el (.sc (.int .i64 (IntKind.i64.wrap (i + 1))))))], []⟩ k
      | none => none)
    | false => none)
  | false => k (.exit 0) ⟨[(3, .fv (.el (.sc (.fl .f32 a))))], []⟩) := by kernel_rfl
theorem ind129 (xs : List Nat) (hx : (Nat.ble xs.length big) = true) (k : Ex → St → R) : ∀ (m j : Nat) (a : Nat), 0 ≤ j → j + m = xs.length → iterK a129 [3, 6, 7, 8] [3] (codeK T0 a129 l129 Try.f129.ntmps (loopAt Try.f129 0)) (m + 1) ⟨[(3, .fv (.el (.sc (.fl .f32 a)))), (6, .fv (.vw (some 0) ⟨.f32, xs⟩)), (7, .fv (.el (.sc (.int .i64 (xs.length : Int))))), (8, .fv (.el (.sc (.int .i64 (j : Int)))))], []⟩ k =
    k (.exit 0) ⟨[(3, .fv (.el (.sc (.fl .f32 (rep (fun j a => fop .add .f32 a (xs.getD j 0)) m j (a : Nat))))))], []⟩ := by
  intro m
  induction m with
  | zero =>
    intro j a hlo hj
    have hx_ := big_le hx
    have h1 : ¬ (((j : Int) < (xs.length : Int))) := by omega
    rw [st129]
    simp only [h1, rep, decide_false] <;> rfl
  | succ m ih =>
    intro j a hlo hj
    have hx_ := big_le hx
    have h1 : ((j : Int) < (xs.length : Int)) := by omega
    have xb : (0 : Int) ≤ ((j : Nat) : Int) ∧ ((j : Nat) : Int) < (xs.length : Int) := by omega
    have xq : xs[Int.toNat ((j : Nat) : Int)]? = some (xs.getD (j) 0) := getI (by omega)
    have xp : xs[j]? = some (xs.getD (j) 0) := getI2 (by omega)
    have wn : IntKind.i64.wrap ((j : Int) + 1) = ((j + 1 : Nat) : Int) := wrapN (by omega) (by omega)
    rw [st129]
    simp only [h1, wn, xb, xq, xp, and_self, decide_true, Bool.and_true, Int.le_refl]
    exact ih (j + 1) _ (by omega) (by omega)

theorem lk129 : LOK T0 a129 l129 Try.f129.ntmps (loopAt Try.f129 0) := by
  intro ins outs hA s k out h
  have hA' : ([3, 6, 7, 8], [3]) = (ins, outs) := Option.some.inj ((show a129.lp (firstRegion (loopAt Try.f129 0)) = some ([3, 6, 7, 8], [3]) by kernel_rfl).symm.trans hA)
  cases hA'
  have hk : firstRegion (loopAt Try.f129 0) = 3 := by kernel_rfl
  rw [hk] at h
  change lp129 s k = some out at h
  unfold lp129 at h
  split at h
  · rename_i a xs n i
    cases hg : (decide (n = (xs.length : Int)) && (decide (i = 0) && Nat.ble xs.length big)) with
    | false => rw [hg] at h; cases h
    | true =>
      rw [hg] at h
      simp only [Bool.and_eq_true, decide_eq_true_eq] at hg
      obtain ⟨rfl, rfl, hx⟩ := hg
      refine ⟨(xs.length) + 1, ?_⟩
      have hx_ := big_le hx
      exact (ind129 xs hx k (xs.length) 0 a (by omega) (by omega)).trans h
  · cases h
theorem e129 (xs : List Nat) : runFn T0 a129 l129 Try.f129 [.vw none ⟨.f32, xs⟩] = (match ((decide (((xs.length : Int)) = (xs.length : Int)) && (decide (0 = 0) && Nat.ble xs.length big)) : Bool) with
  | true => some ⟨[.el (.sc (.fl .f32 (rep (fun j a => fop .add .f32 a (xs.getD j 0)) (xs.length) 0 (0 : Nat))))], none⟩
  | false => none) := by kernel_rfl
theorem s129 (xs : List Nat) : runFn T0 a129 l129 Try.f129 [.vw none ⟨.f32, xs⟩] = (match (Nat.ble xs.length big : Bool) with
  | true => some ⟨[.el (.sc (.fl .f32 (sumF xs)))], none⟩
  | false => none) := by
  rw [e129]
  cases h : Nat.ble xs.length big with
  | false => simp
  | true =>
    have e := rep_list 0 (fop .add .f32) xs xs.length 0 0 (by omega)
    rw [List.drop_zero] at e
    simp [-List.getD_eq_getElem?_getD, e, sumF]
theorem c129 (xs : List Nat) (k : List RV → R) (out : Out) (h : (match (Nat.ble xs.length big : Bool) with
  | true => k [.el (.sc (.fl .f32 (sumF xs)))]
  | false => none) = some out) : ∃ rs, Real Try.prog 129 ∧ COK Try.prog 129 [.vw none ⟨.f32, xs⟩] rs ∧ k rs = some out := by
  cases g0 : (Nat.ble xs.length big : Bool) with
  | true =>
    rw [g0] at h
    exact ⟨_, real Try.func129 (by kernel_rfl), fn_ok tok0 (A := a129) (L := l129) (r := none) Try.func129 (by kernel_rfl) (by kernel_rfl) (loops1 (by kernel_rfl) lk129) (by rw [s129, g0]), h⟩
  | false =>
    rw [g0] at h
    cases h

/-! laws.same32 -/
theorem e130 (a : Nat) (b : Nat) : runFn T0 none0 noL Try.f130 [.el (.sc (.fl .f32 a)), .el (.sc (.fl .f32 b))] = (match (fcmp .eql .f32 a b : Bool) with
  | true => (match (fcmp .neq .f32 a 0 : Bool) with
    | true => some ⟨[.el (.sc (.bo true))], none⟩
    | false => (match (fcmp .eql .f32 (fop .quo .f32 1065353216 a) (fop .quo .f32 1065353216 b) : Bool) with
      | true => some ⟨[.el (.sc (.bo true))], none⟩
      | false => (match (fcmp .neq .f32 a a : Bool) with
        | true => some ⟨[.el (.sc (.bo (fcmp .neq .f32 b b)))], none⟩
        | false => some ⟨[.el (.sc (.bo false))], none⟩)))
  | false => (match (fcmp .neq .f32 a a : Bool) with
    | true => some ⟨[.el (.sc (.bo (fcmp .neq .f32 b b)))], none⟩
    | false => some ⟨[.el (.sc (.bo false))], none⟩)) := by kernel_rfl
theorem s130 (a : Nat) (b : Nat) : runFn T0 none0 noL Try.f130 [.el (.sc (.fl .f32 a)), .el (.sc (.fl .f32 b))] = some ⟨[.el (.sc (.bo (same32 a b)))], none⟩ := by
  rw [e130]
  unfold same32
  cases fcmp .eql .f32 a b <;> cases fcmp .neq .f32 a 0 <;> cases fcmp .eql .f32 (fop .quo .f32 1065353216 a) (fop .quo .f32 1065353216 b) <;> cases fcmp .neq .f32 a a <;> cases fcmp .neq .f32 b b <;> rfl
theorem c130 (a : Nat) (b : Nat) (k : List RV → R) (out : Out) (h : k [.el (.sc (.bo (same32 a b)))] = some out) : ∃ rs, Real Try.prog 130 ∧ COK Try.prog 130 [.el (.sc (.fl .f32 a)), .el (.sc (.fl .f32 b))] rs ∧ k rs = some out := by
  exact ⟨_, real Try.func130 (by kernel_rfl), fn_ok tok0 (A := none0) (L := noL) (r := none) Try.func130 (by kernel_rfl) (by kernel_rfl) (loops0 (by kernel_rfl)) (by rw [s130]), h⟩

/-! impl.magnitude -/
theorem e137 (c : Nat) : runFn T0 none0 noL Try.f137 [.el (.sc (.fl .f32 c))] = (match (fcmp .lss .f32 c 0 : Bool) with
  | true => some ⟨[.el (.sc (.fl .f32 (fneg .f32 c)))], none⟩
  | false => some ⟨[.el (.sc (.fl .f32 c))], none⟩) := by kernel_rfl
theorem s137 (c : Nat) : runFn T0 none0 noL Try.f137 [.el (.sc (.fl .f32 c))] = some ⟨[.el (.sc (.fl .f32 (mag c)))], none⟩ := by
  rw [e137]
  unfold mag
  cases fcmp .lss .f32 c 0 <;> rfl
theorem c137 (c : Nat) (k : List RV → R) (out : Out) (h : k [.el (.sc (.fl .f32 (mag c)))] = some out) : ∃ rs, Real Try.prog 137 ∧ COK Try.prog 137 [.el (.sc (.fl .f32 c))] rs ∧ k rs = some out := by
  exact ⟨_, real Try.func137 (by kernel_rfl), fn_ok tok0 (A := none0) (L := noL) (r := none) Try.func137 (by kernel_rfl) (by kernel_rfl) (loops0 (by kernel_rfl)) (by rw [s137]), h⟩

/-! spec.l01Narrow -/
theorem s148 (c : Nat) : runFn T0 none0 noL Try.f148 [.el (.sc (.fl .f64 c))] = (match fconv .f64 .f32 c with
  | some rn1 => some ⟨[.el (.sc (.fl .f32 rn1))], none⟩
  | none => none) := by kernel_rfl
theorem c148 (c : Nat) (k : List RV → R) (out : Out) (h : (match fconv .f64 .f32 c with
  | some rn0 => k [.el (.sc (.fl .f32 rn0))]
  | none => none) = some out) : ∃ rs, Real Try.prog 148 ∧ COK Try.prog 148 [.el (.sc (.fl .f64 c))] rs ∧ k rs = some out := by
  cases g0 : (fconv .f64 .f32 c) with
  | some rn0 =>
    rw [g0] at h
    exact ⟨_, real Try.func148 (by kernel_rfl), fn_ok tok0 (A := none0) (L := noL) (r := none) Try.func148 (by kernel_rfl) (by kernel_rfl) (loops0 (by kernel_rfl)) (by rw [s148, g0]), h⟩
  | none =>
    rw [g0] at h
    cases h

/-! math.Float64frombits -/
theorem c185 (n : Int) (k : List RV → R) (out : Out) (h : k [.el (.sc (.fl .f64 (cn .f64 (Int.toNat n))))] = some out) : ∃ rs, CallOK Try.prog 185 [.el (.sc (.int .u64 n))] rs ∧ k rs = some out := by
  exact ⟨_, x_f64from Try.func185 (by kernel_rfl) (by kernel_rfl) (by kernel_rfl) (by kernel_rfl), h⟩

def S1 : SFn := fun f args k => match f, args with
  | 76, [.el (.sc (.int .i64 n)), .el (.sc (.int .i64 a)), .el (.sc (.int .i64 b))] => k [.el (.sc (.bo (within n a b)))]
  | 80, [.el (.sc (.int .i64 n)), .el (.sc (.int .i64 a)), .el (.sc (.int .i64 b))] => k [.el (.sc (.bo (within n a b)))]
  | 92, [.el (.sc (.fl .f32 c))] => k [.el (.sc (.bo (fin c)))]
  | 97, [.el (.sc (.fl .f32 c))] => k [.el (.sc (.bo (fin c)))]
  | 114, [.el (.sc (.fl .f32 b)), .el (.sc (.fl .f32 d)), .el (.sc (.int .i64 i))] => k [.el (.sc (.fl .f32 (placeAt b d i)))]
  | 129, [.vw none ⟨.f32, xs⟩] => (match (Nat.ble xs.length big : Bool) with
    | true => k [.el (.sc (.fl .f32 (sumF xs)))]
    | false => none)
  | 130, [.el (.sc (.fl .f32 a)), .el (.sc (.fl .f32 b))] => k [.el (.sc (.bo (same32 a b)))]
  | 137, [.el (.sc (.fl .f32 c))] => k [.el (.sc (.fl .f32 (mag c)))]
  | 148, [.el (.sc (.fl .f64 c))] => (match fconv .f64 .f32 c with
    | some rn2 => k [.el (.sc (.fl .f32 rn2))]
    | none => none)
  | 185, [.el (.sc (.int .u64 n))] => k [.el (.sc (.fl .f64 (cn .f64 (Int.toNat n))))]
  | _, _ => S0 f args k
abbrev M1 : MFn := M0
def T1 : TT := tab.T S1 muts M1
theorem tok1 : TOK Try.prog T1 := by
  refine (tab_ok tabok).tok (fun f args k out h => ?_) (fun f vec args k out h => ?_)
  · change S1 f args k = some out at h
    unfold S1 at h
    split at h
    · exact (fun k out h => cok_call (c76 _ _ _ k out h)) k out h
    · exact (fun k out h => cok_call (c80 _ _ _ k out h)) k out h
    · exact (fun k out h => cok_call (c92 _ k out h)) k out h
    · exact (fun k out h => cok_call (c97 _ k out h)) k out h
    · exact (fun k out h => cok_call (c114 _ _ _ k out h)) k out h
    · exact (fun k out h => cok_call (c129 _ k out h)) k out h
    · exact (fun k out h => cok_call (c130 _ _ k out h)) k out h
    · exact (fun k out h => cok_call (c137 _ k out h)) k out h
    · exact (fun k out h => cok_call (c148 _ k out h)) k out h
    · exact c185 _ k out h
    · exact tok0.S f args k out h
  · exact tok0.M f vec args k out h

end Go.Sm.Ytdeplgocckdbiaa
