/- What the functions hand back: level 4. -/
import Derived.Test.YtdnfgoolapikmaaD4
namespace Go.Sm.Ytdnfgoolapikmaa
open Go Go.Sm Go.RowKit Go.Proofs

/-! spec.GrowthWidth -/
def a33 : Ann := ann [(6, [0, 1, 2, 8, 9, 10], [9])] [6, 7] 0
def lp33 : St → (Ex → St → R) → R := fun s k => match s with
  | ⟨[(0, .fv (.el (.sc (.fl .f32 d)))), (1, .fv (.el (.sc (.fl .f32 w)))), (2, .fv (.el (.sc (.int .i64 n)))), (8, .fv (.el (.sc (.fl .f32 s)))), (9, .fv (.el (.sc (.fl .f32 a)))), (10, .fv (.el (.sc (.int .i64 i))))], []⟩ => (match ((decide (i = 0) && (atLeast0 d && decide (n ≤ 1099511627776))) : Bool) with
    | true => k (.exit 0) ⟨[(9, .fv (.el (.sc (.fl .f32 (rep (growF d w s) (n.toNat) 0 (a : Nat))))))], []⟩
    | false => none)
  | _ => none
def l33 : Loops := fun key s k => bif Nat.beq key 6 then lp33 s k else none
theorem st33 (d : Nat) (w : Nat) (n : Int) (s : Nat) (a : Nat) (i : Int) (m : Nat) (k : Ex → St → R) : iterK a33 [0, 1, 2, 8, 9, 10] [9] (codeK T4 a33 l33 Try.f33.ntmps (loopAt Try.f33 0)) (m + 1) ⟨[(0, .fv (.el (.sc (.fl .f32 d)))), (1, .fv (.el (.sc (.fl .f32 w)))), (2, .fv (.el (.sc (.int .i64 n)))), (8, .fv (.el (.sc (.fl .f32 s)))), (9, .fv (.el (.sc (.fl .f32 a)))), (10, .fv (.el (.sc (.int .i64 i))))], []⟩ k = (match (decide ((i : Int) < n) : Bool) with
  | true => (match (expOk (fop .sub .f32 0 (fop .mul .f32 (fop .quo .f32 (fop .sub .f32 (fop .mul .f32 s (fop .add .f32 (fint .f32 i) 1056964608)) 1082130432) w) (fop .quo .f32 (fop .sub .f32 (fop .mul .f32 s (fop .add .f32 (fint .f32 i) 1056964608)) 1082130432) w))) : Bool) with
    | true => (match (expOk (fop .sub .f32 0 (fop .mul .f32 d (expF (fop .sub .f32 0 (fop .mul .f32 (fop .quo .f32 (fop .sub .f32 (fop .mul .f32 s (fop .add .f32 (fint .f32 i) 1056964608)) 1082130432) w) (fop .quo .f32 (fop .sub .f32 (fop .mul .f32 s (fop .add .f32 (fint .f32 i) 1056964608)) 1082130432) w)))))) : Bool) with
      | true => iterK a33 [0, 1, 2, 8, 9, 10] [9] (codeK T4 a33 l33 Try.f33.ntmps (loopAt Try.f33 0)) m ⟨[(0, .fv (.el (.sc (.fl .f32 d)))), (1, .fv (.el (.sc (.fl .f32 w)))), (2, .fv (.el (.sc (.int .i64 n)))), (8, .fv (.el (.sc (.fl .f32 s)))), (9, .fv (.el (.sc (.fl .f32 (fop .add .f32 a (fop .mul .f32 (fop .sub .f32 1065353216 (expF (fop .sub .f32 0 (fop .mul .f32 d (expF (fop .sub .f32 0 (fop .mul .f32 (fop .quo .f32 (fop .sub .f32 (fop .mul .f32 s (fop .add .f32 (fint .f32 i) 1056964608)) 1082130432) w) (fop .quo .f32 (fop .sub .f32 (fop .mul .f32 s (fop .add .f32 (fint .f32 i) 1056964608)) 1082130432) w)))))))) s)))))), (10, .fv (.el (.sc (.int .i64 (IntKind.i64.wrap (i + 1))))))], []⟩ k
      | false => none)
    | false => none)
  | false => k (.exit 0) ⟨[(9, .fv (.el (.sc (.fl .f32 a))))], []⟩) := by kernel_rfl
theorem ind33 (d : Nat) (w : Nat) (n : Int) (s : Nat) (hd : (atLeast0 d) = true) (k : Ex → St → R) : ∀ (m j : Nat) (a : Nat), n ≤ 1099511627776 → 0 ≤ j → j + m = n.toNat → iterK a33 [0, 1, 2, 8, 9, 10] [9] (codeK T4 a33 l33 Try.f33.ntmps (loopAt Try.f33 0)) (m + 1) ⟨[(0, .fv (.el (.sc (.fl .f32 d)))), (1, .fv (.el (.sc (.fl .f32 w)))), (2, .fv (.el (.sc (.int .i64 n)))), (8, .fv (.el (.sc (.fl .f32 s)))), (9, .fv (.el (.sc (.fl .f32 a)))), (10, .fv (.el (.sc (.int .i64 (j : Int)))))], []⟩ k =
    k (.exit 0) ⟨[(9, .fv (.el (.sc (.fl .f32 (rep (growF d w s) m j (a : Nat))))))], []⟩ := by
  intro m
  induction m with
  | zero =>
    intro j a hs0 hlo hj
    have h1 : ¬ ((j : Int) < n) := by omega
    rw [st33]
    simp only [h1, rep, decide_false] <;> rfl
  | succ m ih =>
    intro j a hs0 hlo hj
    have h1 : (j : Int) < n := by omega
    have e1 : expOk (fop .sub .f32 0 (fop .mul .f32 (fop .quo .f32 (fop .sub .f32 (fop .mul .f32 s (fop .add .f32 (fint .f32 (j : Int)) 1056964608)) 1082130432) w) (fop .quo .f32 (fop .sub .f32 (fop .mul .f32 s (fop .add .f32 (fint .f32 (j : Int)) 1056964608)) 1082130432) w))) = true := neg_sq_ok _
    have e2 : expOk (fop .sub .f32 0 (fop .mul .f32 d (expF (fop .sub .f32 0 (fop .mul .f32 (fop .quo .f32 (fop .sub .f32 (fop .mul .f32 s (fop .add .f32 (fint .f32 (j : Int)) 1056964608)) 1082130432) w) (fop .quo .f32 (fop .sub .f32 (fop .mul .f32 s (fop .add .f32 (fint .f32 (j : Int)) 1056964608)) 1082130432) w)))))) = true := grow_ok hd s w j
    have w1 : IntKind.i64.wrap ((j : Int) + 1) = ((j + 1 : Nat) : Int) := wrapN (by omega) (by omega)
    have wn : IntKind.i64.wrap ((j : Int) + 1) = ((j + 1 : Nat) : Int) := wrapN (by omega) (by omega)
    rw [st33]
    simp only [h1, wn, e1, e2, w1, and_self, decide_true, Bool.and_true, Int.le_refl]
    exact ih (j + 1) _ (hs0) (by omega) (by omega)

theorem lk33 : LOK T4 a33 l33 Try.f33.ntmps (loopAt Try.f33 0) := by
  intro ins outs hA s k out h
  have hA' : ([0, 1, 2, 8, 9, 10], [9]) = (ins, outs) := Option.some.inj ((show a33.lp (firstRegion (loopAt Try.f33 0)) = some ([0, 1, 2, 8, 9, 10], [9]) by kernel_rfl).symm.trans hA)
  cases hA'
  have hk : firstRegion (loopAt Try.f33 0) = 6 := by kernel_rfl
  rw [hk] at h
  change lp33 s k = some out at h
  unfold lp33 at h
  split at h
  · rename_i d w n s a i
    cases hg : (decide (i = 0) && (atLeast0 d && decide (n ≤ 1099511627776))) with
    | false => rw [hg] at h; cases h
    | true =>
      rw [hg] at h
      simp only [Bool.and_eq_true, decide_eq_true_eq] at hg
      obtain ⟨rfl, hd, gs0⟩ := hg
      refine ⟨(n.toNat) + 1, ?_⟩
      exact (ind33 d w n s hd k (n.toNat) 0 a (by omega) (by omega) (by omega)).trans h
  · cases h
theorem e33 (d : Nat) (w : Nat) (n : Int) : runFn T4 a33 l33 Try.f33 [.el (.sc (.fl .f32 d)), .el (.sc (.fl .f32 w)), .el (.sc (.int .i64 n))] = (match (!(atLeast0 d) : Bool) with
  | true => some ⟨[.el (.sc (.fl .f32 0)), .el (.sc (.bo false))], none⟩
  | false => (match (!(above w) : Bool) with
    | true => some ⟨[.el (.sc (.fl .f32 0)), .el (.sc (.bo false))], none⟩
    | false => (match (!(within n 2 64) : Bool) with
      | true => some ⟨[.el (.sc (.fl .f32 0)), .el (.sc (.bo false))], none⟩
      | false => (match ((decide (0 = 0) && (atLeast0 d && decide (n ≤ 1099511627776))) : Bool) with
        | true => some ⟨[.el (.sc (.fl .f32 (numOf (rep (growF d w (fop .quo .f32 1090519040 (fint .f32 n))) (n.toNat) 0 (0 : Nat))))), .el (.sc (.bo (fin (rep (growF d w (fop .quo .f32 1090519040 (fint .f32 n))) (n.toNat) 0 (0 : Nat)))))], none⟩
        | false => none)))) := by kernel_rfl
theorem s33 (d : Nat) (w : Nat) (n : Int) : runFn T4 a33 l33 Try.f33 [.el (.sc (.fl .f32 d)), .el (.sc (.fl .f32 w)), .el (.sc (.int .i64 n))] = some ⟨[.el (.sc (.fl .f32 (orZero (growOk d w n) (growSum d w n)))), .el (.sc (.bo (growOk d w n)))], none⟩ := by
  rw [e33]
  unfold growOk
  cases h1 : atLeast0 d with
  | false => simp [h1, orZero]
  | true =>
    cases h2 : above w with
    | false => simp [h1, h2, orZero]
    | true =>
      cases h3 : within n 2 64 with
      | false => simp [h1, h2, h3, orZero]
      | true =>
        have hn : 2 ≤ n ∧ n ≤ 64 := by
          unfold within at h3
          simpa using h3
        have hn1 : n ≤ 1099511627776 := by omega
        have e : rep (growF d w (fop .quo .f32 1090519040 (fint .f32 n))) n.toNat 0 0 = growSum d w n := rfl
        simp only [h1, h2, h3, hn1, e, decide_true, Bool.not_true, Bool.true_and, Bool.and_true, List.all_cons, List.all_nil]
        unfold orZero numOf
        cases h4 : fin (growSum d w n) <;> simp [h1, h2, h4, hn1, e]
theorem c33 (d : Nat) (w : Nat) (n : Int) (k : List RV → R) (out : Out) (h : k [.el (.sc (.fl .f32 (orZero (growOk d w n) (growSum d w n)))), .el (.sc (.bo (growOk d w n)))] = some out) : ∃ rs, Real Try.prog 33 ∧ COK Try.prog 33 [.el (.sc (.fl .f32 d)), .el (.sc (.fl .f32 w)), .el (.sc (.int .i64 n))] rs ∧ k rs = some out := by
  exact ⟨_, real Try.func33 (by kernel_rfl), fn_ok tok4 (A := a33) (L := l33) (r := none) Try.func33 (by kernel_rfl) (by kernel_rfl) (loops1 (by kernel_rfl) lk33) (by rw [s33]), h⟩

/-! spec.ManySlits -/
theorem e48 (t : Nat) (n : Int) : runFn T4 none0 noL Try.f48 [.el (.sc (.fl .f32 t)), .el (.sc (.int .i64 n))] = (match (!(fin t) : Bool) with
  | true => some ⟨[.el (.sc (.fl .f32 0)), .el (.sc (.bo false))], none⟩
  | false => (match (!(within n 1 64) : Bool) with
    | true => some ⟨[.el (.sc (.fl .f32 0)), .el (.sc (.bo false))], none⟩
    | false => (match (fcmp .eql .f32 (sineF (fop .mul .f32 1056964608 t)) 0 : Bool) with
      | true => some ⟨[.el (.sc (.fl .f32 1065353216)), .el (.sc (.bo true))], none⟩
      | false => some ⟨[.el (.sc (.fl .f32 (numOf (fop .mul .f32 (fop .quo .f32 (sineF (fop .mul .f32 (fop .mul .f32 1056964608 t) (fint .f32 n))) (fop .mul .f32 (fint .f32 n) (sineF (fop .mul .f32 1056964608 t)))) (fop .quo .f32 (sineF (fop .mul .f32 (fop .mul .f32 1056964608 t) (fint .f32 n))) (fop .mul .f32 (fint .f32 n) (sineF (fop .mul .f32 1056964608 t)))))))), .el (.sc (.bo (fin (fop .mul .f32 (fop .quo .f32 (sineF (fop .mul .f32 (fop .mul .f32 1056964608 t) (fint .f32 n))) (fop .mul .f32 (fint .f32 n) (sineF (fop .mul .f32 1056964608 t)))) (fop .quo .f32 (sineF (fop .mul .f32 (fop .mul .f32 1056964608 t) (fint .f32 n))) (fop .mul .f32 (fint .f32 n) (sineF (fop .mul .f32 1056964608 t))))))))], none⟩))) := by kernel_rfl
theorem s48 (t : Nat) (n : Int) : runFn T4 none0 noL Try.f48 [.el (.sc (.fl .f32 t)), .el (.sc (.int .i64 n))] = some ⟨[.el (.sc (.fl .f32 (orZero (slitOk t n) (slitX t n)))), .el (.sc (.bo (slitOk t n)))], none⟩ := by
  rw [e48]
  unfold slitOk slitX slitQ slitS
  cases h1 : fin t with
  | false => simp [orZero]
  | true =>
    cases h2 : within n 1 64 with
    | false => simp [orZero]
    | true =>
      generalize sineF (fop .mul .f32 1056964608 t) = s
      cases h3 : fcmp .eql .f32 s 0 with
      | true => simp [h3, orZero]
      | false =>
        generalize fop .quo .f32 (sineF (fop .mul .f32 (fop .mul .f32 1056964608 t) (fint .f32 n))) (fop .mul .f32 (fint .f32 n) s) = q
        cases h4 : fin (fop .mul .f32 q q) <;> simp [h3, h4, orZero, numOf]
theorem c48 (t : Nat) (n : Int) (k : List RV → R) (out : Out) (h : k [.el (.sc (.fl .f32 (orZero (slitOk t n) (slitX t n)))), .el (.sc (.bo (slitOk t n)))] = some out) : ∃ rs, Real Try.prog 48 ∧ COK Try.prog 48 [.el (.sc (.fl .f32 t)), .el (.sc (.int .i64 n))] rs ∧ k rs = some out := by
  exact ⟨_, real Try.func48 (by kernel_rfl), fn_ok tok4 (A := none0) (L := noL) (r := none) Try.func48 (by kernel_rfl) (by kernel_rfl) (loops0 (by kernel_rfl)) (by rw [s48]), h⟩

/-! impl.areRotor -/
theorem e75 (xs : List Nat) : runFn T4 none0 noL Try.f75 [.vw none ⟨.f32, xs⟩] = (match (Nat.ble xs.length big : Bool) with
  | true => some ⟨[.el (.sc (.bo (!(xs.any notRot))))], none⟩
  | false => none) := by kernel_rfl
theorem s75 (xs : List Nat) : runFn T4 none0 noL Try.f75 [.vw none ⟨.f32, xs⟩] = (match (Nat.ble xs.length big : Bool) with
  | true => some ⟨[.el (.sc (.bo (xs.all atLeast0)))], none⟩
  | false => none) := by
  rw [e75]
  rw [notRot_fun, not_any]
theorem c75 (xs : List Nat) (k : List RV → R) (out : Out) (h : (match (Nat.ble xs.length big : Bool) with
  | true => k [.el (.sc (.bo (xs.all atLeast0)))]
  | false => none) = some out) : ∃ rs, Real Try.prog 75 ∧ COK Try.prog 75 [.vw none ⟨.f32, xs⟩] rs ∧ k rs = some out := by
  cases g0 : (Nat.ble xs.length big : Bool) with
  | true =>
    rw [g0] at h
    exact ⟨_, real Try.func75 (by kernel_rfl), fn_ok tok4 (A := none0) (L := noL) (r := none) Try.func75 (by kernel_rfl) (by kernel_rfl) (loops0 (by kernel_rfl)) (by rw [s75, g0]), h⟩
  | false =>
    rw [g0] at h
    cases h

/-! impl.arePositive -/
theorem e76 (xs : List Nat) : runFn T4 none0 noL Try.f76 [.vw none ⟨.f32, xs⟩] = (match (Nat.ble xs.length big : Bool) with
  | true => some ⟨[.el (.sc (.bo (!(xs.any notPos))))], none⟩
  | false => none) := by kernel_rfl
theorem s76 (xs : List Nat) : runFn T4 none0 noL Try.f76 [.vw none ⟨.f32, xs⟩] = (match (Nat.ble xs.length big : Bool) with
  | true => some ⟨[.el (.sc (.bo (xs.all above)))], none⟩
  | false => none) := by
  rw [e76]
  rw [notPos_fun, not_any]
theorem c76 (xs : List Nat) (k : List RV → R) (out : Out) (h : (match (Nat.ble xs.length big : Bool) with
  | true => k [.el (.sc (.bo (xs.all above)))]
  | false => none) = some out) : ∃ rs, Real Try.prog 76 ∧ COK Try.prog 76 [.vw none ⟨.f32, xs⟩] rs ∧ k rs = some out := by
  cases g0 : (Nat.ble xs.length big : Bool) with
  | true =>
    rw [g0] at h
    exact ⟨_, real Try.func76 (by kernel_rfl), fn_ok tok4 (A := none0) (L := noL) (r := none) Try.func76 (by kernel_rfl) (by kernel_rfl) (loops0 (by kernel_rfl)) (by rw [s76, g0]), h⟩
  | false =>
    rw [g0] at h
    cases h

/-! impl.SineTurns -/
theorem e89 (x : Nat) : runFn T4 none0 noL Try.f89 [.el (.sc (.fl .f32 x))] = (match (!(fin x) : Bool) with
  | true => (match fconv .f64 .f32 (nanOf .f64) with
    | some r1 => some ⟨[.el (.sc (.fl .f32 r1))], none⟩
    | none => none)
  | false => (match (!isN .f64 (wid x) : Bool) with
    | true => (match (fcmp .geq .f64 (fabs (wid x)) big52 : Bool) with
      | true => some ⟨[.el (.sc (.fl .f32 0))], none⟩
      | false => (match fconv .f64 .f32 (sinCore (part (wid x))) with
        | some r2 => some ⟨[.el (.sc (.fl .f32 r2))], none⟩
        | none => none))
    | false => none)) := by kernel_rfl
theorem s89 (x : Nat) : runFn T4 none0 noL Try.f89 [.el (.sc (.fl .f32 x))] = some ⟨[.el (.sc (.fl .f32 (sineF x)))], none⟩ := by
  rw [e89]
  cases hf : fin x with
  | false =>
    rw [sine_inf hf]
    kernel_rfl
  | true =>
    have hn : isNum .f64 (wid x) = true := by rw [wid_isNum]; exact hf
    have hN := isNum_notN hn
    have ha := huge_abs hn
    rw [ha, hN]
    cases hh : huge (wid x) with
    | true => rw [sine_huge hf hh]; rfl
    | false => rw [sine_part hf hh]; rfl
theorem c89 (x : Nat) (k : List RV → R) (out : Out) (h : k [.el (.sc (.fl .f32 (sineF x)))] = some out) : ∃ rs, Real Try.prog 89 ∧ COK Try.prog 89 [.el (.sc (.fl .f32 x))] rs ∧ k rs = some out := by
  exact ⟨_, real Try.func89 (by kernel_rfl), fn_ok tok4 (A := none0) (L := noL) (r := none) Try.func89 (by kernel_rfl) (by kernel_rfl) (loops0 (by kernel_rfl)) (by rw [s89]), h⟩

def S5 : SFn := fun f args k => match f, args with
  | 33, [.el (.sc (.fl .f32 d)), .el (.sc (.fl .f32 w)), .el (.sc (.int .i64 n))] => k [.el (.sc (.fl .f32 (orZero (growOk d w n) (growSum d w n)))), .el (.sc (.bo (growOk d w n)))]
  | 48, [.el (.sc (.fl .f32 t)), .el (.sc (.int .i64 n))] => k [.el (.sc (.fl .f32 (orZero (slitOk t n) (slitX t n)))), .el (.sc (.bo (slitOk t n)))]
  | 75, [.vw none ⟨.f32, xs⟩] => (match (Nat.ble xs.length big : Bool) with
    | true => k [.el (.sc (.bo (xs.all atLeast0)))]
    | false => none)
  | 76, [.vw none ⟨.f32, xs⟩] => (match (Nat.ble xs.length big : Bool) with
    | true => k [.el (.sc (.bo (xs.all above)))]
    | false => none)
  | 89, [.el (.sc (.fl .f32 x))] => k [.el (.sc (.fl .f32 (sineF x)))]
  | _, _ => S4 f args k
abbrev M5 : MFn := M4
def T5 : TT := tab.T S5 muts M5
theorem tok5 : TOK Try.prog T5 := by
  refine (tab_ok tabok).tok (fun f args k out h => ?_) (fun f vec args k out h => ?_)
  · change S5 f args k = some out at h
    unfold S5 at h
    split at h
    · exact (fun k out h => cok_call (c33 _ _ _ k out h)) k out h
    · exact (fun k out h => cok_call (c48 _ _ k out h)) k out h
    · exact (fun k out h => cok_call (c75 _ k out h)) k out h
    · exact (fun k out h => cok_call (c76 _ k out h)) k out h
    · exact (fun k out h => cok_call (c89 _ k out h)) k out h
    · exact tok4.S f args k out h
  · exact tok4.M f vec args k out h

end Go.Sm.Ytdnfgoolapikmaa
