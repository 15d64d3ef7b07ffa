/- What the functions hand back: level 5. -/
import Derived.Test.YtdnfgoolapikmaaD5
namespace Go.Sm.Ytdnfgoolapikmaa
open Go Go.Sm Go.RowKit Go.Proofs

/-! impl.GrowthWidth -/
def a34 : Ann := ann [(6, [0, 1, 8, 9, 30, 31], [9])] [6, 7] 0
def lp34 : St → (Ex → St → R) → R := fun s k => match s with
  | ⟨[(0, .fv (.el (.sc (.fl .f32 d)))), (1, .fv (.el (.sc (.fl .f32 w)))), (8, .fv (.el (.sc (.fl .f32 s)))), (9, .fv (.el (.sc (.fl .f32 a)))), (30, .fv (.el (.sc (.int .i64 n)))), (31, .fv (.el (.sc (.int .i64 i))))], []⟩ => (match ((decide (i = 0) && (atLeast0 d && decide (n ≤ 1099511627776))) : Bool) with
    | true => k (.exit 0) ⟨[(9, .fv (.el (.sc (.fl .f32 (rep (growF d w s) (n.toNat) 0 (a : Nat))))))], []⟩
    | false => none)
  | _ => none
def l34 : Loops := fun key s k => bif Nat.beq key 6 then lp34 s k else none
theorem st34 (d : Nat) (w : Nat) (s : Nat) (a : Nat) (n : Int) (i : Int) (m : Nat) (k : Ex → St → R) : iterK a34 [0, 1, 8, 9, 30, 31] [9] (codeK T5 a34 l34 Try.f34.ntmps (loopAt Try.f34 0)) (m + 1) ⟨[(0, .fv (.el (.sc (.fl .f32 d)))), (1, .fv (.el (.sc (.fl .f32 w)))), (8, .fv (.el (.sc (.fl .f32 s)))), (9, .fv (.el (.sc (.fl .f32 a)))), (30, .fv (.el (.sc (.int .i64 n)))), (31, .fv (.el (.sc (.int .i64 i))))], []⟩ k = (match (decide ((i : Int) < n) : Bool) with
  | true => (match (expOk (fop .sub .f32 0 (fop .mul .f32 (fop .quo .f32 (fop .sub .f32 (fop .mul .f32 s (fop .add .f32 (fint .f32 i) 1056964608)) 1082130432) w) (fop .quo .f32 (fop .sub .f32 (fop .mul .f32 s (fop .add .f32 (fint .f32 i) 1056964608)) 1082130432) w))) : Bool) with
    | true => (match (expOk (fop .sub .f32 0 (fop .mul .f32 d (expF (fop .sub .f32 0 (fop .mul .f32 (fop .quo .f32 (fop .sub .f32 (fop .mul .f32 s (fop .add .f32 (fint .f32 i) 1056964608)) 1082130432) w) (fop .quo .f32 (fop .sub .f32 (fop .mul .f32 s (fop .add .f32 (fint .f32 i) 1056964608)) 1082130432) w)))))) : Bool) with
      | true => iterK a34 [0, 1, 8, 9, 30, 31] [9] (codeK T5 a34 l34 Try.f34.ntmps (loopAt Try.f34 0)) m ⟨[(0, .fv (.el (.sc (.fl .f32 d)))), (1, .fv (.el (.sc (.fl .f32 w)))), (8, .fv (.el (.sc (.fl .f32 s)))), (9, .fv (.el (.sc (.fl .f32 (fop .add .f32 a (fop .mul .f32 (fop .sub .f32 1065353216 (expF (fop .sub .f32 0 (fop .mul .f32 d (expF (fop .sub .f32 0 (fop .mul .f32 (fop .quo .f32 (fop .sub .f32 (fop .mul .f32 s (fop .add .f32 (fint .f32 i) 1056964608)) 1082130432) w) (fop .quo .f32 (fop .sub .f32 (fop .mul .f32 s (fop .add .f32 (fint .f32 i) 1056964608)) 1082130432) w)))))))) s)))))), (30, .fv (.el (.sc (.int .i64 n)))), (31, .fv (.el (.sc (.int .i64 (IntKind.i64.wrap (i + 1))))))], []⟩ k
      | false => none)
    | false => none)
  | false => k (.exit 0) ⟨[(9, .fv (.el (.sc (.fl .f32 a))))], []⟩) := by kernel_rfl
theorem ind34 (d : Nat) (w : Nat) (s : Nat) (n : Int) (hd : (atLeast0 d) = true) (k : Ex → St → R) : ∀ (m j : Nat) (a : Nat), n ≤ 1099511627776 → 0 ≤ j → j + m = n.toNat → iterK a34 [0, 1, 8, 9, 30, 31] [9] (codeK T5 a34 l34 Try.f34.ntmps (loopAt Try.f34 0)) (m + 1) ⟨[(0, .fv (.el (.sc (.fl .f32 d)))), (1, .fv (.el (.sc (.fl .f32 w)))), (8, .fv (.el (.sc (.fl .f32 s)))), (9, .fv (.el (.sc (.fl .f32 a)))), (30, .fv (.el (.sc (.int .i64 n)))), (31, .fv (.el (.sc (.int .i64 (j : Int)))))], []⟩ k =
    k (.exit 0) ⟨[(9, .fv (.el (.sc (.fl .f32 (rep (growF d w s) m j (a : Nat))))))], []⟩ := by
  intro m
  induction m with
  | zero =>
    intro j a hs0 hlo hj
    have h1 : ¬ ((j : Int) < n) := by omega
    rw [st34]
    simp only [h1, rep, decide_false] <;> rfl
  | succ m ih =>
    intro j a hs0 hlo hj
    have h1 : (j : Int) < n := by omega
    have e1 : expOk (fop .sub .f32 0 (fop .mul .f32 (fop .quo .f32 (fop .sub .f32 (fop .mul .f32 s (fop .add .f32 (fint .f32 (j : Int)) 1056964608)) 1082130432) w) (fop .quo .f32 (fop .sub .f32 (fop .mul .f32 s (fop .add .f32 (fint .f32 (j : Int)) 1056964608)) 1082130432) w))) = true := neg_sq_ok _
    have e2 : expOk (fop .sub .f32 0 (fop .mul .f32 d (expF (fop .sub .f32 0 (fop .mul .f32 (fop .quo .f32 (fop .sub .f32 (fop .mul .f32 s (fop .add .f32 (fint .f32 (j : Int)) 1056964608)) 1082130432) w) (fop .quo .f32 (fop .sub .f32 (fop .mul .f32 s (fop .add .f32 (fint .f32 (j : Int)) 1056964608)) 1082130432) w)))))) = true := grow_ok hd s w j
    have w1 : IntKind.i64.wrap ((j : Int) + 1) = ((j + 1 : Nat) : Int) := wrapN (by omega) (by omega)
    have wn : IntKind.i64.wrap ((j : Int) + 1) = ((j + 1 : Nat) : Int) := wrapN (by omega) (by omega)
    rw [st34]
    simp only [h1, wn, e1, e2, w1, and_self, decide_true, Bool.and_true, Int.le_refl]
    exact ih (j + 1) _ (hs0) (by omega) (by omega)

theorem lk34 : LOK T5 a34 l34 Try.f34.ntmps (loopAt Try.f34 0) := by
  intro ins outs hA s k out h
  have hA' : ([0, 1, 8, 9, 30, 31], [9]) = (ins, outs) := Option.some.inj ((show a34.lp (firstRegion (loopAt Try.f34 0)) = some ([0, 1, 8, 9, 30, 31], [9]) by kernel_rfl).symm.trans hA)
  cases hA'
  have hk : firstRegion (loopAt Try.f34 0) = 6 := by kernel_rfl
  rw [hk] at h
  change lp34 s k = some out at h
  unfold lp34 at h
  split at h
  · rename_i d w s a n i
    cases hg : (decide (i = 0) && (atLeast0 d && decide (n ≤ 1099511627776))) with
    | false => rw [hg] at h; cases h
    | true =>
      rw [hg] at h
      simp only [Bool.and_eq_true, decide_eq_true_eq] at hg
      obtain ⟨rfl, hd, gs0⟩ := hg
      refine ⟨(n.toNat) + 1, ?_⟩
      exact (ind34 d w s n hd k (n.toNat) 0 a (by omega) (by omega) (by omega)).trans h
  · cases h
theorem e34 (d : Nat) (w : Nat) (n : Int) : runFn T5 a34 l34 Try.f34 [.el (.sc (.fl .f32 d)), .el (.sc (.fl .f32 w)), .el (.sc (.int .i64 n))] = (match (!(([d]).all atLeast0) : Bool) with
  | true => some ⟨[.el (.sc (.fl .f32 0)), .el (.sc (.bo false))], none⟩
  | false => (match (!(([w]).all above) : Bool) with
    | true => some ⟨[.el (.sc (.fl .f32 0)), .el (.sc (.bo false))], none⟩
    | false => (match (!(within n 2 64) : Bool) with
      | true => some ⟨[.el (.sc (.fl .f32 0)), .el (.sc (.bo false))], none⟩
      | false => (match ((decide (0 = 0) && (atLeast0 d && decide (n ≤ 1099511627776))) : Bool) with
        | true => some ⟨[.el (.sc (.fl .f32 (numOf (rep (growF d w (fop .quo .f32 1090519040 (fint .f32 n))) (n.toNat) 0 (0 : Nat))))), .el (.sc (.bo (fin (rep (growF d w (fop .quo .f32 1090519040 (fint .f32 n))) (n.toNat) 0 (0 : Nat)))))], none⟩
        | false => none)))) := by kernel_rfl
theorem s34 (d : Nat) (w : Nat) (n : Int) : runFn T5 a34 l34 Try.f34 [.el (.sc (.fl .f32 d)), .el (.sc (.fl .f32 w)), .el (.sc (.int .i64 n))] = some ⟨[.el (.sc (.fl .f32 (orZero (growOk d w n) (growSum d w n)))), .el (.sc (.bo (growOk d w n)))], none⟩ := by
  rw [e34]
  unfold growOk
  cases h1 : atLeast0 d with
  | false => simp [h1, orZero]
  | true =>
    cases h2 : above w with
    | false => simp [h1, h2, orZero]
    | true =>
      cases h3 : within n 2 64 with
      | false => simp [h1, h2, h3, orZero]
      | true =>
        have hn : 2 ≤ n ∧ n ≤ 64 := by
          unfold within at h3
          simpa using h3
        have hn1 : n ≤ 1099511627776 := by omega
        have e : rep (growF d w (fop .quo .f32 1090519040 (fint .f32 n))) n.toNat 0 0 = growSum d w n := rfl
        simp only [h1, h2, h3, hn1, e, decide_true, Bool.not_true, Bool.true_and, Bool.and_true, List.all_cons, List.all_nil]
        unfold orZero numOf
        cases h4 : fin (growSum d w n) <;> simp [h1, h2, h4, hn1, e]
theorem c34 (d : Nat) (w : Nat) (n : Int) (k : List RV → R) (out : Out) (h : k [.el (.sc (.fl .f32 (orZero (growOk d w n) (growSum d w n)))), .el (.sc (.bo (growOk d w n)))] = some out) : ∃ rs, Real Try.prog 34 ∧ COK Try.prog 34 [.el (.sc (.fl .f32 d)), .el (.sc (.fl .f32 w)), .el (.sc (.int .i64 n))] rs ∧ k rs = some out := by
  exact ⟨_, real Try.func34 (by kernel_rfl), fn_ok tok5 (A := a34) (L := l34) (r := none) Try.func34 (by kernel_rfl) (by kernel_rfl) (loops1 (by kernel_rfl) lk34) (by rw [s34]), h⟩

/-! impl.ManySlits -/
theorem e49 (t : Nat) (n : Int) : runFn T5 none0 noL Try.f49 [.el (.sc (.fl .f32 t)), .el (.sc (.int .i64 n))] = (match (!(fin t) : Bool) with
  | true => some ⟨[.el (.sc (.fl .f32 0)), .el (.sc (.bo false))], none⟩
  | false => (match (!(within n 1 64) : Bool) with
    | true => some ⟨[.el (.sc (.fl .f32 0)), .el (.sc (.bo false))], none⟩
    | false => (match (fcmp .eql .f32 (sineF (fop .mul .f32 1056964608 t)) 0 : Bool) with
      | true => some ⟨[.el (.sc (.fl .f32 1065353216)), .el (.sc (.bo true))], none⟩
      | false => some ⟨[.el (.sc (.fl .f32 (numOf (fop .mul .f32 (fop .quo .f32 (sineF (fop .mul .f32 (fop .mul .f32 1056964608 t) (fint .f32 n))) (fop .mul .f32 (fint .f32 n) (sineF (fop .mul .f32 1056964608 t)))) (fop .quo .f32 (sineF (fop .mul .f32 (fop .mul .f32 1056964608 t) (fint .f32 n))) (fop .mul .f32 (fint .f32 n) (sineF (fop .mul .f32 1056964608 t)))))))), .el (.sc (.bo (fin (fop .mul .f32 (fop .quo .f32 (sineF (fop .mul .f32 (fop .mul .f32 1056964608 t) (fint .f32 n))) (fop .mul .f32 (fint .f32 n) (sineF (fop .mul .f32 1056964608 t)))) (fop .quo .f32 (sineF (fop .mul .f32 (fop .mul .f32 1056964608 t) (fint .f32 n))) (fop .mul .f32 (fint .f32 n) (sineF (fop .mul .f32 1056964608 t))))))))], none⟩))) := by kernel_rfl
theorem s49 (t : Nat) (n : Int) : runFn T5 none0 noL Try.f49 [.el (.sc (.fl .f32 t)), .el (.sc (.int .i64 n))] = some ⟨[.el (.sc (.fl .f32 (orZero (slitOk t n) (slitX t n)))), .el (.sc (.bo (slitOk t n)))], none⟩ := by
  rw [e49]
  unfold slitOk slitX slitQ slitS
  cases h1 : fin t with
  | false => simp [orZero]
  | true =>
    cases h2 : within n 1 64 with
    | false => simp [orZero]
    | true =>
      generalize sineF (fop .mul .f32 1056964608 t) = s
      cases h3 : fcmp .eql .f32 s 0 with
      | true => simp [h3, orZero]
      | false =>
        generalize fop .quo .f32 (sineF (fop .mul .f32 (fop .mul .f32 1056964608 t) (fint .f32 n))) (fop .mul .f32 (fint .f32 n) s) = q
        cases h4 : fin (fop .mul .f32 q q) <;> simp [h3, h4, orZero, numOf]
theorem c49 (t : Nat) (n : Int) (k : List RV → R) (out : Out) (h : k [.el (.sc (.fl .f32 (orZero (slitOk t n) (slitX t n)))), .el (.sc (.bo (slitOk t n)))] = some out) : ∃ rs, Real Try.prog 49 ∧ COK Try.prog 49 [.el (.sc (.fl .f32 t)), .el (.sc (.int .i64 n))] rs ∧ k rs = some out := by
  exact ⟨_, real Try.func49 (by kernel_rfl), fn_ok tok5 (A := none0) (L := noL) (r := none) Try.func49 (by kernel_rfl) (by kernel_rfl) (loops0 (by kernel_rfl)) (by rw [s49]), h⟩

def S6 : SFn := fun f args k => match f, args with
  | 34, [.el (.sc (.fl .f32 d)), .el (.sc (.fl .f32 w)), .el (.sc (.int .i64 n))] => k [.el (.sc (.fl .f32 (orZero (growOk d w n) (growSum d w n)))), .el (.sc (.bo (growOk d w n)))]
  | 49, [.el (.sc (.fl .f32 t)), .el (.sc (.int .i64 n))] => k [.el (.sc (.fl .f32 (orZero (slitOk t n) (slitX t n)))), .el (.sc (.bo (slitOk t n)))]
  | _, _ => S5 f args k
abbrev M6 : MFn := M5
def T6 : TT := tab.T S6 muts M6
theorem tok6 : TOK Try.prog T6 := by
  refine (tab_ok tabok).tok (fun f args k out h => ?_) (fun f vec args k out h => ?_)
  · change S6 f args k = some out at h
    unfold S6 at h
    split at h
    · exact (fun k out h => cok_call (c34 _ _ _ k out h)) k out h
    · exact (fun k out h => cok_call (c49 _ _ k out h)) k out h
    · exact tok5.S f args k out h
  · exact tok5.M f vec args k out h

end Go.Sm.Ytdnfgoolapikmaa
