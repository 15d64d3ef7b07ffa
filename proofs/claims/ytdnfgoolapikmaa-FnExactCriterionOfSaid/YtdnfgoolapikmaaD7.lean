/- What the functions hand back: level 6. -/
import Derived.Test.YtdnfgoolapikmaaD6
namespace Go.Sm.Ytdnfgoolapikmaa
open Go Go.Sm Go.RowKit Go.Proofs

/-! spec.CriterionOf -/
theorem e40 (r : Nat) (n : Int) (d : Int) : runFn T6 none0 noL Try.f40 [.el (.sc (.fl .f32 r)), .el (.sc (.int .i64 n)), .el (.sc (.int .i64 d))] = (match (!(fin r) : Bool) with
  | true => some ⟨[.el (.sc (.fl .f32 0)), .el (.sc (.bo false))], none⟩
  | false => (match (!(fcmp .gtr .f32 r 0) : Bool) with
    | true => some ⟨[.el (.sc (.fl .f32 0)), .el (.sc (.bo false))], none⟩
    | false => (match (!(within n 1 128) : Bool) with
      | true => some ⟨[.el (.sc (.fl .f32 0)), .el (.sc (.bo false))], none⟩
      | false => (match (!(within d 0 n) : Bool) with
        | true => some ⟨[.el (.sc (.fl .f32 0)), .el (.sc (.bo false))], none⟩
        | false => (match (logOk (fop .quo .f32 r (fint .f32 n)) && logOk (fint .f32 n) : Bool) with
          | true => some ⟨[.el (.sc (.fl .f32 (numOf (critX r n d)))), .el (.sc (.bo (fin (critX r n d))))], none⟩
          | false => none))))) := by kernel_rfl
theorem s40 (r : Nat) (n : Int) (d : Int) : runFn T6 none0 noL Try.f40 [.el (.sc (.fl .f32 r)), .el (.sc (.int .i64 n)), .el (.sc (.int .i64 d))] = some ⟨[.el (.sc (.fl .f32 (orZero (critOk r n d) (critX r n d)))), .el (.sc (.bo (critOk r n d)))], none⟩ := by
  rw [e40]
  unfold critOk
  try unfold above
  cases h1 : (fin r && fcmp .gtr .f32 r 0) with
  | false =>
    cases h1a : fin r <;> cases h1b : fcmp .gtr .f32 r 0 <;> simp [h1a, h1b] at h1 <;> simp [orZero, h1a, h1b]
  | true =>
    have ha : above r = true := h1
    rw [Bool.and_eq_true] at h1
    cases h2 : within n 1 128 with
    | false => simp [h1.1, h1.2, orZero]
    | true =>
      cases h3 : within d 0 n with
      | false => simp [h1.1, h1.2, orZero]
      | true =>
        have hn : 1 ≤ n ∧ n ≤ 128 := by
          unfold within at h2
          simpa using h2
        obtain ⟨f1, f2⟩ := fint_up hn.1 hn.2
        have f3 := quo_logOk ha f1
        have eX : fop .add .f32 (fop .mul .f32 (fint .f32 n) (logF (fop .quo .f32 r (fint .f32 n)))) (fop .mul .f32 (fint .f32 d) (logF (fint .f32 n))) = critX r n d := rfl
        simp only [h1.1, h1.2, f2, f3, eX, List.all_cons, List.all_nil, Bool.not_true, Bool.and_self, Bool.and_true, Bool.true_and]
        unfold orZero numOf
        cases h4 : fin (critX r n d) <;> simp [ha, h1.1, h1.2, h2, h3, f2, f3, eX, h4]
theorem c40 (r : Nat) (n : Int) (d : Int) (k : List RV → R) (out : Out) (h : k [.el (.sc (.fl .f32 (orZero (critOk r n d) (critX r n d)))), .el (.sc (.bo (critOk r n d)))] = some out) : ∃ rs, Real Try.prog 40 ∧ COK Try.prog 40 [.el (.sc (.fl .f32 r)), .el (.sc (.int .i64 n)), .el (.sc (.int .i64 d))] rs ∧ k rs = some out := by
  exact ⟨_, real Try.func40 (by kernel_rfl), fn_ok tok6 (A := none0) (L := noL) (r := none) Try.func40 (by kernel_rfl) (by kernel_rfl) (loops0 (by kernel_rfl)) (by rw [s40]), h⟩

def S7 : SFn := fun f args k => match f, args with
  | 40, [.el (.sc (.fl .f32 r)), .el (.sc (.int .i64 n)), .el (.sc (.int .i64 d))] => k [.el (.sc (.fl .f32 (orZero (critOk r n d) (critX r n d)))), .el (.sc (.bo (critOk r n d)))]
  | _, _ => S6 f args k
abbrev M7 : MFn := M6
def T7 : TT := tab.T S7 muts M7
theorem tok7 : TOK Try.prog T7 := by
  refine (tab_ok tabok).tok (fun f args k out h => ?_) (fun f vec args k out h => ?_)
  · change S7 f args k = some out at h
    unfold S7 at h
    split at h
    · exact (fun k out h => cok_call (c40 _ _ _ k out h)) k out h
    · exact tok6.S f args k out h
  · exact tok6.M f vec args k out h

end Go.Sm.Ytdnfgoolapikmaa
