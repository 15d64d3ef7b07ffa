/- What the functions hand back: level 5. -/
import Derived.Test.YtdnfgoolapikmaaD5
namespace Go.Sm.Ytdnfgoolapikmaa
open Go Go.Sm Go.RowKit Go.Proofs

/-! impl.CriterionOf -/
theorem e41 (r : Nat) (n : Int) (d : Int) : runFn T5 none0 noL Try.f41 [.el (.sc (.fl .f32 r)), .el (.sc (.int .i64 n)), .el (.sc (.int .i64 d))] = (match (!(([r]).all above) : Bool) with
  | true => some ⟨[.el (.sc (.fl .f32 0)), .el (.sc (.bo false))], none⟩
  | false => (match (!(within n 1 128) : Bool) with
    | true => some ⟨[.el (.sc (.fl .f32 0)), .el (.sc (.bo false))], none⟩
    | false => (match (!(within d 0 n) : Bool) with
      | true => some ⟨[.el (.sc (.fl .f32 0)), .el (.sc (.bo false))], none⟩
      | false => (match (logOk (fop .quo .f32 r (fint .f32 n)) : Bool) with
        | true => (match (logOk (fint .f32 n) : Bool) with
          | true => some ⟨[.el (.sc (.fl .f32 (numOf (fop .add .f32 (fop .mul .f32 (fint .f32 n) (logF (fop .quo .f32 r (fint .f32 n)))) (fop .mul .f32 (fint .f32 d) (logF (fint .f32 n))))))), .el (.sc (.bo (fin (fop .add .f32 (fop .mul .f32 (fint .f32 n) (logF (fop .quo .f32 r (fint .f32 n)))) (fop .mul .f32 (fint .f32 d) (logF (fint .f32 n)))))))], none⟩
          | false => none)
        | false => none)))) := by kernel_rfl
theorem s41 (r : Nat) (n : Int) (d : Int) : runFn T5 none0 noL Try.f41 [.el (.sc (.fl .f32 r)), .el (.sc (.int .i64 n)), .el (.sc (.int .i64 d))] = some ⟨[.el (.sc (.fl .f32 (orZero (critOk r n d) (critX r n d)))), .el (.sc (.bo (critOk r n d)))], none⟩ := by
  rw [e41]
  unfold critOk
  try unfold above
  cases h1 : (fin r && fcmp .gtr .f32 r 0) with
  | false =>
    cases h1a : fin r <;> cases h1b : fcmp .gtr .f32 r 0 <;> simp [h1a, h1b] at h1 <;> simp [orZero, h1a, h1b]
  | true =>
    have ha : above r = true := h1
    rw [Bool.and_eq_true] at h1
    cases h2 : within n 1 128 with
    | false => simp [h1.1, h1.2, orZero]
    | true =>
      cases h3 : within d 0 n with
      | false => simp [h1.1, h1.2, orZero]
      | true =>
        have hn : 1 ≤ n ∧ n ≤ 128 := by
          unfold within at h2
          simpa using h2
        obtain ⟨f1, f2⟩ := fint_up hn.1 hn.2
        have f3 := quo_logOk ha f1
        have eX : fop .add .f32 (fop .mul .f32 (fint .f32 n) (logF (fop .quo .f32 r (fint .f32 n)))) (fop .mul .f32 (fint .f32 d) (logF (fint .f32 n))) = critX r n d := rfl
        simp only [h1.1, h1.2, f2, f3, eX, List.all_cons, List.all_nil, Bool.not_true, Bool.and_self, Bool.and_true, Bool.true_and]
        unfold orZero numOf
        cases h4 : fin (critX r n d) <;> simp [ha, h1.1, h1.2, h2, h3, f2, f3, eX, h4]
theorem c41 (r : Nat) (n : Int) (d : Int) (k : List RV → R) (out : Out) (h : k [.el (.sc (.fl .f32 (orZero (critOk r n d) (critX r n d)))), .el (.sc (.bo (critOk r n d)))] = some out) : ∃ rs, Real Try.prog 41 ∧ COK Try.prog 41 [.el (.sc (.fl .f32 r)), .el (.sc (.int .i64 n)), .el (.sc (.int .i64 d))] rs ∧ k rs = some out := by
  exact ⟨_, real Try.func41 (by kernel_rfl), fn_ok tok5 (A := none0) (L := noL) (r := none) Try.func41 (by kernel_rfl) (by kernel_rfl) (loops0 (by kernel_rfl)) (by rw [s41]), h⟩

/-! spec.l05Criterion -/
theorem e81 (r : Nat) (n : Int) (d : Int) : runFn T5 none0 noL Try.f81 [.el (.sc (.fl .f32 r)), .el (.sc (.int .i64 n)), .el (.sc (.int .i64 d))] = (match (logOk (fop .quo .f32 r (fint .f32 n)) : Bool) with
  | true => (match (logOk (fint .f32 n) : Bool) with
    | true => some ⟨[.el (.sc (.fl .f32 (fop .add .f32 (fop .mul .f32 (fint .f32 n) (logF (fop .quo .f32 r (fint .f32 n)))) (fop .mul .f32 (fint .f32 d) (logF (fint .f32 n))))))], none⟩
    | false => none)
  | false => none) := by kernel_rfl
theorem s81 (r : Nat) (n : Int) (d : Int) (hg : (logOk (fop .quo .f32 r (fint .f32 n)) && logOk (fint .f32 n)) = true) : runFn T5 none0 noL Try.f81 [.el (.sc (.fl .f32 r)), .el (.sc (.int .i64 n)), .el (.sc (.int .i64 d))] = some ⟨[.el (.sc (.fl .f32 (critX r n d)))], none⟩ := by
  rw [e81]
  rw [Bool.and_eq_true] at hg
  simp only [hg.1, hg.2]
  rfl
theorem c81 (r : Nat) (n : Int) (d : Int) (k : List RV → R) (out : Out) (h : (match (logOk (fop .quo .f32 r (fint .f32 n)) && logOk (fint .f32 n) : Bool) with
  | true => k [.el (.sc (.fl .f32 (critX r n d)))]
  | false => none) = some out) : ∃ rs, Real Try.prog 81 ∧ COK Try.prog 81 [.el (.sc (.fl .f32 r)), .el (.sc (.int .i64 n)), .el (.sc (.int .i64 d))] rs ∧ k rs = some out := by
  cases g0 : (logOk (fop .quo .f32 r (fint .f32 n)) && logOk (fint .f32 n) : Bool) with
  | true =>
    rw [g0] at h
    exact ⟨_, real Try.func81 (by kernel_rfl), fn_ok tok5 (A := none0) (L := noL) (r := none) Try.func81 (by kernel_rfl) (by kernel_rfl) (loops0 (by kernel_rfl)) (by rw [s81 _ _ _ g0]), h⟩
  | false =>
    rw [g0] at h
    cases h

def S6 : SFn := fun f args k => match f, args with
  | 41, [.el (.sc (.fl .f32 r)), .el (.sc (.int .i64 n)), .el (.sc (.int .i64 d))] => k [.el (.sc (.fl .f32 (orZero (critOk r n d) (critX r n d)))), .el (.sc (.bo (critOk r n d)))]
  | 81, [.el (.sc (.fl .f32 r)), .el (.sc (.int .i64 n)), .el (.sc (.int .i64 d))] => (match (logOk (fop .quo .f32 r (fint .f32 n)) && logOk (fint .f32 n) : Bool) with
    | true => k [.el (.sc (.fl .f32 (critX r n d)))]
    | false => none)
  | _, _ => S5 f args k
abbrev M6 : MFn := M5
def T6 : TT := tab.T S6 muts M6
theorem tok6 : TOK Try.prog T6 := by
  refine (tab_ok tabok).tok (fun f args k out h => ?_) (fun f vec args k out h => ?_)
  · change S6 f args k = some out at h
    unfold S6 at h
    split at h
    · exact (fun k out h => cok_call (c41 _ _ _ k out h)) k out h
    · exact (fun k out h => cok_call (c81 _ _ _ k out h)) k out h
    · exact tok5.S f args k out h
  · exact tok5.M f vec args k out h

end Go.Sm.Ytdnfgoolapikmaa
