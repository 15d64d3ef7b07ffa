/- What the functions hand back: level 1. -/
import Derived.Test.YtdeplgocckdbiaaD1
namespace Go.Sm.Ytdeplgocckdbiaa
open Go Go.Sm Go.RowKit Go.Proofs

/-! impl.MulComplex -/
theorem s107 (a : Nat) (b : Nat) (c : Nat) (d : Nat) : runFn T1 none0 noL Try.f107 [.el (.sc (.cx .f32 a b)), .el (.sc (.cx .f32 c d))] = (match fconv .f64 .f32 (fop .sub .f64 (fop .mul .f64 (wid a) (wid c)) (fop .mul .f64 (wid b) (wid d))) with
  | some rn5 => (match fconv .f64 .f32 (fop .add .f64 (fop .mul .f64 (wid a) (wid d)) (fop .mul .f64 (wid b) (wid c))) with
    | some rn6 => some ⟨[.el (.sc (.cx .f32 rn5 rn6))], none⟩
    | none => none)
  | none => none) := by kernel_rfl
theorem c107 (a : Nat) (b : Nat) (c : Nat) (d : Nat) (k : List RV → R) (out : Out) (h : (match fconv .f64 .f32 (fop .sub .f64 (fop .mul .f64 (wid a) (wid c)) (fop .mul .f64 (wid b) (wid d))) with
  | some rn3 => (match fconv .f64 .f32 (fop .add .f64 (fop .mul .f64 (wid a) (wid d)) (fop .mul .f64 (wid b) (wid c))) with
    | some rn4 => k [.el (.sc (.cx .f32 rn3 rn4))]
    | none => none)
  | none => none) = some out) : ∃ rs, Real Try.prog 107 ∧ COK Try.prog 107 [.el (.sc (.cx .f32 a b)), .el (.sc (.cx .f32 c d))] rs ∧ k rs = some out := by
  cases g0 : (fconv .f64 .f32 (fop .sub .f64 (fop .mul .f64 (wid a) (wid c)) (fop .mul .f64 (wid b) (wid d)))) with
  | some rn3 =>
    rw [g0] at h
    cases g1 : (fconv .f64 .f32 (fop .add .f64 (fop .mul .f64 (wid a) (wid d)) (fop .mul .f64 (wid b) (wid c)))) with
    | some rn4 =>
      rw [g1] at h
      exact ⟨_, real Try.func107 (by kernel_rfl), fn_ok tok1 (A := none0) (L := noL) (r := none) Try.func107 (by kernel_rfl) (by kernel_rfl) (loops0 (by kernel_rfl)) (by rw [s107, g0, g1]), h⟩
    | none =>
      rw [g1] at h
      cases h
  | none =>
    rw [g0] at h
    cases h

/-! laws.sameComplex -/
theorem e109 (a : Nat) (b : Nat) (c : Nat) (d : Nat) : runFn T1 none0 noL Try.f109 [.el (.sc (.cx .f64 a b)), .el (.sc (.cx .f64 c d))] = (match (sameF a c : Bool) with
  | true => some ⟨[.el (.sc (.bo (sameF b d)))], none⟩
  | false => some ⟨[.el (.sc (.bo false))], none⟩) := by kernel_rfl
theorem s109 (a : Nat) (b : Nat) (c : Nat) (d : Nat) : runFn T1 none0 noL Try.f109 [.el (.sc (.cx .f64 a b)), .el (.sc (.cx .f64 c d))] = some ⟨[.el (.sc (.bo (sameF a c && sameF b d)))], none⟩ := by
  rw [e109]
  cases sameF a c <;> rfl
theorem c109 (a : Nat) (b : Nat) (c : Nat) (d : Nat) (k : List RV → R) (out : Out) (h : k [.el (.sc (.bo (sameF a c && sameF b d)))] = some out) : ∃ rs, Real Try.prog 109 ∧ COK Try.prog 109 [.el (.sc (.cx .f64 a b)), .el (.sc (.cx .f64 c d))] rs ∧ k rs = some out := by
  exact ⟨_, real Try.func109 (by kernel_rfl), fn_ok tok1 (A := none0) (L := noL) (r := none) Try.func109 (by kernel_rfl) (by kernel_rfl) (loops0 (by kernel_rfl)) (by rw [s109]), h⟩

/-! spec.l01From -/
theorem s146 (n : Int) : runFn T1 none0 noL Try.f146 [.el (.sc (.int .i64 n))] = some ⟨[.el (.sc (.fl .f32 (cn .f32 (Int.toNat (IntKind.u32.wrap n)))))], none⟩ := by kernel_rfl
theorem c146 (n : Int) (k : List RV → R) (out : Out) (h : k [.el (.sc (.fl .f32 (cn .f32 (Int.toNat (IntKind.u32.wrap n)))))] = some out) : ∃ rs, Real Try.prog 146 ∧ COK Try.prog 146 [.el (.sc (.int .i64 n))] rs ∧ k rs = some out := by
  exact ⟨_, real Try.func146 (by kernel_rfl), fn_ok tok1 (A := none0) (L := noL) (r := none) Try.func146 (by kernel_rfl) (by kernel_rfl) (loops0 (by kernel_rfl)) (by rw [s146]), h⟩

/-! math.NaN -/
theorem s149  : runFn T1 none0 noL Try.f149 [] = some ⟨[.el (.sc (.fl .f64 (nanOf .f64)))], none⟩ := by kernel_rfl
theorem c149  (k : List RV → R) (out : Out) (h : k [.el (.sc (.fl .f64 (nanOf .f64)))] = some out) : ∃ rs, Real Try.prog 149 ∧ COK Try.prog 149 [] rs ∧ k rs = some out := by
  exact ⟨_, real Try.func149 (by kernel_rfl), fn_ok tok1 (A := none0) (L := noL) (r := none) Try.func149 (by kernel_rfl) (by kernel_rfl) (loops0 (by kernel_rfl)) (by rw [s149]), h⟩

/-! impl.areFinite$1 -/
theorem s157 (c : Nat) : runFn T1 none0 noL Try.f157 [.el (.sc (.fl .f32 c))] = some ⟨[.el (.sc (.bo (notFin c)))], none⟩ := by kernel_rfl
theorem c157 (c : Nat) (k : List RV → R) (out : Out) (h : k [.el (.sc (.bo (notFin c)))] = some out) : ∃ rs, Real Try.prog 157 ∧ COK Try.prog 157 [.el (.sc (.fl .f32 c))] rs ∧ k rs = some out := by
  exact ⟨_, real Try.func157 (by kernel_rfl), fn_ok tok1 (A := none0) (L := noL) (r := none) Try.func157 (by kernel_rfl) (by kernel_rfl) (loops0 (by kernel_rfl)) (by rw [s157]), h⟩

/-! math.Sqrt -/
theorem s159 (c : Nat) : runFn T1 none0 noL Try.f159 [.el (.sc (.fl .f64 c))] = some ⟨[.el (.sc (.fl .f64 (fsqrt c)))], none⟩ := by kernel_rfl
theorem c159 (c : Nat) (k : List RV → R) (out : Out) (h : k [.el (.sc (.fl .f64 (fsqrt c)))] = some out) : ∃ rs, Real Try.prog 159 ∧ COK Try.prog 159 [.el (.sc (.fl .f64 c))] rs ∧ k rs = some out := by
  exact ⟨_, real Try.func159 (by kernel_rfl), fn_ok tok1 (A := none0) (L := noL) (r := none) Try.func159 (by kernel_rfl) (by kernel_rfl) (loops0 (by kernel_rfl)) (by rw [s159]), h⟩

/-! spec.l02Least -/
theorem e160 (c : Nat) : runFn T1 none0 noL Try.f160 [.el (.sc (.fl .f32 c))] = (match (fin c : Bool) with
  | true => some ⟨[.el (.sc (.bo (fcmp .geq .f32 c 0)))], none⟩
  | false => some ⟨[.el (.sc (.bo false))], none⟩) := by kernel_rfl
theorem s160 (c : Nat) : runFn T1 none0 noL Try.f160 [.el (.sc (.fl .f32 c))] = some ⟨[.el (.sc (.bo (atLeast0 c)))], none⟩ := by
  rw [e160]
  unfold atLeast0
  cases fin c <;> rfl
theorem c160 (c : Nat) (k : List RV → R) (out : Out) (h : k [.el (.sc (.bo (atLeast0 c)))] = some out) : ∃ rs, Real Try.prog 160 ∧ COK Try.prog 160 [.el (.sc (.fl .f32 c))] rs ∧ k rs = some out := by
  exact ⟨_, real Try.func160 (by kernel_rfl), fn_ok tok1 (A := none0) (L := noL) (r := none) Try.func160 (by kernel_rfl) (by kernel_rfl) (loops0 (by kernel_rfl)) (by rw [s160]), h⟩

/-! math.Abs -/
theorem e186 (c : Nat) : runFn T1 none0 noL Try.f186 [.el (.sc (.fl .f64 c))] = (match (isN .f64 c : Bool) with
  | true => none
  | false => some ⟨[.el (.sc (.fl .f64 (cn .f64 (Int.toNat (andNotI .u64 ((c : Int)) 9223372036854775808)))))], none⟩) := by kernel_rfl
theorem s186 (c : Nat) (hg : (!isN .f64 c) = true) : runFn T1 none0 noL Try.f186 [.el (.sc (.fl .f64 c))] = some ⟨[.el (.sc (.fl .f64 (fabs c)))], none⟩ := by
  rw [e186]
  have hN : isN .f64 c = false := by simpa using hg
  rw [hN]
  rfl
theorem c186 (c : Nat) (k : List RV → R) (out : Out) (h : (match (!isN .f64 c : Bool) with
  | true => k [.el (.sc (.fl .f64 (fabs c)))]
  | false => none) = some out) : ∃ rs, Real Try.prog 186 ∧ COK Try.prog 186 [.el (.sc (.fl .f64 c))] rs ∧ k rs = some out := by
  cases g0 : (!isN .f64 c : Bool) with
  | true =>
    rw [g0] at h
    exact ⟨_, real Try.func186 (by kernel_rfl), fn_ok tok1 (A := none0) (L := noL) (r := none) Try.func186 (by kernel_rfl) (by kernel_rfl) (loops0 (by kernel_rfl)) (by rw [s186 _ g0]), h⟩
  | false =>
    rw [g0] at h
    cases h

/-! math.Trunc -/
theorem s187 (c : Nat) : runFn T1 none0 noL Try.f187 [.el (.sc (.fl .f64 c))] = some ⟨[.el (.sc (.fl .f64 (fround .zero c)))], none⟩ := by kernel_rfl
theorem c187 (c : Nat) (k : List RV → R) (out : Out) (h : k [.el (.sc (.fl .f64 (fround .zero c)))] = some out) : ∃ rs, Real Try.prog 187 ∧ COK Try.prog 187 [.el (.sc (.fl .f64 c))] rs ∧ k rs = some out := by
  exact ⟨_, real Try.func187 (by kernel_rfl), fn_ok tok1 (A := none0) (L := noL) (r := none) Try.func187 (by kernel_rfl) (by kernel_rfl) (loops0 (by kernel_rfl)) (by rw [s187]), h⟩

/-! spec.l01CFinite -/
theorem e193 (a : Nat) (b : Nat) : runFn T1 none0 noL Try.f193 [.el (.sc (.cx .f32 a b))] = (match (fin a : Bool) with
  | true => some ⟨[.el (.sc (.bo (fin b)))], none⟩
  | false => some ⟨[.el (.sc (.bo false))], none⟩) := by kernel_rfl
theorem s193 (a : Nat) (b : Nat) : runFn T1 none0 noL Try.f193 [.el (.sc (.cx .f32 a b))] = some ⟨[.el (.sc (.bo (finC (a, b))))], none⟩ := by
  rw [e193]
  unfold finC
  cases h1 : fin a <;> cases h2 : fin b <;> simp [h1, h2]
theorem c193 (a : Nat) (b : Nat) (k : List RV → R) (out : Out) (h : k [.el (.sc (.bo (finC (a, b))))] = some out) : ∃ rs, Real Try.prog 193 ∧ COK Try.prog 193 [.el (.sc (.cx .f32 a b))] rs ∧ k rs = some out := by
  exact ⟨_, real Try.func193 (by kernel_rfl), fn_ok tok1 (A := none0) (L := noL) (r := none) Try.func193 (by kernel_rfl) (by kernel_rfl) (loops0 (by kernel_rfl)) (by rw [s193]), h⟩

/-! spec.l01CNarrow -/
theorem s194 (a : Nat) (b : Nat) : runFn T1 none0 noL Try.f194 [.el (.sc (.cx .f64 a b))] = (match fconv .f64 .f32 a with
  | some rn13 => (match fconv .f64 .f32 b with
    | some rn14 => some ⟨[.el (.sc (.cx .f32 rn13 rn14))], none⟩
    | none => none)
  | none => none) := by kernel_rfl
theorem c194 (a : Nat) (b : Nat) (k : List RV → R) (out : Out) (h : (match fconv .f64 .f32 a with
  | some rn11 => (match fconv .f64 .f32 b with
    | some rn12 => k [.el (.sc (.cx .f32 rn11 rn12))]
    | none => none)
  | none => none) = some out) : ∃ rs, Real Try.prog 194 ∧ COK Try.prog 194 [.el (.sc (.cx .f64 a b))] rs ∧ k rs = some out := by
  cases g0 : (fconv .f64 .f32 a) with
  | some rn11 =>
    rw [g0] at h
    cases g1 : (fconv .f64 .f32 b) with
    | some rn12 =>
      rw [g1] at h
      exact ⟨_, real Try.func194 (by kernel_rfl), fn_ok tok1 (A := none0) (L := noL) (r := none) Try.func194 (by kernel_rfl) (by kernel_rfl) (loops0 (by kernel_rfl)) (by rw [s194, g0, g1]), h⟩
    | none =>
      rw [g1] at h
      cases h
  | none =>
    rw [g0] at h
    cases h

def S2 : SFn := fun f args k => match f, args with
  | 107, [.el (.sc (.cx .f32 a b)), .el (.sc (.cx .f32 c d))] => (match fconv .f64 .f32 (fop .sub .f64 (fop .mul .f64 (wid a) (wid c)) (fop .mul .f64 (wid b) (wid d))) with
    | some rn7 => (match fconv .f64 .f32 (fop .add .f64 (fop .mul .f64 (wid a) (wid d)) (fop .mul .f64 (wid b) (wid c))) with
      | some rn8 => k [.el (.sc (.cx .f32 rn7 rn8))]
      | none => none)
    | none => none)
  | 109, [.el (.sc (.cx .f64 a b)), .el (.sc (.cx .f64 c d))] => k [.el (.sc (.bo (sameF a c && sameF b d)))]
  | 146, [.el (.sc (.int .i64 n))] => k [.el (.sc (.fl .f32 (cn .f32 (Int.toNat (IntKind.u32.wrap n)))))]
  | 149, [] => k [.el (.sc (.fl .f64 (nanOf .f64)))]
  | 157, [.el (.sc (.fl .f32 c))] => k [.el (.sc (.bo (notFin c)))]
  | 159, [.el (.sc (.fl .f64 c))] => k [.el (.sc (.fl .f64 (fsqrt c)))]
  | 160, [.el (.sc (.fl .f32 c))] => k [.el (.sc (.bo (atLeast0 c)))]
  | 186, [.el (.sc (.fl .f64 c))] => (match (!isN .f64 c : Bool) with
    | true => k [.el (.sc (.fl .f64 (fabs c)))]
    | false => none)
  | 187, [.el (.sc (.fl .f64 c))] => k [.el (.sc (.fl .f64 (fround .zero c)))]
  | 193, [.el (.sc (.cx .f32 a b))] => k [.el (.sc (.bo (finC (a, b))))]
  | 194, [.el (.sc (.cx .f64 a b))] => (match fconv .f64 .f32 a with
    | some rn15 => (match fconv .f64 .f32 b with
      | some rn16 => k [.el (.sc (.cx .f32 rn15 rn16))]
      | none => none)
    | none => none)
  | _, _ => S1 f args k
abbrev M2 : MFn := M1
def T2 : TT := tab.T S2 muts M2
theorem tok2 : TOK Try.prog T2 := by
  refine (tab_ok tabok).tok (fun f args k out h => ?_) (fun f vec args k out h => ?_)
  · change S2 f args k = some out at h
    unfold S2 at h
    split at h
    · exact (fun k out h => cok_call (c107 _ _ _ _ k out h)) k out h
    · exact (fun k out h => cok_call (c109 _ _ _ _ k out h)) k out h
    · exact (fun k out h => cok_call (c146 _ k out h)) k out h
    · exact (fun k out h => cok_call (c149 k out h)) k out h
    · exact (fun k out h => cok_call (c157 _ k out h)) k out h
    · exact (fun k out h => cok_call (c159 _ k out h)) k out h
    · exact (fun k out h => cok_call (c160 _ k out h)) k out h
    · exact (fun k out h => cok_call (c186 _ k out h)) k out h
    · exact (fun k out h => cok_call (c187 _ k out h)) k out h
    · exact (fun k out h => cok_call (c193 _ _ k out h)) k out h
    · exact (fun k out h => cok_call (c194 _ _ k out h)) k out h
    · exact tok1.S f args k out h
  · exact tok1.M f vec args k out h

end Go.Sm.Ytdeplgocckdbiaa
