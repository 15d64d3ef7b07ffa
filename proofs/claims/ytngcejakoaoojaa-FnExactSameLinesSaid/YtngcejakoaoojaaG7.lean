/- Roots are not below zero. -/
import Derived.Test.YtngcejakoaoojaaG6
namespace Go.Sm
open Go Ieee

theorem root_sign (x : Nat) : ∃ r, fconv .f64 .f32 (fsqrt (wid x)) = some r ∧ (isN .f32 r = true ∨ r = 2139095040 ∨ ∃ s q, r = FloatKind.f32.format.word s q ∧ q < FloatKind.f32.format.infRung ∧ (s = true → q = 0)) := by
  rcases word_kind .f32 x with h | ⟨s, h⟩ | h
  · obtain ⟨w1, _, _, w4⟩ := wid_num h
    obtain ⟨m, e, h1, h2⟩ := isNum_spell w1
    have hl := lp_eq .f64
    have hl2 : lp .f64 = 1074 := by decide
    by_cases hm : m = 0
    · have hr : fsqrt (wid x) = FloatKind.f64.format.word (sgn .f64 (wid x)) 0 := by
        unfold fsqrt
        have : FloatKind.f64.format.sqrt (wid x) = some (FloatKind.f64.format.nearest (sgn .f64 (wid x)) 0 (FloatKind.f64.format.leastPlace + (e : Int))) := by
          unfold Format.sqrt
          rw [h1, hm]
          rfl
        rw [this]
        rfl
      rw [hr]
      cases sgn .f64 (wid x)
      · exact ⟨0, by decide +kernel, .inr (.inr ⟨false, 0, rfl, by decide, fun h => by cases h⟩)⟩
      · exact ⟨2147483648, by decide +kernel, .inr (.inr ⟨true, 0, by decide, by decide, fun _ => rfl⟩)⟩
    · cases hs : sgn .f64 (wid x) with
      | true =>
        have hr : fsqrt (wid x) = nanOf .f64 := by
          unfold fsqrt
          have : FloatKind.f64.format.sqrt (wid x) = none := by
            unfold Format.sqrt
            rw [h1, hs]
            have : (Datum.number true m (FloatKind.f64.format.leastPlace + (e : Int))).root (FloatKind.f64.format.fractionBits + 2) = none := (if_neg hm).trans (if_pos rfl)
            rw [this]
            rfl
          rw [this]
          rfl
        rw [hr]
        exact ⟨_, narrow_nan (isN_nanOf .f64), .inl (isN_nanOf .f32)⟩
      | false =>
        have hlog : m.log2 + e ≤ 1074 + 128 := by
          have a1 : 2 ^ m.log2 * 2 ^ e ≤ m * 2 ^ e := Nat.mul_le_mul_right _ (Nat.log2_self_le hm)
          have a2 : rv FloatKind.f64.format (5179139571476070400 + 4503599627370496) = 2 ^ 1202 := by decide +kernel
          rw [a2, h2] at w4
          rw [← Nat.pow_add] at a1
          rcases Nat.lt_or_ge 1202 (m.log2 + e) with h3 | h3
          · exact (no_pow h3 (Nat.le_trans a1 w4)).elim
          · exact h3
        have hform : ∃ more whole st : Nat, st ≤ 1 ∧ whole < 2 ^ ((m.log2 + more) / 2 + 1) ∧ fsqrt (wid x) = FloatKind.f64.format.nearest false (2 * whole + st) ((FloatKind.f64.format.leastPlace + (e : Int) - (more : Int)) / 2 - 1) := by
          let more0 := 2 * (FloatKind.f64.format.fractionBits + 2) - m.log2
          let more := more0 + ((FloatKind.f64.format.leastPlace + (e : Int) - (more0 : Int)) % 2).toNat
          let n := m <<< more
          let whole := Datum.rootFrom n (n.log2 / 2 + 1) 0
          refine ⟨more, whole, (whole * whole != n).toNat, by cases (whole * whole != n) <;> decide, ?_, ?_⟩
          · have h3 := rootFrom_lt n (n.log2 / 2 + 1) 0
            rw [Nat.zero_add] at h3
            have h4 : n.log2 = m.log2 + more := by
              show (m <<< more).log2 = _
              rw [Nat.shiftLeft_eq, log2_mul hm]
            rw [← h4]
            exact h3
          · unfold fsqrt
            have : FloatKind.f64.format.sqrt (wid x) = some (FloatKind.f64.format.nearest false (2 * whole + (whole * whole != n).toNat) ((FloatKind.f64.format.leastPlace + (e : Int) - (more : Int)) / 2 - 1)) := by
              unfold Format.sqrt
              rw [h1, hs]
              have : (Datum.number false m (FloatKind.f64.format.leastPlace + (e : Int))).root (FloatKind.f64.format.fractionBits + 2) = some (.number false (2 * whole + (whole * whole != n).toNat) ((FloatKind.f64.format.leastPlace + (e : Int) - (more : Int)) / 2 - 1)) := (if_neg hm).trans (if_neg (by decide))
              rw [this]
              rfl
            rw [this]
            rfl
        obtain ⟨more, whole, st, hst, hwh, hr⟩ := hform
        have hb : nrung FloatKind.f64.format (2 * whole + st) ((FloatKind.f64.format.leastPlace + (e : Int) - (more : Int)) / 2 - 1) ≤ 5179139571476070400 := by
          have hmag : 2 * whole + st ≤ 2 ^ ((m.log2 + more) / 2 + 2) := by
            rw [Nat.pow_succ]
            omega
          obtain ⟨K, hK, a2⟩ : ∃ K : Nat, K = 1201 ∧ rv FloatKind.f64.format 5179139571476070400 = 2 ^ K := ⟨1201, rfl, by decide +kernel⟩
          obtain ⟨k1, k2, hk, hz⟩ : ∃ k1 k2 : Nat, (k1 : Int) - (k2 : Int) = (FloatKind.f64.format.leastPlace + (e : Int) - (more : Int)) / 2 - 1 - FloatKind.f64.format.leastPlace ∧ (k1 = 0 ∨ k2 = 0) := by
            rcases Int.le_total 0 ((FloatKind.f64.format.leastPlace + (e : Int) - (more : Int)) / 2 - 1 - FloatKind.f64.format.leastPlace) with h5 | h5
            · exact ⟨((FloatKind.f64.format.leastPlace + (e : Int) - (more : Int)) / 2 - 1 - FloatKind.f64.format.leastPlace).toNat, 0, by omega, .inr rfl⟩
            · exact ⟨0, (-((FloatKind.f64.format.leastPlace + (e : Int) - (more : Int)) / 2 - 1 - FloatKind.f64.format.leastPlace)).toNat, by omega, .inl rfl⟩
          refine nrung_le hk ?_
          rw [a2, ← Nat.pow_add]
          refine Nat.le_trans (Nat.mul_le_mul_right _ hmag) ?_
          rw [← Nat.pow_add]
          exact Nat.pow_le_pow_right (by decide) (by omega)
        have hlt : nrung FloatKind.f64.format (2 * whole + st) ((FloatKind.f64.format.leastPlace + (e : Int) - (more : Int)) / 2 - 1) < FloatKind.f64.format.infRung := Nat.lt_of_le_of_lt hb (by decide)
        rw [hr, nearest_eq]
        obtain ⟨s, q, r1, r2, r3⟩ := narrow_sign (word_isNum false hlt) (by
          rw [fv_word _ (Nat.lt_trans hlt FloatKind.f64.format.infRung_lt)]
          simp only [Bool.false_eq_true, if_false]
          exact Int.natCast_nonneg _) (by rw [fv_word_abs _ hlt]; exact rv_le hb)
        exact ⟨_, r1, .inr (.inr ⟨s, q, rfl, r2, r3⟩)⟩
  · have hw := wid_inf h
    cases s with
    | false =>
      have hr : fsqrt (wid x) = inf64 := by
        unfold fsqrt
        have : FloatKind.f64.format.sqrt (wid x) = some inf64 := by
          unfold Format.sqrt
          rw [hw]
          decide +kernel
        rw [this]
        rfl
      rw [hr]
      exact ⟨2139095040, by decide +kernel, .inr (.inl rfl)⟩
    | true =>
      have hr : fsqrt (wid x) = nanOf .f64 := by
        unfold fsqrt
        have : FloatKind.f64.format.sqrt (wid x) = none := by
          unfold Format.sqrt
          rw [hw]
          rfl
        rw [this]
        rfl
      rw [hr]
      exact ⟨_, narrow_nan (isN_nanOf .f64), .inl (isN_nanOf .f32)⟩
  · have hr : fsqrt (wid x) = nanOf .f64 := by
      rw [wid_nan h]
      decide +kernel
    rw [hr]
    exact ⟨_, narrow_nan (isN_nanOf .f64), .inl (isN_nanOf .f32)⟩


theorem rootF_sign (x : Nat) : isN .f32 (rootF x) = true ∨ rootF x = 2139095040 ∨ (isNum .f32 (rootF x) = true ∧ 0 ≤ fv .f32 (rootF x)) := by
  obtain ⟨r, h1, h2⟩ := root_sign x
  have e : rootF x = r := by
    unfold rootF
    rw [h1]
    rfl
  rw [e]
  rcases h2 with h | h | ⟨s, q, h, hq, hs⟩
  · exact .inl h
  · exact .inr (.inl h)
  · obtain ⟨n1, n2⟩ := word_up hq hs
    exact .inr (.inr ⟨by rw [h]; exact n1, by rw [h, n2]; omega⟩)

/-- Where a root is a number, it is above zero or equal to it. -/
theorem root_above (x : Nat) : above (rootF x) = (fin (rootF x) && !fcmp .eql .f32 (rootF x) 0) := by
  unfold above
  cases hf : fin (rootF x) with
  | false => rfl
  | true =>
    rw [Bool.true_and, Bool.true_and]
    rw [fin_isNum] at hf
    rcases rootF_sign x with h | h | ⟨_, h⟩
    · rw [isNum_notN hf] at h; cases h
    · rw [h] at hf
      exact absurd hf (by decide +kernel)
    · rw [gtr_fv hf zero32.1, fcmp_num_eql hf zero32.1, zero32.2]
      rw [Bool.eq_iff_iff]
      simp
      omega

/-! ### A vector turned -/
def vec3 (xs : List Nat) : Bool := decide (xs.length = 3) && xs.all fin
def tvAt (us vs : List Nat) (d re im : Nat) (j : Nat) : Nat :=
  fop .add .f32 (fop .add .f32 (fop .mul .f32 (vs.getD j 0) re) (fop .mul .f32 (fop .sub .f32 (fop .mul .f32 (us.getD ((j + 1) % 3) 0) (vs.getD ((j + 2) % 3) 0)) (fop .mul .f32 (us.getD ((j + 2) % 3) 0) (vs.getD ((j + 1) % 3) 0))) im)) (fop .mul .f32 (fop .mul .f32 (us.getD j 0) d) (fop .sub .f32 1065353216 re))
def tvR (xs : List Nat) : Nat := rootF (dot2 xs xs)
def tvU (xs : List Nat) (r : Nat) : List Nat := (fromTo 0 xs.length).map fun j => fop .quo .f32 (xs.getD j 0) r
def tvX (vs xs : List Nat) (t : Nat) : List Nat := (fromTo 0 3).map (tvAt (tvU xs (tvR xs)) vs (dot2 (tvU xs (tvR xs)) vs) (phRe (wid t)) (phIm (wid t)))
def tvOk (vs xs : List Nat) (t : Nat) : Bool := vec3 vs && (vec3 xs && (fin t && (above (tvR xs) && (tvX vs xs t).all fin)))
theorem tvU_len (xs : List Nat) (r : Nat) : (tvU xs r).length = xs.length := by simp [tvU, fromTo_len]
theorem tvX_len (vs xs : List Nat) (t : Nat) : (tvX vs xs t).length = 3 := by simp [tvX, fromTo_len]

theorem pair_go (g : Nat → Nat) (h : Nat → Nat → Nat) : ∀ (m j : Nat) (zs : List Nat) (a : Nat), rep (fun j (s : List Nat × Nat) => (s.1 ++ [g j], h j s.2)) m j (zs, a) = (zs ++ (fromTo j m).map g, rep h m j a) := by
  intro m
  induction m with
  | zero => intro j zs a; simp [rep, fromTo]
  | succ m ih =>
    intro j zs a
    rw [rep_succ, rep_succ, ih, fromTo_succ, List.map_cons]
    simp
theorem tv_run (vs xs : List Nat) (r : Nat) : rep (fun j (s : List Nat × Nat) => (s.1 ++ [fop .quo .f32 (xs.getD j 0) r], fop .add .f32 s.2 (fop .mul .f32 (fop .quo .f32 (xs.getD j 0) r) (vs.getD j 0)))) xs.length 0 ([], 0) = (tvU xs r, dot2 (tvU xs r) vs) := by
  rw [pair_go (fun j => fop .quo .f32 (xs.getD j 0) r) (fun j a => fop .add .f32 a (fop .mul .f32 (fop .quo .f32 (xs.getD j 0) r) (vs.getD j 0))), List.nil_append]
  refine Prod.ext rfl ?_
  show rep _ xs.length 0 0 = dot2 (tvU xs r) vs
  unfold dot2
  rw [tvU_len]
  refine rep_congr (lo := 0) (hi := xs.length) (fun j s _ hj => ?_) xs.length 0 0 (Nat.le_refl 0) (by omega)
  unfold tvU
  rw [fromTo_get _ _ hj]

theorem sq_zero {a : Nat} (n : isNum .f32 a = true) (h : fcmp .eql .f32 a 0 = true) : fop .mul .f32 a a = 0 := by
  rw [fcmp_num_eql n zero32.1, zero32.2, decide_eq_true_eq] at h
  obtain ⟨q, e, _, hle, _⟩ := fop_mul n n
  have hq : q ≤ 0 := hle 0 (by rw [h]; simp)
  rw [e, Bool.xor_self]
  show q = 0
  omega
theorem tv_zero {xs : List Nat} (h : vec3 xs = true) (h0 : fcmp .eql .f32 (xs.getD 0 0) 0 = true) (h1 : fcmp .eql .f32 (xs.getD 1 0) 0 = true) (h2 : fcmp .eql .f32 (xs.getD 2 0) 0 = true) : above (tvR xs) = false := by
  unfold vec3 at h
  rw [Bool.and_eq_true, decide_eq_true_eq] at h
  have g : ∀ j, j < 3 → isNum .f32 (xs.getD j 0) = true := fun j hj => by
    rw [← fin_isNum]
    exact all_getD h.2 (by omega)
  have e : dot2 xs xs = 0 := by
    unfold dot2
    rw [h.1]
    show fop .add .f32 (fop .add .f32 (fop .add .f32 0 (fop .mul .f32 (xs.getD 0 0) (xs.getD 0 0))) (fop .mul .f32 (xs.getD 1 0) (xs.getD 1 0))) (fop .mul .f32 (xs.getD 2 0) (xs.getD 2 0)) = 0
    rw [sq_zero (g 0 (by omega)) h0, sq_zero (g 1 (by omega)) h1, sq_zero (g 2 (by omega)) h2]
    decide +kernel
  unfold tvR
  rw [e]
  decide +kernel

end Go.Sm
