/- The logarithm, narrowed. -/
import Derived.Test.YtngcejakoaoojaaG3
namespace Go.Sm
open Go

def PP (i : Nat) : Nat := 4607182418800017408 + i * BB
def bd (i w : Nat) : Prop := isNum .f64 w = true ∧ (fv .f64 w).natAbs ≤ rv FloatKind.f64.format (PP i)
theorem PP_inf : ∀ i, i < 20 → PP i < FloatKind.f64.format.infRung := by decide +kernel
theorem PP_zero : rv FloatKind.f64.format (PP 0) = U := by decide +kernel
theorem PP_succ (i : Nat) : rv FloatKind.f64.format (PP (i + 1)) = 2 * rv FloatKind.f64.format (PP i) := by
  have h : PP (i + 1) = PP i + BB := by unfold PP; rw [Nat.succ_mul, Nat.add_assoc]
  rw [h, rv_dbl (by unfold PP BB; omega)]
theorem PP_pow : ∀ i, rv FloatKind.f64.format (PP i) = 2 ^ i * U
  | 0 => by rw [PP_zero, Nat.pow_zero, Nat.one_mul]
  | i + 1 => by rw [PP_succ, PP_pow i, Nat.pow_succ, Nat.mul_comm (2 ^ i) 2, Nat.mul_assoc]
theorem PP_mul (i j : Nat) : rv FloatKind.f64.format (PP i) * rv FloatKind.f64.format (PP j) ≤ rv FloatKind.f64.format (PP (i + j)) * 2 ^ lp .f64 := by
  rw [PP_pow, PP_pow, PP_pow, U_eq, Nat.pow_add]
  generalize 2 ^ i = a
  generalize 2 ^ j = b
  generalize U = V
  exact Nat.le_of_eq (by rw [Nat.mul_assoc, Nat.mul_left_comm V b V, ← Nat.mul_assoc, ← Nat.mul_assoc])
theorem bd_mono {i j w : Nat} (h : i ≤ j) (hb : bd i w) : bd j w := ⟨hb.1, Nat.le_trans hb.2 (rv_le (by unfold PP; exact Nat.add_le_add_left (Nat.mul_le_mul_right _ h) _))⟩
theorem bd_mul {i j x y : Nat} (_ : i < 16) (_ : j < 16) (hij : i + j < 20) (hx : bd i x) (hy : bd j y) : bd (i + j) (fop .mul .f64 x y) := by
  obtain ⟨a1, a2, _⟩ := mulB (z := PP (i + j)) hx.1 hy.1 hx.2 hy.2 (PP_mul i j) (PP_inf _ hij)
  exact ⟨a1, a2⟩
theorem bd_add {i x y : Nat} (hi : i + 1 < 20) (hx : bd i x) (hy : bd i y) : bd (i + 1) (fop .add .f64 x y) := by
  have h1 := hx.2
  have h2 := hy.2
  obtain ⟨a1, a2, _⟩ := addB (z := PP (i + 1)) hx.1 hy.1 (by rw [PP_succ]; omega) (PP_inf _ hi)
  exact ⟨a1, a2⟩

def lgKs : List Nat := [4627730092099895296, 4627167142146473984, 4626604192193052672, 4626041242239631360, 4625478292286210048, 4624633867356078080, 4623507967449235456, 4622382067542392832, 4621256167635550208, 4619567317775286272, 4617315517961601024, 4613937818241073152, 4607182418800017408]
def lgStep (u q kk : Nat) : Nat := fop .add .f64 (fop .quo .f64 one64 kk) (fop .mul .f64 u q)
def lgPoly (u q : Nat) : Nat := lgKs.foldl (lgStep u) q
def kOk (kk : Nat) : Bool := isNum .f64 (fop .quo .f64 one64 kk) && decide ((fv .f64 (fop .quo .f64 one64 kk)).natAbs ≤ U)
theorem lgKs_ok : lgKs.all kOk = true := by decide +kernel
theorem lgFold {u : Nat} (hu : bd 0 u) : ∀ (l : List Nat), l.all kOk = true → ∀ (i q : Nat), bd i q → i + l.length < 16 → bd (i + l.length) (l.foldl (lgStep u) q) := by
  intro l
  induction l with
  | nil => intro _ i q hq _; exact hq
  | cons kk l ih =>
    intro hl i q hq hi
    rw [List.all_cons, Bool.and_eq_true] at hl
    rw [List.length_cons] at hi
    rw [List.foldl_cons, List.length_cons, show i + (l.length + 1) = i + 1 + l.length by omega]
    refine ih hl.2 (i + 1) _ ?_ (by omega)
    unfold lgStep
    have hk := hl.1
    unfold kOk at hk
    rw [Bool.and_eq_true, decide_eq_true_eq] at hk
    have h1 : bd 0 (fop .quo .f64 one64 kk) := ⟨hk.1, by rw [PP_zero]; exact hk.2⟩
    have h2 := bd_mul (i := 0) (j := i) (by omega) (by omega) (by omega) hu hq
    rw [Nat.zero_add] at h2
    exact bd_add (by omega) (bd_mono (Nat.zero_le i) h1) h2

def lgS (x : Nat) : Nat := fop .quo .f64 (fop .sub .f64 x one64) (fop .add .f64 x one64)
def lgTail (s e : Nat) : Nat := fop .add .f64 (fop .mul .f64 4611686018427387904 (fop .mul .f64 s (lgPoly (fop .mul .f64 s s) 0))) (fop .mul .f64 e 4604418534313441775)
def logV (y : Nat) : Nat := lgTail (lgS (lgX y)) (fint .f64 (lgN y))

theorem one_pair : isNum .f64 one64 = true ∧ fv .f64 one64 = (U : Int) := by decide +kernel
theorem c75_rv : 0 ≤ rv FloatKind.f64.format 4604930618986332160 := Nat.zero_le _
theorem c15_rv : rv FloatKind.f64.format 4609434218613702656 ≤ 2 * U := by decide +kernel

theorem lgS_in {x : Nat} (h2 : x < 4609434218613702656) : bd 0 (lgS x) := by
  have hU := U_pos
  obtain ⟨x1, x2, _⟩ := rung_num (Nat.lt_trans h2 c15_inf)
  have x3 := rv_le (f := FloatKind.f64.format) (Nat.le_of_lt h2)
  have x4 := c15_rv
  have hp := PP_inf 0 (by omega)
  have hp1 := PP_inf 2 (by omega)
  have hz2 : rv FloatKind.f64.format (PP 2) = 2 * (2 * U) := by rw [PP_succ, PP_succ, PP_zero]
  obtain ⟨a1, a2, _⟩ := subB (z := PP 0) x1 one_pair.1 (by rw [one_pair.2, x2, PP_zero]; omega) hp
  obtain ⟨b1, b2, _, _, b5, _⟩ := addB (z := PP 2) x1 one_pair.1 (by rw [one_pair.2, x2, hz2]; omega) hp1
  have b6 := b5 (PP 0) hp (by rw [one_pair.2, x2, PP_zero]; omega)
  rw [PP_zero] at b6 a2
  obtain ⟨c1, c2, _⟩ := quoB (z := PP 0) a1 b1 (by omega) (by
    rw [PP_zero, U_eq, Nat.mul_comm U]
    exact Nat.mul_le_mul (Nat.le_trans a2 (by omega)) (Nat.le_refl U)) hp
  exact ⟨c1, c2⟩

theorem ln2_bd : bd 0 4604418534313441775 := by
  have h : isNum .f64 4604418534313441775 = true ∧ (fv .f64 4604418534313441775).natAbs ≤ rv FloatKind.f64.format (PP 0) := by decide +kernel
  exact h
theorem two_bd : bd 1 4611686018427387904 := by
  have h : isNum .f64 4611686018427387904 = true ∧ (fv .f64 4611686018427387904).natAbs ≤ rv FloatKind.f64.format (PP 1) := by decide +kernel
  exact h
theorem zero_bd : bd 0 0 := ⟨zero64_num.1, by rw [zero64_num.2]; exact Nat.zero_le _⟩

theorem logV_narrow {r : Nat} (h1 : 874 * BB ≤ r) (h2 : r ≤ 1151 * BB) : fconv .f64 .f32 (logV r) = some (nar (logV r)) := by
  obtain ⟨_, _, _, _, _, _, _, x1, x2, n1, n2, _⟩ := lg_all h1 h2
  have hs := lgS_in x2
  have hu := bd_mul (i := 0) (j := 0) (by omega) (by omega) (by omega) hs hs
  have hq := lgFold hu lgKs lgKs_ok 0 0 zero_bd (by decide)
  have hsq := bd_mul (i := 0) (j := 13) (by omega) (by omega) (by omega) hs hq
  have h2q := bd_mul (i := 1) (j := 13) (by omega) (by omega) (by omega) two_bd hsq
  have hn : (lgN r).natAbs < 2 ^ 53 := by
    have : (lgN r).natAbs ≤ 200 := by omega
    exact Nat.lt_of_le_of_lt this (by decide)
  obtain ⟨e1, e2⟩ := fint_fv hn
  have he : bd 8 (fint .f64 (lgN r)) := by
    refine ⟨e1, ?_⟩
    rw [e2]
    have h8 : rv FloatKind.f64.format (PP 8) = 256 * U := by decide +kernel
    rw [h8, Int.natAbs_mul]
    have : (lgN r).natAbs ≤ 256 := by omega
    exact Nat.mul_le_mul this (Nat.le_refl U)
  have hel := bd_mul (i := 8) (j := 0) (by omega) (by omega) (by omega) he ln2_bd
  have hf := bd_add (i := 14) (by omega) h2q (bd_mono (by omega) hel)
  obtain ⟨r1, hr1⟩ := narrow_some hf.1 (Nat.le_trans hf.2 (rv_le (by decide)))
  have e : fconv .f64 .f32 (logV r) = some r1 := hr1
  unfold nar
  rw [e]
  rfl

theorem wid_facts : ∃ K : Nat, K = 925 ∧ rv FloatKind.f32.format 2139095040 * 2 ^ K = rv FloatKind.f64.format (5179139571476070400 + 4503599627370496) ∧ rv FloatKind.f64.format 3936146074321813504 = 2 ^ K := ⟨925, rfl, by decide +kernel, by decide +kernel⟩
theorem low_inf : (3936146074321813504 : Nat) ≤ FloatKind.f64.format.infRung := by decide
theorem top_inf : (5179139571476070400 + 4503599627370496 : Nat) < FloatKind.f64.format.infRung := by decide

/-- A positive 32-bit float, widened, is far from the bounds. -/
theorem wid_pos {z : Nat} (h : isNum .f32 z = true) (hp : 0 < fv .f32 z) : 3936146074321813504 ≤ wid z ∧ wid z ≤ 5183643171103440896 := by
  obtain ⟨m, e, h1, h2⟩ := isNum_spell h
  have hn : isN .f32 z = false := by
    show (FloatKind.f32.format.read z).isNaN = false
    rw [h1]
    rfl
  have hb := isNum_lt h
  have a1 := lp_eq .f64
  have a2 := lp_eq .f32
  have a3 : lp .f64 = 1074 := by decide
  have a4 : lp .f32 = 149 := by decide
  obtain ⟨K, hK, e1, e3⟩ := wid_facts
  have hr : nrung FloatKind.f64.format m (FloatKind.f32.format.leastPlace + (e : Int)) ≤ 5179139571476070400 + 4503599627370496 := by
    refine nrung_le (k1 := e + K) (k2 := 0) (by omega) ?_
    rw [Nat.pow_zero, Nat.mul_one, ← e1, Nat.pow_add, ← Nat.mul_assoc, ← h2]
    refine Nat.mul_le_mul_right _ ?_
    have e2 : (fv .f32 z).natAbs = rv FloatKind.f32.format (z % FloatKind.f32.format.signWeight) := by unfold fv; cases sgn .f32 z <;> simp
    rw [e2]
    exact rv_le (Nat.le_of_lt hb)
  have hlt : nrung FloatKind.f64.format m (FloatKind.f32.format.leastPlace + (e : Int)) < FloatKind.f64.format.infRung := Nat.lt_of_le_of_lt hr top_inf
  have hlo : 3936146074321813504 ≤ nrung FloatKind.f64.format m (FloatKind.f32.format.leastPlace + (e : Int)) := by
    refine nrung_ge (k1 := e + K) (k2 := 0) (by omega) ?_ low_inf
    rw [Nat.pow_zero, Nat.mul_one, e3, Nat.pow_add, ← Nat.mul_assoc, ← h2]
    have : 1 ≤ (fv .f32 z).natAbs := by omega
    calc 2 ^ K = 1 * 2 ^ K := (Nat.one_mul _).symm
      _ ≤ (fv .f32 z).natAbs * 2 ^ K := Nat.mul_le_mul_right _ this
  have hw : wid z = FloatKind.f64.format.word (sgn .f32 z) (nrung FloatKind.f64.format m (FloatKind.f32.format.leastPlace + (e : Int))) := by
    rw [← nearest_eq]
    unfold wid fconv
    rw [hn]
    show (floatToFloatBits .f32 z .f64).getD 0 = _
    unfold floatToFloatBits
    rw [if_neg (by decide)]
    have hd : FloatKind.f32.decode z = .number (sgn .f32 z) m (FloatKind.f32.format.leastPlace + (e : Int)) := h1
    rw [hd]
    have hinf : (FloatKind.f64.decode (FloatKind.f64.encode (.number (sgn .f32 z) m (FloatKind.f32.format.leastPlace + (e : Int))))).isInfinity = false := by
      have hnum : isNum .f64 (FloatKind.f64.format.nearest (sgn .f32 z) m (FloatKind.f32.format.leastPlace + (e : Int))) = true := by
        rw [nearest_eq]
        exact word_isNum _ hlt
      obtain ⟨m', e', h3, _⟩ := isNum_read hnum
      show (FloatKind.f64.format.read (FloatKind.f64.format.nearest (sgn .f32 z) m (FloatKind.f32.format.leastPlace + (e : Int)))).isInfinity = false
      rw [h3]
      rfl
    simp only [hinf, Bool.false_eq_true, if_false]
    rfl
  have hf : ∀ q : Nat, FloatKind.f64.format.word false q = q := fun q => rfl
  rw [hw, sgn_pos hp, hf]
  exact ⟨hlo, by omega⟩

def logF (z : Nat) : Nat := bif fcmp .eql .f32 z 0 then 4286578688 else bif fcmp .neq .f32 z z || fcmp .lss .f32 z 0 then nanOf .f32 else bif !fin z then z else nar (logV (wid z))
def logOk (z : Nat) : Bool := fcmp .geq .f32 z 0 && (fin z || Nat.beq z 2139095040)
def lgIn (y : Nat) : Bool := Nat.ble 3936146074321813504 y && Nat.ble y 5183643171103440896
theorem lgIn_of {y : Nat} (h : lgIn y = true) : 874 * BB ≤ y ∧ y ≤ 1151 * BB := by
  unfold lgIn at h
  rw [Bool.and_eq_true] at h
  exact ⟨Nat.le_of_ble_eq_true h.1, Nat.le_of_ble_eq_true h.2⟩

/-- What a logarithm may be asked of: zero, a positive number, the infinity. -/
theorem logOk_cases {z : Nat} (h : logOk z = true) : (isNum .f32 z = true ∧ fv .f32 z = 0) ∨ (isNum .f32 z = true ∧ 0 < fv .f32 z) ∨ z = 2139095040 := by
  unfold logOk at h
  rw [Bool.and_eq_true, Bool.or_eq_true] at h
  rcases h.2 with h2 | h2
  · rw [fin_isNum] at h2
    have z1 : isNum .f32 0 = true := by decide
    have z2 : fv .f32 0 = 0 := by decide
    have h3 := h.1
    rw [fcmp_num_geq h2 z1, z2, decide_eq_true_eq] at h3
    rcases Int.lt_or_eq_of_le h3 with h4 | h4
    · exact .inr (.inl ⟨h2, h4⟩)
    · exact .inl ⟨h2, h4.symm⟩
  · exact .inr (.inr (Nat.eq_of_beq_eq_true h2))

theorem quo_logOk {a b : Nat} (ha : above a = true) (hb : above b = true) : logOk (fop .quo .f32 a b) = true := by
  have z1 : isNum .f32 0 = true := by decide
  have z2 : fv .f32 0 = 0 := by decide
  have pos : ∀ {c : Nat}, above c = true → isNum .f32 c = true ∧ 0 < fv .f32 c := by
    intro c h
    unfold above at h
    rw [Bool.and_eq_true, fin_isNum] at h
    refine ⟨h.1, ?_⟩
    have h2 := h.2
    rw [gtr_fv h.1 z1, z2] at h2
    exact of_decide_eq_true h2
  obtain ⟨a1, a2⟩ := pos ha
  obtain ⟨b1, b2⟩ := pos hb
  obtain ⟨q, e, hi, _⟩ := fop_quo a1 b1 (by omega)
  rw [sgn_pos a2, sgn_pos b2] at e
  rw [e]
  rcases Nat.lt_or_ge q FloatKind.f32.format.infRung with hq | hq
  · obtain ⟨n1, n2⟩ := word_up (s := false) hq (fun h => by cases h)
    unfold logOk
    show (fcmp .geq .f32 (FloatKind.f32.format.word false q) 0 && (fin (FloatKind.f32.format.word false q) || _)) = true
    rw [fin_isNum, n1, fcmp_num_geq n1 z1, z2, n2, Bool.true_or, Bool.and_true]
    exact decide_eq_true (by omega)
  · have hq2 : q = FloatKind.f32.format.infRung := Nat.le_antisymm hi hq
    subst hq2
    decide +kernel

theorem fint_up_all : (List.range 129).all (fun n => n == 0 || (above (fint .f32 (n : Int)) && logOk (fint .f32 (n : Int)))) = true := by decide +kernel
theorem fint_up {n : Int} (h1 : 1 ≤ n) (h2 : n ≤ 128) : above (fint .f32 n) = true ∧ logOk (fint .f32 n) = true := by
  obtain ⟨m, rfl⟩ : ∃ m : Nat, n = (m : Int) := ⟨n.toNat, by omega⟩
  have := List.all_eq_true.1 fint_up_all m (List.mem_range.2 (by omega))
  rw [Bool.or_eq_true, Bool.and_eq_true] at this
  rcases this with h | h
  · have := eq_of_beq h
    omega
  · exact h

theorem count_up_all : (List.range 401).all (fun n => fop .add .f64 (fint .f64 (n : Int)) 4607182418800017408 == fint .f64 ((n : Int) + 1) && fop .sub .f64 (fint .f64 (-(n : Int))) 4607182418800017408 == fint .f64 (-((n : Int) + 1))) = true := by decide +kernel
theorem count_up {n : Nat} (h : n ≤ 400) : fop .add .f64 (fint .f64 (n : Int)) 4607182418800017408 = fint .f64 ((n + 1 : Nat) : Int) ∧ fop .sub .f64 (fint .f64 (-(n : Int))) 4607182418800017408 = fint .f64 (-((n + 1 : Nat) : Int)) := by
  have := List.all_eq_true.1 count_up_all n (List.mem_range.2 (by omega))
  rw [Bool.and_eq_true] at this
  exact ⟨eq_of_beq this.1, eq_of_beq this.2⟩

/-! ### A criterion, depths -/
def critX (r : Nat) (n k : Int) : Nat := fop .add .f32 (fop .mul .f32 (fint .f32 n) (logF (fop .quo .f32 r (fint .f32 n)))) (fop .mul .f32 (fint .f32 k) (logF (fint .f32 n)))
def critOk (r : Nat) (n k : Int) : Bool := above r && (within n 1 128 && (within k 0 n && fin (critX r n k)))
def depthAt (xs ys : List Nat) (j : Nat) : Nat := logF (fop .quo .f32 (xs.getD j 0) (ys.getD j 0))
def depthX (xs ys : List Nat) : List Nat := (fromTo 0 xs.length).map (depthAt xs ys)
def depthAsk (xs ys : List Nat) : Bool := decide (1 ≤ xs.length) && (decide (xs.length ≤ 64) && (decide (ys.length = xs.length) && (xs.all above && ys.all above)))
def depthOk (xs ys : List Nat) : Bool := depthAsk xs ys && (depthX xs ys).all fin
theorem depthX_len (xs ys : List Nat) : (depthX xs ys).length = xs.length := by simp [depthX, fromTo_len]

end Go.Sm
