/- Floats: sums in either order, what is not finite stays so, the greater of two. -/
import Derived.Test.YtngcejakoaoojaaC2
import Derived.Test.YtngcejakoaoojaaF2
namespace Go.Sm
open Go Ieee

theorem sum_comm (a b : Datum) : a.sum b = b.sum a := by
  cases a with
  | nan s t => cases b <;> rfl
  | infinity s =>
    cases b with
    | nan _ _ => rfl
    | infinity t => cases s <;> cases t <;> rfl
    | number _ _ _ => rfl
  | number s m i =>
    cases b with
    | nan _ _ => rfl
    | infinity _ => rfl
    | number t n j =>
      simp only [Datum.sum]
      rw [Int.min_comm i j, Int.add_comm (signed s m (i - min j i).toNat), Bool.and_comm s t]

theorem fop_add_comm (k : FloatKind) (a b : Nat) : fop .add k a b = fop .add k b a := by
  unfold fop
  have : floatBits .add k a b = floatBits .add k b a := by
    show k.format.add a b = k.format.add b a
    unfold Format.add
    rw [sum_comm]
  rw [this]

theorem isN_nanOf32 : isN .f32 (nanOf .f32) = true := isN_nanOf .f32
theorem fop_nan_l {op : BinOp} {k : FloatKind} {a b : Nat} (h : isN k a = true) : fop op k a b = nanOf k := by unfold fop; rw [floatBits_nan_left h]; rfl
theorem fop_nan_r {op : BinOp} {k : FloatKind} {a b : Nat} (h : isN k b = true) : fop op k a b = nanOf k := by unfold fop; rw [floatBits_nan_right h]; rfl

theorem fin_isNum (c : Nat) : fin c = isNum .f32 c := by
  rw [Bool.eq_iff_iff, fin_iff]
  unfold isNum
  constructor
  · rintro ⟨s, m, e, h⟩
    show (match Ieee.single.read c with | .number .. => true | _ => false) = true
    rw [h]
  · intro h
    split at h
    · rename_i s m i hr
      exact ⟨s, m, i, hr⟩
    · cases h

theorem isN_fin {c : Nat} (h : isN .f32 c = true) : fin c = false := by
  cases hf : fin c with
  | false => rfl
  | true => rw [fin_notNaN hf] at h; cases h

/-- Zero by what is not finite is no number. -/
theorem zero_mul_nan {p : Nat} (h : fin p = false) : fop .mul .f32 0 p = nanOf .f32 := by
  have r0 : Ieee.single.read 0 = .number false 0 (-149) := by decide
  unfold fop
  have : floatBits .mul .f32 0 p = none := by
    show Ieee.single.mul 0 p = none
    unfold Format.mul
    rw [r0]
    cases hr : Ieee.single.read p with
    | nan s t => rfl
    | infinity s => rfl
    | number s m e =>
      have := (fin_iff p).2 ⟨s, m, e, hr⟩
      rw [h] at this
      cases this
  rw [this]
  rfl

theorem horner_nan {p x : Nat} (h : isN .f32 x = true) : ∀ xs : List Nat, isN .f32 (horner p x xs) = true
  | [] => h
  | c :: xs => by
    have ih := horner_nan (p := p) h xs
    unfold horner at ih ⊢
    rw [List.foldr_cons, fop_nan_l (op := .mul) ih, fop_nan_l (op := .add) (isN_nanOf .f32)]
    exact isN_nanOf .f32

theorem horner_snoc (p x c : Nat) (xs : List Nat) : horner p x (xs ++ [c]) = horner p (fop .add .f32 (fop .mul .f32 x p) c) xs := by
  unfold horner
  rw [List.foldr_append]
  rfl

theorem horner_notFin {p : Nat} (h : fin p = false) {xs : List Nat} (hx : xs ≠ []) : fin (horner p 0 xs) = false := by
  obtain ⟨ys, c, rfl⟩ : ∃ ys c, xs = ys ++ [c] := ⟨xs.dropLast, xs.getLast hx, (List.dropLast_concat_getLast hx).symm⟩
  rw [horner_snoc]
  refine isN_fin (horner_nan ?_ ys)
  rw [zero_mul_nan h, fop_nan_l (isN_nanOf .f32)]
  exact isN_nanOf .f32

/-! ### The greater of two -/

def atLeast0 (c : Nat) : Bool := fin c && fcmp .geq .f32 c 0

theorem read_same {k : FloatKind} {x y : Nat} (h1 : sgn k x = sgn k y) (h2 : x % k.format.signWeight = y % k.format.signWeight) : k.format.read x = k.format.read y := by
  unfold sgn at h1
  unfold Format.read
  dsimp only
  rw [h1, h2]

theorem read_fv {k : FloatKind} {x y : Nat} (h : fv k x = fv k y) (h0 : fv k x ≠ 0) : k.format.read x = k.format.read y := by
  unfold fv at h h0
  cases h1 : sgn k x <;> cases h2 : sgn k y <;> simp only [h1, h2, Bool.false_eq_true, if_false, if_true] at h h0
  · exact read_same (h1.trans h2.symm) (rv_inj (f := k.format) (by omega))
  · omega
  · omega
  · exact read_same (h1.trans h2.symm) (rv_inj (f := k.format) (by omega))

theorem fop_read {op : BinOp} {k : FloatKind} {x y z : Nat} (hop : op = .add ∨ op = .sub ∨ op = .mul ∨ op = .quo) (h : k.format.read y = k.format.read z) : fop op k x y = fop op k x z := by
  unfold fop
  have : floatBits op k x y = floatBits op k x z := by
    rcases hop with rfl | rfl | rfl | rfl
    · show k.format.add x y = k.format.add x z
      unfold Format.add
      rw [h]
    · show k.format.sub x y = k.format.sub x z
      unfold Format.sub
      rw [h]
    · show k.format.mul x y = k.format.mul x z
      unfold Format.mul
      rw [h]
    · show k.format.div x y = k.format.div x z
      unfold Format.div
      rw [h]
  rw [this]

theorem cmp_gt_iff {a b : Int} : (some (compare a b) == some Ordering.gt) = decide (b < a) := by
  show (some (compareOfLessAndEq a b) == some Ordering.gt) = decide (b < a)
  unfold compareOfLessAndEq
  rcases Int.lt_trichotomy a b with h | h | h
  · have h2 : ¬ b < a := by omega
    simp [h, h2]
  · subst h; simp
  · have h2 : ¬ a < b := by omega
    have h3 : ¬ a = b := by omega
    simp [h, h2, h3]

theorem gtr_fv {k : FloatKind} {x y : Nat} (hx : isNum k x = true) (hy : isNum k y = true) : fcmp .gtr k x y = decide (fv k y < fv k x) := by
  unfold fcmp
  rw [order_fv hx hy]
  exact cmp_gt_iff

theorem word_isNum {k : FloatKind} (s : Bool) {r : Nat} (h : r < k.format.infRung) : isNum k (k.format.word s r) = true := by
  have h2 : r < k.format.signWeight := Nat.lt_trans h k.format.infRung_lt
  exact isNum_of_lt (by rw [word_mod _ _ h2]; exact h)

theorem fv_word {k : FloatKind} (s : Bool) {r : Nat} (h : r < k.format.signWeight) : fv k (k.format.word s r) = if s then -(rv k.format r : Int) else (rv k.format r : Int) := by
  unfold fv sgn
  rw [word_sign _ _ h, word_mod _ _ h]

/-- A number less a zero: the sign of the zero does not count in a comparison with what is not below zero. -/
theorem sub_zero_gtr {x a b c : Nat} (hx : fin x = true) (ha : isNum .f32 a = true) (hb : isNum .f32 b = true) (ha0 : fv .f32 a = 0) (hb0 : fv .f32 b = 0) (hc : atLeast0 c = true) :
    fcmp .gtr .f32 (fop .sub .f32 x a) c = fcmp .gtr .f32 (fop .sub .f32 x b) c := by
  rw [fin_isNum] at hx
  obtain ⟨m, e, hxr, _⟩ := isNum_read hx
  have zero : ∀ z, fv .f32 z = 0 → FloatKind.f32.format.read z = .number (sgn .f32 z) 0 FloatKind.f32.format.leastPlace := by
    intro z hz
    have := fv_zero hz
    unfold Format.read
    dsimp only
    rw [this, if_pos (binade_pos _)]
    rfl
  have key : ∀ z, fv .f32 z = 0 → fop .sub .f32 x z = FloatKind.f32.format.nearest (if signed (sgn .f32 x) m e = 0 then sgn .f32 x && !(sgn .f32 z) else decide (signed (sgn .f32 x) m e < 0)) (signed (sgn .f32 x) m e).natAbs FloatKind.f32.format.leastPlace := by
    intro z hz
    have h1 : floatBits .sub .f32 x z = some (FloatKind.f32.format.nearest (if signed (sgn .f32 x) m e = 0 then sgn .f32 x && !(sgn .f32 z) else decide (signed (sgn .f32 x) m e < 0)) (signed (sgn .f32 x) m e).natAbs FloatKind.f32.format.leastPlace) := by
      show FloatKind.f32.format.sub x z = _
      unfold Format.sub
      rw [hxr, zero z hz]
      simp only [Datum.opposite, Datum.sum]
      have h2 : min (FloatKind.f32.format.leastPlace + (e : Int)) FloatKind.f32.format.leastPlace = FloatKind.f32.format.leastPlace := by omega
      rw [h2]
      have h3 : (FloatKind.f32.format.leastPlace + (e : Int) - FloatKind.f32.format.leastPlace).toNat = e := by omega
      have h4 : signed (!sgn .f32 z) 0 (FloatKind.f32.format.leastPlace - FloatKind.f32.format.leastPlace).toNat = 0 := by unfold signed; cases sgn .f32 z <;> simp
      rw [h3, h4, Int.add_zero]
      rfl
    unfold fop
    rw [h1]
    rfl
  rw [key a ha0, key b hb0]
  by_cases h0 : signed (sgn .f32 x) m e = 0
  · rw [if_pos h0, if_pos h0, h0]
    have hz : ∀ s : Bool, fcmp .gtr .f32 (FloatKind.f32.format.nearest s (Int.natAbs 0) FloatKind.f32.format.leastPlace) c = false := by
      intro s
      unfold atLeast0 at hc
      rw [Bool.and_eq_true] at hc
      have hcn : isNum .f32 c = true := by rw [← fin_isNum]; exact hc.1
      have e1 : FloatKind.f32.format.nearest s (Int.natAbs 0) FloatKind.f32.format.leastPlace = FloatKind.f32.format.word s 0 := rfl
      have h5 : (0 : Nat) < FloatKind.f32.format.infRung := by decide
      rw [e1, gtr_fv (word_isNum s h5) hcn, fv_word s (Nat.two_pow_pos _), rv_zero]
      have h6 := hc.2
      have h7 : isNum .f32 0 = true := by decide
      unfold fcmp at h6
      rw [order_fv hcn h7] at h6
      have h8 : fv .f32 0 = 0 := by decide
      rw [h8] at h6
      dsimp only at h6
      rw [cmp_geq] at h6
      have h9 := of_decide_eq_true h6
      cases s <;> simp <;> omega
    rw [hz, hz]
  · rw [if_neg h0, if_neg h0]

/-- The greater of two numbers, by the builtin or by a comparison: alike in what is behind it. -/
theorem sub_max {x a b c : Nat} (hx : fin x = true) (ha : fin a = true) (hb : fin b = true) (hc : atLeast0 c = true) :
    fcmp .gtr .f32 (fop .sub .f32 x (fmax .f32 a b)) c = fcmp .gtr .f32 (fop .sub .f32 x (bif fcmp .gtr .f32 b a then b else a)) c := by
  have ha' := ha
  have hb' := hb
  rw [fin_isNum] at ha' hb'
  rw [gtr_fv hb' ha']
  have ho := order_fv ha' hb'
  have key : fmax .f32 a b = match some (compare (fv .f32 a) (fv .f32 b)) with
      | none => nanOf .f32
      | some .lt => b
      | some .gt => a
      | some .eq => bif (FloatKind.f32.decode a).neg then b else a := by
    unfold fmax
    rw [ho]
    rfl
  rw [key]
  rcases Int.lt_trichotomy (fv .f32 a) (fv .f32 b) with h | h | h
  · have h1 : compare (fv .f32 a) (fv .f32 b) = .lt := by
      show compareOfLessAndEq _ _ = _
      unfold compareOfLessAndEq
      simp [h]
    rw [h1]
    simp [h]
  · have h1 : compare (fv .f32 a) (fv .f32 b) = .eq := by
      show compareOfLessAndEq _ _ = _
      unfold compareOfLessAndEq
      simp [h]
    rw [h1, h]
    simp only [Int.lt_irrefl, decide_false, cond_false]
    cases (FloatKind.f32.decode a).neg with
    | false => rfl
    | true =>
      simp only [cond_true]
      by_cases h0 : fv .f32 a = 0
      · exact sub_zero_gtr hx hb' ha' (by omega) h0 hc
      · rw [fop_read (.inr (.inl rfl)) (read_fv h h0)]
  · have h1 : compare (fv .f32 a) (fv .f32 b) = .gt := by
      show compareOfLessAndEq _ _ = _
      unfold compareOfLessAndEq
      have h2 : ¬ fv .f32 a < fv .f32 b := by omega
      have h3 : ¬ fv .f32 a = fv .f32 b := by omega
      simp [h2, h3]
    have h2 : ¬ fv .f32 a < fv .f32 b := by omega
    rw [h1]
    simp [h2]

end Go.Sm
