/- A machine on plain data, its laws: part 6. -/
import Derived.Test.YtpckpfbjhnllbaaK5
/- Rounds with a state, by a counter; what they come to. -/
namespace Go.Sm
open Go

section
variable {T : TT} {A : Ann} {L : Loops} {nt : Nat}

theorem loops_of {fn : Func} {n : Nat} (h : nLoops fn = n) (hl : ∀ i, i < n → LOK T A L nt (loopAt fn i)) : LoopsOk T A L nt (bodyOf fn) := loops_all fun b hb => by
  obtain ⟨i, hi⟩ := List.getElem?_of_mem hb
  have hlt : i < (loopBodies (bodyOf fn)).length := by
    rcases Nat.lt_or_ge i (loopBodies (bodyOf fn)).length with h' | h'
    · exact h'
    · rw [List.getElem?_eq_none h'] at hi; cases hi
  have := hl i (by unfold nLoops at h; omega)
  unfold loopAt at this
  rw [List.getD_eq_getElem?_getD, hi] at this
  exact this

theorem loops3 {fn : Func} (h : nLoops fn = 3) (h0 : LOK T A L nt (loopAt fn 0)) (h1 : LOK T A L nt (loopAt fn 1)) (h2 : LOK T A L nt (loopAt fn 2)) : LoopsOk T A L nt (bodyOf fn) := loops_of h fun i hi => by
  match i, hi with
  | 0, _ => exact h0
  | 1, _ => exact h1
  | 2, _ => exact h2
end

/-- 'm' rounds from 'j' on, a state carried. -/
def rep {σ : Type} (f : Nat → σ → σ) : Nat → Nat → σ → σ
  | 0, _, s => s
  | m + 1, j, s => rep f m (j + 1) (f j s)

/-- The same; 'none': broken off. -/
def repE {σ : Type} (f : Nat → σ → Option σ) : Nat → Nat → σ → Option σ
  | 0, _, s => some s
  | m + 1, j, s => match f j s with
    | some t => repE f m (j + 1) t
    | none => none

theorem rep_succ {σ : Type} (f : Nat → σ → σ) (m j : Nat) (s : σ) : rep f (m + 1) j s = rep f m (j + 1) (f j s) := rfl
theorem repE_succ {σ : Type} (f : Nat → σ → Option σ) (m j : Nat) (s : σ) : repE f (m + 1) j s = match f j s with
    | some t => repE f m (j + 1) t
    | none => none := rfl

/-- The numbers from 'j' on. -/
def fromTo (j m : Nat) : List Nat := List.range' j m

theorem fromTo_succ (j m : Nat) : fromTo j (m + 1) = j :: fromTo (j + 1) m := rfl
theorem fromTo_len (j m : Nat) : (fromTo j m).length = m := List.length_range'
theorem rep_map {α : Type} (g : Nat → α) : ∀ (m j : Nat) (zs : List α), rep (fun j zs => zs ++ [g j]) m j zs = zs ++ (fromTo j m).map g
  | 0, _, zs => by simp [rep, fromTo]
  | m + 1, j, zs => by
    unfold rep
    rw [rep_map g m, fromTo_succ]
    simp

theorem getI {α : Type} {d : α} {n : Nat} {xs : List α} (h : n < xs.length) : xs[Int.toNat (n : Int)]? = some (xs.getD n d) := by simp [List.getD, h]
theorem getI2 {α : Type} {d : α} {n : Nat} {xs : List α} (h : n < xs.length) : xs[n]? = some (xs.getD n d) := by simp [List.getD, h]
theorem big_le {n : Nat} (h : Nat.ble n big = true) : n ≤ 1099511627776 := Nat.le_of_ble_eq_true h
theorem big_of {n : Nat} (h : n ≤ 1099511627776) : Nat.ble n big = true := Nat.ble_eq_true_of_le h
theorem wrapN {n : Int} {m : Nat} (h : n = (m : Int)) (hm : m ≤ 2199023255552) : IntKind.i64.wrap n = (m : Int) := by
  subst h
  exact wrap64 (by omega) (by omega)

/-! ### Lists of numbers, as the program asks for them -/
def listOk (xs : List Nat) (n : Int) : Bool := decide ((xs.length : Int) ≥ n) && (decide (xs.length ≤ 128) && xs.all fin)
def lamps (xs ys : List Nat) (n : Int) : Bool := decide ((xs.length : Int) ≥ n) && (decide (xs.length ≤ 16) && (decide (ys.length = xs.length) && (xs.all fin && ys.all fin)))
theorem orNil_len {α : Type} (b : Bool) (xs : List α) {n : Nat} (h : b = true → xs.length ≤ n) : (orNil b xs).length ≤ n := by
  cases b with
  | true => exact h rfl
  | false => exact Nat.zero_le _

end Go.Sm

/- Floats: sums, products and quotients between bounds. -/
namespace Go.Sm
open Go Ieee

/-- So many places below one. -/
def lp (k : FloatKind) : Nat := (-k.format.leastPlace).toNat
theorem lp_eq (k : FloatKind) : k.format.leastPlace = -(lp k : Int) := by cases k <;> decide

theorem signed_natAbs (s : Bool) (m e : Nat) : (signed s m e).natAbs = m * 2 ^ e := by
  unfold signed
  rw [Nat.shiftLeft_eq]
  cases s
  · rfl
  · show (-((m * 2 ^ e : Nat) : Int)).natAbs = _
    rw [Int.natAbs_neg]
    rfl

/-- A number, spelled out. -/
theorem isNum_spell {k : FloatKind} {x : Nat} (h : isNum k x = true) : ∃ m e : Nat, k.format.read x = .number (sgn k x) m (k.format.leastPlace + (e : Int)) ∧ (fv k x).natAbs = m * 2 ^ e := by
  obtain ⟨m, e, h1, h2⟩ := isNum_read h
  refine ⟨m, e, h1, ?_⟩
  rw [fv_read h1, signed_natAbs]
  congr 2
  omega

theorem fop_some {op : BinOp} {k : FloatKind} {x y r : Nat} (h : floatBits op k x y = some r) : fop op k x y = r := by unfold fop; rw [h]; rfl

theorem fop_mul {k : FloatKind} {x y : Nat} (hx : isNum k x = true) (hy : isNum k y = true) : ∃ q, fop .mul k x y = k.format.word (sgn k x ^^ sgn k y) q ∧ q ≤ k.format.infRung ∧
    (∀ z, (fv k x).natAbs * (fv k y).natAbs ≤ rv k.format z * 2 ^ lp k → q ≤ z) ∧ (∀ z, z ≤ k.format.infRung → rv k.format z * 2 ^ lp k ≤ (fv k x).natAbs * (fv k y).natAbs → z ≤ q) := by
  obtain ⟨m, e, h1, h2⟩ := isNum_spell hx
  obtain ⟨n, e', h3, h4⟩ := isNum_spell hy
  have hl := lp_eq k
  have hr : floatBits .mul k x y = some (k.format.nearest (sgn k x ^^ sgn k y) (m * n) (k.format.leastPlace + (e : Int) + (k.format.leastPlace + (e' : Int)))) := by
    show k.format.mul x y = _
    unfold Format.mul
    rw [h1, h3]
    rfl
  rw [fop_some hr, nearest_eq]
  have hv : (fv k x).natAbs * (fv k y).natAbs = m * n * 2 ^ (e + e') := by rw [h2, h4, Nat.pow_add]; ac_rfl
  refine ⟨_, rfl, nrung_inf _ _ _, fun z hz => nrung_le (k1 := e + e') (k2 := lp k) (by omega) (by rw [← hv]; exact hz), fun z hzi hz => nrung_ge (k1 := e + e') (k2 := lp k) (by omega) (by rw [← hv]; exact hz) hzi⟩

theorem fop_add {k : FloatKind} {x y : Nat} (hx : isNum k x = true) (hy : isNum k y = true) : ∃ s q, fop .add k x y = k.format.word s q ∧ q ≤ k.format.infRung ∧ (fv k x + fv k y < 0 → s = true) ∧ (0 < fv k x + fv k y → s = false) ∧
    (∀ z, (fv k x + fv k y).natAbs ≤ rv k.format z → q ≤ z) ∧ (∀ z, z ≤ k.format.infRung → rv k.format z ≤ (fv k x + fv k y).natAbs → z ≤ q) := by
  obtain ⟨m, e, h1, _⟩ := isNum_spell hx
  obtain ⟨n, e', h3, _⟩ := isNum_spell hy
  have hb : ∃ b : Nat, min (k.format.leastPlace + (e : Int)) (k.format.leastPlace + (e' : Int)) = k.format.leastPlace + (b : Int) ∧ b ≤ e ∧ b ≤ e' := ⟨min e e', by omega, Nat.min_le_left _ _, Nat.min_le_right _ _⟩
  obtain ⟨b, hb1, hb2, hb3⟩ := hb
  have q1 : (k.format.leastPlace + (e : Int) - (k.format.leastPlace + (b : Int))).toNat = e - b := by omega
  have q2 : (k.format.leastPlace + (e' : Int) - (k.format.leastPlace + (b : Int))).toNat = e' - b := by omega
  have v1 : fv k x = signed (sgn k x) m (e - b) * 2 ^ b := by
    rw [fv_read h1, ← signed_mul]
    congr 1
    omega
  have v2 : fv k y = signed (sgn k y) n (e' - b) * 2 ^ b := by
    rw [fv_read h3, ← signed_mul]
    congr 1
    omega
  have hr : floatBits .add k x y = some (k.format.nearest (if signed (sgn k x) m (e - b) + signed (sgn k y) n (e' - b) = 0 then sgn k x && sgn k y else decide (signed (sgn k x) m (e - b) + signed (sgn k y) n (e' - b) < 0)) (signed (sgn k x) m (e - b) + signed (sgn k y) n (e' - b)).natAbs (k.format.leastPlace + (b : Int))) := by
    show k.format.add x y = _
    unfold Format.add
    rw [h1, h3]
    simp only [Datum.sum, hb1, q1, q2, Option.map_some, Format.write]
  rw [fop_some hr, nearest_eq]
  have hsum : fv k x + fv k y = (signed (sgn k x) m (e - b) + signed (sgn k y) n (e' - b)) * 2 ^ b := by rw [v1, v2, Int.add_mul]
  generalize signed (sgn k x) m (e - b) + signed (sgn k y) n (e' - b) = S at hsum ⊢
  have hp : (0 : Int) < 2 ^ b := Int.pow_pos (by decide)
  have hna : (fv k x + fv k y).natAbs = S.natAbs * 2 ^ b := by
    rw [hsum, Int.natAbs_mul, Int.natAbs_pow]
    rfl
  refine ⟨_, _, rfl, nrung_inf _ _ _, fun h => ?_, fun h => ?_, fun z hz => nrung_le (k1 := b) (k2 := 0) (by omega) (by rw [← hna, Nat.pow_zero, Nat.mul_one]; exact hz), fun z hzi hz => nrung_ge (k1 := b) (k2 := 0) (by omega) (by rw [← hna, Nat.pow_zero, Nat.mul_one]; exact hz) hzi⟩
  · rw [hsum] at h
    have : S < 0 := by
      rcases Int.lt_or_le S 0 with h1 | h1
      · exact h1
      · have := Int.mul_nonneg h1 (Int.le_of_lt hp); omega
    rw [if_neg (by omega)]
    exact decide_eq_true this
  · rw [hsum] at h
    have : 0 < S := by
      rcases Int.lt_or_le 0 S with h1 | h1
      · exact h1
      · have := Int.mul_nonneg (show 0 ≤ -S by omega) (Int.le_of_lt hp)
        rw [Int.neg_mul] at this
        omega
    rw [if_neg (by omega)]
    exact decide_eq_false (by omega)

/-- A difference is a sum with the opposite. -/
theorem fop_sub {k : FloatKind} {x y : Nat} (hx : isNum k x = true) (hy : isNum k y = true) : ∃ s q, fop .sub k x y = k.format.word s q ∧ q ≤ k.format.infRung ∧ (fv k x - fv k y < 0 → s = true) ∧ (0 < fv k x - fv k y → s = false) ∧
    (∀ z, (fv k x - fv k y).natAbs ≤ rv k.format z → q ≤ z) ∧ (∀ z, z ≤ k.format.infRung → rv k.format z ≤ (fv k x - fv k y).natAbs → z ≤ q) := by
  -- the word with the other sign
  have hp : 0 < k.format.signWeight := Nat.two_pow_pos _
  have hlt := isNum_lt hy
  have hlt2 : y % k.format.signWeight < k.format.signWeight := Nat.mod_lt _ hp
  let y' := k.format.word (!sgn k y) (y % k.format.signWeight)
  have hy' : isNum k y' = true := word_isNum _ hlt
  have hf : fv k y' = -fv k y := by
    show fv k (k.format.word (!sgn k y) (y % k.format.signWeight)) = _
    rw [fv_word _ hlt2]
    unfold fv
    cases sgn k y <;> simp
  have hs : sgn k y' = !sgn k y := word_sign _ _ hlt2
  have hm : y' % k.format.signWeight = y % k.format.signWeight := word_mod _ _ hlt2
  have hread : k.format.read y' = (k.format.read y).opposite := by
    have hs' : (y' / k.format.signWeight % 2 == 1) = !(y / k.format.signWeight % 2 == 1) := hs
    unfold Format.read
    dsimp only
    rw [hm, hs']
    by_cases c1 : y % k.format.signWeight < k.format.binade
    · rw [if_pos c1, if_pos c1]
      rfl
    · rw [if_neg c1, if_neg c1, if_pos hlt, if_pos hlt]
      rfl
  have he : fop .sub k x y = fop .add k x y' := by
    unfold fop
    have : floatBits .sub k x y = floatBits .add k x y' := by
      show k.format.sub x y = k.format.add x y'
      unfold Format.sub Format.add
      rw [hread]
    rw [this]
  rw [he]
  have := fop_add hx hy'
  rw [hf] at this
  exact this

theorem fop_quo {k : FloatKind} {x y : Nat} (hx : isNum k x = true) (hy : isNum k y = true) (h0 : fv k y ≠ 0) : ∃ q, fop .quo k x y = k.format.word (sgn k x ^^ sgn k y) q ∧ q ≤ k.format.infRung ∧
    (∀ z, (fv k x).natAbs * 2 ^ lp k ≤ rv k.format z * (fv k y).natAbs → q ≤ z) ∧ (∀ z, z ≤ k.format.infRung → rv k.format z * (fv k y).natAbs ≤ (fv k x).natAbs * 2 ^ lp k → z ≤ q) := by
  obtain ⟨m, e, h1, h2⟩ := isNum_spell hx
  obtain ⟨n, e', h3, h4⟩ := isNum_spell hy
  have hl := lp_eq k
  have hn : n ≠ 0 := by
    intro h
    subst h
    rw [Nat.zero_mul] at h4
    omega
  generalize hmore : k.format.fractionBits + 2 + n.log2 - m.log2 = more
  have hr : floatBits .quo k x y = some (k.format.nearest (sgn k x ^^ sgn k y) (2 * (m <<< more / n) + (m <<< more % n != 0).toNat) (k.format.leastPlace + (e : Int) - (k.format.leastPlace + (e' : Int)) - (more : Int) - 1)) := by
    show k.format.div x y = _
    unfold Format.div
    rw [h1, h3]
    simp only [Datum.quotient, if_neg hn, hmore, Option.map_some, Format.write]
  rw [fop_some hr, nearest_eq]
  rw [Nat.shiftLeft_eq]
  generalize hD : m * 2 ^ more = D
  have hdm := Nat.div_add_mod D n
  have hml := Nat.mod_lt D (Nat.pos_of_ne_zero hn)
  -- the magnitude: twice the quotient, one more where something is left
  have hnp := Nat.pos_of_ne_zero hn
  generalize hq : D / n = Q at hdm ⊢
  generalize hrm : D % n = R at hdm hml ⊢
  have hup : ∀ B, 2 * D ≤ B * n → 2 * Q + (R != 0).toNat ≤ B := by
    intro B hB
    by_cases hz : R = 0
    · have h5 : 2 * Q * n ≤ B * n := by
        have e1 : 2 * Q * n = 2 * (n * Q) := by rw [Nat.mul_assoc, Nat.mul_comm Q]
        omega
      have := Nat.le_of_mul_le_mul_right h5 hnp
      simpa [hz] using this
    · have hb : (R != 0) = true := by simp [hz]
      rw [hb]
      have h5 : 2 * Q * n < B * n := by
        have e1 : 2 * Q * n = 2 * (n * Q) := by rw [Nat.mul_assoc, Nat.mul_comm Q]
        omega
      have := Nat.lt_of_mul_lt_mul_right h5
      simp only [Bool.toNat_true]
      omega
  have hdown : ∀ B, B * n ≤ 2 * D → B ≤ 2 * Q + (R != 0).toNat := by
    intro B hB
    by_cases hz : R = 0
    · have h5 : B * n ≤ 2 * Q * n := by
        have e1 : 2 * Q * n = 2 * (n * Q) := by rw [Nat.mul_assoc, Nat.mul_comm Q]
        omega
      have := Nat.le_of_mul_le_mul_right h5 hnp
      simpa [hz] using this
    · have hb : (R != 0) = true := by simp [hz]
      rw [hb]
      have h5 : B * n < (2 * Q + 2) * n := by
        have e1 : (2 * Q + 2) * n = 2 * (n * Q) + 2 * n := by rw [Nat.add_mul, Nat.mul_assoc, Nat.mul_comm Q]
        omega
      have := Nat.lt_of_mul_lt_mul_right h5
      simp only [Bool.toNat_true]
      omega
  -- so many digits
  have hdig : m ≠ 0 → 2 ^ (k.format.fractionBits + 1) * n < D := by
    intro hm
    have a1 : n < 2 ^ (n.log2 + 1) := Nat.lt_log2_self
    have a2 : 2 ^ m.log2 ≤ m := Nat.log2_self_le hm
    have a3 : 2 ^ (k.format.fractionBits + 1) * n < 2 ^ (k.format.fractionBits + 1) * 2 ^ (n.log2 + 1) := Nat.mul_lt_mul_of_pos_left a1 (Nat.two_pow_pos _)
    have a4 : 2 ^ m.log2 * 2 ^ more ≤ m * 2 ^ more := Nat.mul_le_mul_right _ a2
    rw [← Nat.pow_add] at a3 a4
    have a5 : 2 ^ (k.format.fractionBits + 1 + (n.log2 + 1)) ≤ 2 ^ (m.log2 + more) := Nat.pow_le_pow_right (by decide) (by omega)
    omega
  have hQ : m ≠ 0 → 2 ^ (k.format.fractionBits + 1) ≤ Q := by
    intro hm
    have h5 := hdig hm
    have h6 : 2 ^ (k.format.fractionBits + 1) * n < (Q + 1) * n := by
      have e1 : (Q + 1) * n = n * Q + n := by rw [Nat.add_mul, Nat.one_mul, Nat.mul_comm]
      omega
    have := Nat.lt_of_mul_lt_mul_right h6
    omega
  have hbin : k.format.binade = 2 ^ k.format.fractionBits := rfl
  have hva : (fv k x).natAbs * 2 ^ lp k * 2 ^ (more + 1) = 2 * D * 2 ^ (e + lp k) := by
    rw [h2, ← hD, Nat.pow_succ, Nat.pow_add]
    ac_rfl
  refine ⟨_, rfl, nrung_inf _ _ _, fun z hz => ?_, fun z hzi hz => ?_⟩
  · refine nrung_le (k1 := e + lp k) (k2 := e' + more + 1) (by omega) ?_
    obtain ⟨mz, ez, _, z2, _, z4⟩ := rung_split k.format z
    have h5 : 2 * D * 2 ^ (e + lp k) ≤ mz * 2 ^ (ez + (e' + more + 1)) * n := by
      rw [← hva]
      have := Nat.mul_le_mul_right (2 ^ (more + 1)) hz
      refine Nat.le_trans this (Nat.le_of_eq ?_)
      rw [z4, h4, show ez + (e' + more + 1) = ez + e' + (more + 1) by omega, Nat.pow_add 2 (ez + e') (more + 1), Nat.pow_add 2 ez e']
      ac_rfl
    rw [z4, Nat.mul_assoc, ← Nat.pow_add]
    rcases Nat.lt_or_ge (ez + (e' + more + 1)) (e + lp k) with h6 | h6
    · by_cases hm : m = 0
      · have hD0 : D = 0 := by rw [← hD, hm, Nat.zero_mul]
        have h7 := hup 0 (by omega)
        have : 2 * Q + (R != 0).toNat = 0 := by omega
        rw [this, Nat.zero_mul]
        exact Nat.zero_le _
      · exfalso
        obtain ⟨d, hd⟩ : ∃ d, e + lp k = ez + (e' + more + 1) + d := ⟨e + lp k - (ez + (e' + more + 1)), by omega⟩
        rw [hd, Nat.pow_add 2 (ez + (e' + more + 1)) d] at h5
        have h7 : 2 * D * 2 ^ d * 2 ^ (ez + (e' + more + 1)) ≤ mz * n * 2 ^ (ez + (e' + more + 1)) := by
          refine Nat.le_trans (Nat.le_of_eq ?_) (Nat.le_trans h5 (Nat.le_of_eq ?_)) <;> ac_rfl
        have h8 := Nat.le_of_mul_le_mul_right h7 (Nat.two_pow_pos _)
        have h9 : 2 * D ≤ 2 * D * 2 ^ d := Nat.le_mul_of_pos_right _ (Nat.two_pow_pos _)
        have h10 : mz * n ≤ 2 * k.format.binade * n := Nat.mul_le_mul_right _ (Nat.le_of_lt z2)
        have h11 := hdig hm
        rw [Nat.pow_succ', ← hbin] at h11
        omega
    · obtain ⟨d, hd⟩ : ∃ d, ez + (e' + more + 1) = e + lp k + d := ⟨ez + (e' + more + 1) - (e + lp k), by omega⟩
      rw [hd, Nat.pow_add 2 (e + lp k) d] at h5 ⊢
      have h7 : 2 * D * 2 ^ (e + lp k) ≤ mz * 2 ^ d * n * 2 ^ (e + lp k) := by
        refine Nat.le_trans h5 (Nat.le_of_eq ?_)
        ac_rfl
      have h8 := hup _ (Nat.le_of_mul_le_mul_right h7 (Nat.two_pow_pos _))
      have h9 := Nat.mul_le_mul_right (2 ^ (e + lp k)) h8
      refine Nat.le_trans h9 (Nat.le_of_eq ?_)
      ac_rfl
  · refine nrung_ge (k1 := e + lp k) (k2 := e' + more + 1) (by omega) ?_ hzi
    obtain ⟨mz, ez, _, z2, _, z4⟩ := rung_split k.format z
    have h5 : mz * 2 ^ (ez + (e' + more + 1)) * n ≤ 2 * D * 2 ^ (e + lp k) := by
      rw [← hva]
      have := Nat.mul_le_mul_right (2 ^ (more + 1)) hz
      refine Nat.le_trans (Nat.le_of_eq ?_) this
      rw [z4, h4, show ez + (e' + more + 1) = ez + e' + (more + 1) by omega, Nat.pow_add 2 (ez + e') (more + 1), Nat.pow_add 2 ez e']
      ac_rfl
    rw [z4, Nat.mul_assoc, ← Nat.pow_add]
    rcases Nat.lt_or_ge (ez + (e' + more + 1)) (e + lp k) with h6 | h6
    · by_cases hm : m = 0
      · have hD0 : D = 0 := by rw [← hD, hm, Nat.zero_mul]
        rw [hD0, Nat.mul_zero, Nat.zero_mul] at h5
        have h7 : mz * 2 ^ (ez + (e' + more + 1)) * n = 0 := by omega
        rcases Nat.mul_eq_zero.1 h7 with h8 | h8
        · rw [h8]; exact Nat.zero_le _
        · exact absurd h8 hn
      · have h7 := hQ hm
        rw [Nat.pow_succ', ← hbin] at h7
        have h8 : mz ≤ 2 * Q + (R != 0).toNat := by omega
        exact Nat.mul_le_mul h8 (Nat.pow_le_pow_right (by decide) (by omega))
    · obtain ⟨d, hd⟩ : ∃ d, ez + (e' + more + 1) = e + lp k + d := ⟨ez + (e' + more + 1) - (e + lp k), by omega⟩
      rw [hd, Nat.pow_add 2 (e + lp k) d] at h5 ⊢
      have h7 : mz * 2 ^ d * n * 2 ^ (e + lp k) ≤ 2 * D * 2 ^ (e + lp k) := by
        refine Nat.le_trans (Nat.le_of_eq ?_) h5
        ac_rfl
      have h8 := hdown _ (Nat.le_of_mul_le_mul_right h7 (Nat.two_pow_pos _))
      have h9 := Nat.mul_le_mul_right (2 ^ (e + lp k)) h8
      refine Nat.le_trans (Nat.le_of_eq ?_) h9
      ac_rfl

end Go.Sm

/- Floats between bounds; narrowing what is not too great; the exponential. -/
namespace Go.Sm
open Go Ieee

theorem fv_word_abs {k : FloatKind} (s : Bool) {q : Nat} (h : q < k.format.infRung) : (fv k (k.format.word s q)).natAbs = rv k.format q := by
  rw [fv_word s (Nat.lt_trans h k.format.infRung_lt)]
  cases s <;> simp

/-- A product between bounds. -/
theorem mulB {k : FloatKind} {x y z X Y : Nat} (hx : isNum k x = true) (hy : isNum k y = true) (h1 : (fv k x).natAbs ≤ X) (h2 : (fv k y).natAbs ≤ Y) (hz : X * Y ≤ rv k.format z * 2 ^ lp k) (hi : z < k.format.infRung) :
    isNum k (fop .mul k x y) = true ∧ (fv k (fop .mul k x y)).natAbs ≤ rv k.format z ∧ (0 ≤ fv k x → 0 ≤ fv k y → 0 ≤ fv k (fop .mul k x y)) ∧ (fv k x ≤ 0 → 0 ≤ fv k y → fv k (fop .mul k x y) ≤ 0) := by
  obtain ⟨q, e, _, hle, _⟩ := fop_mul hx hy
  have hq : q ≤ z := hle z (Nat.le_trans (Nat.mul_le_mul h1 h2) hz)
  have hqi : q < k.format.infRung := Nat.lt_of_le_of_lt hq hi
  have hqs : q < k.format.signWeight := Nat.lt_trans hqi k.format.infRung_lt
  have h0 : fv k x = 0 ∨ fv k y = 0 → q = 0 := by
    intro h
    have : q ≤ 0 := hle 0 (by rcases h with h | h <;> simp [h])
    omega
  have sgnp : ∀ {w : Nat}, 0 < fv k w → sgn k w = false := by
    intro w h
    unfold fv at h
    cases hs : sgn k w with
    | false => rfl
    | true => rw [hs] at h; simp only [if_true] at h; omega
  have sgnn : ∀ {w : Nat}, fv k w < 0 → sgn k w = true := by
    intro w h
    unfold fv at h
    cases hs : sgn k w with
    | true => rfl
    | false => rw [hs] at h; simp only [Bool.false_eq_true, if_false] at h; omega
  rw [e]
  refine ⟨word_isNum _ hqi, by rw [fv_word_abs _ hqi]; exact rv_le hq, fun a b => ?_, fun a b => ?_⟩
  · rw [fv_word _ hqs]
    by_cases c : fv k x = 0 ∨ fv k y = 0
    · rw [h0 c, rv_zero]; simp
    · rw [sgnp (w := x) (by omega), sgnp (w := y) (by omega)]
      simp
  · rw [fv_word _ hqs]
    by_cases c : fv k x = 0 ∨ fv k y = 0
    · rw [h0 c, rv_zero]; simp
    · rw [sgnn (w := x) (by omega), sgnp (w := y) (by omega)]
      simp

theorem sgn_pos {k : FloatKind} {w : Nat} (h : 0 < fv k w) : sgn k w = false := by
  unfold fv at h
  cases hs : sgn k w with
  | false => rfl
  | true => rw [hs] at h; simp only [if_true] at h; omega
theorem sgn_neg {k : FloatKind} {w : Nat} (h : fv k w < 0) : sgn k w = true := by
  unfold fv at h
  cases hs : sgn k w with
  | true => rfl
  | false => rw [hs] at h; simp only [Bool.false_eq_true, if_false] at h; omega

/-- A quotient by what is greater than zero. -/
theorem quoB {k : FloatKind} {x y z : Nat} (hx : isNum k x = true) (hy : isNum k y = true) (hp : 0 < fv k y) (hz : (fv k x).natAbs * 2 ^ lp k ≤ rv k.format z * (fv k y).natAbs) (hi : z < k.format.infRung) :
    isNum k (fop .quo k x y) = true ∧ (fv k (fop .quo k x y)).natAbs ≤ rv k.format z ∧ (0 ≤ fv k x → 0 ≤ fv k (fop .quo k x y)) ∧ (fv k x ≤ 0 → fv k (fop .quo k x y) ≤ 0) := by
  obtain ⟨q, e, _, hle, _⟩ := fop_quo hx hy (by omega)
  have hq : q ≤ z := hle z hz
  have hqi : q < k.format.infRung := Nat.lt_of_le_of_lt hq hi
  have hqs : q < k.format.signWeight := Nat.lt_trans hqi k.format.infRung_lt
  have h0 : fv k x = 0 → q = 0 := by
    intro h
    have : q ≤ 0 := hle 0 (by simp [h])
    omega
  rw [e]
  refine ⟨word_isNum _ hqi, by rw [fv_word_abs _ hqi]; exact rv_le hq, fun a => ?_, fun a => ?_⟩
  · rw [fv_word _ hqs]
    by_cases c : fv k x = 0
    · rw [h0 c, rv_zero]; simp
    · rw [sgn_pos (w := x) (by omega), sgn_pos hp]
      simp
  · rw [fv_word _ hqs]
    by_cases c : fv k x = 0
    · rw [h0 c, rv_zero]; simp
    · rw [sgn_neg (w := x) (by omega), sgn_pos hp]
      simp

/-- A sum between bounds. -/
def SumB (k : FloatKind) (r : Nat) (S : Int) (z : Nat) : Prop :=
  isNum k r = true ∧ (fv k r).natAbs ≤ rv k.format z ∧ (0 ≤ S → 0 ≤ fv k r) ∧ (S ≤ 0 → fv k r ≤ 0) ∧ (∀ b : Nat, b < k.format.infRung → (rv k.format b : Int) ≤ S → (rv k.format b : Int) ≤ fv k r) ∧ (∀ b : Nat, b < k.format.infRung → 0 ≤ S → S ≤ (rv k.format b : Int) → fv k r ≤ (rv k.format b : Int))

theorem addsub {k : FloatKind} {r : Nat} {S : Int} (h : ∃ s q, r = k.format.word s q ∧ q ≤ k.format.infRung ∧ (S < 0 → s = true) ∧ (0 < S → s = false) ∧ (∀ z, S.natAbs ≤ rv k.format z → q ≤ z) ∧ (∀ z, z ≤ k.format.infRung → rv k.format z ≤ S.natAbs → z ≤ q))
    {z : Nat} (hz : S.natAbs ≤ rv k.format z) (hi : z < k.format.infRung) : SumB k r S z := by
  obtain ⟨s, q, rfl, _, hneg, hpos, hle, hge⟩ := h
  have hq : q ≤ z := hle z hz
  have hqi : q < k.format.infRung := Nat.lt_of_le_of_lt hq hi
  have hqs : q < k.format.signWeight := Nat.lt_trans hqi k.format.infRung_lt
  have h0 : S = 0 → q = 0 := by
    intro h
    have : q ≤ 0 := hle 0 (by simp [h])
    omega
  refine ⟨word_isNum _ hqi, by rw [fv_word_abs _ hqi]; exact rv_le hq, fun a => ?_, fun a => ?_, fun b hb hs => ?_, fun b hb h1 h2 => ?_⟩
  · rw [fv_word _ hqs]
    by_cases c : S = 0
    · rw [h0 c, rv_zero]; simp
    · rw [hpos (by omega)]; simp
  · rw [fv_word _ hqs]
    by_cases c : S = 0
    · rw [h0 c, rv_zero]; simp
    · rw [hneg (by omega)]; simp
  · have h3 : b ≤ q := hge b (Nat.le_of_lt hb) (by omega)
    have h4 := rv_le (f := k.format) h3
    rw [fv_word _ hqs]
    by_cases c : S = 0
    · have := h0 c
      subst this
      rw [rv_zero] at h4 ⊢
      simp
      omega
    · rw [hpos (by omega)]
      simp only [Bool.false_eq_true, if_false]
      omega
  · have h3 : q ≤ b := hle b (by omega)
    have h4 := rv_le (f := k.format) h3
    rw [fv_word _ hqs]
    by_cases c : S = 0
    · rw [h0 c, rv_zero]
      cases s <;> simp
    · rw [hpos (by omega)]
      simp only [Bool.false_eq_true, if_false]
      omega

theorem addB {k : FloatKind} {x y z : Nat} (hx : isNum k x = true) (hy : isNum k y = true) (hz : (fv k x + fv k y).natAbs ≤ rv k.format z) (hi : z < k.format.infRung) : SumB k (fop .add k x y) (fv k x + fv k y) z := addsub (fop_add hx hy) hz hi
theorem subB {k : FloatKind} {x y z : Nat} (hx : isNum k x = true) (hy : isNum k y = true) (hz : (fv k x - fv k y).natAbs ≤ rv k.format z) (hi : z < k.format.infRung) : SumB k (fop .sub k x y) (fv k x - fv k y) z := addsub (fop_sub hx hy) hz hi

/-! ### 64-bit floats -/

/-- One, in least places. -/
def U : Nat := 2 ^ lp .f64
theorem U_eq : 2 ^ lp .f64 = U := rfl
theorem U_pos : 0 < U := Nat.two_pow_pos _
def one64 : Nat := 4607182418800017408
theorem rv_one : rv FloatKind.f64.format one64 = U := by decide +kernel
theorem fv_one : fv .f64 one64 = (U : Int) := by decide +kernel
theorem one_num : isNum .f64 one64 = true := by decide +kernel
theorem one_inf : one64 < FloatKind.f64.format.infRung := by decide +kernel

/-- What is not too great for a 32-bit float can be narrowed. -/
theorem narrow_some {c : Nat} (h : isNum .f64 c = true) (hb : (fv .f64 c).natAbs ≤ rv FloatKind.f64.format 5179139571476070400) : ∃ r, fconv .f64 .f32 c = some r := by
  obtain ⟨m, e, h1, h2⟩ := isNum_spell h
  have hn : isN .f64 c = false := by
    show (FloatKind.f64.format.read c).isNaN = false
    rw [h1]
    rfl
  have hr : nrung FloatKind.f32.format m (FloatKind.f64.format.leastPlace + (e : Int)) ≤ 2130706432 := by
    refine nrung_le (k1 := e) (k2 := 925) (by have a1 := lp_eq .f64; have a2 := lp_eq .f32; have a3 : lp .f64 = 1074 := by decide
                                              have a4 : lp .f32 = 149 := by decide
                                              omega) ?_
    have e1 : rv FloatKind.f32.format 2130706432 * 2 ^ 925 = rv FloatKind.f64.format 5179139571476070400 := by decide +kernel
    rw [e1, ← h2]
    exact hb
  have hlt : nrung FloatKind.f32.format m (FloatKind.f64.format.leastPlace + (e : Int)) < FloatKind.f32.format.infRung := Nat.lt_of_le_of_lt hr (by decide)
  have hnum : isNum .f32 (FloatKind.f32.format.nearest (sgn .f64 c) m (FloatKind.f64.format.leastPlace + (e : Int))) = true := by
    rw [nearest_eq]
    exact word_isNum _ hlt
  refine ⟨FloatKind.f32.format.nearest (sgn .f64 c) m (FloatKind.f64.format.leastPlace + (e : Int)), ?_⟩
  unfold fconv
  rw [hn]
  show floatToFloatBits .f64 c .f32 = _
  unfold floatToFloatBits
  rw [if_neg (by decide)]
  have hd : FloatKind.f64.decode c = .number (sgn .f64 c) m (FloatKind.f64.format.leastPlace + (e : Int)) := h1
  rw [hd]
  have hinf : (FloatKind.f32.decode (FloatKind.f32.encode (.number (sgn .f64 c) m (FloatKind.f64.format.leastPlace + (e : Int))))).isInfinity = false := by
    obtain ⟨m', e', h3, _⟩ := isNum_read hnum
    show (FloatKind.f32.format.read (FloatKind.f32.format.nearest (sgn .f64 c) m (FloatKind.f64.format.leastPlace + (e : Int)))).isInfinity = false
    rw [h3]
    rfl
  simp only [hinf, Bool.false_eq_true, if_false]
  rfl

/-- A word's kind: a number, an infinity, or a NaN. -/
theorem word_kind (k : FloatKind) (c : Nat) : isNum k c = true ∨ (∃ s, k.format.read c = .infinity s) ∨ isN k c = true := by
  unfold isNum isN FloatKind.decode
  cases k.format.read c with
  | number s m e => exact .inl rfl
  | infinity s => exact .inr (.inl ⟨s, rfl⟩)
  | nan s t => exact .inr (.inr rfl)

theorem narrow_nan {c : Nat} (h : isN .f64 c = true) : fconv .f64 .f32 c = some (nanOf .f32) := by unfold fconv; rw [h]; rfl

/-! ### The exponential -/
def expStep (t : Nat) (p kk : Nat) : Nat := fop .add .f64 one64 (fop .quo .f64 (fop .mul .f64 t p) kk)
def expKs : List Nat := [4622945017495814144, 4622382067542392832, 4621819117588971520, 4621256167635550208, 4620693217682128896, 4619567317775286272, 4618441417868443648, 4617315517961601024, 4616189618054758400, 4613937818241073152, 4611686018427387904, 4607182418800017408]
def expPoly (t p : Nat) : Nat := expKs.foldl (expStep t) p
def sqn : Nat → Nat → Nat
  | 0, p => p
  | n + 1, p => sqn n (fop .mul .f64 p p)
def inf64 : Nat := 9218868437227405312
def expI (y : Nat) : Nat := bif fcmp .gtr .f64 y 4641240890982006784 then inf64 else bif fcmp .lss .f64 y 13864612927836782592 then 0 else sqn 8 (expPoly (fop .quo .f64 y 4643211215818981376) one64)
def expS (y : Nat) : Nat := bif fcmp .neq .f64 y y then y else expI y
def expF (z : Nat) : Nat := (fconv .f64 .f32 (expI (wid z))).getD 0
def expOk (z : Nat) : Bool := isN .f32 z || fcmp .leq .f32 z 0

theorem expStep_in {t p kk : Nat} (ht : isNum .f64 t = true) (ht1 : -(U : Int) ≤ fv .f64 t) (ht2 : fv .f64 t ≤ 0) (hp : isNum .f64 p = true) (hp1 : 0 ≤ fv .f64 p) (hp2 : fv .f64 p ≤ (U : Int)) (hk : isNum .f64 kk = true) (hk1 : (U : Int) ≤ fv .f64 kk) :
    isNum .f64 (expStep t p kk) = true ∧ 0 ≤ fv .f64 (expStep t p kk) ∧ fv .f64 (expStep t p kk) ≤ (U : Int) := by
  have hU : 0 < U := U_pos
  obtain ⟨m1, m2, _, m4⟩ := mulB (z := one64) (X := U) (Y := U) ht hp (by omega) (by omega) (by rw [rv_one, U_eq]; exact Nat.le_refl _) one_inf
  have m4 := m4 ht2 hp1
  rw [rv_one] at m2
  obtain ⟨q1, q2, _, q4⟩ := quoB (z := one64) m1 hk (by omega) (by
    rw [rv_one, U_eq, Nat.mul_comm]
    exact Nat.mul_le_mul_left _ (by omega)) one_inf
  have q4 := q4 m4
  rw [rv_one] at q2
  have a := addB (z := one64) one_num q1 (by rw [rv_one, fv_one]; omega) one_inf
  obtain ⟨a1, a2, a3, _⟩ := a
  rw [rv_one] at a2
  rw [fv_one] at a3
  have a3 := a3 (by omega)
  exact ⟨a1, a3, by unfold expStep; omega⟩

theorem expKs_ok : expKs.all (fun kk => isNum .f64 kk && decide ((U : Int) ≤ fv .f64 kk)) = true := by decide +kernel

theorem expFold_in {t : Nat} (ht : isNum .f64 t = true) (ht1 : -(U : Int) ≤ fv .f64 t) (ht2 : fv .f64 t ≤ 0) : ∀ (l : List Nat), l.all (fun kk => isNum .f64 kk && decide ((U : Int) ≤ fv .f64 kk)) = true → ∀ p, isNum .f64 p = true → 0 ≤ fv .f64 p → fv .f64 p ≤ (U : Int) →
    isNum .f64 (l.foldl (expStep t) p) = true ∧ 0 ≤ fv .f64 (l.foldl (expStep t) p) ∧ fv .f64 (l.foldl (expStep t) p) ≤ (U : Int)
  | [], _, p, h1, h2, h3 => ⟨h1, h2, h3⟩
  | kk :: l, h, p, h1, h2, h3 => by
    rw [List.all_cons, Bool.and_eq_true, Bool.and_eq_true, decide_eq_true_eq] at h
    obtain ⟨a, b, c⟩ := expStep_in ht ht1 ht2 h1 h2 h3 h.1.1 h.1.2
    exact expFold_in ht ht1 ht2 l h.2 _ a b c

theorem sqn_in : ∀ (n p : Nat), isNum .f64 p = true → 0 ≤ fv .f64 p → fv .f64 p ≤ (U : Int) → isNum .f64 (sqn n p) = true ∧ 0 ≤ fv .f64 (sqn n p) ∧ fv .f64 (sqn n p) ≤ (U : Int)
  | 0, p, h1, h2, h3 => ⟨h1, h2, h3⟩
  | n + 1, p, h1, h2, h3 => by
    obtain ⟨m1, m2, m3, _⟩ := mulB (z := one64) (X := U) (Y := U) h1 h1 (by omega) (by omega) (by rw [rv_one, U_eq]; exact Nat.le_refl _) one_inf
    rw [rv_one] at m2
    have m3 := m3 h2 h2
    exact sqn_in n _ m1 m3 (by omega)

theorem fcmp_num_lss {k : FloatKind} {x y : Nat} (hx : isNum k x = true) (hy : isNum k y = true) : fcmp .lss k x y = decide (fv k x < fv k y) := by
  unfold fcmp
  rw [order_fv hx hy]
  exact cmp_lss _ _
theorem fcmp_num_leq {k : FloatKind} {x y : Nat} (hx : isNum k x = true) (hy : isNum k y = true) : fcmp .leq k x y = decide (fv k x ≤ fv k y) := by
  unfold fcmp
  rw [order_fv hx hy]
  exact cmp_leq _ _
/-- The exponential of what is not above zero is from 0 to 1. -/
theorem expI_in {y : Nat} (hy : isNum .f64 y = true) (h0 : fv .f64 y ≤ 0) : isNum .f64 (expI y) = true ∧ 0 ≤ fv .f64 (expI y) ∧ fv .f64 (expI y) ≤ (U : Int) := by
  have hU : 0 < U := U_pos
  have c1 : isNum .f64 4641240890982006784 = true := by decide +kernel
  have c2 : isNum .f64 13864612927836782592 = true := by decide +kernel
  have v1 : fv .f64 4641240890982006784 = 200 * (U : Int) := by decide +kernel
  have v2 : fv .f64 13864612927836782592 = -(200 * (U : Int)) := by decide +kernel
  have g1 : fcmp .gtr .f64 y 4641240890982006784 = false := by rw [gtr_fv hy c1, v1]; exact decide_eq_false (by omega)
  unfold expI
  rw [g1, cond_false, fcmp_num_lss hy c2, v2]
  by_cases h : fv .f64 y < -(200 * (U : Int))
  · rw [decide_eq_true h]
    have z1 : isNum .f64 0 = true := by decide +kernel
    have z2 : fv .f64 0 = 0 := by decide +kernel
    simp only [cond_true]
    exact ⟨z1, by rw [z2]; exact Int.le_refl _, by rw [z2]; omega⟩
  · rw [decide_eq_false h]
    simp only [cond_false]
    have c3 : isNum .f64 4643211215818981376 = true := by decide +kernel
    have v3 : fv .f64 4643211215818981376 = 256 * (U : Int) := by decide +kernel
    obtain ⟨q1, q2, _, q4⟩ := quoB (z := one64) hy c3 (by rw [v3]; omega) (by
      rw [rv_one, v3, U_eq, Nat.mul_comm]
      exact Nat.mul_le_mul_left _ (by omega)) one_inf
    rw [rv_one] at q2
    have q4 := q4 h0
    obtain ⟨p1, p2, p3⟩ := expFold_in q1 (by omega) q4 expKs expKs_ok one64 one_num (by rw [fv_one]; omega) (by rw [fv_one]; omega)
    exact sqn_in 8 _ p1 p2 p3

theorem wid_num {z : Nat} (h : isNum .f32 z = true) : isNum .f64 (wid z) = true ∧ (fv .f32 z ≤ 0 → fv .f64 (wid z) ≤ 0) ∧ (0 ≤ fv .f32 z → 0 ≤ fv .f64 (wid z)) ∧ (fv .f64 (wid z)).natAbs ≤ rv FloatKind.f64.format (5179139571476070400 + 4503599627370496) := by
  obtain ⟨m, e, h1, h2⟩ := isNum_spell h
  have hn : isN .f32 z = false := by
    show (FloatKind.f32.format.read z).isNaN = false
    rw [h1]
    rfl
  have hb := isNum_lt h
  have hr : nrung FloatKind.f64.format m (FloatKind.f32.format.leastPlace + (e : Int)) ≤ 5179139571476070400 + 4503599627370496 := by
    refine nrung_le (k1 := e + 925) (k2 := 0) (by have a1 := lp_eq .f64; have a2 := lp_eq .f32; have a3 : lp .f64 = 1074 := by decide
                                                  have a4 : lp .f32 = 149 := by decide
                                                  omega) ?_
    have e1 : rv FloatKind.f32.format 2139095040 * 2 ^ 925 = rv FloatKind.f64.format (5179139571476070400 + 4503599627370496) := by decide +kernel
    rw [Nat.pow_zero, Nat.mul_one, ← e1, Nat.pow_add, ← Nat.mul_assoc, ← h2]
    refine Nat.mul_le_mul_right _ ?_
    have e2 : (fv .f32 z).natAbs = rv FloatKind.f32.format (z % FloatKind.f32.format.signWeight) := by unfold fv; cases sgn .f32 z <;> simp
    rw [e2]
    exact rv_le (Nat.le_of_lt hb)
  have hlt : nrung FloatKind.f64.format m (FloatKind.f32.format.leastPlace + (e : Int)) < FloatKind.f64.format.infRung := Nat.lt_of_le_of_lt hr (by decide)
  have hw : wid z = FloatKind.f64.format.word (sgn .f32 z) (nrung FloatKind.f64.format m (FloatKind.f32.format.leastPlace + (e : Int))) := by
    rw [← nearest_eq]
    unfold wid fconv
    rw [hn]
    show (floatToFloatBits .f32 z .f64).getD 0 = _
    unfold floatToFloatBits
    rw [if_neg (by decide)]
    have hd : FloatKind.f32.decode z = .number (sgn .f32 z) m (FloatKind.f32.format.leastPlace + (e : Int)) := h1
    rw [hd]
    have hinf : (FloatKind.f64.decode (FloatKind.f64.encode (.number (sgn .f32 z) m (FloatKind.f32.format.leastPlace + (e : Int))))).isInfinity = false := by
      have hnum : isNum .f64 (FloatKind.f64.format.nearest (sgn .f32 z) m (FloatKind.f32.format.leastPlace + (e : Int))) = true := by
        rw [nearest_eq]
        exact word_isNum _ hlt
      obtain ⟨m', e', h3, _⟩ := isNum_read hnum
      show (FloatKind.f64.format.read (FloatKind.f64.format.nearest (sgn .f32 z) m (FloatKind.f32.format.leastPlace + (e : Int)))).isInfinity = false
      rw [h3]
      rfl
    simp only [hinf, Bool.false_eq_true, if_false]
    rfl
  have hs := Nat.lt_trans hlt FloatKind.f64.format.infRung_lt
  have h0 : fv .f32 z = 0 → nrung FloatKind.f64.format m (FloatKind.f32.format.leastPlace + (e : Int)) = 0 := by
    intro h
    rw [h] at h2
    have : m = 0 := by
      rcases Nat.mul_eq_zero.1 h2.symm with h3 | h3
      · exact h3
      · have := Nat.two_pow_pos e; omega
    subst this
    rfl
  rw [hw]
  refine ⟨word_isNum _ hlt, fun a => ?_, fun a => ?_, by rw [fv_word_abs _ hlt]; exact rv_le hr⟩
  · rw [fv_word _ hs]
    by_cases c : fv .f32 z = 0
    · rw [h0 c, rv_zero]; simp
    · rw [sgn_neg (w := z) (by omega)]; simp
  · rw [fv_word _ hs]
    by_cases c : fv .f32 z = 0
    · rw [h0 c, rv_zero]; simp
    · rw [sgn_pos (w := z) (by omega)]; simp

theorem wid_nan {z : Nat} (h : isN .f32 z = true) : wid z = nanOf .f64 := by unfold wid fconv; rw [h]; rfl

theorem wid_inf {z : Nat} {s : Bool} (h : FloatKind.f32.format.read z = .infinity s) : FloatKind.f64.format.read (wid z) = .infinity s := by
  have hn : isN .f32 z = false := by
    show (FloatKind.f32.format.read z).isNaN = false
    rw [h]
    rfl
  have hw : wid z = FloatKind.f64.format.word s FloatKind.f64.format.infRung := by
    unfold wid fconv
    rw [hn]
    show (floatToFloatBits .f32 z .f64).getD 0 = _
    unfold floatToFloatBits
    rw [if_neg (by decide)]
    have hd : FloatKind.f32.decode z = .infinity s := h
    rw [hd]
    rfl
  rw [hw]
  cases s <;> decide +kernel

theorem fcmp_nan_l {op : BinOp} {k : FloatKind} {x y : Nat} (h : isN k x = true) : fcmp op k x y = (match op with
    | .neq => true
    | _ => false) := by
  unfold fcmp Format.order
  rw [order_nan_left (show (k.format.read x).isNaN = true from h)]
  cases op <;> rfl

theorem expPoly_nan {t : Nat} (h : isN .f64 t = true) (p : Nat) : isN .f64 (expPoly t p) = true := by
  have key : ∀ (l : List Nat) (q : Nat), (l ≠ [] ∨ isN .f64 q = true) → isN .f64 (l.foldl (expStep t) q) = true := by
    intro l
    induction l with
    | nil => intro q hq; rcases hq with hq | hq
             · exact absurd rfl hq
             · exact hq
    | cons kk l ih =>
      intro q _
      refine ih _ (.inr ?_)
      unfold expStep
      rw [fop_nan_l (op := .mul) h, fop_nan_l (op := .quo) (isN_nanOf .f64), fop_nan_r (op := .add) (isN_nanOf .f64)]
      exact isN_nanOf .f64
  exact key expKs p (.inl (by decide))
theorem sqn_nan : ∀ (n p : Nat), isN .f64 p = true → isN .f64 (sqn n p) = true
  | 0, _, h => h
  | n + 1, p, h => sqn_nan n _ (by rw [fop_nan_l h]; exact isN_nanOf .f64)

theorem expI_nan {y : Nat} (h : isN .f64 y = true) : isN .f64 (expI y) = true := by
  have h1 : fcmp .gtr .f64 y 4641240890982006784 = false := fcmp_nan_l h
  have h2 : fcmp .lss .f64 y 13864612927836782592 = false := fcmp_nan_l h
  unfold expI
  rw [h1, h2]
  simp only [cond_false]
  refine sqn_nan 8 _ (expPoly_nan ?_ _)
  rw [fop_nan_l h]
  exact isN_nanOf .f64

theorem fcmp_neq_self {k : FloatKind} (x : Nat) : fcmp .neq k x x = isN k x := by
  cases h : isN k x with
  | true => exact fcmp_nan_l h
  | false =>
    rcases order_self k x with h1 | h1
    · rcases order_none h1 with h2 | h2 <;> (rw [h] at h2; cases h2)
    · simp [fcmp, h1]

/-- **THE EXPONENTIAL CAN BE NARROWED**, both ways to write it. -/
theorem exp_narrow {z : Nat} (h : expOk z = true) : fconv .f64 .f32 (expI (wid z)) = some (expF z) ∧ fconv .f64 .f32 (expS (wid z)) = some (expF z) := by
  have key : fconv .f64 .f32 (expI (wid z)) = some (expF z) := by
    have hsome : ∃ r, fconv .f64 .f32 (expI (wid z)) = some r := by
      rcases word_kind .f32 z with h1 | ⟨s, h1⟩ | h1
      · obtain ⟨w1, w2, _⟩ := wid_num h1
        have hz : fv .f32 z ≤ 0 := by
          have z1 : isNum .f32 0 = true := by decide
          have z2 : fv .f32 0 = 0 := by decide
          unfold expOk at h
          rw [Bool.or_eq_true] at h
          rcases h with h | h
          · exfalso
            obtain ⟨m, e, h3, _⟩ := isNum_read h1
            have : (FloatKind.f32.format.read z).isNaN = true := h
            rw [h3] at this
            cases this
          · rw [fcmp_num_leq h1 z1, z2] at h
            exact of_decide_eq_true h
        obtain ⟨e1, e2, e3⟩ := expI_in w1 (w2 hz)
        refine narrow_some e1 ?_
        have : U ≤ rv FloatKind.f64.format 5179139571476070400 := by decide +kernel
        omega
      · have hw := wid_inf h1
        have hs : s = true := by
          cases s with
          | true => rfl
          | false =>
            exfalso
            unfold expOk at h
            have a1 : isN .f32 z = false := by
              show (FloatKind.f32.format.read z).isNaN = false
              rw [h1]
              rfl
            have a2 : fcmp .leq .f32 z 0 = false := by
              unfold fcmp Format.order
              rw [h1]
              rfl
            rw [a1, a2] at h
            cases h
        subst hs
        have b1 : fcmp .gtr .f64 (wid z) 4641240890982006784 = false := by
          unfold fcmp Format.order
          rw [hw]
          rfl
        have b2 : fcmp .lss .f64 (wid z) 13864612927836782592 = true := by
          unfold fcmp Format.order
          rw [hw]
          rfl
        unfold expI
        rw [b1, b2]
        simp only [cond_false, cond_true]
        exact ⟨0, by decide +kernel⟩
      · rw [wid_nan h1]
        exact ⟨_, narrow_nan (expI_nan (isN_nanOf .f64))⟩
    obtain ⟨r, hr⟩ := hsome
    unfold expF
    rw [hr]
    rfl
  refine ⟨key, ?_⟩
  unfold expS
  rw [fcmp_neq_self]
  cases hn : isN .f64 (wid z) with
  | false => exact key
  | true =>
    rw [narrow_nan (expI_nan hn)] at key
    rw [cond_true, narrow_nan hn]
    exact key

end Go.Sm

/- Floats: whole parts, the part of a turn, the sine, the phasor. -/
namespace Go.Sm
open Go Ieee

/-! ### Whole parts -/

def whole (y : Nat) : Nat := bif fcmp .eql .f64 (fround .zero y) 0 then 0 else fround .zero y
def part (y : Nat) : Nat := bif fcmp .lss .f64 (fop .sub .f64 y (whole y)) 0 then fop .add .f64 (fop .sub .f64 y (whole y)) one64 else fop .sub .f64 y (whole y)

/-! ### The sine -/
end Go.Sm

/- Plain functions over the floats' laws. -/
namespace Go.Sm
open Go

def infOf (n : Int) : Nat := bif decide (n ≥ 0) then 9218868437227405312 else 18442240474082181120
/-! ### Lines -/

/-- The square of a number is not below zero. -/
theorem neg_sq_ok (u : Nat) : expOk (fop .sub .f32 0 (fop .mul .f32 u u)) = true := by
  have z1 : isNum .f32 0 = true := by decide
  have z2 : fv .f32 0 = 0 := by decide
  unfold expOk
  rcases word_kind .f32 u with h | ⟨s, h⟩ | h
  · obtain ⟨q, e, hi, _, _⟩ := fop_mul h h
    rw [Bool.xor_self] at e
    rw [e]
    rcases Nat.lt_or_ge q FloatKind.f32.format.infRung with hq | hq
    · have n1 : isNum .f32 (FloatKind.f32.format.word false q) = true := word_isNum _ hq
      have v1 : fv .f32 (FloatKind.f32.format.word false q) = (rv FloatKind.f32.format q : Int) := by rw [fv_word _ (Nat.lt_trans hq FloatKind.f32.format.infRung_lt)]; rfl
      obtain ⟨a1, _, _, a4, _⟩ := subB (z := q) z1 n1 (by rw [z2, v1]; omega) hq
      rw [fcmp_num_leq a1 z1, z2, decide_eq_true (a4 (by rw [z2, v1]; omega)), Bool.or_true]
    · have : q = FloatKind.f32.format.infRung := Nat.le_antisymm hi hq
      subst this
      decide +kernel
  · have e : fop .mul .f32 u u = 2139095040 := by
      have h2 : floatBits .mul .f32 u u = some 2139095040 := by
        show FloatKind.f32.format.mul u u = _
        unfold Ieee.Format.mul
        rw [h]
        cases s <;> decide +kernel
      exact fop_some h2
    rw [e]
    decide +kernel
  · rw [fop_nan_l h, fop_nan_r (isN_nanOf .f32), isN_nanOf]
    rfl

def lineU (l : LineV) (x : Nat) : Nat := fop .quo .f32 (fop .sub .f32 x l.p) l.w
def bellV (l : LineV) (x : Nat) : Nat := fop .mul .f32 l.h (expF (fop .sub .f32 0 (fop .mul .f32 (lineU l x) (lineU l x))))
def hillV (l : LineV) (x : Nat) : Nat := fop .quo .f32 l.h (fop .add .f32 1065353216 (fop .mul .f32 (lineU l x) (lineU l x)))
/-- How high a line is at a place. -/
def lineV (l : LineV) (x : Nat) : Nat :=
  bif l.k == 0 then bellV l x else bif l.k == 1 then hillV l x else bif l.k == 2 then fop .mul .f32 1056964608 (fop .add .f32 (bellV l x) (hillV l x))
  else bif fcmp .gtr .f32 (mag (lineU l x)) 1065353216 then 0 else fop .mul .f32 l.h (fop .sub .f32 1065353216 (mag (lineU l x)))
def lineOk (l : LineV) (x : Nat) : Bool := okLine l && (fin x && fin (lineV l x))

/-! ### Noise -/
def slice (xs : List Nat) (a b : Int) : List Nat := (xs.drop a.toNat).take (b.toNat - a.toNat)
end Go.Sm

/- Lists of lines, rests, joined lists. -/
namespace Go.Sm
open Go

instance : Inhabited LineV := ⟨⟨0, 0, 0, 0⟩⟩
def noLine : LineV := ⟨0, 0, 0, 0⟩
def notLine (l : LineV) : Bool := !okLine l
theorem notLine_fun : notLine = fun l => !okLine l := rfl
def linesIn (xs : List LineV) (a b : Int) : Bool := decide ((xs.length : Int) ≥ a) && (decide ((xs.length : Int) ≤ b) && xs.all okLine)
def linesOk (xs : List LineV) : Bool := decide (xs.length ≤ 12) && xs.all okLine
theorem linesIn_12 (xs : List LineV) : linesIn xs 0 12 = linesOk xs := by
  unfold linesIn linesOk
  have h1 : ((xs.length : Int) ≥ 0) := by omega
  have h2 : ((xs.length : Int) ≤ 12) ↔ xs.length ≤ 12 := by omega
  simp [h1, h2]

/-- A sum is a number where both parts are. -/
theorem fin_add {a b : Nat} (h : fin (fop .add .f32 a b) = true) : fin a = true ∧ fin b = true := by
  have nan : fop .add .f32 a b = nanOf .f32 → False := by
    intro e
    rw [e] at h
    revert h
    decide +kernel
  have key : ∀ (s : Bool), FloatKind.f32.format.read (fop .add .f32 a b) = .infinity s → False := by
    intro s e
    rw [fin_isNum] at h
    unfold isNum at h
    rw [e] at h
    cases h
  rw [fin_isNum a, fin_isNum b]
  rcases word_kind .f32 a with ha | ⟨s, ha⟩ | ha
  · rcases word_kind .f32 b with hb | ⟨t, hb⟩ | hb
    · exact ⟨ha, hb⟩
    · exfalso
      obtain ⟨m, e, h1, _⟩ := isNum_read ha
      have h2 : floatBits .add .f32 a b = some (FloatKind.f32.format.word t FloatKind.f32.format.infRung) := by
        show FloatKind.f32.format.add a b = _
        unfold Ieee.Format.add
        rw [h1, hb]
        rfl
      refine key t ?_
      rw [fop_some h2]
      cases t <;> decide +kernel
    · exact absurd (fop_nan_r hb) nan
  · exfalso
    rcases word_kind .f32 b with hb | ⟨t, hb⟩ | hb
    · obtain ⟨m, e, h1, _⟩ := isNum_read hb
      have h2 : floatBits .add .f32 a b = some (FloatKind.f32.format.word s FloatKind.f32.format.infRung) := by
        show FloatKind.f32.format.add a b = _
        unfold Ieee.Format.add
        rw [h1, ha]
        rfl
      refine key s ?_
      rw [fop_some h2]
      cases s <;> decide +kernel
    · cases hst : (s == t) with
      | true =>
        have hst2 : s = t := eq_of_beq hst
        subst hst2
        have h2 : floatBits .add .f32 a b = some (FloatKind.f32.format.word s FloatKind.f32.format.infRung) := by
          show FloatKind.f32.format.add a b = _
          unfold Ieee.Format.add
          rw [ha, hb]
          cases s <;> decide +kernel
        refine key s ?_
        rw [fop_some h2]
        cases s <;> decide +kernel
      | false =>
        have h2 : floatBits .add .f32 a b = none := by
          show FloatKind.f32.format.add a b = _
          unfold Ieee.Format.add
          rw [ha, hb]
          cases s <;> cases t <;> first | rfl | (cases hst)
        exact nan (by unfold fop; rw [h2]; rfl)
    · exact nan (fop_nan_r hb)
  · exact absurd (fop_nan_l ha) nan

theorem fin_fold {α : Type} (g : α → Nat) : ∀ (xs : List α) (s : Nat), fin (xs.foldl (fun a x => fop .add .f32 a (g x)) s) = true → fin s = true ∧ xs.all (fun x => fin (g x)) = true
  | [], s, h => ⟨h, rfl⟩
  | x :: xs, s, h => by
    obtain ⟨h1, h2⟩ := fin_fold g xs _ h
    obtain ⟨h3, h4⟩ := fin_add h1
    refine ⟨h3, ?_⟩
    rw [List.all_cons, h4, h2]
    rfl

theorem repE_list {α σ : Type} (d : α) (p : α → Bool) (f : σ → α → σ) (xs : List α) : ∀ (m j : Nat) (s : σ), j + m = xs.length → repE (fun j s => bif p (xs.getD j d) then some (f s (xs.getD j d)) else none) m j s = bif (xs.drop j).all p then some ((xs.drop j).foldl f s) else none := by
  intro m
  induction m with
  | zero =>
    intro j s h
    rw [List.drop_of_length_le (by omega)]
    rfl
  | succ m ih =>
    intro j s h
    have hlt : j < xs.length := by omega
    have e : xs.getD j d = xs[j] := by simp [List.getD, hlt]
    rw [repE_succ, List.drop_eq_getElem_cons hlt, List.all_cons, List.foldl_cons, e]
    cases hp : p xs[j] with
    | false => rfl
    | true => exact ih (j + 1) _ (by omega)

def linesSum (xs : List LineV) (x : Nat) : Nat := xs.foldl (fun a l => fop .add .f32 a (lineV l x)) 0
def linesAtOk (xs : List LineV) (x : Nat) : Bool := linesOk xs && (fin x && fin (linesSum xs x))

theorem lineOk_all {xs : List LineV} {x : Nat} (h : xs.all okLine = true) (hx : fin x = true) : xs.all (fun l => lineOk l x) = xs.all (fun l => fin (lineV l x)) := by
  induction xs with
  | nil => rfl
  | cons l xs ih =>
    rw [List.all_cons, Bool.and_eq_true] at h
    rw [List.all_cons, List.all_cons, ih h.2]
    unfold lineOk
    rw [h.1, hx]
    rfl

theorem sum_notFin {xs : List LineV} {x : Nat} (h : xs.all okLine = true) (hx : fin x = true) (ha : xs.all (fun l => lineOk l x) = false) : fin (linesSum xs x) = false := by
  cases hs : fin (linesSum xs x) with
  | false => rfl
  | true =>
    have := (fin_fold (fun l => lineV l x) xs 0 hs).2
    rw [lineOk_all h hx] at ha
    rw [this] at ha
    cases ha

end Go.Sm

/- Spectra and what they leave. -/
namespace Go.Sm
open Go

theorem repE_gen {σ : Type} (p : Nat → Bool) (f : Nat → σ → σ) : ∀ (m j : Nat) (s : σ), repE (fun j s => bif p j then some (f j s) else none) m j s = bif (fromTo j m).all p then some (rep f m j s) else none := by
  intro m
  induction m with
  | zero => intro j s; rfl
  | succ m ih =>
    intro j s
    rw [repE_succ, fromTo_succ, List.all_cons, rep_succ]
    cases hp : p j with
    | false => rfl
    | true => exact ih (j + 1) _

def placeAt (b d : Nat) (j : Int) : Nat := fop .add .f32 b (fop .mul .f32 (fint .f32 j) d)
def spAll (xs : List LineV) (b d : Nat) (n : Nat) : Bool := (fromTo 0 n).all fun j => linesAtOk xs (placeAt b d (j : Int))
def spAt (xs : List LineV) (b d : Nat) (j : Nat) : Nat := linesSum xs (placeAt b d (j : Int))
def spX (xs : List LineV) (b d : Nat) (n : Int) : List Nat := (fromTo 0 n.toNat).map (spAt xs b d)
def spOk (xs : List LineV) (b d : Nat) (n : Int) : Bool := linesOk xs && (fin b && (fin d && (within n 1 128 && spAll xs b d n.toNat)))
theorem spX_len (xs : List LineV) (b d : Nat) (n : Int) : (spX xs b d n).length = n.toNat := by simp [spX, fromTo_len]
theorem sp_run (xs : List LineV) (b d : Nat) (n : Nat) : repE (fun j zs => bif linesAtOk xs (placeAt b d (j : Int)) then some (zs ++ [spAt xs b d j]) else none) n 0 [] = bif spAll xs b d n then some ((fromTo 0 n).map (spAt xs b d)) else none := by
  rw [repE_gen (fun j => linesAtOk xs (placeAt b d (j : Int))) (fun j zs => zs ++ [spAt xs b d j]), rep_map, List.nil_append]
  rfl

end Go.Sm

/- Lists of lines that are written full. -/
namespace Go.Sm
open Go

def lineOf (n : Int) : LineV := ⟨fint .f32 n, fint .f32 (n + 1), fint .f32 (n + 1 + 1), n + 1 + 1 + 1⟩
def marksL (n : Int) : Nat → List LineV
  | 0 => []
  | m + 1 => lineOf n :: marksL (n + 1 + 1 + 1 + 1) m
def heldL1 (n : Int) (l : LineV) : Bool := !fcmp .neq .f32 l.p (fint .f32 n) && (!fcmp .neq .f32 l.h (fint .f32 (n + 1)) && (!fcmp .neq .f32 l.w (fint .f32 (n + 1 + 1)) && l.k == n + 1 + 1 + 1))
def heldL (n : Int) : List LineV → Bool
  | [] => true
  | x :: xs => heldL1 n x && heldL (n + 1 + 1 + 1 + 1) xs

theorem fint_same (n : Int) : fcmp .neq .f32 (fint .f32 n) (fint .f32 n) = false := by
  rw [fcmp_neq_self]
  exact fint_notNaN .f32 n
theorem heldL1_of (n : Int) : heldL1 n (lineOf n) = true := by
  unfold heldL1 lineOf
  simp [fint_same]
theorem heldL_marks : ∀ (m : Nat) (n : Int), heldL n (marksL n m) = true
  | 0, _ => rfl
  | m + 1, n => by
    unfold marksL heldL
    rw [heldL1_of, heldL_marks m]
    rfl
theorem marksL_len : ∀ (m : Nat) (n : Int), (marksL n m).length = m
  | 0, _ => rfl
  | m + 1, n => by
    unfold marksL
    rw [List.length_cons, marksL_len m]

/-! ### Lines shifted -/
end Go.Sm

/- The logarithm. -/
namespace Go.Sm
open Go

def BB : Nat := 4503599627370496
/-! ### Halved and doubled -/
end Go.Sm

/- The logarithm, narrowed. -/
namespace Go.Sm
open Go

def PP (i : Nat) : Nat := 4607182418800017408 + i * BB
def bd (i w : Nat) : Prop := isNum .f64 w = true ∧ (fv .f64 w).natAbs ≤ rv FloatKind.f64.format (PP i)
/-! ### A criterion, depths -/
end Go.Sm

/- Complex numbers: what the phasor hands back is small, products of small numbers can be narrowed. -/
namespace Go.Sm
open Go

/-- A 32-bit number no further from zero than two. -/
def small (z : Nat) : Prop := isNum .f32 z = true ∧ (fv .f32 z).natAbs ≤ rv FloatKind.f32.format 1073741824

/-! ### Products with the unit that points down -/
/-! ### Lists of complex numbers written full -/
end Go.Sm

/- Sums of spectra, one by one. -/
namespace Go.Sm
open Go Ieee

def wide : Nat := 140737488351232
/-! ### The same to the last bit, as the laws ask -/
/-! ### Sums of spectra -/
/-- A list made one by one, while all is well. -/
theorem repE_each {α β : Type} (d : α) (ok : α → Bool) (f : α → β) (xs : List α) : ∀ (m j : Nat) (zs : List β), j + m = xs.length →
    repE (fun j zs => bif ok (xs.getD j d) then some (zs ++ [f (xs.getD j d)]) else none) m j zs = bif (xs.drop j).all ok then some (zs ++ (xs.drop j).map f) else none
  | 0, j, zs, h => by
    rw [List.drop_of_length_le (by omega)]
    simp [repE]
  | m + 1, j, zs, h => by
    have hlt : j < xs.length := by omega
    rw [List.drop_eq_getElem_cons hlt, List.all_cons, List.map_cons, repE_succ]
    have e : xs.getD j d = xs[j] := by rw [List.getD_eq_getElem?_getD, List.getElem?_eq_getElem hlt]; rfl
    rw [e]
    cases ok xs[j] with
    | false => rfl
    | true =>
      simp only [cond_true, Bool.true_and]
      rw [repE_each d ok f xs m (j + 1) _ (by omega)]
      simp
end Go.Sm

/- Levels that edges tell from each other. -/
namespace Go.Sm
open Go

/-- One end is told, the other isn't; what is told then. -/
def half (td : List Bool) (e : EdgeV) : Bool := !(td.getD e.f.toNat false == td.getD e.t.toNat false)
def tell (s : List Nat × List Bool) (e : EdgeV) : List Nat × List Bool := match s.2.getD e.f.toNat false with
  | true => (s.1.set e.t.toNat (fop .add .f32 (s.1.getD e.f.toNat 0) e.p), s.2.set e.t.toNat true)
  | false => (s.1.set e.f.toNat (fop .sub .f32 (s.1.getD e.t.toNat 0) e.p), s.2.set e.f.toNat true)
def rounds (es : List EdgeV) : Nat → List Nat × List Bool → Option (List Nat × List Bool)
  | 0, s => some s
  | n + 1, s => match es.find? (half s.2) with
    | some e => rounds es n (tell s e)
    | none => none
end Go.Sm

/- Three equations, solved; the curve of lamps. -/
namespace Go.Sm
open Go

/-! ### A number's size, said in two ways -/

def gtM (a b : Nat) : Bool := fcmp .gtr .f32 (mag a) (mag b)
/-! ### Three equations -/

def sb (a q b : Nat) : Nat := fop .sub .f32 a (fop .mul .f32 q b)
/-! ### The sums -/

theorem three {l : List Nat} (h : l.length = 3) : ∃ a b c, l = [a, b, c] := by
  match l, h with
  | [a, b, c], _ => exact ⟨a, b, c, rfl⟩

end Go.Sm

/- Sums of products, tables of them; equations solved, of whatever number. -/
namespace Go.Sm
open Go

/-! ### Sums of products -/

def dotF (xs ys : List Nat) (j : Nat) (s : Nat) : Nat := fop .add .f32 s (fop .mul .f32 (xs.getD j 0) (ys.getD j 0))
def dotP (xs ys : List Nat) : Nat := rep (dotF xs ys) xs.length 0 0
def gramR (fs : List (List Nat)) (ys a : List Nat) : List Nat := (fs ++ [ys]).map (dotP a)
def gram (fs : List (List Nat)) (ys : List Nat) : List (List Nat) := fs.map (gramR fs ys)

/-! ### Equations -/

/-- A row, with the type of what it holds. -/
abbrev RX := Nat × List Nat
def rx (X : List RX) (i : Nat) : RX := X.getD i (0, [])
def gE (X : List RX) (i j : Nat) : Nat := (rx X i).2.getD j 0

/-- The row whose number in this column is greatest. -/
def pivN (k : Nat) (X : List RX) : Nat → Nat → Nat → Nat
  | 0, _, a => a
  | m + 1, i, a => match gtM (gE X i k) (gE X a k) with
    | true => pivN k X m (i + 1) i
    | false => pivN k X m (i + 1) a
def pivC {α : Type} (k : Nat) (X : List RX) (f : Nat → α) : Nat → Nat → Nat → α
  | 0, _, a => f a
  | m + 1, i, a => match gtM (gE X i k) (gE X a k) with
    | true => pivC k X f m (i + 1) i
    | false => pivC k X f m (i + 1) a
theorem pivC_eq {α : Type} (k : Nat) (X : List RX) (f : Nat → α) : ∀ m i a, pivC k X f m i a = f (pivN k X m i a)
  | 0, _, _ => rfl
  | m + 1, i, a => by
    unfold pivC pivN
    cases gtM (gE X i k) (gE X a k)
    · exact pivC_eq k X f m (i + 1) a
    · exact pivC_eq k X f m (i + 1) i
theorem pivN_range (k : Nat) (X : List RX) : ∀ m i a, a < i → a ≤ pivN k X m i a ∧ pivN k X m i a < i + m
  | 0, i, a, h => ⟨Nat.le_refl _, h⟩
  | m + 1, i, a, h => by
    unfold pivN
    cases gtM (gE X i k) (gE X a k)
    · have := pivN_range k X m (i + 1) a (by omega)
      dsimp only
      omega
    · have := pivN_range k X m (i + 1) i (by omega)
      dsimp only
      omega

/-- One of so many numbers. -/
def atCase {α : Type} (no : α) (f : Nat → α) : Nat → Nat → Nat → α
  | 0, _, _ => no
  | m + 1, lo, a => bif Nat.beq a lo then f lo else atCase no f m (lo + 1) a
theorem atCase_eq {α : Type} (no : α) (f : Nat → α) : ∀ m lo a, lo ≤ a → a < lo + m → atCase no f m lo a = f a
  | 0, lo, a, h1, h2 => by omega
  | m + 1, lo, a, h1, h2 => by
    unfold atCase
    cases hb : Nat.beq a lo with
    | true => rw [Nat.eq_of_beq_eq_true hb]; rfl
    | false =>
      have hne : a ≠ lo := fun e => by rw [e, Nat.beq_refl] at hb; cases hb
      exact atCase_eq no f m (lo + 1) a (by omega) (by omega)

def swapX (X : List RX) (k a : Nat) : List RX := (X.set k (rx X a)).set a (rx X k)
def elimL (q : Nat) : Nat → List Nat → List Nat → List Nat
  | _, [], _ => []
  | _, rs, [] => rs
  | 0, r :: rs, p :: ps => sb r q p :: elimL q 0 rs ps
  | k + 1, r :: rs, _ :: ps => r :: elimL q k rs ps
def elimR (p : List Nat) (k : Nat) (r : RX) : RX := (r.1, elimL (fop .quo .f32 (r.2.getD k 0) (p.getD k 0)) k r.2 p)
def elimT (p : List Nat) (k : Nat) : Nat → List RX → List RX
  | _, [] => []
  | 0, r :: X => elimR p k r :: elimT p k 0 X
  | m + 1, r :: X => r :: elimT p k m X
def elimX (k : Nat) (X : List RX) : List RX := elimT (rx X k).2 k (k + 1) X
def pivX (k : Nat) (X : List RX) : List RX := swapX X k (pivN k X (X.length - k - 1) (k + 1) k)
def big0 (c : Nat) : Bool := fcmp .gtr .f32 (mag c) 897988541
def gauss : Nat → Nat → List RX → Option (List RX)
  | 0, _, X => some X
  | m + 1, k, X => match big0 (gE (pivX k X) k k) with
    | true => gauss m (k + 1) (elimX k (pivX k X))
    | false => none

def subsX : Nat → List Nat → List Nat → Nat → Nat
  | _, _, [], l => l
  | k, r, x :: o, l => subsX (k + 1) r o (sb l (r.getD k 0) x)
def backX (n : Nat) : Nat → List RX → List Nat
  | _, [] => []
  | i, r :: rs => fop .quo .f32 (subsX (i + 1) r.2 (backX n (i + 1) rs) (r.2.getD n 0)) (r.2.getD i 0) :: backX n (i + 1) rs

/-- So many rows, each one longer. -/
def Sh (n : Nat) (X : List RX) : Prop := X.length = n ∧ ∀ r ∈ X, r.2.length = n + 1

theorem rx_mem {n i : Nat} {X : List RX} (h : Sh n X) (hi : i < n) : (rx X i).2.length = n + 1 := by
  have hl : i < X.length := by rw [h.1]; exact hi
  unfold rx
  rw [List.getD_eq_getElem?_getD, List.getElem?_eq_getElem hl]
  exact h.2 _ (List.getElem_mem hl)

theorem Sh.swap {n k a : Nat} {X : List RX} (h : Sh n X) (hk : k < n) (ha : a < n) : Sh n (swapX X k a) := by
  refine ⟨by unfold swapX; rw [List.length_set, List.length_set]; exact h.1, fun r hr => ?_⟩
  unfold swapX at hr
  rcases List.mem_or_eq_of_mem_set hr with hr | hr
  · rcases List.mem_or_eq_of_mem_set hr with hr | hr
    · exact h.2 r hr
    · rw [hr]; exact rx_mem h ha
  · rw [hr]; exact rx_mem h hk

theorem elimL_len (q : Nat) : ∀ (k : Nat) (rs ps : List Nat), (elimL q k rs ps).length = rs.length
  | _, [], _ => by unfold elimL; rfl
  | k, r :: rs, [] => by cases k <;> rfl
  | 0, r :: rs, p :: ps => by unfold elimL; simp [elimL_len q 0 rs ps]
  | k + 1, r :: rs, p :: ps => by unfold elimL; simp [elimL_len q k rs ps]
theorem elimT_len (p : List Nat) (k : Nat) : ∀ (m : Nat) (X : List RX), (elimT p k m X).length = X.length
  | _, [] => by unfold elimT; rfl
  | 0, r :: X => by unfold elimT; simp [elimT_len p k 0 X]
  | m + 1, r :: X => by unfold elimT; simp [elimT_len p k m X]
theorem elimT_mem (p : List Nat) (k : Nat) : ∀ (m : Nat) (X : List RX) (r : RX), r ∈ elimT p k m X → ∃ r0 ∈ X, r.2.length = r0.2.length
  | _, [], r, h => by unfold elimT at h; cases h
  | 0, r0 :: X, r, h => by
    unfold elimT at h
    rcases List.mem_cons.1 h with h | h
    · exact ⟨r0, List.mem_cons_self, by rw [h]; exact elimL_len _ _ _ _⟩
    · obtain ⟨r1, h1, h2⟩ := elimT_mem p k 0 X r h
      exact ⟨r1, List.mem_cons_of_mem _ h1, h2⟩
  | m + 1, r0 :: X, r, h => by
    unfold elimT at h
    rcases List.mem_cons.1 h with h | h
    · exact ⟨r0, List.mem_cons_self, by rw [h]⟩
    · obtain ⟨r1, h1, h2⟩ := elimT_mem p k m X r h
      exact ⟨r1, List.mem_cons_of_mem _ h1, h2⟩
theorem Sh.elim {n k : Nat} {X : List RX} (h : Sh n X) : Sh n (elimX k X) :=
  ⟨(elimT_len _ _ _ _).trans h.1, fun r hr => by obtain ⟨r0, h1, h2⟩ := elimT_mem _ _ _ _ r hr; exact h2.trans (h.2 r0 h1)⟩
theorem Sh.piv {n k : Nat} {X : List RX} (h : Sh n X) (hk : k < n) : Sh n (pivX k X) := by
  have := pivN_range k X (X.length - k - 1) (k + 1) k (by omega)
  have hl := h.1
  exact h.swap hk (by omega)
theorem Sh.gauss {n : Nat} : ∀ {m k : Nat} {X Y : List RX}, Sh n X → k + m = n → gauss m k X = some Y → Sh n Y
  | 0, k, X, Y, h, _, he => by cases he; exact h
  | m + 1, k, X, Y, h, hk, he => by
    unfold Go.Sm.gauss at he
    cases hb : big0 (gE (pivX k X) k k) with
    | false => rw [hb] at he; cases he
    | true => rw [hb] at he; exact Sh.gauss (h.piv (by omega)).elim (by omega) he

theorem backX_len (n : Nat) : ∀ (i : Nat) (X : List RX), (backX n i X).length = X.length
  | _, [] => rfl
  | i, r :: X => by unfold backX; simp [backX_len n (i + 1) X]

/-! ### The types of the rows don't matter -/

def er (X : List RX) : List RX := X.map fun r => (0, r.2)
theorem rx_er (X : List RX) (i : Nat) : (rx (er X) i).2 = (rx X i).2 := by
  unfold rx er
  rw [List.getD_eq_getElem?_getD, List.getD_eq_getElem?_getD, List.getElem?_map]
  cases X[i]? <;> rfl
theorem gE_er (X : List RX) (i j : Nat) : gE (er X) i j = gE X i j := by unfold gE; rw [rx_er]
theorem pivN_er (k : Nat) (X : List RX) : ∀ m i a, pivN k (er X) m i a = pivN k X m i a
  | 0, _, _ => rfl
  | m + 1, i, a => by
    unfold pivN
    rw [gE_er, gE_er]
    cases gtM (gE X i k) (gE X a k)
    · exact pivN_er k X m (i + 1) a
    · exact pivN_er k X m (i + 1) i
theorem rx_pair (X : List RX) (i : Nat) : rx (er X) i = (0, (rx X i).2) := by
  unfold rx er
  rw [List.getD_eq_getElem?_getD, List.getD_eq_getElem?_getD, List.getElem?_map]
  cases X[i]? <;> rfl
theorem swapX_er (X : List RX) (k a : Nat) : swapX (er X) k a = er (swapX X k a) := by
  unfold swapX
  rw [rx_pair, rx_pair]
  unfold er
  rw [List.map_set, List.map_set]
theorem elimT_er (p : List Nat) (k : Nat) : ∀ (m : Nat) (X : List RX), elimT p k m (er X) = er (elimT p k m X)
  | _, [] => by simp [er, elimT]
  | 0, r :: X => by
    have h := elimT_er p k 0 X
    unfold er at h ⊢
    rw [List.map_cons]
    unfold elimT
    rw [List.map_cons, h]
    rfl
  | m + 1, r :: X => by
    have h := elimT_er p k m X
    unfold er at h ⊢
    rw [List.map_cons]
    unfold elimT
    rw [List.map_cons, h]
theorem gauss_er : ∀ (m k : Nat) (X : List RX), gauss m k (er X) = (gauss m k X).map er
  | 0, k, X => rfl
  | m + 1, k, X => by
    have hp : pivX k (er X) = er (pivX k X) := by
      unfold pivX
      rw [pivN_er, swapX_er]
      congr 3
      simp [er]
    unfold gauss
    rw [hp, gE_er]
    cases big0 (gE (pivX k X) k k) with
    | false => rfl
    | true =>
      have he : elimX k (er (pivX k X)) = er (elimX k (pivX k X)) := by
        unfold elimX
        rw [rx_er, elimT_er]
      dsimp only
      rw [he]
      exact gauss_er m (k + 1) _
theorem backX_er (n : Nat) : ∀ (i : Nat) (X : List RX), backX n i (er X) = backX n i X
  | _, [] => rfl
  | i, r :: X => by
    have h := backX_er n (i + 1) X
    unfold er at h ⊢
    rw [List.map_cons]
    unfold backX
    rw [h]

/-- What solves the equations. -/
def solveL (xss : List (List Nat)) : Option (List Nat) := match gauss xss.length 0 (xss.map fun x => (0, x)) with
  | some Y => some (backX xss.length 0 Y)
  | none => none
/-- One to six of them. -/
def sqOk (xss : List (List Nat)) : Bool := Nat.ble 1 xss.length && (Nat.ble xss.length 6 && xss.all fun x => Nat.beq x.length (xss.length + 1))
def zipE (es : List Nat) (xss : List (List Nat)) : List RX := List.zipWith (fun e x => (e, x)) es xss

theorem zip_er : ∀ (es : List Nat) (xss : List (List Nat)), es.length = xss.length → er (zipE es xss) = xss.map fun x => (0, x)
  | [], [], _ => rfl
  | e :: es, x :: xss, h => by
    have := zip_er es xss (by simpa using h)
    unfold er zipE at this ⊢
    simp only [List.zipWith_cons_cons, List.map_cons, this]
  | [], _ :: _, h => by simp at h
  | _ :: _, [], h => by simp at h
theorem zip_len (es : List Nat) (xss : List (List Nat)) (h : es.length = xss.length) : (zipE es xss).length = xss.length := by
  unfold zipE
  rw [List.length_zipWith, h, Nat.min_self]
theorem zip_sh {n : Nat} (es : List Nat) (xss : List (List Nat)) (h : es.length = xss.length) (hn : xss.length = n) (hs : sqOk xss = true) : Sh n (zipE es xss) := by
  refine ⟨(zip_len es xss h).trans hn, fun r hr => ?_⟩
  unfold zipE at hr
  obtain ⟨i, hi⟩ := List.getElem?_of_mem hr
  rw [List.getElem?_zipWith] at hi
  unfold sqOk at hs
  rw [Bool.and_eq_true, Bool.and_eq_true, List.all_eq_true] at hs
  cases he : es[i]? with
  | none => rw [he] at hi; simp at hi
  | some e =>
    cases hx : xss[i]? with
    | none => rw [he, hx] at hi; simp at hi
    | some x =>
      rw [he, hx] at hi
      simp at hi
      subst hi
      rw [← hn]
      exact Nat.eq_of_beq_eq_true (hs.2.2 x (List.mem_of_getElem? hx))
theorem solve_es (es : List Nat) (xss : List (List Nat)) (h : es.length = xss.length) : solveL xss = match gauss xss.length 0 (zipE es xss) with
    | some Y => some (backX xss.length 0 Y)
    | none => none := by
  unfold solveL
  rw [← zip_er es xss h, gauss_er]
  cases gauss xss.length 0 (zipE es xss) with
  | none => rfl
  | some Y => rw [Option.map_some]; dsimp only; rw [backX_er]

/-! ### Rows written out -/

/-- The memory of a slice of rows. -/
def rowsH (X : List RX) : Hp := none :: X.map fun r => some ⟨r.1, ⟨.f32, r.2⟩⟩
def rowsBack : Hp → Option (List RX)
  | [] => some []
  | some ⟨e, ⟨.f32, x⟩⟩ :: H => (match rowsBack H with
    | some X => some ((e, x) :: X)
    | none => none)
  | _ :: _ => none
def eqP : List (Option Nat) → List (Option Nat) → Bool
  | [], [] => true
  | some a :: l, some b :: m => Nat.beq a b && eqP l m
  | _, _ => false
theorem eqP_ok : ∀ {l m : List (Option Nat)}, eqP l m = true → l = m
  | [], [], _ => rfl
  | some a :: l, some b :: m, h => by
    unfold eqP at h
    rw [Bool.and_eq_true] at h
    rw [Nat.eq_of_beq_eq_true h.1, eqP_ok h.2]
  | [], _ :: _, h => by cases h
  | none :: _, [], h => by cases h
  | some _ :: _, [], h => by cases h
  | none :: _, _ :: _, h => by cases h
  | some _ :: _, none :: _, h => by cases h
theorem rowsBack_ok : ∀ {H : Hp} {X : List RX}, rowsBack H = some X → H = X.map fun r => some ⟨r.1, ⟨.f32, r.2⟩⟩
  | [], X, h => by cases h; rfl
  | x :: H, X, h => by
    unfold rowsBack at h
    split at h
    · rename_i heq; cases heq
    · rename_i e x' H' heq
      cases heq
      split at h
      · rename_i X' hX
        cases h
        rw [rowsBack_ok hX]
        rfl
      · cases h
    · cases h
def shB (n : Nat) (X : List RX) : Bool := Nat.beq X.length n && X.all fun r => Nat.beq r.2.length (n + 1)
theorem shB_ok {n : Nat} {X : List RX} (h : shB n X = true) : Sh n X := by
  unfold shB at h
  rw [Bool.and_eq_true, List.all_eq_true] at h
  exact ⟨Nat.eq_of_beq_eq_true h.1, fun r hr => Nat.eq_of_beq_eq_true (h.2 r hr)⟩

def cuOf (T : TT) (A : Ann) (fn : Func) (i : Nat) : St → Option Nat → (Ex → St → Option Nat → R) → R := codeU T A noL noG fn.ntmps 9 (loopAt fn i)
def atCase2 {α : Type} (no : α) (f : Nat → α) : Nat → Nat → Nat → α
  | 0, _, _ => no
  | m + 1, lo, a => bif Nat.beq a lo then f lo else atCase2 no f m (lo + 1) a
theorem atCase2_eq {α : Type} (no : α) (f : Nat → α) : ∀ m lo a, lo ≤ a → a < lo + m → atCase2 no f m lo a = f a
  | 0, lo, a, h1, h2 => by omega
  | m + 1, lo, a, h1, h2 => by
    unfold atCase2
    cases hb : Nat.beq a lo with
    | true => rw [Nat.eq_of_beq_eq_true hb]; rfl
    | false =>
      have hne : a ≠ lo := fun e => by rw [e, Nat.beq_refl] at hb; cases hb
      exact atCase2_eq no f m (lo + 1) a (by omega) (by omega)

theorem lst2 {l : List Nat} (h : l.length = 2) : ∃ a0 a1, l = [a0, a1] := by
  match l, h with
  | [a0, a1], _ => exact ⟨a0, a1, rfl⟩
theorem lst3 {l : List Nat} (h : l.length = 3) : ∃ a0 a1 a2, l = [a0, a1, a2] := by
  match l, h with
  | [a0, a1, a2], _ => exact ⟨a0, a1, a2, rfl⟩
theorem lst4 {l : List Nat} (h : l.length = 4) : ∃ a0 a1 a2 a3, l = [a0, a1, a2, a3] := by
  match l, h with
  | [a0, a1, a2, a3], _ => exact ⟨a0, a1, a2, a3, rfl⟩
theorem lst5 {l : List Nat} (h : l.length = 5) : ∃ a0 a1 a2 a3 a4, l = [a0, a1, a2, a3, a4] := by
  match l, h with
  | [a0, a1, a2, a3, a4], _ => exact ⟨a0, a1, a2, a3, a4, rfl⟩
theorem lst6 {l : List Nat} (h : l.length = 6) : ∃ a0 a1 a2 a3 a4 a5, l = [a0, a1, a2, a3, a4, a5] := by
  match l, h with
  | [a0, a1, a2, a3, a4, a5], _ => exact ⟨a0, a1, a2, a3, a4, a5, rfl⟩
theorem lst7 {l : List Nat} (h : l.length = 7) : ∃ a0 a1 a2 a3 a4 a5 a6, l = [a0, a1, a2, a3, a4, a5, a6] := by
  match l, h with
  | [a0, a1, a2, a3, a4, a5, a6], _ => exact ⟨a0, a1, a2, a3, a4, a5, a6, rfl⟩
theorem sh1 {X : List RX} (h : Sh 1 X) : ∃ e0 a00 a01 : Nat, X = [(e0, [a00, a01])] := by
  match X, h with
  | [(e0, x0)], h =>
    obtain ⟨a00, a01, hx0⟩ := lst2 (h.2 (e0, x0) (by simp))
    exact ⟨e0, a00, a01, by dsimp only at hx0; rw [hx0]⟩
theorem sh2 {X : List RX} (h : Sh 2 X) : ∃ e0 e1 a00 a01 a02 a10 a11 a12 : Nat, X = [(e0, [a00, a01, a02]), (e1, [a10, a11, a12])] := by
  match X, h with
  | [(e0, x0), (e1, x1)], h =>
    obtain ⟨a00, a01, a02, hx0⟩ := lst3 (h.2 (e0, x0) (by simp))
    obtain ⟨a10, a11, a12, hx1⟩ := lst3 (h.2 (e1, x1) (by simp))
    exact ⟨e0, e1, a00, a01, a02, a10, a11, a12, by dsimp only at hx0 hx1; rw [hx0, hx1]⟩
theorem sh3 {X : List RX} (h : Sh 3 X) : ∃ e0 e1 e2 a00 a01 a02 a03 a10 a11 a12 a13 a20 a21 a22 a23 : Nat, X = [(e0, [a00, a01, a02, a03]), (e1, [a10, a11, a12, a13]), (e2, [a20, a21, a22, a23])] := by
  match X, h with
  | [(e0, x0), (e1, x1), (e2, x2)], h =>
    obtain ⟨a00, a01, a02, a03, hx0⟩ := lst4 (h.2 (e0, x0) (by simp))
    obtain ⟨a10, a11, a12, a13, hx1⟩ := lst4 (h.2 (e1, x1) (by simp))
    obtain ⟨a20, a21, a22, a23, hx2⟩ := lst4 (h.2 (e2, x2) (by simp))
    exact ⟨e0, e1, e2, a00, a01, a02, a03, a10, a11, a12, a13, a20, a21, a22, a23, by dsimp only at hx0 hx1 hx2; rw [hx0, hx1, hx2]⟩
theorem sh4 {X : List RX} (h : Sh 4 X) : ∃ e0 e1 e2 e3 a00 a01 a02 a03 a04 a10 a11 a12 a13 a14 a20 a21 a22 a23 a24 a30 a31 a32 a33 a34 : Nat, X = [(e0, [a00, a01, a02, a03, a04]), (e1, [a10, a11, a12, a13, a14]), (e2, [a20, a21, a22, a23, a24]), (e3, [a30, a31, a32, a33, a34])] := by
  match X, h with
  | [(e0, x0), (e1, x1), (e2, x2), (e3, x3)], h =>
    obtain ⟨a00, a01, a02, a03, a04, hx0⟩ := lst5 (h.2 (e0, x0) (by simp))
    obtain ⟨a10, a11, a12, a13, a14, hx1⟩ := lst5 (h.2 (e1, x1) (by simp))
    obtain ⟨a20, a21, a22, a23, a24, hx2⟩ := lst5 (h.2 (e2, x2) (by simp))
    obtain ⟨a30, a31, a32, a33, a34, hx3⟩ := lst5 (h.2 (e3, x3) (by simp))
    exact ⟨e0, e1, e2, e3, a00, a01, a02, a03, a04, a10, a11, a12, a13, a14, a20, a21, a22, a23, a24, a30, a31, a32, a33, a34, by dsimp only at hx0 hx1 hx2 hx3; rw [hx0, hx1, hx2, hx3]⟩
theorem sh5 {X : List RX} (h : Sh 5 X) : ∃ e0 e1 e2 e3 e4 a00 a01 a02 a03 a04 a05 a10 a11 a12 a13 a14 a15 a20 a21 a22 a23 a24 a25 a30 a31 a32 a33 a34 a35 a40 a41 a42 a43 a44 a45 : Nat, X = [(e0, [a00, a01, a02, a03, a04, a05]), (e1, [a10, a11, a12, a13, a14, a15]), (e2, [a20, a21, a22, a23, a24, a25]), (e3, [a30, a31, a32, a33, a34, a35]), (e4, [a40, a41, a42, a43, a44, a45])] := by
  match X, h with
  | [(e0, x0), (e1, x1), (e2, x2), (e3, x3), (e4, x4)], h =>
    obtain ⟨a00, a01, a02, a03, a04, a05, hx0⟩ := lst6 (h.2 (e0, x0) (by simp))
    obtain ⟨a10, a11, a12, a13, a14, a15, hx1⟩ := lst6 (h.2 (e1, x1) (by simp))
    obtain ⟨a20, a21, a22, a23, a24, a25, hx2⟩ := lst6 (h.2 (e2, x2) (by simp))
    obtain ⟨a30, a31, a32, a33, a34, a35, hx3⟩ := lst6 (h.2 (e3, x3) (by simp))
    obtain ⟨a40, a41, a42, a43, a44, a45, hx4⟩ := lst6 (h.2 (e4, x4) (by simp))
    exact ⟨e0, e1, e2, e3, e4, a00, a01, a02, a03, a04, a05, a10, a11, a12, a13, a14, a15, a20, a21, a22, a23, a24, a25, a30, a31, a32, a33, a34, a35, a40, a41, a42, a43, a44, a45, by dsimp only at hx0 hx1 hx2 hx3 hx4; rw [hx0, hx1, hx2, hx3, hx4]⟩
theorem sh6 {X : List RX} (h : Sh 6 X) : ∃ e0 e1 e2 e3 e4 e5 a00 a01 a02 a03 a04 a05 a06 a10 a11 a12 a13 a14 a15 a16 a20 a21 a22 a23 a24 a25 a26 a30 a31 a32 a33 a34 a35 a36 a40 a41 a42 a43 a44 a45 a46 a50 a51 a52 a53 a54 a55 a56 : Nat, X = [(e0, [a00, a01, a02, a03, a04, a05, a06]), (e1, [a10, a11, a12, a13, a14, a15, a16]), (e2, [a20, a21, a22, a23, a24, a25, a26]), (e3, [a30, a31, a32, a33, a34, a35, a36]), (e4, [a40, a41, a42, a43, a44, a45, a46]), (e5, [a50, a51, a52, a53, a54, a55, a56])] := by
  match X, h with
  | [(e0, x0), (e1, x1), (e2, x2), (e3, x3), (e4, x4), (e5, x5)], h =>
    obtain ⟨a00, a01, a02, a03, a04, a05, a06, hx0⟩ := lst7 (h.2 (e0, x0) (by simp))
    obtain ⟨a10, a11, a12, a13, a14, a15, a16, hx1⟩ := lst7 (h.2 (e1, x1) (by simp))
    obtain ⟨a20, a21, a22, a23, a24, a25, a26, hx2⟩ := lst7 (h.2 (e2, x2) (by simp))
    obtain ⟨a30, a31, a32, a33, a34, a35, a36, hx3⟩ := lst7 (h.2 (e3, x3) (by simp))
    obtain ⟨a40, a41, a42, a43, a44, a45, a46, hx4⟩ := lst7 (h.2 (e4, x4) (by simp))
    obtain ⟨a50, a51, a52, a53, a54, a55, a56, hx5⟩ := lst7 (h.2 (e5, x5) (by simp))
    exact ⟨e0, e1, e2, e3, e4, e5, a00, a01, a02, a03, a04, a05, a06, a10, a11, a12, a13, a14, a15, a16, a20, a21, a22, a23, a24, a25, a26, a30, a31, a32, a33, a34, a35, a36, a40, a41, a42, a43, a44, a45, a46, a50, a51, a52, a53, a54, a55, a56, by dsimp only at hx0 hx1 hx2 hx3 hx4 hx5; rw [hx0, hx1, hx2, hx3, hx4, hx5]⟩

/-! ### Loops where there is a slice of rows -/

section
variable {T : TT} {A : Ann} {nt fuel : Nat}
theorem loopsNoL : ∀ c : Code, LoopsOk T A noL nt c
  | .seq a b => ⟨loopsNoL a, loopsNoL b⟩
  | .cond _ a b => ⟨loopsNoL a, loopsNoL b⟩
  | .block _ a => loopsNoL a
  | .loop a => ⟨(fun _ _ _ _ _ _ h => by cases h), loopsNoL a⟩
  | .skip => trivial
  | .region .. => trivial
  | .ret => trivial
  | .exit _ => trivial
  | .rangeFunc .. => trivial
  | .scope _ => trivial
  | .label _ => trivial
  | .goto _ => trivial
  | .refuse _ => trivial
def LU (T : TT) (A : Ann) (nt fuel : Nat) (b : Code) : Prop := ∀ ins outs F, A.lp (firstRegion b) = some (ins, outs) → A.lm (firstRegion b) = some F → ∀ s M k out, F s M k = some out → ∃ n, iterN A ins outs (codeU T A noL noG nt fuel b) n s M k = some out
theorem loopsU_all : ∀ {c : Code}, (∀ b ∈ loopBodies c, LU T A nt fuel b) → LoopsU T A noL noG nt fuel c
  | .seq a b, h => ⟨loopsU_all fun x hx => h x (List.mem_append_left _ hx), loopsU_all fun x hx => h x (List.mem_append_right _ hx)⟩
  | .cond _ a b, h => ⟨loopsU_all fun x hx => h x (List.mem_append_left _ hx), loopsU_all fun x hx => h x (List.mem_append_right _ hx)⟩
  | .block _ a, h => loopsU_all (c := a) h
  | .loop a, h => ⟨⟨fun _ => loopsNoL _, loopsU_all fun x hx => h x (List.mem_cons_of_mem _ hx)⟩, h a List.mem_cons_self⟩
  | .skip, _ => trivial
  | .region .., _ => trivial
  | .ret, _ => trivial
  | .exit _, _ => trivial
  | .rangeFunc .., _ => trivial
  | .scope _, _ => trivial
  | .label _, _ => trivial
  | .goto _, _ => trivial
  | .refuse _, _ => trivial
theorem LU.none {b : Code} (h : (A.lp (firstRegion b)).isNone = true) : LU T A nt fuel b := fun ins outs F h1 => by
  rw [h1] at h
  cases h
theorem loopsU6 {fn : Func} (h : nLoops fn = 6) (h0 : LU T A nt fuel (loopAt fn 0)) (h1 : LU T A nt fuel (loopAt fn 1)) (h2 : LU T A nt fuel (loopAt fn 2)) (h3 : LU T A nt fuel (loopAt fn 3)) (h4 : LU T A nt fuel (loopAt fn 4)) (h5 : LU T A nt fuel (loopAt fn 5)) :
    LoopsU T A noL noG nt fuel (bodyOf fn) := loopsU_all fun b hb => by
  unfold nLoops at h
  unfold loopAt at h0 h1 h2 h3 h4 h5
  match hl : loopBodies (bodyOf fn), h with
  | [a, b0, c, d, e, f], _ =>
    rw [hl] at hb h0 h1 h2 h3 h4 h5
    simp only [List.mem_cons, List.not_mem_nil, or_false] at hb
    rcases hb with rfl | rfl | rfl | rfl | rfl | rfl
    · exact h0
    · exact h1
    · exact h2
    · exact h3
    · exact h4
    · exact h5
end

def rest3 : Code → Code
  | .seq _ (.seq _ (.seq _ c)) => c
  | c => c
theorem rowsX_zip : ∀ (es : List Nat) (X : List (List Nat)), rowsX es X = rowsH (zipE es X) := by
  intro es X
  unfold rowsX rowsH zipE
  rw [List.map_zipWith]

end Go.Sm

/- Rows of what lines give at places, their table, lines with other heights. -/
namespace Go.Sm
open Go

/-- A line one high. -/
def oneL (l : LineV) : LineV := ⟨l.p, 1065353216, l.w, l.k⟩
def fitF (xs : List LineV) (b d n : Nat) (j : Nat) (fs : List (List Nat)) : Option (List (List Nat)) :=
  bif spOk [oneL (xs.getD j noLine)] b d (n : Int) then some (fs ++ [spX [oneL (xs.getD j noLine)] b d (n : Int)]) else none
def atF (l : LineV) (b d : Nat) (i : Nat) (zs : List Nat) : Option (List Nat) := bif lineOk l (placeAt b d (i : Int)) then some (zs ++ [lineV l (placeAt b d (i : Int))]) else none
def atRow (l : LineV) (b d n : Nat) : Option (List Nat) := repE (atF l b d) n 0 []
def fitG (xs : List LineV) (b d n : Nat) (j : Nat) (fs : List (List Nat)) : Option (List (List Nat)) := match atRow (oneL (xs.getD j noLine)) b d n with
  | some r => some (fs ++ [r])
  | none => none
def rowsFit (f : List (List Nat)) (ys : List Nat) : Bool := Nat.ble ys.length 128 && (Nat.ble f.length 6 && f.all fun a => Nat.beq a.length ys.length)
def withH (l : LineV) (h : Nat) : LineV := ⟨l.p, h, l.w, l.k⟩
def setF (hs : List Nat) (j : Nat) (zs : List LineV) : List LineV := zs.set j (withH (zs.getD j noLine) (hs.getD j 0))
def setH (xs : List LineV) (hs : List Nat) : List LineV := rep (setF hs) hs.length 0 xs
def fhR (xs : List LineV) (b d n : Nat) : List (List Nat) := xs.map fun l => spX [oneL l] b d (n : Int)
def fhL (xs : List LineV) (ys : List Nat) (b d : Nat) : Option (List Nat) :=
  bif (linesIn xs 1 6 && listOk ys 1) && xs.all (fun l => spOk [oneL l] b d (ys.length : Int)) then solveL (gram (fhR xs b d ys.length) ys) else none
def fhOk (xs : List LineV) (ys : List Nat) (b d : Nat) : Bool := match fhL xs ys b d with
  | some hs => linesOk (setH xs hs)
  | none => false
def fhX (xs : List LineV) (ys : List Nat) (b d : Nat) : List LineV := match fhL xs ys b d with
  | some hs => setH xs hs
  | none => []

theorem rep_len {α : Type} {f : Nat → List α → List α} (h : ∀ j zs, (f j zs).length = zs.length) : ∀ (m j : Nat) (zs : List α), (rep f m j zs).length = zs.length
  | 0, _, _ => rfl
  | m + 1, j, zs => by rw [rep_succ, rep_len h m, h]
theorem setH_len (xs : List LineV) (hs : List Nat) : (setH xs hs).length = xs.length := rep_len (fun j zs => by simp [setF]) _ _ _
theorem gram_len (f : List (List Nat)) (ys : List Nat) : (gram f ys).length = f.length := by simp [gram]
theorem gramR_len (f : List (List Nat)) (ys a : List Nat) : (gramR f ys a).length = f.length + 1 := by simp [gramR]
theorem gram_sq {f : List (List Nat)} (ys : List Nat) (h1 : 1 ≤ f.length) (h2 : f.length ≤ 6) : sqOk (gram f ys) = true := by
  unfold sqOk
  rw [gram_len]
  simp only [Bool.and_eq_true, List.all_eq_true]
  refine ⟨Nat.ble_eq_true_of_le h1, Nat.ble_eq_true_of_le h2, fun x hx => ?_⟩
  unfold gram at hx
  obtain ⟨a, _, rfl⟩ := List.mem_map.1 hx
  rw [gramR_len]
  exact Nat.beq_refl _
theorem solveL_len {X : List (List Nat)} {l : List Nat} (h : solveL X = some l) (hs : sqOk X = true) : l.length = X.length := by
  unfold solveL at h
  split at h
  · rename_i Y hg
    cases h
    rw [backX_len]
    unfold sqOk at hs
    rw [Bool.and_eq_true, Bool.and_eq_true] at hs
    have hX : Sh X.length (X.map fun x => ((0 : Nat), x)) := ⟨by simp, fun r hr => by
      obtain ⟨x, hx, rfl⟩ := List.mem_map.1 hr
      exact Nat.eq_of_beq_eq_true (List.all_eq_true.1 hs.2.2 x hx)⟩
    exact (hX.gauss (by omega) hg).1
  · cases h

/-! ### Rows that reach -/
def fits1 (a : List Nat) (bs : List (List Nat)) : Bool := Nat.ble a.length big && bs.all fun b => Nat.ble a.length b.length
def fitsA (as bs : List (List Nat)) : Bool := as.all fun a => fits1 a bs
theorem fits1_big {a : List Nat} {bs : List (List Nat)} (h : fits1 a bs = true) : Nat.ble a.length big = true := by
  unfold fits1 at h
  rw [Bool.and_eq_true] at h
  exact h.1
theorem fits1_get {a : List Nat} {bs : List (List Nat)} {j : Nat} (h : fits1 a bs = true) (hj : j < bs.length) : Nat.ble a.length (bs.getD j []).length = true := by
  unfold fits1 at h
  rw [Bool.and_eq_true] at h
  have := List.all_eq_true.1 h.2 bs[j] (List.getElem_mem hj)
  simpa [List.getD, hj] using this
theorem fits1_left {a c : List Nat} {bs : List (List Nat)} (h : fits1 a (bs ++ [c]) = true) : fits1 a bs = true ∧ Nat.ble a.length c.length = true := by
  unfold fits1 at h ⊢
  simp only [List.all_append, List.all_cons, List.all_nil, Bool.and_true, Bool.and_eq_true] at h
  exact ⟨by rw [h.1, h.2.1]; rfl, h.2.2⟩
theorem fitsA_get {as bs : List (List Nat)} {j : Nat} (h : fitsA as bs = true) (hj : j < as.length) : fits1 (as.getD j []) bs = true := by
  have := List.all_eq_true.1 h as[j] (List.getElem_mem hj)
  simpa [List.getD, hj] using this
theorem rowsFit_A {f : List (List Nat)} {ys : List Nat} (h : rowsFit f ys = true) : f.length ≤ 6 ∧ fitsA f (f ++ [ys]) = true := by
  unfold rowsFit at h
  simp only [Bool.and_eq_true, List.all_eq_true] at h
  obtain ⟨h1, h2, h3⟩ := h
  have h1' := Nat.le_of_ble_eq_true h1
  refine ⟨Nat.le_of_ble_eq_true h2, ?_⟩
  unfold fitsA fits1
  simp only [List.all_eq_true, Bool.and_eq_true]
  intro a ha
  have ha' := Nat.eq_of_beq_eq_true (h3 a ha)
  refine ⟨big_of (by omega), fun b hb => Nat.ble_eq_true_of_le ?_⟩
  rcases List.mem_append.1 hb with hb | hb
  · have := Nat.eq_of_beq_eq_true (h3 b hb)
    omega
  · rw [List.mem_singleton.1 hb]
    omega
theorem rep_each {α β : Type} (d : α) (f : α → β) (xs : List α) : ∀ (m j : Nat) (zs : List β), j + m = xs.length → rep (fun j zs => zs ++ [f (xs.getD j d)]) m j zs = zs ++ (xs.drop j).map f
  | 0, j, zs, h => by
    rw [List.drop_of_length_le (by omega)]
    simp [rep]
  | m + 1, j, zs, h => by
    have hlt : j < xs.length := by omega
    have e : xs.getD j d = xs[j] := by simp [List.getD, hlt]
    rw [rep_succ, rep_each d f xs m (j + 1) _ (by omega), List.drop_eq_getElem_cons hlt, List.map_cons, List.append_assoc, e]
    rfl
theorem gramR_run (f : List (List Nat)) (ys a : List Nat) : rep (fun j rs => rs ++ [dotP a ((f ++ [ys]).getD j [])]) (f ++ [ys]).length 0 [] = gramR f ys a := by
  rw [rep_each [] (dotP a) (f ++ [ys]) _ 0 [] (by omega)]
  rfl
theorem gramR_run2 (f : List (List Nat)) (ys a : List Nat) : rep (fun j rs => rs ++ [dotP a (f.getD j [])]) f.length 0 [] ++ [dotP a ys] = gramR f ys a := by
  rw [rep_each [] (dotP a) f _ 0 [] (by omega)]
  simp [gramR]
theorem gram_run (f : List (List Nat)) (ys : List Nat) : rep (fun j gs => gs ++ [gramR f ys (f.getD j [])]) f.length 0 [] = gram f ys := by
  rw [rep_each [] (gramR f ys) f _ 0 [] (by omega)]
  rfl

end Go.Sm

/- A sum from naught of one number gives the same sums of products; the heights that fit, told twice. -/
namespace Go.Sm
open Go Ieee

theorem fv_natAbs (k : FloatKind) (w : Nat) : (fv k w).natAbs = rv k.format (w % k.format.signWeight) := by
  unfold fv
  split <;> simp
theorem rv_one_le {f : Format} {q : Nat} (h : 1 ≤ q) : 1 ≤ rv f q := by
  have := rv_lt (f := f) (show 0 < q by omega)
  rw [rv_zero] at this
  omega
/-- Two numbers whose sum is naught. -/
theorem fop_add_sgn {k : FloatKind} {x y : Nat} (hx : isNum k x = true) (hy : isNum k y = true) (h : fv k x + fv k y = 0) : fop .add k x y = k.format.word (sgn k x && sgn k y) 0 := by
  obtain ⟨m, e, h1, _⟩ := isNum_spell hx
  obtain ⟨n, e', h3, _⟩ := isNum_spell hy
  have hb : ∃ b : Nat, min (k.format.leastPlace + (e : Int)) (k.format.leastPlace + (e' : Int)) = k.format.leastPlace + (b : Int) ∧ b ≤ e ∧ b ≤ e' := ⟨min e e', by omega, Nat.min_le_left _ _, Nat.min_le_right _ _⟩
  obtain ⟨b, hb1, hb2, hb3⟩ := hb
  have q1 : (k.format.leastPlace + (e : Int) - (k.format.leastPlace + (b : Int))).toNat = e - b := by omega
  have q2 : (k.format.leastPlace + (e' : Int) - (k.format.leastPlace + (b : Int))).toNat = e' - b := by omega
  have v1 : fv k x = signed (sgn k x) m (e - b) * 2 ^ b := by
    rw [fv_read h1, ← signed_mul]
    congr 1
    omega
  have v2 : fv k y = signed (sgn k y) n (e' - b) * 2 ^ b := by
    rw [fv_read h3, ← signed_mul]
    congr 1
    omega
  have hr : floatBits .add k x y = some (k.format.nearest (if signed (sgn k x) m (e - b) + signed (sgn k y) n (e' - b) = 0 then sgn k x && sgn k y else decide (signed (sgn k x) m (e - b) + signed (sgn k y) n (e' - b) < 0)) (signed (sgn k x) m (e - b) + signed (sgn k y) n (e' - b)).natAbs (k.format.leastPlace + (b : Int))) := by
    show k.format.add x y = _
    unfold Format.add
    rw [h1, h3]
    simp only [Datum.sum, hb1, q1, q2, Option.map_some, Format.write]
  rw [fop_some hr, nearest_eq]
  have hsum : fv k x + fv k y = (signed (sgn k x) m (e - b) + signed (sgn k y) n (e' - b)) * 2 ^ b := by rw [v1, v2, Int.add_mul]
  generalize signed (sgn k x) m (e - b) + signed (sgn k y) n (e' - b) = S at hsum ⊢
  have hp : (0 : Int) < 2 ^ b := Int.pow_pos (by decide)
  have hS : S = 0 := by
    rw [h] at hsum
    rcases Int.mul_eq_zero.1 hsum.symm with h | h
    · exact h
    · omega
  subst hS
  rw [if_pos rfl]
  have hq : nrung k.format (0 : Int).natAbs (k.format.leastPlace + (b : Int)) ≤ 0 := nrung_le (k1 := b) (k2 := 0) (by omega) (by simp [rv_zero])
  rw [Nat.le_zero.1 hq]

theorem inf_lt_sw (k : FloatKind) : k.format.infRung < k.format.signWeight := k.format.infRung_lt

/-- Where the sum is that of one of them: the same word but for naught. -/
theorem add_same {k : FloatKind} {s p : Nat} (hs : isNum k s = true) (hp : isNum k p = true) (h : fv k p = 0) (h0 : fv k s ≠ 0) : fop .add k s p = k.format.word (decide (fv k s < 0)) (s % k.format.signWeight) := by
  obtain ⟨t, q, e, hq, n1, n2, n3, n4⟩ := fop_add hs hp
  rw [h, Int.add_zero] at n1 n2 n3 n4
  have hl := isNum_lt hs
  have e1 : q ≤ s % k.format.signWeight := n3 _ (Nat.le_of_eq (fv_natAbs k s))
  have e2 : s % k.format.signWeight ≤ q := n4 _ (Nat.le_of_lt hl) (Nat.le_of_eq (fv_natAbs k s).symm)
  have e3 : q = s % k.format.signWeight := Nat.le_antisymm e1 e2
  have e4 : t = decide (fv k s < 0) := by
    rcases Int.lt_or_le (fv k s) 0 with h1 | h1
    · rw [n1 h1, decide_eq_true h1]
    · rw [n2 (by omega), decide_eq_false (by omega)]
  rw [e, e3, e4]

theorem zero_add_fv {v : Nat} (hv : fin v = true) : fin (fop .add .f32 0 v) = true ∧ fv .f32 (fop .add .f32 0 v) = fv .f32 v := by
  have n0 : isNum .f32 0 = true := by decide +kernel
  have z0 : fv .f32 0 = 0 := by decide +kernel
  have nv : isNum .f32 v = true := by rw [← fin_isNum]; exact hv
  by_cases h : fv .f32 v = 0
  · rw [fop_add_sgn n0 nv (by rw [z0, h]; rfl), fin_isNum]
    refine ⟨word_isNum _ (by decide), ?_⟩
    rw [fv_word _ (by decide), rv_zero, h]
    split <;> rfl
  · rw [fop_add_comm, add_same nv n0 z0 h, fin_isNum]
    have hl := isNum_lt nv
    refine ⟨word_isNum _ hl, ?_⟩
    rw [fv_word _ (Nat.lt_trans hl (inf_lt_sw .f32))]
    have hn := fv_natAbs .f32 v
    by_cases h1 : fv .f32 v < 0
    · rw [decide_eq_true h1, if_pos rfl]
      omega
    · rw [decide_eq_false h1, if_neg (by decide)]
      omega

/-- Two words of one number. -/
def simF (x y : Nat) : Prop := fin x = true ∧ fin y = true ∧ fv .f32 x = fv .f32 y
def isZ (p : Nat) : Prop := isNum .f32 p = true ∧ fv .f32 p = 0
/-- Not the naught below naught. -/
def ns (s : Nat) : Prop := isNum .f32 s = true → fv .f32 s = 0 → sgn .f32 s = false

theorem fop_readL {k : FloatKind} {x y z : Nat} (h : k.format.read y = k.format.read z) : fop .mul k y x = fop .mul k z x := by
  unfold fop
  have : floatBits .mul k y x = floatBits .mul k z x := by
    show k.format.mul y x = k.format.mul z x
    unfold Format.mul
    rw [h]
  rw [this]

theorem mul_zero_l {x y : Nat} (hx : fin x = true) (hy : fin y = true) (h : fv .f32 x = 0 ∨ fv .f32 y = 0) : isZ (fop .mul .f32 x y) := by
  rw [fin_isNum] at hx hy
  obtain ⟨q, e, hq, n1, _⟩ := fop_mul hx hy
  have h0 : (fv .f32 x).natAbs * (fv .f32 y).natAbs = 0 := by
    rcases h with h | h <;> rw [h] <;> simp
  have : q ≤ 0 := n1 0 (by rw [h0]; exact Nat.zero_le _)
  have : q = 0 := Nat.le_zero.1 this
  subst this
  rw [e]
  refine ⟨word_isNum _ (by decide), ?_⟩
  rw [fv_word _ (by decide), rv_zero]
  split <;> rfl

theorem mul_sim {x x' y y' : Nat} (hx : simF x x') (hy : simF y y') : fop .mul .f32 x y = fop .mul .f32 x' y' ∨ (isZ (fop .mul .f32 x y) ∧ isZ (fop .mul .f32 x' y')) := by
  by_cases h : fv .f32 x = 0 ∨ fv .f32 y = 0
  · exact .inr ⟨mul_zero_l hx.1 hy.1 h, mul_zero_l hx.2.1 hy.2.1 (by rw [← hx.2.2, ← hy.2.2]; exact h)⟩
  · have h1 : fv .f32 x ≠ 0 := fun e => h (.inl e)
    have h2 : fv .f32 y ≠ 0 := fun e => h (.inr e)
    refine .inl ?_
    rw [fop_readL (read_fv hx.2.2 h1), fop_read (.inr (.inr (.inl rfl))) (read_fv hy.2.2 h2)]

theorem add_zeros {s p p' : Nat} (hs : ns s) (hp : isZ p) (hp' : isZ p') : fop .add .f32 s p = fop .add .f32 s p' := by
  rcases word_kind .f32 s with h | ⟨t, h⟩ | h
  · by_cases h0 : fv .f32 s = 0
    · rw [fop_add_sgn h hp.1 (by rw [h0, hp.2]; rfl), fop_add_sgn h hp'.1 (by rw [h0, hp'.2]; rfl), hs h h0]
      rfl
    · rw [add_same h hp.1 hp.2 h0, add_same h hp'.1 hp'.2 h0]
  · have key : ∀ {q : Nat}, isZ q → floatBits .add .f32 s q = some (FloatKind.f32.format.write (.infinity t)) := by
      intro q hq
      obtain ⟨m, e, h1, _⟩ := isNum_read hq.1
      show FloatKind.f32.format.add s q = _
      unfold Format.add
      rw [h, h1]
      rfl
    rw [fop_some (key hp), fop_some (key hp')]
  · rw [fop_nan_l h, fop_nan_l h]

theorem add_ns {s p : Nat} (hs : ns s) : ns (fop .add .f32 s p) := by
  intro hn h0
  have hf : fin (fop .add .f32 s p) = true := by rw [fin_isNum]; exact hn
  obtain ⟨f1, f2⟩ := fin_add hf
  rw [fin_isNum] at f1 f2
  by_cases hz : fv .f32 s + fv .f32 p = 0
  · rw [fop_add_sgn f1 f2 hz]
    have : (sgn .f32 s && sgn .f32 p) = false := by
      by_cases hs0 : fv .f32 s = 0
      · rw [hs f1 hs0]; rfl
      · rcases Int.lt_or_le (fv .f32 s) 0 with h | h
        · rw [sgn_pos (w := p) (by omega), Bool.and_false]
        · rw [sgn_pos (w := s) (by omega), Bool.false_and]
    rw [this]
    decide
  · obtain ⟨t, q, e, hq, n1, n2, n3, n4⟩ := fop_add f1 f2
    rw [e] at h0
    have h1 : 1 ≤ q := n4 1 (by decide) (by
      have : rv FloatKind.f32.format 1 = 1 := by decide +kernel
      rw [this]
      omega)
    have h2 := rv_one_le (f := FloatKind.f32.format) h1
    rw [fv_word _ (Nat.lt_of_le_of_lt hq (inf_lt_sw .f32))] at h0
    split at h0 <;> omega

theorem dot_rep {xs xs' ys ys' : List Nat} : ∀ (m j s : Nat), ns s → (∀ i, j ≤ i → i < j + m → simF (xs.getD i 0) (xs'.getD i 0) ∧ simF (ys.getD i 0) (ys'.getD i 0)) → rep (dotF xs ys) m j s = rep (dotF xs' ys') m j s
  | 0, _, _, _, _ => rfl
  | m + 1, j, s, hs, h => by
    rw [rep_succ, rep_succ]
    obtain ⟨h1, h2⟩ := h j (Nat.le_refl _) (by omega)
    have e : dotF xs ys j s = dotF xs' ys' j s := by
      unfold dotF
      rcases mul_sim h1 h2 with e | ⟨z1, z2⟩
      · rw [e]
      · exact add_zeros hs z1 z2
    rw [e]
    exact dot_rep m (j + 1) _ (add_ns hs) fun i hi hi2 => h i (by omega) (by omega)

/-- Two rows of the same numbers. -/
def simR (n : Nat) (xs ys : List Nat) : Prop := xs.length = n ∧ ys.length = n ∧ ∀ i, i < n → simF (xs.getD i 0) (ys.getD i 0)
theorem dot_sim {n : Nat} {xs xs' ys ys' : List Nat} (hx : simR n xs xs') (hy : simR n ys ys') : dotP xs ys = dotP xs' ys' := by
  unfold dotP
  rw [hx.1, hx.2.1]
  exact dot_rep n 0 0 (fun _ _ => by decide) fun i _ hi => ⟨hx.2.2 i (by omega), hy.2.2 i (by omega)⟩
theorem gram_sim {α : Type} {n : Nat} {f g : α → List Nat} {L : List α} {ys : List Nat} (h : ∀ l ∈ L, simR n (f l) (g l)) (hy : simR n ys ys) : gram (L.map f) ys = gram (L.map g) ys := by
  unfold gram
  rw [List.map_map, List.map_map]
  refine List.map_congr_left fun l hl => ?_
  show gramR (L.map f) ys (f l) = gramR (L.map g) ys (g l)
  unfold gramR
  rw [List.map_append, List.map_append, List.map_map, List.map_map]
  congr 1
  · refine List.map_congr_left fun l' hl' => ?_
    exact dot_sim (h l hl) (h l' hl')
  · simp only [List.map_cons, List.map_nil]
    rw [dot_sim (h l hl) hy]
theorem simR_self {n : Nat} {ys : List Nat} (hl : ys.length = n) (h : ys.all fin = true) : simR n ys ys := by
  refine ⟨hl, hl, fun i hi => ?_⟩
  have : fin (ys.getD i 0) = true := by
    have hi' : i < ys.length := by omega
    have := List.all_eq_true.1 h ys[i] (List.getElem_mem hi')
    simpa [List.getD, hi'] using this
  exact ⟨this, this, rfl⟩

/-! ### One line one high -/
theorem one_ok {l : LineV} (h : okLine l = true) : okLine (oneL l) = true := by
  unfold okLine oneL at *
  simp only [Bool.and_eq_true] at h ⊢
  exact ⟨⟨⟨h.1.1.1, by decide +kernel⟩, h.1.2⟩, h.2⟩
theorem lines_one (u : LineV) (x : Nat) : linesAtOk [u] x = lineOk u x := by
  have h1 : linesSum [u] x = fop .add .f32 0 (lineV u x) := rfl
  have h2 : linesOk [u] = okLine u := by simp [linesOk]
  have h3 : fin (fop .add .f32 0 (lineV u x)) = fin (lineV u x) := by
    cases h : fin (lineV u x) with
    | true => exact (zero_add_fv h).1
    | false =>
      cases h4 : fin (fop .add .f32 0 (lineV u x)) with
      | false => rfl
      | true =>
        have := (fin_add h4).2
        rw [h] at this
        cases this
  unfold linesAtOk lineOk
  rw [h1, h2, h3]

def rowAll (u : LineV) (b d n : Nat) : Bool := (fromTo 0 n).all fun (j : Nat) => lineOk u (placeAt b d (j : Int))
def rowV (u : LineV) (b d n : Nat) : List Nat := (fromTo 0 n).map fun (j : Nat) => lineV u (placeAt b d (j : Int))
theorem atRow_eq (u : LineV) (b d n : Nat) : atRow u b d n = bif rowAll u b d n then some (rowV u b d n) else none := by
  unfold atRow
  have : atF u b d = fun (i : Nat) (zs : List Nat) => bif lineOk u (placeAt b d (i : Int)) then some (zs ++ [lineV u (placeAt b d (i : Int))]) else none := rfl
  rw [this, repE_gen (fun (j : Nat) => lineOk u (placeAt b d (j : Int))) (fun (j : Nat) zs => zs ++ [lineV u (placeAt b d (j : Int))]), rep_map, List.nil_append]
  rfl
theorem spAll_one (u : LineV) (b d n : Nat) : spAll [u] b d n = rowAll u b d n := by
  unfold spAll rowAll
  congr 1
  funext j
  exact lines_one u _
theorem fitG_run (xs : List LineV) (b d n : Nat) : repE (fitG xs b d n) xs.length 0 [] = bif xs.all (fun l => rowAll (oneL l) b d n) then some (xs.map fun l => rowV (oneL l) b d n) else none := by
  have : fitG xs b d n = fun j fs => bif (fun l => rowAll (oneL l) b d n) (xs.getD j noLine) then some (fs ++ [(fun l => rowV (oneL l) b d n) (xs.getD j noLine)]) else none := by
    funext j fs
    unfold fitG
    rw [atRow_eq]
    dsimp only
    cases rowAll (oneL (xs.getD j noLine)) b d n <;> rfl
  rw [this, repE_each noLine (fun l => rowAll (oneL l) b d n) (fun l => rowV (oneL l) b d n) xs xs.length 0 [] (by omega)]
  rfl
theorem fitF_run (xs : List LineV) (b d n : Nat) : repE (fitF xs b d n) xs.length 0 [] = bif xs.all (fun l => spOk [oneL l] b d (n : Int)) then some (fhR xs b d n) else none := by
  have : fitF xs b d n = fun j fs => bif (fun l => spOk [oneL l] b d (n : Int)) (xs.getD j noLine) then some (fs ++ [(fun l => spX [oneL l] b d (n : Int)) (xs.getD j noLine)]) else none := rfl
  rw [this, repE_each noLine (fun l => spOk [oneL l] b d (n : Int)) (fun l => spX [oneL l] b d (n : Int)) xs xs.length 0 [] (by omega)]
  rfl
theorem rowV_sim {u : LineV} {b d n : Nat} (h : rowAll u b d n = true) : simR n (spX [u] b d (n : Int)) (rowV u b d n) := by
  refine ⟨by rw [spX_len]; rfl, by simp [rowV, fromTo_len], fun i hi => ?_⟩
  have e1 : (spX [u] b d (n : Int)).getD i 0 = fop .add .f32 0 (lineV u (placeAt b d (i : Int))) := by
    unfold spX
    rw [Int.toNat_natCast]
    have : (fromTo 0 n)[i]? = some i := by
      unfold fromTo
      rw [List.getElem?_range' hi]
      simp
    simp only [List.getD_eq_getElem?_getD, List.getElem?_map, this]
    rfl
  have e2 : (rowV u b d n).getD i 0 = lineV u (placeAt b d (i : Int)) := by
    unfold rowV
    have : (fromTo 0 n)[i]? = some i := by
      unfold fromTo
      rw [List.getElem?_range' hi]
      simp
    simp only [List.getD_eq_getElem?_getD, List.getElem?_map, this]
    rfl
  rw [e1, e2]
  have hm : i ∈ fromTo 0 n := by
    unfold fromTo
    rw [List.mem_range']
    exact ⟨i, hi, by omega⟩
  have hk := List.all_eq_true.1 h i hm
  unfold lineOk at hk
  simp only [Bool.and_eq_true] at hk
  have := zero_add_fv hk.2.2
  exact ⟨this.1, hk.2.2, this.2⟩

/-- What the reference asks, and what it solves. -/
theorem fhL_spec {xs : List LineV} {ys : List Nat} {b d : Nat} (h1 : linesIn xs 1 6 = true) (h2 : listOk ys 1 = true) :
    fhL xs ys b d = bif (fin b && fin d) && xs.all (fun l => rowAll (oneL l) b d ys.length) then solveL (gram (xs.map fun l => rowV (oneL l) b d ys.length) ys) else none := by
  have h1b := h1
  have h2b := h2
  unfold linesIn at h1b
  unfold listOk at h2b
  simp only [Bool.and_eq_true, decide_eq_true_eq] at h1b h2b
  unfold fhL
  rw [h1, h2]
  have hw : within (ys.length : Int) 1 128 = true := by
    unfold within
    simp only [Bool.and_eq_true, decide_eq_true_eq]
    omega
  have hsp : ∀ l ∈ xs, spOk [oneL l] b d (ys.length : Int) = ((fin b && fin d) && rowAll (oneL l) b d ys.length) := by
    intro l hl
    have hk := one_ok (List.all_eq_true.1 h1b.2.2 l hl)
    unfold spOk
    have : linesOk [oneL l] = true := by simp [linesOk, hk]
    rw [this, hw, Int.toNat_natCast, spAll_one]
    cases fin b <;> cases fin d <;> rfl
  cases hbd : (fin b && fin d) with
  | false =>
    have : xs.all (fun l => spOk [oneL l] b d (ys.length : Int)) = false := by
      match xs, h1b, hsp with
      | l :: rest, _, hsp =>
        rw [List.all_cons, hsp l (List.mem_cons_self), hbd]
        rfl
    rw [this]
    rfl
  | true =>
    have e : xs.all (fun l => spOk [oneL l] b d (ys.length : Int)) = xs.all (fun l => rowAll (oneL l) b d ys.length) := by
      rw [Bool.eq_iff_iff, List.all_eq_true, List.all_eq_true]
      constructor
      · intro h l hl
        have := h l hl
        rw [hsp l hl, hbd] at this
        exact this
      · intro h l hl
        rw [hsp l hl, hbd]
        exact h l hl
    rw [e]
    cases ha : xs.all (fun l => rowAll (oneL l) b d ys.length) with
    | false => rfl
    | true =>
      have hg : gram (fhR xs b d ys.length) ys = gram (xs.map fun l => rowV (oneL l) b d ys.length) ys :=
        gram_sim (n := ys.length) (fun l hl => rowV_sim (List.all_eq_true.1 ha l hl)) (simR_self rfl h2b.2.2)
      rw [hg]
      rfl

theorem fhR_fit {xs : List LineV} {ys : List Nat} {b d : Nat} (h1 : xs.length ≤ 6) (h2 : ys.length ≤ 128) : rowsFit (fhR xs b d ys.length) ys = true := by
  unfold rowsFit fhR
  simp only [Bool.and_eq_true, List.all_eq_true, List.length_map]
  refine ⟨Nat.ble_eq_true_of_le h2, Nat.ble_eq_true_of_le h1, fun a ha => ?_⟩
  obtain ⟨l, _, rfl⟩ := List.mem_map.1 ha
  rw [spX_len, Int.toNat_natCast]
  exact Nat.beq_refl _
theorem rowV_fit {xs : List LineV} {ys : List Nat} {b d : Nat} (h1 : xs.length ≤ 6) (h2 : ys.length ≤ 128) : rowsFit (xs.map fun l => rowV (oneL l) b d ys.length) ys = true := by
  unfold rowsFit
  simp only [Bool.and_eq_true, List.all_eq_true, List.length_map]
  refine ⟨Nat.ble_eq_true_of_le h2, Nat.ble_eq_true_of_le h1, fun a ha => ?_⟩
  obtain ⟨l, _, rfl⟩ := List.mem_map.1 ha
  unfold rowV
  rw [List.length_map, fromTo_len]
  exact Nat.beq_refl _
theorem linesIn_ok {xs : List LineV} (h1 : 1 ≤ xs.length) (h2 : xs.length ≤ 6) : linesIn xs 1 6 = linesOk xs := by
  unfold linesIn linesOk
  have e1 : ((xs.length : Int) ≥ 1) := by omega
  have e2 : ((xs.length : Int) ≤ 6) := by omega
  have e3 : xs.length ≤ 12 := by omega
  simp [e1, e2, e3]
theorem linesIn_of {xs : List LineV} (h : linesIn xs 1 6 = true) : linesOk xs = true ∧ 1 ≤ xs.length ∧ xs.length ≤ 6 := by
  have h2 := h
  unfold linesIn at h2
  simp only [Bool.and_eq_true, decide_eq_true_eq] at h2
  have h3 : 1 ≤ xs.length ∧ xs.length ≤ 6 := by omega
  exact ⟨by rw [← linesIn_ok h3.1 h3.2]; exact h, h3⟩
theorem fhL_out {xs : List LineV} {ys : List Nat} {b d : Nat} (h : (linesIn xs 1 6 && listOk ys 1) = false) : fhL xs ys b d = none := by
  unfold fhL
  rw [h]
  rfl
theorem fhOk_none {xs : List LineV} {ys : List Nat} {b d : Nat} (h : fhL xs ys b d = none) : fhOk xs ys b d = false := by
  unfold fhOk
  rw [h]
theorem fhOk_some {xs : List LineV} {ys hs : List Nat} {b d : Nat} (h : fhL xs ys b d = some hs) : fhOk xs ys b d = linesOk (setH xs hs) ∧ fhX xs ys b d = setH xs hs := by
  unfold fhOk fhX
  rw [h]
  exact ⟨rfl, rfl⟩
theorem fhX_len {xs : List LineV} {ys : List Nat} {b d : Nat} : (fhX xs ys b d).length ≤ xs.length := by
  unfold fhX
  split
  · rw [setH_len]
    exact Nat.le_refl _
  · exact Nat.zero_le _

end Go.Sm

