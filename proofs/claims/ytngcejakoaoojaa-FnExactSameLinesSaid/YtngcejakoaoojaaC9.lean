/- Rests of lamps, joined lists. -/
import Derived.Test.YtngcejakoaoojaaC8
namespace Go.Sm
open Go

/-- A difference is a number where both parts are. -/
theorem fin_sub {a b : Nat} (h : fin (fop .sub .f32 a b) = true) : fin a = true ∧ fin b = true := by
  have nan : fop .sub .f32 a b = nanOf .f32 → False := by
    intro e
    rw [e] at h
    revert h
    decide +kernel
  have key : ∀ (s : Bool), FloatKind.f32.format.read (fop .sub .f32 a b) = .infinity s → False := by
    intro s e
    rw [fin_isNum] at h
    unfold isNum at h
    rw [e] at h
    cases h
  rw [fin_isNum a, fin_isNum b]
  rcases word_kind .f32 a with ha | ⟨s, ha⟩ | ha
  · rcases word_kind .f32 b with hb | ⟨t, hb⟩ | hb
    · exact ⟨ha, hb⟩
    · exfalso
      obtain ⟨m, e, h1, _⟩ := isNum_read ha
      have h2 : floatBits .sub .f32 a b = some (FloatKind.f32.format.word (!t) FloatKind.f32.format.infRung) := by
        show FloatKind.f32.format.sub a b = _
        unfold Ieee.Format.sub
        rw [h1, hb]
        rfl
      refine key (!t) ?_
      rw [fop_some h2]
      cases t <;> decide +kernel
    · exact absurd (fop_nan_r hb) nan
  · exfalso
    rcases word_kind .f32 b with hb | ⟨t, hb⟩ | hb
    · obtain ⟨m, e, h1, _⟩ := isNum_read hb
      have h2 : floatBits .sub .f32 a b = some (FloatKind.f32.format.word s FloatKind.f32.format.infRung) := by
        show FloatKind.f32.format.sub a b = _
        unfold Ieee.Format.sub
        rw [h1, ha]
        rfl
      refine key s ?_
      rw [fop_some h2]
      cases s <;> decide +kernel
    · cases hst : (s == !t) with
      | true =>
        have hst2 : s = !t := eq_of_beq hst
        subst hst2
        have h2 : floatBits .sub .f32 a b = some (FloatKind.f32.format.word (!t) FloatKind.f32.format.infRung) := by
          show FloatKind.f32.format.sub a b = _
          unfold Ieee.Format.sub
          rw [ha, hb]
          cases t <;> decide +kernel
        refine key (!t) ?_
        rw [fop_some h2]
        cases t <;> decide +kernel
      | false =>
        have h2 : floatBits .sub .f32 a b = none := by
          show FloatKind.f32.format.sub a b = _
          unfold Ieee.Format.sub
          rw [ha, hb]
          cases s <;> cases t <;> first | rfl | (cases hst)
        exact nan (by unfold fop; rw [h2]; rfl)
    · exact nan (fop_nan_r hb)
  · exact absurd (fop_nan_l ha) nan

/-! ### Rests of lamps -/
def dot2 (xs ys : List Nat) : Nat := rep (fun j a => fop .add .f32 a (fop .mul .f32 (xs.getD j 0) (ys.getD j 0))) xs.length 0 0
def lampV (cs xs : List Nat) (j : Nat) : Nat := horner (xs.getD j 0) 0 cs
def lampR (cs xs ys : List Nat) (j : Nat) : Nat := fop .sub .f32 (ys.getD j 0) (lampV cs xs j)
def lampRests (cs xs ys : List Nat) : List Nat := (fromTo 0 xs.length).map (lampR cs xs ys)
def lampRoot (cs xs ys : List Nat) : Nat := rootF (fop .quo .f32 (dot2 (lampRests cs xs ys) (lampRests cs xs ys)) (fint .f32 (xs.length : Int)))
def lampROk (cs xs ys : List Nat) : Bool := curveOk cs && (lamps xs ys 1 && ((lampRests cs xs ys).all fin && fin (lampRoot cs xs ys)))
theorem lampRests_len (cs xs ys : List Nat) : (lampRests cs xs ys).length = xs.length := by simp [lampRests, fromTo_len]
def sqAdd (a z : Nat) : Nat := fop .add .f32 a (fop .mul .f32 z z)
theorem dot2_self (zs : List Nat) : dot2 zs zs = zs.foldl sqAdd 0 := by
  have := rep_list 0 sqAdd zs zs.length 0 0 (by omega)
  rw [List.drop_zero] at this
  exact this
theorem rests_go (g : Nat → Nat) : ∀ (m j : Nat) (zs : List Nat) (a : Nat), rep (fun j (s : List Nat × Nat) => (s.1 ++ [g j], sqAdd s.2 (g j))) m j (zs, a) = (zs ++ (fromTo j m).map g, ((fromTo j m).map g).foldl sqAdd a) := by
  intro m
  induction m with
  | zero => intro j zs a; simp [rep, fromTo]
  | succ m ih =>
    intro j zs a
    rw [rep_succ, ih, fromTo_succ, List.map_cons, List.foldl_cons]
    simp
def lampP (cs xs : List Nat) (j : Nat) : Bool := curveOk cs && (fin (xs.getD j 0) && fin (lampV cs xs j))
theorem lamp_run (cs xs ys : List Nat) : repE (fun j (s : List Nat × Nat) => bif lampP cs xs j then some (s.1 ++ [lampR cs xs ys j], sqAdd s.2 (lampR cs xs ys j)) else none) xs.length 0 ([], 0)
    = bif (fromTo 0 xs.length).all (lampP cs xs) then some (lampRests cs xs ys, dot2 (lampRests cs xs ys) (lampRests cs xs ys)) else none := by
  rw [repE_gen (lampP cs xs) (fun j (s : List Nat × Nat) => (s.1 ++ [lampR cs xs ys j], sqAdd s.2 (lampR cs xs ys j))), rests_go, dot2_self, List.nil_append]
  rfl
theorem lamp_bad {cs xs ys : List Nat} (hc : curveOk cs = true) (hx : xs.all fin = true) (h : (fromTo 0 xs.length).all (lampP cs xs) = false) : (lampRests cs xs ys).all fin = false := by
  cases hr : (lampRests cs xs ys).all fin with
  | false => rfl
  | true =>
    have : (fromTo 0 xs.length).all (lampP cs xs) = true := by
      rw [List.all_eq_true]
      intro j hj
      have hj2 := fromTo_mem hj
      unfold lampRests at hr
      rw [List.all_map, List.all_eq_true] at hr
      have h1 := fin_sub (hr j hj)
      unfold lampP
      rw [hc, all_getD hx (by omega), h1.2]
      rfl
    rw [this] at h
    cases h
theorem lamp_none {cs xs : List Nat} (hc : curveOk cs = false) (hx : 1 ≤ xs.length) : (fromTo 0 xs.length).all (lampP cs xs) = false := by
  obtain ⟨m, hm⟩ : ∃ m, xs.length = m + 1 := ⟨xs.length - 1, by omega⟩
  rw [hm, fromTo_succ, List.all_cons]
  unfold lampP
  rw [hc]
  rfl

/-! ### Joined lists -/
def stVal (bs : List Nat) (q : Nat) (f j old : Nat) : Nat := fop .mul .f32 1056964608 (fop .add .f32 old (fop .mul .f32 (bs.getD j 0) q))
def stS (bs : List Nat) (q f o : Nat) (j : Nat) (zs : List Nat) : List Nat := bif decide (j < o) then zs.set (f + j) (stVal bs q f j (zs.getD (f + j) 0)) else zs ++ [fop .mul .f32 (bs.getD j 0) q]
def stI (as bs : List Nat) (q f o : Nat) (j : Nat) (zs : List Nat) : List Nat := bif decide (j < o) then zs.set (f + j) (stVal bs q f j (as.getD (f + j) 0)) else zs ++ [fop .mul .f32 (bs.getD j 0) q]
theorem st_same (as bs : List Nat) (q f o : Nat) (hf : f + o = as.length) : ∀ (m j : Nat) (zs : List Nat), as.length ≤ zs.length → (∀ p, f + j ≤ p → p < as.length → zs.getD p 0 = as.getD p 0) → rep (stI as bs q f o) m j zs = rep (stS bs q f o) m j zs := by
  intro m
  induction m with
  | zero => intro j zs _ _; rfl
  | succ m ih =>
    intro j zs hl hp
    rw [rep_succ, rep_succ]
    have e : stI as bs q f o j zs = stS bs q f o j zs := by
      unfold stI stS
      by_cases hj : j < o
      · rw [hp (f + j) (Nat.le_refl _) (by omega)]
      · rw [decide_eq_false hj]
        rfl
    rw [e]
    refine ih (j + 1) _ ?_ ?_
    · unfold stS
      cases decide (j < o) <;> simp <;> omega
    · intro p h1 h2
      unfold stS
      by_cases hj : j < o
      · rw [decide_eq_true hj]
        simp only [cond_true, List.getD_eq_getElem?_getD]
        rw [List.getElem?_set_ne (by omega)]
        have := hp p (by omega) h2
        simpa [List.getD_eq_getElem?_getD] using this
      · rw [decide_eq_false hj]
        simp only [cond_false, List.getD_eq_getElem?_getD]
        rw [List.getElem?_append_left (by omega)]
        have := hp p (by omega) h2
        simpa [List.getD_eq_getElem?_getD] using this
theorem st_len (bs : List Nat) (q f o : Nat) : ∀ (m j : Nat) (zs : List Nat), (rep (stS bs q f o) m j zs).length = zs.length + ((j + m) - max o j) + 0 ∨ o > j + m ∧ (rep (stS bs q f o) m j zs).length = zs.length := by
  intro m
  induction m with
  | zero => intro j zs; left; show zs.length = _; omega
  | succ m ih =>
    intro j zs
    rw [rep_succ]
    have hl : (stS bs q f o j zs).length = zs.length + (if j < o then 0 else 1) := by
      unfold stS
      by_cases hj : j < o
      · rw [decide_eq_true hj, if_pos hj]; simp
      · rw [decide_eq_false hj, if_neg hj]; simp
    rcases ih (j + 1) (stS bs q f o j zs) with h | h
    · rw [h, hl]
      by_cases hj : j < o
      · rw [if_pos hj]
        by_cases h2 : o > j + 1 + m
        · right; exact ⟨by omega, by omega⟩
        · left; omega
      · rw [if_neg hj]; left; omega
    · right
      rw [h.2, hl, if_pos (by omega)]
      exact ⟨by omega, rfl⟩
theorem st_keep (bs : List Nat) (q f o : Nat) : ∀ (m j : Nat) (zs : List Nat), 1 ≤ j → f < zs.length → (rep (stS bs q f o) m j zs).getD f 0 = zs.getD f 0 := by
  intro m
  induction m with
  | zero => intro j zs _ _; rfl
  | succ m ih =>
    intro j zs h1 h2
    rw [rep_succ, ih (j + 1) _ (by omega) (by
      unfold stS
      cases decide (j < o) <;> simp <;> omega)]
    unfold stS
    by_cases hj : j < o
    · rw [decide_eq_true hj]
      simp only [cond_true, List.getD_eq_getElem?_getD]
      rw [List.getElem?_set_ne (by omega)]
    · rw [decide_eq_false hj]
      simp only [cond_false, List.getD_eq_getElem?_getD]
      rw [List.getElem?_append_left h2]

/-- A product by what is no number is no number. -/
theorem fin_mul {a b : Nat} (h : fin (fop .mul .f32 a b) = true) : fin a = true ∧ fin b = true := by
  have nan : fop .mul .f32 a b = nanOf .f32 → False := by
    intro e
    rw [e] at h
    revert h
    decide +kernel
  have key : ∀ (s : Bool), FloatKind.f32.format.read (fop .mul .f32 a b) = .infinity s → False := by
    intro s e
    rw [fin_isNum] at h
    unfold isNum at h
    rw [e] at h
    cases h
  rw [fin_isNum a, fin_isNum b]
  have inf : ∀ {x y : Nat} {s t : Bool} {m : Nat} {e : Int}, FloatKind.f32.format.read x = .infinity s → (FloatKind.f32.format.read y = .number t m e ∨ FloatKind.f32.format.read y = .infinity t) → (fop .mul .f32 x y = nanOf .f32 ∨ ∃ u, FloatKind.f32.format.read (fop .mul .f32 x y) = .infinity u) ∧ (fop .mul .f32 y x = nanOf .f32 ∨ ∃ u, FloatKind.f32.format.read (fop .mul .f32 y x) = .infinity u) := by
    intro x y s t m e hx hy
    have wi : ∀ u : Bool, FloatKind.f32.format.read (FloatKind.f32.format.word u FloatKind.f32.format.infRung) = .infinity u := by intro u; cases u <;> decide +kernel
    have go : ∀ r : Option Nat, (r = none ∨ ∃ u, r = some (FloatKind.f32.format.word u FloatKind.f32.format.infRung)) → ∀ {p q : Nat}, floatBits .mul .f32 p q = r → (fop .mul .f32 p q = nanOf .f32 ∨ ∃ u, FloatKind.f32.format.read (fop .mul .f32 p q) = .infinity u) := by
      intro r hr p q hpq
      rcases hr with hr | ⟨u, hr⟩
      · left; unfold fop; rw [hpq, hr]; rfl
      · right; rw [hr] at hpq; exact ⟨u, by rw [fop_some hpq]; exact wi u⟩
    constructor
    · refine go (FloatKind.f32.format.mul x y) ?_ rfl
      unfold Ieee.Format.mul
      rcases hy with hy | hy
      · rw [hx, hy]
        rcases m with _ | n
        · left; cases s <;> cases t <;> rfl
        · right
          exact ⟨s ^^ t, by cases s <;> cases t <;> rfl⟩
      · rw [hx, hy]
        right
        exact ⟨s ^^ t, by cases s <;> cases t <;> rfl⟩
    · refine go (FloatKind.f32.format.mul y x) ?_ rfl
      unfold Ieee.Format.mul
      rcases hy with hy | hy
      · rw [hx, hy]
        rcases m with _ | n
        · left; cases s <;> cases t <;> rfl
        · right
          exact ⟨s ^^ t, by cases s <;> cases t <;> rfl⟩
      · rw [hx, hy]
        right
        exact ⟨s ^^ t, by cases s <;> cases t <;> rfl⟩
  have out : (fop .mul .f32 a b = nanOf .f32 ∨ ∃ u, FloatKind.f32.format.read (fop .mul .f32 a b) = .infinity u) → False := by
    intro h3
    rcases h3 with h3 | ⟨u, h3⟩
    · exact nan h3
    · exact key u h3
  rcases word_kind .f32 a with ha | ⟨s, ha⟩ | ha
  · rcases word_kind .f32 b with hb | ⟨t, hb⟩ | hb
    · exact ⟨ha, hb⟩
    · obtain ⟨m, e, h1, _⟩ := isNum_read ha
      exact (out (inf hb (.inl h1)).2).elim
    · exact (nan (fop_nan_r hb)).elim
  · rcases word_kind .f32 b with hb | ⟨t, hb⟩ | hb
    · obtain ⟨m, e, h1, _⟩ := isNum_read hb
      exact (out (inf ha (.inl h1)).1).elim
    · exact (out (inf (m := 0) (e := 0) ha (.inr hb)).1).elim
    · exact (nan (fop_nan_r hb)).elim
  · exact (nan (fop_nan_l ha)).elim

end Go.Sm
