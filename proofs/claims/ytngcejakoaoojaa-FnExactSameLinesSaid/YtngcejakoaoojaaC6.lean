/- Lists of lines, rests, joined lists. -/
import Derived.Test.YtngcejakoaoojaaC5
namespace Go.Sm
open Go

instance : Inhabited LineV := ⟨⟨0, 0, 0, 0⟩⟩
def noLine : LineV := ⟨0, 0, 0, 0⟩
def notLine (l : LineV) : Bool := !okLine l
theorem notLine_fun : notLine = fun l => !okLine l := rfl
def linesIn (xs : List LineV) (a b : Int) : Bool := decide ((xs.length : Int) ≥ a) && (decide ((xs.length : Int) ≤ b) && xs.all okLine)
def linesOk (xs : List LineV) : Bool := decide (xs.length ≤ 12) && xs.all okLine
theorem linesIn_12 (xs : List LineV) : linesIn xs 0 12 = linesOk xs := by
  unfold linesIn linesOk
  have h1 : ((xs.length : Int) ≥ 0) := by omega
  have h2 : ((xs.length : Int) ≤ 12) ↔ xs.length ≤ 12 := by omega
  simp [h1, h2]

/-- A sum is a number where both parts are. -/
theorem fin_add {a b : Nat} (h : fin (fop .add .f32 a b) = true) : fin a = true ∧ fin b = true := by
  have nan : fop .add .f32 a b = nanOf .f32 → False := by
    intro e
    rw [e] at h
    revert h
    decide +kernel
  have key : ∀ (s : Bool), FloatKind.f32.format.read (fop .add .f32 a b) = .infinity s → False := by
    intro s e
    rw [fin_isNum] at h
    unfold isNum at h
    rw [e] at h
    cases h
  rw [fin_isNum a, fin_isNum b]
  rcases word_kind .f32 a with ha | ⟨s, ha⟩ | ha
  · rcases word_kind .f32 b with hb | ⟨t, hb⟩ | hb
    · exact ⟨ha, hb⟩
    · exfalso
      obtain ⟨m, e, h1, _⟩ := isNum_read ha
      have h2 : floatBits .add .f32 a b = some (FloatKind.f32.format.word t FloatKind.f32.format.infRung) := by
        show FloatKind.f32.format.add a b = _
        unfold Ieee.Format.add
        rw [h1, hb]
        rfl
      refine key t ?_
      rw [fop_some h2]
      cases t <;> decide +kernel
    · exact absurd (fop_nan_r hb) nan
  · exfalso
    rcases word_kind .f32 b with hb | ⟨t, hb⟩ | hb
    · obtain ⟨m, e, h1, _⟩ := isNum_read hb
      have h2 : floatBits .add .f32 a b = some (FloatKind.f32.format.word s FloatKind.f32.format.infRung) := by
        show FloatKind.f32.format.add a b = _
        unfold Ieee.Format.add
        rw [h1, ha]
        rfl
      refine key s ?_
      rw [fop_some h2]
      cases s <;> decide +kernel
    · cases hst : (s == t) with
      | true =>
        have hst2 : s = t := eq_of_beq hst
        subst hst2
        have h2 : floatBits .add .f32 a b = some (FloatKind.f32.format.word s FloatKind.f32.format.infRung) := by
          show FloatKind.f32.format.add a b = _
          unfold Ieee.Format.add
          rw [ha, hb]
          cases s <;> decide +kernel
        refine key s ?_
        rw [fop_some h2]
        cases s <;> decide +kernel
      | false =>
        have h2 : floatBits .add .f32 a b = none := by
          show FloatKind.f32.format.add a b = _
          unfold Ieee.Format.add
          rw [ha, hb]
          cases s <;> cases t <;> first | rfl | (cases hst)
        exact nan (by unfold fop; rw [h2]; rfl)
    · exact nan (fop_nan_r hb)
  · exact absurd (fop_nan_l ha) nan

theorem fin_fold {α : Type} (g : α → Nat) : ∀ (xs : List α) (s : Nat), fin (xs.foldl (fun a x => fop .add .f32 a (g x)) s) = true → fin s = true ∧ xs.all (fun x => fin (g x)) = true
  | [], s, h => ⟨h, rfl⟩
  | x :: xs, s, h => by
    obtain ⟨h1, h2⟩ := fin_fold g xs _ h
    obtain ⟨h3, h4⟩ := fin_add h1
    refine ⟨h3, ?_⟩
    rw [List.all_cons, h4, h2]
    rfl

theorem repE_list {α σ : Type} (d : α) (p : α → Bool) (f : σ → α → σ) (xs : List α) : ∀ (m j : Nat) (s : σ), j + m = xs.length → repE (fun j s => bif p (xs.getD j d) then some (f s (xs.getD j d)) else none) m j s = bif (xs.drop j).all p then some ((xs.drop j).foldl f s) else none := by
  intro m
  induction m with
  | zero =>
    intro j s h
    rw [List.drop_of_length_le (by omega)]
    rfl
  | succ m ih =>
    intro j s h
    have hlt : j < xs.length := by omega
    have e : xs.getD j d = xs[j] := by simp [List.getD, hlt]
    rw [repE_succ, List.drop_eq_getElem_cons hlt, List.all_cons, List.foldl_cons, e]
    cases hp : p xs[j] with
    | false => rfl
    | true => exact ih (j + 1) _ (by omega)

def linesSum (xs : List LineV) (x : Nat) : Nat := xs.foldl (fun a l => fop .add .f32 a (lineV l x)) 0
def linesAtOk (xs : List LineV) (x : Nat) : Bool := linesOk xs && (fin x && fin (linesSum xs x))

theorem lineOk_all {xs : List LineV} {x : Nat} (h : xs.all okLine = true) (hx : fin x = true) : xs.all (fun l => lineOk l x) = xs.all (fun l => fin (lineV l x)) := by
  induction xs with
  | nil => rfl
  | cons l xs ih =>
    rw [List.all_cons, Bool.and_eq_true] at h
    rw [List.all_cons, List.all_cons, ih h.2]
    unfold lineOk
    rw [h.1, hx]
    rfl

theorem sum_notFin {xs : List LineV} {x : Nat} (h : xs.all okLine = true) (hx : fin x = true) (ha : xs.all (fun l => lineOk l x) = false) : fin (linesSum xs x) = false := by
  cases hs : fin (linesSum xs x) with
  | false => rfl
  | true =>
    have := (fin_fold (fun l => lineV l x) xs 0 hs).2
    rw [lineOk_all h hx] at ha
    rw [this] at ha
    cases ha

end Go.Sm
