/- Scans. -/
import Derived.Test.YtngcejakoaoojaaG1
namespace Go.Sm
open Go

def softBy (d : Int) (t : Nat) : Nat := bif d == 1 then fop .sub .f32 1065353216 t else bif d == 2 then fop .mul .f32 1056964608 (fop .add .f32 1065353216 (phRe (wid (fop .mul .f32 1056964608 t)))) else 1065353216
def softAt (xs : List Nat) (n d : Int) (j : Nat) : Nat := fop .mul .f32 (xs.getD j 0) (softBy d (fop .quo .f32 (fint .f32 (j : Int)) (fint .f32 n)))
def softX (xs : List Nat) (d : Int) : List Nat := (fromTo 0 xs.length).map (softAt xs (xs.length : Int) d)
def softOk (xs : List Nat) (d : Int) : Bool := bins xs 2 && (within d 0 2 && (softX xs d).all fin)
theorem softX_len (xs : List Nat) (d : Int) : (softX xs d).length = xs.length := by simp [softX, fromTo_len]

/-! ### Scans of lines -/
def scanTerm (xs ws : List Nat) (s : Nat) (i : Int) (j a : Nat) : Nat := fop .add .f32 a (fop .mul .f32 (ws.getD j 0) (fop .add .f32 1065353216 (phRe (wid (fop .mul .f32 (xs.getD j 0) (fop .mul .f32 (fint .f32 i) s))))))
def scanAt (xs ws : List Nat) (s : Nat) (i : Nat) : Nat := rep (scanTerm xs ws s (i : Int)) xs.length 0 0
def scanX (xs ws : List Nat) (s : Nat) (n : Int) : List Nat := (fromTo 0 n.toNat).map (scanAt xs ws s)
def scanOk (xs ws : List Nat) (s : Nat) (n : Int) : Bool := lamps xs ws 1 && (fin s && (within n 2 64 && (scanX xs ws s n).all fin))
theorem scanX_len (xs ws : List Nat) (s : Nat) (n : Int) : (scanX xs ws s n).length = n.toNat := by simp [scanX, fromTo_len]

/-! ### Joined lists, asked -/
def minI (a b : Int) : Int := bif decide (a < b) then a else b
def stQ (us bs : List Nat) (o : Int) : Nat := fop .quo .f32 (sumF (us.drop ((us.length : Int) - o).toNat)) (sumF (bs.take o.toNat))
def stX (us bs : List Nat) (o : Int) : List Nat := rep (stS bs (stQ us bs o) ((us.length : Int) - o).toNat o.toNat) bs.length 0 us
def stAsk (us bs : List Nat) (o : Int) : Bool := decide (1 ≤ o ∧ o ≤ (us.length : Int) ∧ o ≤ (bs.length : Int) ∧ (us.length : Int) + (bs.length : Int) - o ≤ 64)
def stOk (us bs : List Nat) (o : Int) : Bool := bins us 1 && (bins bs 1 && (stAsk us bs o && (stX us bs o).all fin))
theorem stX_len {us bs : List Nat} {o : Int} (h : stAsk us bs o = true) : (stX us bs o).length ≤ 64 := by
  unfold stAsk at h
  rw [decide_eq_true_eq] at h
  unfold stX
  rcases st_len bs (stQ us bs o) ((us.length : Int) - o).toNat o.toNat bs.length 0 us with h2 | h2
  · rw [h2]; omega
  · rw [h2.2]; omega
theorem stX_same {us bs : List Nat} {o : Int} (h : stAsk us bs o = true) : rep (stI us bs (stQ us bs o) ((us.length : Int) - o).toNat o.toNat) bs.length 0 us = stX us bs o := by
  unfold stAsk at h
  rw [decide_eq_true_eq] at h
  exact st_same us bs _ _ _ (by omega) bs.length 0 us (Nat.le_refl _) (fun p _ _ => rfl)
theorem stX_bad {us bs : List Nat} {o : Int} (h : stAsk us bs o = true) (hq : fin (stQ us bs o) = false) : (stX us bs o).all fin = false := by
  unfold stAsk at h
  rw [decide_eq_true_eq] at h
  cases hr : (stX us bs o).all fin with
  | false => rfl
  | true =>
    exfalso
    obtain ⟨m, hm⟩ : ∃ m, bs.length = m + 1 := ⟨bs.length - 1, by omega⟩
    have hf : ((us.length : Int) - o).toNat < us.length := by omega
    have hlen : ((us.length : Int) - o).toNat < (stX us bs o).length := by
      unfold stX
      rcases st_len bs (stQ us bs o) ((us.length : Int) - o).toNat o.toNat bs.length 0 us with h2 | h2
      · rw [h2]; omega
      · rw [h2.2]; exact hf
    have h3 := all_getD hr hlen
    have e : (stX us bs o).getD ((us.length : Int) - o).toNat 0 = stVal bs (stQ us bs o) ((us.length : Int) - o).toNat 0 (us.getD ((us.length : Int) - o).toNat 0) := by
      unfold stX
      rw [hm, rep_succ, st_keep bs _ _ _ m (0 + 1) _ (by omega) (by
        unfold stS
        cases decide (0 < o.toNat) <;> simp <;> omega)]
      unfold stS
      rw [decide_eq_true (show 0 < o.toNat by omega)]
      simp only [cond_true, Nat.add_zero, List.getD_eq_getElem?_getD]
      rw [List.getElem?_set_self hf]
      rfl
    rw [e] at h3
    unfold stVal at h3
    have h4 := (fin_add (fin_mul h3).2).2
    rw [(fin_mul h4).2] at hq
    cases hq

end Go.Sm
