/- Lists of lines that are written full. -/
import Derived.Test.YtngcejakoaoojaaC7
namespace Go.Sm
open Go

def lineOf (n : Int) : LineV := ⟨fint .f32 n, fint .f32 (n + 1), fint .f32 (n + 1 + 1), n + 1 + 1 + 1⟩
def marksL (n : Int) : Nat → List LineV
  | 0 => []
  | m + 1 => lineOf n :: marksL (n + 1 + 1 + 1 + 1) m
def heldL1 (n : Int) (l : LineV) : Bool := !fcmp .neq .f32 l.p (fint .f32 n) && (!fcmp .neq .f32 l.h (fint .f32 (n + 1)) && (!fcmp .neq .f32 l.w (fint .f32 (n + 1 + 1)) && l.k == n + 1 + 1 + 1))
def heldL (n : Int) : List LineV → Bool
  | [] => true
  | x :: xs => heldL1 n x && heldL (n + 1 + 1 + 1 + 1) xs

theorem fint_same (n : Int) : fcmp .neq .f32 (fint .f32 n) (fint .f32 n) = false := by
  rw [fcmp_neq_self]
  exact fint_notNaN .f32 n
theorem heldL1_of (n : Int) : heldL1 n (lineOf n) = true := by
  unfold heldL1 lineOf
  simp [fint_same]
theorem heldL_marks : ∀ (m : Nat) (n : Int), heldL n (marksL n m) = true
  | 0, _ => rfl
  | m + 1, n => by
    unfold marksL heldL
    rw [heldL1_of, heldL_marks m]
    rfl
theorem marksL_len : ∀ (m : Nat) (n : Int), (marksL n m).length = m
  | 0, _ => rfl
  | m + 1, n => by
    unfold marksL
    rw [List.length_cons, marksL_len m]

/-! ### Lines shifted -/
def shiftL (b d : Nat) (l : LineV) : LineV := ⟨fop .add .f32 l.p b, fop .mul .f32 l.h d, l.w, l.k⟩
def shiftX (xs : List LineV) (b d : Nat) : List LineV := (fromTo 0 xs.length).map fun j => shiftL b d (xs.getD j noLine)
def shiftOk (xs : List LineV) (b d : Nat) : Bool := linesOk xs && (fin b && (fin d && linesOk (shiftX xs b d)))
theorem shiftX_len (xs : List LineV) (b d : Nat) : (shiftX xs b d).length = xs.length := by simp [shiftX, fromTo_len]

theorem sets_map {α : Type} (d : α) (g : α → α) (xs : List α) : ∀ (m j : Nat) (zs : List α), j + m = xs.length → zs.length = xs.length → (∀ q, j ≤ q → zs.getD q d = xs.getD q d) →
    (rep (fun j zs => zs.set j (g (zs.getD j d))) m j zs) = zs.take j ++ (fromTo j m).map fun q => g (xs.getD q d) := by
  intro m
  induction m with
  | zero =>
    intro j zs hj hl hq
    have : zs.take j = zs := List.take_of_length_le (by omega)
    show zs = zs.take j ++ _
    rw [this]
    simp [fromTo]
  | succ m ih =>
    intro j zs hj hl hq
    rw [rep_succ, fromTo_succ, List.map_cons]
    have hlt : j < zs.length := by omega
    rw [ih (j + 1) (zs.set j (g (zs.getD j d))) (by omega) (by simpa using hl) (fun q h => by
      rw [← hq q (by omega)]
      simp only [List.getD_eq_getElem?_getD]
      rw [List.getElem?_set_ne (by omega)])]
    rw [set_take hlt, hq j (Nat.le_refl j)]
theorem shift_sets (xs : List LineV) (b d : Nat) : rep (fun j zs => zs.set j (shiftL b d (zs.getD j noLine))) xs.length 0 xs = shiftX xs b d := by
  rw [sets_map noLine (shiftL b d) xs xs.length 0 xs (by omega) rfl (fun q _ => rfl)]
  rfl

end Go.Sm
