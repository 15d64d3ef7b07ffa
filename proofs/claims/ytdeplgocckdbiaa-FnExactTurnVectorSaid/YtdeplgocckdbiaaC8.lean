/- Lists of lines that are written full. -/
import Derived.Test.YtdeplgocckdbiaaC7
namespace Go.Sm
open Go

def lineOf (n : Int) : LineV := ⟨fint .f32 n, fint .f32 (n + 1), fint .f32 (n + 1 + 1), n + 1 + 1 + 1⟩
def marksL (n : Int) : Nat → List LineV
  | 0 => []
  | m + 1 => lineOf n :: marksL (n + 1 + 1 + 1 + 1) m
def heldL1 (n : Int) (l : LineV) : Bool := !fcmp .neq .f32 l.p (fint .f32 n) && (!fcmp .neq .f32 l.h (fint .f32 (n + 1)) && (!fcmp .neq .f32 l.w (fint .f32 (n + 1 + 1)) && l.k == n + 1 + 1 + 1))
def heldL (n : Int) : List LineV → Bool
  | [] => true
  | x :: xs => heldL1 n x && heldL (n + 1 + 1 + 1 + 1) xs

theorem fint_same (n : Int) : fcmp .neq .f32 (fint .f32 n) (fint .f32 n) = false := by
  rw [fcmp_neq_self]
  exact fint_notNaN .f32 n
theorem heldL1_of (n : Int) : heldL1 n (lineOf n) = true := by
  unfold heldL1 lineOf
  simp [fint_same]
theorem heldL_marks : ∀ (m : Nat) (n : Int), heldL n (marksL n m) = true
  | 0, _ => rfl
  | m + 1, n => by
    unfold marksL heldL
    rw [heldL1_of, heldL_marks m]
    rfl
theorem marksL_len : ∀ (m : Nat) (n : Int), (marksL n m).length = m
  | 0, _ => rfl
  | m + 1, n => by
    unfold marksL
    rw [List.length_cons, marksL_len m]

end Go.Sm
