/- Spectra and what they leave. -/
import Derived.Test.YtngcejakoaoojaaC6
namespace Go.Sm
open Go

theorem repE_gen {σ : Type} (p : Nat → Bool) (f : Nat → σ → σ) : ∀ (m j : Nat) (s : σ), repE (fun j s => bif p j then some (f j s) else none) m j s = bif (fromTo j m).all p then some (rep f m j s) else none := by
  intro m
  induction m with
  | zero => intro j s; rfl
  | succ m ih =>
    intro j s
    rw [repE_succ, fromTo_succ, List.all_cons, rep_succ]
    cases hp : p j with
    | false => rfl
    | true => exact ih (j + 1) _

theorem fromTo_get {α : Type} (g : Nat → α) (d : α) {n j : Nat} (h : j < n) : ((fromTo 0 n).map g).getD j d = g j := by
  have h2 : j < ((fromTo 0 n).map g).length := by rw [List.length_map, fromTo_len]; exact h
  rw [List.getD_eq_getElem?_getD, List.getElem?_eq_getElem h2, Option.getD_some, List.getElem_map]
  unfold fromTo
  rw [List.getElem_range']
  congr 1
  omega

def placeAt (b d : Nat) (j : Int) : Nat := fop .add .f32 b (fop .mul .f32 (fint .f32 j) d)
def spAll (xs : List LineV) (b d : Nat) (n : Nat) : Bool := (fromTo 0 n).all fun j => linesAtOk xs (placeAt b d (j : Int))
def spAt (xs : List LineV) (b d : Nat) (j : Nat) : Nat := linesSum xs (placeAt b d (j : Int))
def spX (xs : List LineV) (b d : Nat) (n : Int) : List Nat := (fromTo 0 n.toNat).map (spAt xs b d)
def spOk (xs : List LineV) (b d : Nat) (n : Int) : Bool := linesOk xs && (fin b && (fin d && (within n 1 128 && spAll xs b d n.toNat)))
theorem spX_len (xs : List LineV) (b d : Nat) (n : Int) : (spX xs b d n).length = n.toNat := by simp [spX, fromTo_len]
theorem sp_run (xs : List LineV) (b d : Nat) (n : Nat) : repE (fun j zs => bif linesAtOk xs (placeAt b d (j : Int)) then some (zs ++ [spAt xs b d j]) else none) n 0 [] = bif spAll xs b d n then some ((fromTo 0 n).map (spAt xs b d)) else none := by
  rw [repE_gen (fun j => linesAtOk xs (placeAt b d (j : Int))) (fun j zs => zs ++ [spAt xs b d j]), rep_map, List.nil_append]
  rfl

def sqTo (y z a : Nat) : Nat := fop .add .f32 a (fop .mul .f32 (fop .sub .f32 y z) (fop .sub .f32 y z))
def restSum (xs : List LineV) (ys : List Nat) (b d : Nat) : Nat := rep (fun j a => sqTo (ys.getD j 0) (spAt xs b d j) a) ys.length 0 0
def restOk (xs : List LineV) (ys : List Nat) (b d : Nat) : Bool := linesOk xs && (listOk ys 1 && (fin b && (fin d && (spAll xs b d ys.length && fin (restSum xs ys b d)))))
theorem rest_run (xs : List LineV) (ys : List Nat) (b d : Nat) : repE (fun j a => bif linesAtOk xs (placeAt b d (j : Int)) then some (sqTo (ys.getD j 0) (spAt xs b d j) a) else none) ys.length 0 0 = bif spAll xs b d ys.length then some (restSum xs ys b d) else none :=
  repE_gen (fun j => linesAtOk xs (placeAt b d (j : Int))) (fun j a => sqTo (ys.getD j 0) (spAt xs b d j) a) ys.length 0 0
theorem rest_made (xs : List LineV) (ys : List Nat) (b d : Nat) {n : Nat} (h : n = ys.length) : rep (fun j a => sqTo (ys.getD j 0) (((fromTo 0 n).map (spAt xs b d)).getD j 0) a) ys.length 0 0 = restSum xs ys b d := by
  unfold restSum
  refine rep_congr (lo := 0) (hi := ys.length) (fun j s _ hj => ?_) ys.length 0 0 (Nat.le_refl 0) (by omega)
  rw [fromTo_get _ _ (show j < n by omega)]

end Go.Sm
