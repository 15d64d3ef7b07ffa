/- The law FnExactPulseTurns holds: whatever the input, it says true, and the input reads as it did. No condition. -/
import Derived.Test.YtdeplgocckdbiaaD12
import Derived.Test.YtdeplgocckdbiaaRows
import Derived.ProofKit
namespace Go.Sm.Ytdeplgocckdbiaa
open Go Go.Sm Go.RowKit Go.ChangeShapes Go.WideShapes Go.ChangeAt Go.Proofs Go.Proofs.Ytdeplgocckdbiaa

theorem e7 (pa : Nat) (pb : Nat) (pc : Nat) (pd : Nat) : runFn T12 none0 noL Try.f7 [.el (.ag [(.fl .f32 pa), (.fl .f32 pb), (.fl .f32 pc), (.fl .f32 pd)])] = (match (Nat.beq (orNil (pulOk (((⟨pa, pb, pc, pd⟩ : PulseV)))) (pulList (((⟨pa, pb, pc, pd⟩ : PulseV))))).length (orNil (pulOk (((⟨pa, pb, pc, pd⟩ : PulseV)))) (pulList (((⟨pa, pb, pc, pd⟩ : PulseV))))).length : Bool) with
  | true => (match (Nat.ble (orNil (pulOk (((⟨pa, pb, pc, pd⟩ : PulseV)))) (pulList (((⟨pa, pb, pc, pd⟩ : PulseV))))).length big : Bool) with
    | true => (match (!(all2 sameC (orNil (pulOk (((⟨pa, pb, pc, pd⟩ : PulseV)))) (pulList (((⟨pa, pb, pc, pd⟩ : PulseV))))) (orNil (pulOk (((⟨pa, pb, pc, pd⟩ : PulseV)))) (pulList (((⟨pa, pb, pc, pd⟩ : PulseV)))))) : Bool) with
      | true => some ⟨[.el (.sc (.bo false))], none⟩
      | false => (match (!((pulOk (((⟨pa, pb, pc, pd⟩ : PulseV)))) == (pulOk (((⟨pa, pb, pc, pd⟩ : PulseV))))) : Bool) with
        | true => some ⟨[.el (.sc (.bo false))], none⟩
        | false => (match (decide (0 ≤ 1) && decide (1 + ((orNil (pulOk (((⟨pa, pb, pc, pd⟩ : PulseV)))) (pulList (((⟨pa, pb, pc, pd⟩ : PulseV))))).length : Int) ≤ 64) : Bool) with
          | true => (match (decide (0 ≤ 1) && decide (1 + ((marksC 1 (orNil (pulOk (((⟨pa, pb, pc, pd⟩ : PulseV)))) (pulList (((⟨pa, pb, pc, pd⟩ : PulseV))))).length).length : Int) ≤ 64) : Bool) with
            | true => (match (decide ((heldN (heldC 1 (marksC 1 (orNil (pulOk (((⟨pa, pb, pc, pd⟩ : PulseV)))) (pulList (((⟨pa, pb, pc, pd⟩ : PulseV))))).length)) (1 + ((marksC 1 (orNil (pulOk (((⟨pa, pb, pc, pd⟩ : PulseV)))) (pulList (((⟨pa, pb, pc, pd⟩ : PulseV))))).length).length : Int)) : Int) < 0) : Bool) with
              | true => some ⟨[.el (.sc (.bo false))], none⟩
              | false => (match (!((heldN (heldC 1 (marksC 1 (orNil (pulOk (((⟨pa, pb, pc, pd⟩ : PulseV)))) (pulList (((⟨pa, pb, pc, pd⟩ : PulseV))))).length)) (1 + ((marksC 1 (orNil (pulOk (((⟨pa, pb, pc, pd⟩ : PulseV)))) (pulList (((⟨pa, pb, pc, pd⟩ : PulseV))))).length).length : Int)) : Int) == 1 + ((orNil (pulOk (((⟨pa, pb, pc, pd⟩ : PulseV)))) (pulList (((⟨pa, pb, pc, pd⟩ : PulseV))))).length : Int)) : Bool) with
                | true => some ⟨[.el (.sc (.bo false))], none⟩
                | false => (match (Nat.beq (orNil (pulOk (((⟨pa, pb, pc, pd⟩ : PulseV)))) (pulList (((⟨pa, pb, pc, pd⟩ : PulseV))))).length (orNil (pulOk (((⟨pa, pb, pc, pd⟩ : PulseV)))) (pulList (((⟨pa, pb, pc, pd⟩ : PulseV))))).length : Bool) with
                  | true => (match (Nat.ble (orNil (pulOk (((⟨pa, pb, pc, pd⟩ : PulseV)))) (pulList (((⟨pa, pb, pc, pd⟩ : PulseV))))).length big : Bool) with
                    | true => (match (!(all2 sameC (orNil (pulOk (((⟨pa, pb, pc, pd⟩ : PulseV)))) (pulList (((⟨pa, pb, pc, pd⟩ : PulseV))))) (orNil (pulOk (((⟨pa, pb, pc, pd⟩ : PulseV)))) (pulList (((⟨pa, pb, pc, pd⟩ : PulseV)))))) : Bool) with
                      | true => some ⟨[.el (.sc (.bo false))], none⟩
                      | false => (match (!((pulOk (((⟨pa, pb, pc, pd⟩ : PulseV)))) == (pulOk (((⟨pa, pb, pc, pd⟩ : PulseV))))) : Bool) with
                        | true => some ⟨[.el (.sc (.bo false))], none⟩
                        | false => (match (decide (0 ≤ 1) && decide (1 + ((marksC 1 (orNil (pulOk (((⟨pa, pb, pc, pd⟩ : PulseV)))) (pulList (((⟨pa, pb, pc, pd⟩ : PulseV))))).length).length : Int) ≤ 64) : Bool) with
                          | true => (match (decide ((heldN (heldC 1 (marksC 1 (orNil (pulOk (((⟨pa, pb, pc, pd⟩ : PulseV)))) (pulList (((⟨pa, pb, pc, pd⟩ : PulseV))))).length)) (1 + ((marksC 1 (orNil (pulOk (((⟨pa, pb, pc, pd⟩ : PulseV)))) (pulList (((⟨pa, pb, pc, pd⟩ : PulseV))))).length).length : Int)) : Int) < 0) : Bool) with
                            | true => some ⟨[.el (.sc (.bo false))], none⟩
                            | false => (match (!((heldN (heldC 1 (marksC 1 (orNil (pulOk (((⟨pa, pb, pc, pd⟩ : PulseV)))) (pulList (((⟨pa, pb, pc, pd⟩ : PulseV))))).length)) (1 + ((marksC 1 (orNil (pulOk (((⟨pa, pb, pc, pd⟩ : PulseV)))) (pulList (((⟨pa, pb, pc, pd⟩ : PulseV))))).length).length : Int)) : Int) == 1 + ((orNil (pulOk (((⟨pa, pb, pc, pd⟩ : PulseV)))) (pulList (((⟨pa, pb, pc, pd⟩ : PulseV))))).length : Int)) : Bool) with
                              | true => some ⟨[.el (.sc (.bo false))], none⟩
                              | false => some ⟨[.el (.sc (.bo true))], none⟩))
                          | false => none)))
                    | false => none)
                  | false => some ⟨[.el (.sc (.bo false))], none⟩)))
            | false => none)
          | false => none)))
    | false => none)
  | false => some ⟨[.el (.sc (.bo false))], none⟩) := by kernel_rfl
theorem s7 (pa : Nat) (pb : Nat) (pc : Nat) (pd : Nat) (h_p : K.wf .pulse (⟨pa, pb, pc, pd⟩ : PulseV)) : runFn T12 none0 noL Try.f7 [.el (.ag [(.fl .f32 pa), (.fl .f32 pb), (.fl .f32 pc), (.fl .f32 pd)])] = some ⟨[.el (.sc (.bo true))], none⟩ := by
  rw [e7]
  generalize hD : orNil (pulOk (⟨pa, pb, pc, pd⟩ : PulseV)) (pulList (⟨pa, pb, pc, pd⟩ : PulseV)) = D
  have hDl : D.length ≤ 4 := by
    rw [← hD]
    exact orNil_len _ _ (fun _ => Nat.le_of_eq (pulList_len _))
  have hb5 : Nat.ble D.length big = true := big_of (by omega)
  have i3 : ¬ (1 + (D.length : Int) < 0) := by omega
  have i4 : 1 + (D.length : Int) ≤ 64 := by omega
  simp [hb5, i3, i4, all2_refl sameC_refl, heldC_marks, heldN, marksC_len, Nat.beq_refl]

theorem core7 (xs : List FV) (h : AKs (AK.fits Try.prog) [.ag .pulse] Try.f7.params.toList xs) : COK Try.prog 7 xs [.el (.sc (.bo true))] := by
  have hp : Try.f7.params.toList = [46] := by kernel_rfl
  rw [hp] at h
  obtain ⟨x0, rfl, hx0⟩ := aks1 h
  obtain ⟨p, rfl, h_p⟩ := hx0
  show COK Try.prog 7 [.el (.ag [(.fl .f32 p.a), (.fl .f32 p.b), (.fl .f32 p.c), (.fl .f32 p.d)])] [.el (.sc (.bo true))]
  exact fn_ok tok12 (A := none0) (L := noL) (r := none) Try.func7 (by kernel_rfl) (by kernel_rfl) (loops0 (by kernel_rfl)) (s7 p.a p.b p.c p.d h_p)

end Go.Sm.Ytdeplgocckdbiaa
namespace Go.Proofs.Ytdeplgocckdbiaa
open Go.Sm Go.Sm.Ytdeplgocckdbiaa Go.ChangeShapes Go.WideShapes Go.ChangeAt Go.RowKit

set_option maxRecDepth 100000 in
theorem lifted7 (os : Os) (started : os.Started) (H : Type) (enc : TypeId × Value → H) :
    ReturnsInHanded {} Try.checked os 7 .any (Rows.fnExactPulseTurnsSpec.pre6 enc Try.prog Try.f7 Rows.fnExactPulseTurnsRow.domain false) (Rows.fnExactPulseTurnsSpec.post enc Try.prog Try.f7 false true false false) :=
  law_lifted (C := Try.checked) (aks := [.ag .pulse]) (tb := 4) (by kernel_rfl) started (by kernel_rfl) Try.func7 (by kernel_rfl)
    (ChangeSpec.witness6 (enc := enc) (C := Try.checked) false ⟨#[], #[.agg #[.float .f32 0, .float .f32 0, .float .f32 0, .float .f32 0]], []⟩ 8 (by kernel_rfl) (by kernel_rfl) (by kernel_rfl) (by kernel_rfl))
    (fun t ht => by
      have hb : Try.f7.params.toList.all (fun t => Try.prog.readableRec t && decide (t < Try.prog.types.size)) = true := by kernel_rfl
      have := List.all_eq_true.1 hb t ht
      rw [Bool.and_eq_true] at this
      exact ⟨this.1, of_decide_eq_true this.2⟩)
    (by kernel_rfl) (by kernel_rfl) rfl
    (fun ds hd => by
      have hp : Try.f7.params.size = 1 := by kernel_rfl
      rw [hp] at hd
      match ds, hd with
      | [d0], _ => rfl)
    (rowsB_ok (by kernel_rfl)) core7

/-- **THE LAW.** -/
theorem FnExactPulseTurns_holds : Rows.FnExactPulseTurnsSaid :=
  OpenClaim.holds_of_wide 7 Try.f7 rfl rfl rfl rfl rfl rfl rfl ⟨rfl, rfl, rfl, rfl, rfl⟩ rfl rfl rfl rfl rfl (by kernel_rfl) Try.func7 (by kernel_rfl)
    (of_decide_eq_true (by kernel_rfl)) (by unfold Func.isWrapper; first | (rw [if_pos (by decide +kernel)]; kernel_rfl) | (rw [if_neg (by decide +kernel)]; exact ⟨rfl, rfl⟩))
    (fun os started H enc _ => lifted7 os started H enc)

end Go.Proofs.Ytdeplgocckdbiaa
