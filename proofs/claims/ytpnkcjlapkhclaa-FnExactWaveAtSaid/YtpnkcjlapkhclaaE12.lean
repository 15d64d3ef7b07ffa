/- The law FnExactWaveAt holds: whatever the input, it says true, and the input reads as it did. No condition. -/
import Derived.Test.YtpnkcjlapkhclaaD7
import Derived.Test.YtpnkcjlapkhclaaRows
import Derived.ProofKit
namespace Go.Sm.Ytpnkcjlapkhclaa
open Go Go.Sm Go.RowKit Go.ChangeShapes Go.WideShapes Go.ChangeAt Go.Proofs Go.Proofs.Ytpnkcjlapkhclaa

theorem e12 (xs : List Nat) (p : Nat) : runFn T7 none0 noL Try.f12 [.vw none ⟨.f32, xs⟩, .el (.sc (.fl .f32 p))] = (match (decide (((xs.length : Int) : Int) > 1048576) : Bool) with
  | true => some ⟨[.el (.sc (.bo true))], none⟩
  | false => (match (Nat.ble xs.length big : Bool) with
    | true => (match (Nat.ble xs.length big : Bool) with
      | true => (match (!(sameF (wid (orZero (((xs.all fin && (decide (xs.length ≥ 1) && decide (xs.length ≤ 3))) && fin p) && fin (horner p 0 xs)) (horner p 0 xs))) (wid (orZero (((xs.all fin && (decide (xs.length ≥ 1) && decide (xs.length ≤ 3))) && fin p) && fin (horner p 0 xs)) (horner p 0 xs)))) : Bool) with
        | true => some ⟨[.el (.sc (.bo false))], none⟩
        | false => (match (!((((xs.all fin && (decide (xs.length ≥ 1) && decide (xs.length ≤ 3))) && fin p) && fin (horner p 0 xs)) == (((xs.all fin && (decide (xs.length ≥ 1) && decide (xs.length ≤ 3))) && fin p) && fin (horner p 0 xs))) : Bool) with
          | true => some ⟨[.el (.sc (.bo false))], none⟩
          | false => (match (Nat.ble xs.length big : Bool) with
            | true => (match (Nat.beq xs.length xs.length : Bool) with
              | true => (match (Nat.ble xs.length big : Bool) with
                | true => (match (!(all2 sameW xs xs) : Bool) with
                  | true => some ⟨[.el (.sc (.bo false))], none⟩
                  | false => some ⟨[.el (.sc (.bo true))], none⟩)
                | false => none)
              | false => some ⟨[.el (.sc (.bo false))], none⟩)
            | false => none)))
      | false => none)
    | false => none)) := by kernel_rfl
theorem s12 (xs : List Nat) (p : Nat) (h_xs : ∀ a ∈ xs, K.wf .f32 a) (g_xs : xs.length ≤ 140737488351232) (h_p : cn .f32 p = p ∧ p < 2 ^ 32) : runFn T7 none0 noL Try.f12 [.vw none ⟨.f32, xs⟩, .el (.sc (.fl .f32 p))] = some ⟨[.el (.sc (.bo true))], none⟩ := by
  rw [e12]
  by_cases hs : xs.length ≤ 1048576
  · have hb : Nat.ble xs.length big = true := Nat.ble_eq_true_of_le (by unfold big; omega)
    have h1 : ¬ ((xs.length : Int) > 1048576) := by omega
    simp [hb, h1, sameF_refl, all2_refl sameW_refl]
  · have h1 : ((xs.length : Int) > 1048576) := by omega
    simp [h1]

theorem core12 (xs : List FV) (h : AKs (AK.fits Try.prog) [.sl .f32, .sc (.float .f32)] Try.f12.params.toList xs) : COK Try.prog 12 xs [.el (.sc (.bo true))] := by
  have hp : Try.f12.params.toList = [36, 22] := by kernel_rfl
  rw [hp] at h
  obtain ⟨x0, x1, rfl, hx0, hx1⟩ := aks2 h
  obtain ⟨xs, rfl, h_xs, i0⟩ := hx0
  have g_xs : xs.length ≤ 140737488351232 := Nat.le_trans (Nat.le_mul_of_pos_right _ (show 0 < Try.prog.bytesOf 22 by exact of_decide_eq_true (by kernel_rfl))) (i0 22 (by kernel_rfl))
  obtain ⟨s1, rfl, h1⟩ := hx1
  obtain ⟨p, rfl, h_p⟩ := fits_f32 h1
  show COK Try.prog 12 [.vw none ⟨.f32, xs⟩, .el (.sc (.fl .f32 p))] [.el (.sc (.bo true))]
  exact fn_ok tok7 (A := none0) (L := noL) (r := none) Try.func12 (by kernel_rfl) (by kernel_rfl) (loops0 (by kernel_rfl)) (s12 xs p h_xs g_xs h_p)

end Go.Sm.Ytpnkcjlapkhclaa
namespace Go.Proofs.Ytpnkcjlapkhclaa
open Go.Sm Go.Sm.Ytpnkcjlapkhclaa Go.ChangeShapes Go.WideShapes Go.ChangeAt Go.RowKit

set_option maxRecDepth 100000 in
theorem lifted12 (os : Os) (started : os.Started) (H : Type) (enc : TypeId × Value → H) :
    ReturnsInHanded {} Try.checked os 12 .any (Rows.fnExactWaveAtSpec.pre6 enc Try.prog Try.f12 Rows.fnExactWaveAtRow.domain false) (Rows.fnExactWaveAtSpec.post enc Try.prog Try.f12 false true false false) :=
  law_lifted (C := Try.checked) (aks := [.sl .f32, .sc (.float .f32)]) (tb := 4) (by kernel_rfl) started (by kernel_rfl) Try.func12 (by kernel_rfl)
    (ChangeSpec.witness6 (enc := enc) (C := Try.checked) false ⟨#[], #[.slice none 0 0, .float .f32 0], []⟩ 8 (by kernel_rfl) (by kernel_rfl) (by kernel_rfl) (by kernel_rfl))
    (fun t ht => by
      have hb : Try.f12.params.toList.all (fun t => Try.prog.readableRec t && decide (t < Try.prog.types.size)) = true := by kernel_rfl
      have := List.all_eq_true.1 hb t ht
      rw [Bool.and_eq_true] at this
      exact ⟨this.1, of_decide_eq_true this.2⟩)
    (by kernel_rfl) (by kernel_rfl) rfl
    (fun ds hd => by
      have hp : Try.f12.params.size = 2 := by kernel_rfl
      rw [hp] at hd
      match ds, hd with
      | [d0, d1], _ => rfl)
    (rowsB_ok (by kernel_rfl)) core12

/-- **THE LAW.** -/
theorem FnExactWaveAt_holds : Rows.FnExactWaveAtSaid :=
  OpenClaim.holds_of_wide 12 Try.f12 rfl rfl rfl rfl rfl rfl rfl ⟨rfl, rfl, rfl, rfl, rfl⟩ rfl rfl rfl rfl rfl (by kernel_rfl) Try.func12 (by kernel_rfl)
    (of_decide_eq_true (by kernel_rfl)) (by unfold Func.isWrapper; first | (rw [if_pos (by decide +kernel)]; kernel_rfl) | (rw [if_neg (by decide +kernel)]; exact ⟨rfl, rfl⟩))
    (fun os started H enc _ => lifted12 os started H enc)

end Go.Proofs.Ytpnkcjlapkhclaa
