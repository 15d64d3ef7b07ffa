/- The law FnExactPeaksOf holds: whatever the input, it says true, and the input reads as it did. No condition. -/
import Derived.Test.YticbjjedljddgaaD7
import Derived.Test.YticbjjedljddgaaRows
import Derived.ProofKit
namespace Go.Sm.Yticbjjedljddgaa
open Go Go.Sm Go.RowKit Go.ChangeShapes Go.WideShapes Go.ChangeAt Go.Proofs Go.Proofs.Yticbjjedljddgaa

theorem e3 (xs : List Nat) (c : Nat) (a : Int) : runFn T7 none0 noL Try.f3 [.vw none ⟨.f32, xs⟩, .el (.sc (.fl .f32 c)), .el (.sc (.int .i64 a))] = (match (decide (((xs.length : Int) : Int) > 1048576) : Bool) with | true => some ⟨[.el (.sc (.bo true))], none⟩ | false => (match (Nat.ble xs.length big : Bool) with | true => (match (Nat.ble xs.length big : Bool) with | true => (match (Nat.ble xs.length big : Bool) with | true => (match (Nat.beq (orNil (peaksOk xs c a) (peaksS xs c a)).length (orNil (peaksOk xs c a) (peaksS xs c a)).length : Bool) with | true => (match (Nat.ble (orNil (peaksOk xs c a) (peaksS xs c a)).length big : Bool) with | true => (match (!(all2 sameI (orNil (peaksOk xs c a) (peaksS xs c a)) (orNil (peaksOk xs c a) (peaksS xs c a))) : Bool) with | true => some ⟨[.el (.sc (.bo false))], none⟩ | false => (match (!((peaksOk xs c a) == (peaksOk xs c a)) : Bool) with | true => some ⟨[.el (.sc (.bo false))], none⟩ | false => (match (Nat.ble xs.length big : Bool) with | true => (match (Nat.beq xs.length xs.length : Bool) with | true => (match (Nat.ble xs.length big : Bool) with | true => (match (!(all2 sameW xs xs) : Bool) with | true => some ⟨[.el (.sc (.bo false))], none⟩ | false => (match (decide (0 ≤ 1 ∧ 1 ≤ 1099511627776) && Nat.ble xs.length big : Bool) with | true => (match (decide ((1 + (xs.length : Int) : Int) < 0) : Bool) with | true => some ⟨[.el (.sc (.bo false))], none⟩ | false => (match (Nat.beq (orNil (peaksOk xs c a) (peaksS xs c a)).length (orNil (peaksOk xs c a) (peaksS xs c a)).length : Bool) with | true => (match (Nat.ble (orNil (peaksOk xs c a) (peaksS xs c a)).length big : Bool) with | true => (match (!(all2 sameI (orNil (peaksOk xs c a) (peaksS xs c a)) (orNil (peaksOk xs c a) (peaksS xs c a))) : Bool) with | true => some ⟨[.el (.sc (.bo false))], none⟩ | false => (match (!((peaksOk xs c a) == (peaksOk xs c a)) : Bool) with | true => some ⟨[.el (.sc (.bo false))], none⟩ | false => (match (decide (0 ≤ 1 ∧ 1 ≤ 1099511627776) && Nat.ble (orNil (peaksOk xs c a) (peaksS xs c a)).length big : Bool) with | true => (match (decide (0 ≤ 1 ∧ 1 ≤ 1099511627776) && Nat.ble (marksI 1 (orNil (peaksOk xs c a) (peaksS xs c a)).length).length big : Bool) with | true => (match (decide ((heldN (heldI 1 (marksI 1 (orNil (peaksOk xs c a) (peaksS xs c a)).length)) (1 + ((marksI 1 (orNil (peaksOk xs c a) (peaksS xs c a)).length).length : Int)) : Int) < 0) : Bool) with | true => some ⟨[.el (.sc (.bo false))], none⟩ | false => (match (!((heldN (heldI 1 (marksI 1 (orNil (peaksOk xs c a) (peaksS xs c a)).length)) (1 + ((marksI 1 (orNil (peaksOk xs c a) (peaksS xs c a)).length).length : Int)) : Int) == 1 + ((orNil (peaksOk xs c a) (peaksS xs c a)).length : Int)) : Bool) with | true => some ⟨[.el (.sc (.bo false))], none⟩ | false => (match (Nat.ble xs.length big : Bool) with | true => (match (Nat.beq (orNil (peaksOk xs c a) (peaksS xs c a)).length (orNil (peaksOk xs c a) (peaksS xs c a)).length : Bool) with | true => (match (Nat.ble (orNil (peaksOk xs c a) (peaksS xs c a)).length big : Bool) with | true => (match (!(all2 sameI (orNil (peaksOk xs c a) (peaksS xs c a)) (orNil (peaksOk xs c a) (peaksS xs c a))) : Bool) with | true => some ⟨[.el (.sc (.bo false))], none⟩ | false => (match (!((peaksOk xs c a) == (peaksOk xs c a)) : Bool) with | true => some ⟨[.el (.sc (.bo false))], none⟩ | false => (match (decide (0 ≤ 1 ∧ 1 ≤ 1099511627776) && Nat.ble (marksI 1 (orNil (peaksOk xs c a) (peaksS xs c a)).length).length big : Bool) with | true => (match (decide ((heldN (heldI 1 (marksI 1 (orNil (peaksOk xs c a) (peaksS xs c a)).length)) (1 + ((marksI 1 (orNil (peaksOk xs c a) (peaksS xs c a)).length).length : Int)) : Int) < 0) : Bool) with | true => some ⟨[.el (.sc (.bo false))], none⟩ | false => (match (!((heldN (heldI 1 (marksI 1 (orNil (peaksOk xs c a) (peaksS xs c a)).length)) (1 + ((marksI 1 (orNil (peaksOk xs c a) (peaksS xs c a)).length).length : Int)) : Int) == 1 + ((orNil (peaksOk xs c a) (peaksS xs c a)).length : Int)) : Bool) with | true => some ⟨[.el (.sc (.bo false))], none⟩ | false => some ⟨[.el (.sc (.bo true))], none⟩)) | false => none))) | false => none) | false => some ⟨[.el (.sc (.bo false))], none⟩) | false => none))) | false => none) | false => none))) | false => none) | false => some ⟨[.el (.sc (.bo false))], none⟩)) | false => none)) | false => none) | false => some ⟨[.el (.sc (.bo false))], none⟩) | false => none))) | false => none) | false => some ⟨[.el (.sc (.bo false))], none⟩) | false => none) | false => none) | false => none)) := by kernel_rfl
theorem s3 (xs : List Nat) (c : Nat) (a : Int) (h_xs : ∀ a ∈ xs, K.wf .f32 a) (g_xs : xs.length ≤ 140737488351232) (h_c : cn .f32 c = c ∧ c < 2 ^ 32) (h_a : -9223372036854775808 ≤ a ∧ a ≤ 9223372036854775807) : runFn T7 none0 noL Try.f3 [.vw none ⟨.f32, xs⟩, .el (.sc (.fl .f32 c)), .el (.sc (.int .i64 a))] = some ⟨[.el (.sc (.bo true))], none⟩ := by
  rw [e3]
  by_cases hs_xs : xs.length ≤ 1048576
  · have hb_xs : Nat.ble xs.length big = true := big_of (by omega)
    have n_xs : ¬ ((xs.length : Int) > 1048576) := by omega
    have m_xs : ¬ (1 + (xs.length : Int) < 0) := by omega
    generalize hD : orNil (peaksOk xs c a) (peaksS xs c a) = D
    have hDl : D.length ≤ 1048576 := by
      rw [← hD]
      exact orNil_len _ _ (fun hok => by
        have := peaksS_len xs c a; omega)
    have hb5 : Nat.ble D.length big = true := big_of (by omega)
    have i3 : ¬ (1 + (D.length : Int) < 0) := by omega
    have hb6 : Nat.ble (marksI 1 D.length).length big = true := by rw [marksI_len]; exact hb5
    simp [hb_xs, n_xs, m_xs, hb5, hb6, i3, all2_refl sameW_refl, all2_refl sameI_refl, heldI_marks, heldN, marksI_len, Nat.beq_refl]
  · have big_xs : ((xs.length : Int) > 1048576) := by omega
    simp [big_xs]

theorem core3 (xs : List FV) (h : AKs (AK.fits Try.prog) [.sl .f32, .sc (.float .f32), .sc (.int .i64)] Try.f3.params.toList xs) : COK Try.prog 3 xs [.el (.sc (.bo true))] := by
  have hp : Try.f3.params.toList = [22, 23, 2] := by kernel_rfl
  rw [hp] at h
  obtain ⟨x0, x1, x2, rfl, hx0, hx1, hx2⟩ := aks3 h
  obtain ⟨xs, rfl, h_xs, i0⟩ := hx0
  have g_xs : xs.length ≤ 140737488351232 := Nat.le_trans (Nat.le_mul_of_pos_right _ (show 0 < Try.prog.bytesOf 23 by exact of_decide_eq_true (by kernel_rfl))) (i0 23 (by kernel_rfl))
  obtain ⟨s1, rfl, h1⟩ := hx1
  obtain ⟨c, rfl, h_c⟩ := fits_f32 h1
  obtain ⟨s2, rfl, h2⟩ := hx2
  obtain ⟨a, rfl, h_a⟩ := fits_i64 h2
  show COK Try.prog 3 [.vw none ⟨.f32, xs⟩, .el (.sc (.fl .f32 c)), .el (.sc (.int .i64 a))] [.el (.sc (.bo true))]
  exact fn_ok tok7 (A := none0) (L := noL) (r := none) Try.func3 (by kernel_rfl) (by kernel_rfl) (loops0 (by kernel_rfl)) (s3 xs c a h_xs g_xs h_c h_a)

end Go.Sm.Yticbjjedljddgaa
namespace Go.Proofs.Yticbjjedljddgaa
open Go.Sm Go.Sm.Yticbjjedljddgaa Go.ChangeShapes Go.WideShapes Go.ChangeAt Go.RowKit

set_option maxRecDepth 100000 in
theorem lifted3 (os : Os) (started : os.Started) (H : Type) (enc : TypeId × Value → H) :
    ReturnsInHanded {} Try.checked os 3 .any (Rows.fnExactPeaksOfSpec.pre6 enc Try.prog Try.f3 Rows.fnExactPeaksOfRow.domain false) (Rows.fnExactPeaksOfSpec.post enc Try.prog Try.f3 false true false false) :=
  law_lifted (C := Try.checked) (aks := [.sl .f32, .sc (.float .f32), .sc (.int .i64)]) (tb := 4) (by kernel_rfl) started (by kernel_rfl) Try.func3 (by kernel_rfl)
    (ChangeSpec.witness6 (enc := enc) (C := Try.checked) false ⟨#[], #[.slice none 0 0, .float .f32 0, .int .i64 0], []⟩ 8 (by kernel_rfl) (by kernel_rfl) (by kernel_rfl) (by kernel_rfl))
    (fun t ht => by
      have hb : Try.f3.params.toList.all (fun t => Try.prog.readableRec t && decide (t < Try.prog.types.size)) = true := by kernel_rfl
      have := List.all_eq_true.1 hb t ht
      rw [Bool.and_eq_true] at this
      exact ⟨this.1, of_decide_eq_true this.2⟩)
    (by kernel_rfl) (by kernel_rfl) rfl
    (fun ds hd => by
      have hp : Try.f3.params.size = 3 := by kernel_rfl
      rw [hp] at hd
      match ds, hd with
      | [d0, d1, d2], _ => rfl)
    (rowsB_ok (by kernel_rfl)) core3

/-- **THE LAW.** -/
theorem FnExactPeaksOf_holds : Rows.FnExactPeaksOfSaid :=
  OpenClaim.holds_of_wide 3 Try.f3 rfl rfl rfl rfl rfl rfl rfl ⟨rfl, rfl, rfl, rfl, rfl⟩ rfl rfl rfl rfl rfl (by kernel_rfl) Try.func3 (by kernel_rfl)
    (of_decide_eq_true (by kernel_rfl)) (by unfold Func.isWrapper; first | (rw [if_pos (by decide +kernel)]; kernel_rfl) | (rw [if_neg (by decide +kernel)]; exact ⟨rfl, rfl⟩))
    (fun os started H enc _ => lifted3 os started H enc)

end Go.Proofs.Yticbjjedljddgaa
