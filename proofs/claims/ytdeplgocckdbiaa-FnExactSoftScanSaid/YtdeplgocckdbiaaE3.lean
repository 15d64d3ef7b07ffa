/- The law FnExactSoftScan holds: whatever the input, it says true, and the input reads as it did. No condition. -/
import Derived.Test.YtdeplgocckdbiaaD7
import Derived.Test.YtdeplgocckdbiaaRows
import Derived.ProofKit
namespace Go.Sm.Ytdeplgocckdbiaa
open Go Go.Sm Go.RowKit Go.ChangeShapes Go.WideShapes Go.ChangeAt Go.Proofs Go.Proofs.Ytdeplgocckdbiaa

theorem e3 (xs : List Nat) (d : Int) : runFn T7 none0 noL Try.f3 [.vw none ⟨.f32, xs⟩, .el (.sc (.int .i64 d))] = (match (decide (((xs.length : Int) : Int) > 1048576) : Bool) with
  | true => some ⟨[.el (.sc (.bo true))], none⟩
  | false => (match (Nat.ble xs.length big : Bool) with
    | true => (match (Nat.ble xs.length big : Bool) with
      | true => (match (Nat.beq (orNil (softOk xs d) (softX xs d)).length (orNil (softOk xs d) (softX xs d)).length : Bool) with
        | true => (match (Nat.ble (orNil (softOk xs d) (softX xs d)).length big : Bool) with
          | true => (match (!(all2 sameW (orNil (softOk xs d) (softX xs d)) (orNil (softOk xs d) (softX xs d))) : Bool) with
            | true => some ⟨[.el (.sc (.bo false))], none⟩
            | false => (match (!((softOk xs d) == (softOk xs d)) : Bool) with
              | true => some ⟨[.el (.sc (.bo false))], none⟩
              | false => (match (Nat.ble xs.length big : Bool) with
                | true => (match (Nat.beq xs.length xs.length : Bool) with
                  | true => (match (Nat.ble xs.length big : Bool) with
                    | true => (match (!(all2 sameW xs xs) : Bool) with
                      | true => some ⟨[.el (.sc (.bo false))], none⟩
                      | false => (match (decide (0 ≤ 1 ∧ 1 ≤ 1099511627776) && Nat.ble xs.length big : Bool) with
                        | true => (match (decide ((1 + (xs.length : Int) : Int) < 0) : Bool) with
                          | true => some ⟨[.el (.sc (.bo false))], none⟩
                          | false => (match (Nat.beq (orNil (softOk xs d) (softX xs d)).length (orNil (softOk xs d) (softX xs d)).length : Bool) with
                            | true => (match (Nat.ble (orNil (softOk xs d) (softX xs d)).length big : Bool) with
                              | true => (match (!(all2 sameW (orNil (softOk xs d) (softX xs d)) (orNil (softOk xs d) (softX xs d))) : Bool) with
                                | true => some ⟨[.el (.sc (.bo false))], none⟩
                                | false => (match (!((softOk xs d) == (softOk xs d)) : Bool) with
                                  | true => some ⟨[.el (.sc (.bo false))], none⟩
                                  | false => (match (decide (0 ≤ 1 ∧ 1 ≤ 1099511627776) && Nat.ble (orNil (softOk xs d) (softX xs d)).length big : Bool) with
                                    | true => (match (decide (0 ≤ 1 ∧ 1 ≤ 1099511627776) && Nat.ble (marks 1 (orNil (softOk xs d) (softX xs d)).length).length big : Bool) with
                                      | true => (match (decide ((heldN (heldF 1 (marks 1 (orNil (softOk xs d) (softX xs d)).length)) (1 + ((marks 1 (orNil (softOk xs d) (softX xs d)).length).length : Int)) : Int) < 0) : Bool) with
                                        | true => some ⟨[.el (.sc (.bo false))], none⟩
                                        | false => (match (!((heldN (heldF 1 (marks 1 (orNil (softOk xs d) (softX xs d)).length)) (1 + ((marks 1 (orNil (softOk xs d) (softX xs d)).length).length : Int)) : Int) == 1 + ((orNil (softOk xs d) (softX xs d)).length : Int)) : Bool) with
                                          | true => some ⟨[.el (.sc (.bo false))], none⟩
                                          | false => (match (Nat.ble xs.length big : Bool) with
                                            | true => (match (Nat.beq (orNil (softOk xs d) (softX xs d)).length (orNil (softOk xs d) (softX xs d)).length : Bool) with
                                              | true => (match (Nat.ble (orNil (softOk xs d) (softX xs d)).length big : Bool) with
                                                | true => (match (!(all2 sameW (orNil (softOk xs d) (softX xs d)) (orNil (softOk xs d) (softX xs d))) : Bool) with
                                                  | true => some ⟨[.el (.sc (.bo false))], none⟩
                                                  | false => (match (!((softOk xs d) == (softOk xs d)) : Bool) with
                                                    | true => some ⟨[.el (.sc (.bo false))], none⟩
                                                    | false => (match (decide (0 ≤ 1 ∧ 1 ≤ 1099511627776) && Nat.ble (marks 1 (orNil (softOk xs d) (softX xs d)).length).length big : Bool) with
                                                      | true => (match (decide ((heldN (heldF 1 (marks 1 (orNil (softOk xs d) (softX xs d)).length)) (1 + ((marks 1 (orNil (softOk xs d) (softX xs d)).length).length : Int)) : Int) < 0) : Bool) with
                                                        | true => some ⟨[.el (.sc (.bo false))], none⟩
                                                        | false => (match (!((heldN (heldF 1 (marks 1 (orNil (softOk xs d) (softX xs d)).length)) (1 + ((marks 1 (orNil (softOk xs d) (softX xs d)).length).length : Int)) : Int) == 1 + ((orNil (softOk xs d) (softX xs d)).length : Int)) : Bool) with
                                                          | true => some ⟨[.el (.sc (.bo false))], none⟩
                                                          | false => some ⟨[.el (.sc (.bo true))], none⟩))
                                                      | false => none)))
                                                | false => none)
                                              | false => some ⟨[.el (.sc (.bo false))], none⟩)
                                            | false => none)))
                                      | false => none)
                                    | false => none)))
                              | false => none)
                            | false => some ⟨[.el (.sc (.bo false))], none⟩))
                        | false => none))
                    | false => none)
                  | false => some ⟨[.el (.sc (.bo false))], none⟩)
                | false => none)))
          | false => none)
        | false => some ⟨[.el (.sc (.bo false))], none⟩)
      | false => none)
    | false => none)) := by kernel_rfl
theorem s3 (xs : List Nat) (d : Int) (h_xs : ∀ a ∈ xs, K.wf .f32 a) (g_xs : xs.length ≤ 140737488351232) (h_d : -9223372036854775808 ≤ d ∧ d ≤ 9223372036854775807) : runFn T7 none0 noL Try.f3 [.vw none ⟨.f32, xs⟩, .el (.sc (.int .i64 d))] = some ⟨[.el (.sc (.bo true))], none⟩ := by
  rw [e3]
  by_cases hs_xs : xs.length ≤ 1048576
  · have hb_xs : Nat.ble xs.length big = true := big_of (by omega)
    have n_xs : ¬ ((xs.length : Int) > 1048576) := by omega
    have m_xs : ¬ (1 + (xs.length : Int) < 0) := by omega
    generalize hD : orNil (softOk xs d) (softX xs d) = D
    have hDl : D.length ≤ 1048576 := by
      rw [← hD]
      exact orNil_len _ _ (fun hok => by
        rw [softX_len]; unfold softOk bins at hok; simp only [Bool.and_eq_true, decide_eq_true_eq] at hok; omega)
    have hb5 : Nat.ble D.length big = true := big_of (by omega)
    have i3 : ¬ (1 + (D.length : Int) < 0) := by omega
    have hb6 : Nat.ble (marks 1 D.length).length big = true := by rw [marks_len]; exact hb5
    simp [hb_xs, n_xs, m_xs, hb5, hb6, i3, all2_refl sameW_refl, all2_refl sameW_refl, heldF_marks, heldN, marks_len, Nat.beq_refl]
  · have big_xs : ((xs.length : Int) > 1048576) := by omega
    simp [big_xs]

theorem core3 (xs : List FV) (h : AKs (AK.fits Try.prog) [.sl .f32, .sc (.int .i64)] Try.f3.params.toList xs) : COK Try.prog 3 xs [.el (.sc (.bo true))] := by
  have hp : Try.f3.params.toList = [22, 2] := by kernel_rfl
  rw [hp] at h
  obtain ⟨x0, x1, rfl, hx0, hx1⟩ := aks2 h
  obtain ⟨xs, rfl, h_xs, i0⟩ := hx0
  have g_xs : xs.length ≤ 140737488351232 := Nat.le_trans (Nat.le_mul_of_pos_right _ (show 0 < Try.prog.bytesOf 30 by exact of_decide_eq_true (by kernel_rfl))) (i0 30 (by kernel_rfl))
  obtain ⟨s1, rfl, h1⟩ := hx1
  obtain ⟨d, rfl, h_d⟩ := fits_i64 h1
  show COK Try.prog 3 [.vw none ⟨.f32, xs⟩, .el (.sc (.int .i64 d))] [.el (.sc (.bo true))]
  exact fn_ok tok7 (A := none0) (L := noL) (r := none) Try.func3 (by kernel_rfl) (by kernel_rfl) (loops0 (by kernel_rfl)) (s3 xs d h_xs g_xs h_d)

end Go.Sm.Ytdeplgocckdbiaa
namespace Go.Proofs.Ytdeplgocckdbiaa
open Go.Sm Go.Sm.Ytdeplgocckdbiaa Go.ChangeShapes Go.WideShapes Go.ChangeAt Go.RowKit

set_option maxRecDepth 100000 in
theorem lifted3 (os : Os) (started : os.Started) (H : Type) (enc : TypeId × Value → H) :
    ReturnsInHanded {} Try.checked os 3 .any (Rows.fnExactSoftScanSpec.pre6 enc Try.prog Try.f3 Rows.fnExactSoftScanRow.domain false) (Rows.fnExactSoftScanSpec.post enc Try.prog Try.f3 false true false false) :=
  law_lifted (C := Try.checked) (aks := [.sl .f32, .sc (.int .i64)]) (tb := 4) (by kernel_rfl) started (by kernel_rfl) Try.func3 (by kernel_rfl)
    (ChangeSpec.witness6 (enc := enc) (C := Try.checked) false ⟨#[], #[.slice none 0 0, .int .i64 0], []⟩ 8 (by kernel_rfl) (by kernel_rfl) (by kernel_rfl) (by kernel_rfl))
    (fun t ht => by
      have hb : Try.f3.params.toList.all (fun t => Try.prog.readableRec t && decide (t < Try.prog.types.size)) = true := by kernel_rfl
      have := List.all_eq_true.1 hb t ht
      rw [Bool.and_eq_true] at this
      exact ⟨this.1, of_decide_eq_true this.2⟩)
    (by kernel_rfl) (by kernel_rfl) rfl
    (fun ds hd => by
      have hp : Try.f3.params.size = 2 := by kernel_rfl
      rw [hp] at hd
      match ds, hd with
      | [d0, d1], _ => rfl)
    (rowsB_ok (by kernel_rfl)) core3

/-- **THE LAW.** -/
theorem FnExactSoftScan_holds : Rows.FnExactSoftScanSaid :=
  OpenClaim.holds_of_wide 3 Try.f3 rfl rfl rfl rfl rfl rfl rfl ⟨rfl, rfl, rfl, rfl, rfl⟩ rfl rfl rfl rfl rfl (by kernel_rfl) Try.func3 (by kernel_rfl)
    (of_decide_eq_true (by kernel_rfl)) (by unfold Func.isWrapper; first | (rw [if_pos (by decide +kernel)]; kernel_rfl) | (rw [if_neg (by decide +kernel)]; exact ⟨rfl, rfl⟩))
    (fun os started H enc _ => lifted3 os started H enc)

end Go.Proofs.Ytdeplgocckdbiaa
