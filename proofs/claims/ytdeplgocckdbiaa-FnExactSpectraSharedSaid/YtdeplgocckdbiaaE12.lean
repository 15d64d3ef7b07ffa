/- The law FnExactSpectraShared holds: whatever the input, it says true, and the input reads as it did. No condition. -/
import Derived.Test.YtdeplgocckdbiaaD13
import Derived.Test.YtdeplgocckdbiaaRows
import Derived.ProofKit
namespace Go.Sm.Ytdeplgocckdbiaa
open Go Go.Sm Go.RowKit Go.ChangeShapes Go.WideShapes Go.ChangeAt Go.Proofs Go.Proofs.Ytdeplgocckdbiaa

theorem e12 (xss : List (List LineV)) (b : Nat) (d : Nat) (n : Int) (w : Int) : runFn T13 none0 noL Try.f12 [.vv none .line xss, .el (.sc (.fl .f32 b)), .el (.sc (.fl .f32 d)), .el (.sc (.int .i64 n)), .el (.sc (.int .i64 w))] = (match (decide ((0 : Int) ≤ 1048576 ∧ (1048576 : Int) ≤ 1048576) && Nat.ble xss.length 9223372036854775807 : Bool) with
  | true => (match (decide ((szLL xss 1048576 : Int) < 0) : Bool) with
    | true => some ⟨[.el (.sc (.bo true))], none⟩
    | false => (match (Nat.ble xss.length big && xss.all (fun l => Nat.ble l.length big) : Bool) with
      | true => (match (xss.all (fun l => Nat.ble l.length big) : Bool) with
        | true => (match (Nat.ble xss.length big && xss.all (fun l => Nat.ble l.length big) : Bool) with
          | true => (match (Nat.beq (orNil (sharedOk xss b d n w) (sharedX xss b d n)).length (orNil (sharedOk xss b d n w) (sharedX xss b d n)).length : Bool) with
            | true => (match (Nat.ble (orNil (sharedOk xss b d n w) (sharedX xss b d n)).length big : Bool) with
              | true => (match (!(all2 sameW (orNil (sharedOk xss b d n w) (sharedX xss b d n)) (orNil (sharedOk xss b d n w) (sharedX xss b d n))) : Bool) with
                | true => some ⟨[.el (.sc (.bo false))], none⟩
                | false => (match (!((sharedOk xss b d n w) == (sharedOk xss b d n w)) : Bool) with
                  | true => some ⟨[.el (.sc (.bo false))], none⟩
                  | false => (match (Nat.ble xss.length big && xss.all (fun l => Nat.ble l.length big) : Bool) with
                    | true => (match (Nat.ble xss.length big && xss.all (fun l => Nat.ble l.length big) : Bool) with
                      | true => (match (Nat.beq xss.length xss.length : Bool) with
                        | true => (match (!(all2 eqLL xss xss) : Bool) with
                          | true => some ⟨[.el (.sc (.bo false))], none⟩
                          | false => (match (mkOk 1 xss && Nat.ble xss.length big : Bool) with
                            | true => (match (decide ((mkN 1 xss : Int) < 0) : Bool) with
                              | true => some ⟨[.el (.sc (.bo false))], none⟩
                              | false => (match (Nat.beq (orNil (sharedOk xss b d n w) (sharedX xss b d n)).length (orNil (sharedOk xss b d n w) (sharedX xss b d n)).length : Bool) with
                                | true => (match (Nat.ble (orNil (sharedOk xss b d n w) (sharedX xss b d n)).length big : Bool) with
                                  | true => (match (!(all2 sameW (orNil (sharedOk xss b d n w) (sharedX xss b d n)) (orNil (sharedOk xss b d n w) (sharedX xss b d n))) : Bool) with
                                    | true => some ⟨[.el (.sc (.bo false))], none⟩
                                    | false => (match (!((sharedOk xss b d n w) == (sharedOk xss b d n w)) : Bool) with
                                      | true => some ⟨[.el (.sc (.bo false))], none⟩
                                      | false => (match (decide (0 ≤ 1 ∧ 1 ≤ 1099511627776) && Nat.ble (orNil (sharedOk xss b d n w) (sharedX xss b d n)).length big : Bool) with
                                        | true => (match (decide (0 ≤ 1 ∧ 1 ≤ 1099511627776) && Nat.ble (marks 1 (orNil (sharedOk xss b d n w) (sharedX xss b d n)).length).length big : Bool) with
                                          | true => (match (decide ((heldN (heldF 1 (marks 1 (orNil (sharedOk xss b d n w) (sharedX xss b d n)).length)) (1 + ((marks 1 (orNil (sharedOk xss b d n w) (sharedX xss b d n)).length).length : Int)) : Int) < 0) : Bool) with
                                            | true => some ⟨[.el (.sc (.bo false))], none⟩
                                            | false => (match (!((heldN (heldF 1 (marks 1 (orNil (sharedOk xss b d n w) (sharedX xss b d n)).length)) (1 + ((marks 1 (orNil (sharedOk xss b d n w) (sharedX xss b d n)).length).length : Int)) : Int) == 1 + ((orNil (sharedOk xss b d n w) (sharedX xss b d n)).length : Int)) : Bool) with
                                              | true => some ⟨[.el (.sc (.bo false))], none⟩
                                              | false => (match (Nat.ble xss.length big && xss.all (fun l => Nat.ble l.length big) : Bool) with
                                                | true => (match (Nat.beq (orNil (sharedOk xss b d n w) (sharedX xss b d n)).length (orNil (sharedOk xss b d n w) (sharedX xss b d n)).length : Bool) with
                                                  | true => (match (Nat.ble (orNil (sharedOk xss b d n w) (sharedX xss b d n)).length big : Bool) with
                                                    | true => (match (!(all2 sameW (orNil (sharedOk xss b d n w) (sharedX xss b d n)) (orNil (sharedOk xss b d n w) (sharedX xss b d n))) : Bool) with
                                                      | true => some ⟨[.el (.sc (.bo false))], none⟩
                                                      | false => (match (!((sharedOk xss b d n w) == (sharedOk xss b d n w)) : Bool) with
                                                        | true => some ⟨[.el (.sc (.bo false))], none⟩
                                                        | false => (match (decide (0 ≤ 1 ∧ 1 ≤ 1099511627776) && Nat.ble (marks 1 (orNil (sharedOk xss b d n w) (sharedX xss b d n)).length).length big : Bool) with
                                                          | true => (match (decide ((heldN (heldF 1 (marks 1 (orNil (sharedOk xss b d n w) (sharedX xss b d n)).length)) (1 + ((marks 1 (orNil (sharedOk xss b d n w) (sharedX xss b d n)).length).length : Int)) : Int) < 0) : Bool) with
                                                            | true => some ⟨[.el (.sc (.bo false))], none⟩
                                                            | false => (match (!((heldN (heldF 1 (marks 1 (orNil (sharedOk xss b d n w) (sharedX xss b d n)).length)) (1 + ((marks 1 (orNil (sharedOk xss b d n w) (sharedX xss b d n)).length).length : Int)) : Int) == 1 + ((orNil (sharedOk xss b d n w) (sharedX xss b d n)).length : Int)) : Bool) with
                                                              | true => some ⟨[.el (.sc (.bo false))], none⟩
                                                              | false => some ⟨[.el (.sc (.bo true))], none⟩))
                                                          | false => none)))
                                                    | false => none)
                                                  | false => some ⟨[.el (.sc (.bo false))], none⟩)
                                                | false => none)))
                                          | false => none)
                                        | false => none)))
                                  | false => none)
                                | false => some ⟨[.el (.sc (.bo false))], none⟩))
                            | false => none))
                        | false => some ⟨[.el (.sc (.bo false))], none⟩)
                      | false => none)
                    | false => none)))
              | false => none)
            | false => some ⟨[.el (.sc (.bo false))], none⟩)
          | false => none)
        | false => none)
      | false => none))
  | false => none) := by kernel_rfl
theorem s12 (xss : List (List LineV)) (b : Nat) (d : Nat) (n : Int) (w : Int) (h_xss : ∀ l ∈ xss, ∀ a ∈ l, K.wf .line a) (g_xss : ∀ l ∈ xss, l.length ≤ 140737488351232) (k_xss : xss.length ≤ maxLen) (h_b : cn .f32 b = b ∧ b < 2 ^ 32) (h_d : cn .f32 d = d ∧ d < 2 ^ 32) (h_n : -9223372036854775808 ≤ n ∧ n ≤ 9223372036854775807) (h_w : -9223372036854775808 ≤ w ∧ w ≤ 9223372036854775807) : runFn T13 none0 noL Try.f12 [.vv none .line xss, .el (.sc (.fl .f32 b)), .el (.sc (.fl .f32 d)), .el (.sc (.int .i64 n)), .el (.sc (.int .i64 w))] = some ⟨[.el (.sc (.bo true))], none⟩ := by
  rw [e12]
  have hk : (decide ((0 : Int) ≤ 1048576 ∧ (1048576 : Int) ≤ 1048576) && Nat.ble xss.length 9223372036854775807) = true := by
    rw [Nat.ble_eq_true_of_le (show xss.length ≤ 9223372036854775807 by unfold maxLen at k_xss; omega)]
    rfl
  rw [hk]
  cases hz : decide (szLL xss 1048576 < 0) with
  | true => rfl
  | false =>
    obtain ⟨a1, a2⟩ := szLL_le (by unfold maxLen at k_xss; omega) g_xss (by omega) (by omega) (of_decide_eq_false hz)
    have hx : Nat.ble xss.length big = true := big_of (by omega)
    have hall : xss.all (fun l => Nat.ble l.length big) = true := List.all_eq_true.2 (fun l hl => big_of (by have := a2 l hl; omega))
    have htot := szLL_tot (by unfold maxLen at k_xss; omega) g_xss (by omega) (by omega) (of_decide_eq_false hz)
    have hmk : mkOk 1 xss = true := mkOk_of xss 1 (by omega) (by omega)
    have hmn : ¬ (mkN 1 xss < 0) := by rw [mkN_eq]; omega
    generalize hD : orNil (sharedOk xss b d n w) (sharedX xss b d n) = D
    have hDl : D.length ≤ 1048576 := by
      rw [← hD]
      exact orNil_len _ _ (fun hok => by rw [sharedX_len]; omega)
    have hb5 : Nat.ble D.length big = true := big_of (by omega)
    have i3 : ¬ (1 + (D.length : Int) < 0) := by omega
    have hb6 : Nat.ble (marks 1 D.length).length big = true := by rw [marks_len]; exact hb5
    simp [hx, hall, hmk, hmn, hb5, hb6, i3, all2_refl eqLL_refl, all2_refl sameW_refl, heldF_marks, heldN, marks_len, Nat.beq_refl]

theorem core12 (xs : List FV) (h : AKs (AK.fits Try.prog) [.sll .line, .sc (.float .f32), .sc (.float .f32), .sc (.int .i64), .sc (.int .i64)] Try.f12.params.toList xs) : COK Try.prog 12 xs [.el (.sc (.bo true))] := by
  have hp : Try.f12.params.toList = [55, 30, 30, 2, 2] := by kernel_rfl
  rw [hp] at h
  obtain ⟨x0, x1, x2, x3, x4, rfl, hx0, hx1, hx2, hx3, hx4⟩ := aks5 h
  obtain ⟨xss, rfl, h_xss, k_xss, i0⟩ := hx0
  have g_xss : ∀ l ∈ xss, l.length ≤ 140737488351232 := fun l hl => Nat.le_trans (Nat.le_mul_of_pos_right _ (show 0 < Try.prog.bytesOf 66 by exact of_decide_eq_true (by kernel_rfl))) (i0 29 66 (by kernel_rfl) (by kernel_rfl) l hl)
  obtain ⟨s1, rfl, h1⟩ := hx1
  obtain ⟨b, rfl, h_b⟩ := fits_f32 h1
  obtain ⟨s2, rfl, h2⟩ := hx2
  obtain ⟨d, rfl, h_d⟩ := fits_f32 h2
  obtain ⟨s3, rfl, h3⟩ := hx3
  obtain ⟨n, rfl, h_n⟩ := fits_i64 h3
  obtain ⟨s4, rfl, h4⟩ := hx4
  obtain ⟨w, rfl, h_w⟩ := fits_i64 h4
  show COK Try.prog 12 [.vv none .line xss, .el (.sc (.fl .f32 b)), .el (.sc (.fl .f32 d)), .el (.sc (.int .i64 n)), .el (.sc (.int .i64 w))] [.el (.sc (.bo true))]
  exact fn_ok tok13 (A := none0) (L := noL) (r := none) Try.func12 (by kernel_rfl) (by kernel_rfl) (loops0 (by kernel_rfl)) (s12 xss b d n w h_xss g_xss k_xss h_b h_d h_n h_w)

end Go.Sm.Ytdeplgocckdbiaa
namespace Go.Proofs.Ytdeplgocckdbiaa
open Go.Sm Go.Sm.Ytdeplgocckdbiaa Go.ChangeShapes Go.WideShapes Go.ChangeAt Go.RowKit

set_option maxRecDepth 100000 in
theorem lifted12 (os : Os) (started : os.Started) (H : Type) (enc : TypeId × Value → H) :
    ReturnsInHanded {} Try.checked os 12 .any (Rows.fnExactSpectraSharedSpec.pre6 enc Try.prog Try.f12 Rows.fnExactSpectraSharedRow.domain false) (Rows.fnExactSpectraSharedSpec.post enc Try.prog Try.f12 false true false false) :=
  law_lifted (C := Try.checked) (aks := [.sll .line, .sc (.float .f32), .sc (.float .f32), .sc (.int .i64), .sc (.int .i64)]) (tb := 4) (by kernel_rfl) started (by kernel_rfl) Try.func12 (by kernel_rfl)
    (ChangeSpec.witness6 (enc := enc) (C := Try.checked) false ⟨#[], #[.slice none 0 0, .float .f32 0, .float .f32 0, .int .i64 0, .int .i64 0], []⟩ 8 (by kernel_rfl) (by kernel_rfl) (by kernel_rfl) (by kernel_rfl))
    (fun t ht => by
      have hb : Try.f12.params.toList.all (fun t => Try.prog.readableRec t && decide (t < Try.prog.types.size)) = true := by kernel_rfl
      have := List.all_eq_true.1 hb t ht
      rw [Bool.and_eq_true] at this
      exact ⟨this.1, of_decide_eq_true this.2⟩)
    (by kernel_rfl) (by kernel_rfl) rfl
    (fun ds hd => by
      have hp : Try.f12.params.size = 5 := by kernel_rfl
      rw [hp] at hd
      match ds, hd with
      | [d0, d1, d2, d3, d4], _ => rfl)
    (rowsB_ok (by kernel_rfl)) core12

end Go.Proofs.Ytdeplgocckdbiaa
