/- The law FnExactSpectrumOf holds: whatever the input, it says true, and the input reads as it did. No condition. -/
import Derived.Test.YtdeplgocckdbiaaD13
import Derived.Test.YtdeplgocckdbiaaRows
import Derived.ProofKit
namespace Go.Sm.Ytdeplgocckdbiaa
open Go Go.Sm Go.RowKit Go.ChangeShapes Go.WideShapes Go.ChangeAt Go.Proofs Go.Proofs.Ytdeplgocckdbiaa

theorem e4 (xs : List LineV) (b : Nat) (d : Nat) (n : Int) : runFn T13 none0 noL Try.f4 [.vw none ⟨.line, xs⟩, .el (.sc (.fl .f32 b)), .el (.sc (.fl .f32 d)), .el (.sc (.int .i64 n))] = (match (decide ((szLeft xs.length 1048576 : Int) < 0) : Bool) with
  | true => some ⟨[.el (.sc (.bo true))], none⟩
  | false => (match (Nat.ble xs.length big : Bool) with
    | true => (match (Nat.ble xs.length big : Bool) with
      | true => (match (Nat.ble xs.length big : Bool) with
        | true => (match (Nat.beq (orNil (spOk xs b d n) (spX xs b d n)).length (orNil (spOk xs b d n) (spX xs b d n)).length : Bool) with
          | true => (match (Nat.ble (orNil (spOk xs b d n) (spX xs b d n)).length big : Bool) with
            | true => (match (!(all2 sameW (orNil (spOk xs b d n) (spX xs b d n)) (orNil (spOk xs b d n) (spX xs b d n))) : Bool) with
              | true => some ⟨[.el (.sc (.bo false))], none⟩
              | false => (match (!((spOk xs b d n) == (spOk xs b d n)) : Bool) with
                | true => some ⟨[.el (.sc (.bo false))], none⟩
                | false => (match (Nat.ble xs.length big : Bool) with
                  | true => (match (Nat.beq xs.length xs.length : Bool) with
                    | true => (match (Nat.ble xs.length big : Bool) with
                      | true => (match (!(all2 eqLineF xs xs) : Bool) with
                        | true => some ⟨[.el (.sc (.bo false))], none⟩
                        | false => (match (decide (0 ≤ 1 ∧ 1 ≤ 1099511627776) && Nat.ble xs.length big : Bool) with
                          | true => (match (decide ((1 + 4 * (xs.length : Int) : Int) < 0) : Bool) with
                            | true => some ⟨[.el (.sc (.bo false))], none⟩
                            | false => (match (Nat.beq (orNil (spOk xs b d n) (spX xs b d n)).length (orNil (spOk xs b d n) (spX xs b d n)).length : Bool) with
                              | true => (match (Nat.ble (orNil (spOk xs b d n) (spX xs b d n)).length big : Bool) with
                                | true => (match (!(all2 sameW (orNil (spOk xs b d n) (spX xs b d n)) (orNil (spOk xs b d n) (spX xs b d n))) : Bool) with
                                  | true => some ⟨[.el (.sc (.bo false))], none⟩
                                  | false => (match (!((spOk xs b d n) == (spOk xs b d n)) : Bool) with
                                    | true => some ⟨[.el (.sc (.bo false))], none⟩
                                    | false => (match (decide (0 ≤ 1 ∧ 1 ≤ 1099511627776) && Nat.ble (orNil (spOk xs b d n) (spX xs b d n)).length big : Bool) with
                                      | true => (match (decide (0 ≤ 1 ∧ 1 ≤ 1099511627776) && Nat.ble (marks 1 (orNil (spOk xs b d n) (spX xs b d n)).length).length big : Bool) with
                                        | true => (match (decide ((heldN (heldF 1 (marks 1 (orNil (spOk xs b d n) (spX xs b d n)).length)) (1 + ((marks 1 (orNil (spOk xs b d n) (spX xs b d n)).length).length : Int)) : Int) < 0) : Bool) with
                                          | true => some ⟨[.el (.sc (.bo false))], none⟩
                                          | false => (match (!((heldN (heldF 1 (marks 1 (orNil (spOk xs b d n) (spX xs b d n)).length)) (1 + ((marks 1 (orNil (spOk xs b d n) (spX xs b d n)).length).length : Int)) : Int) == 1 + ((orNil (spOk xs b d n) (spX xs b d n)).length : Int)) : Bool) with
                                            | true => some ⟨[.el (.sc (.bo false))], none⟩
                                            | false => (match (Nat.ble xs.length big : Bool) with
                                              | true => (match (Nat.beq (orNil (spOk xs b d n) (spX xs b d n)).length (orNil (spOk xs b d n) (spX xs b d n)).length : Bool) with
                                                | true => (match (Nat.ble (orNil (spOk xs b d n) (spX xs b d n)).length big : Bool) with
                                                  | true => (match (!(all2 sameW (orNil (spOk xs b d n) (spX xs b d n)) (orNil (spOk xs b d n) (spX xs b d n))) : Bool) with
                                                    | true => some ⟨[.el (.sc (.bo false))], none⟩
                                                    | false => (match (!((spOk xs b d n) == (spOk xs b d n)) : Bool) with
                                                      | true => some ⟨[.el (.sc (.bo false))], none⟩
                                                      | false => (match (decide (0 ≤ 1 ∧ 1 ≤ 1099511627776) && Nat.ble (marks 1 (orNil (spOk xs b d n) (spX xs b d n)).length).length big : Bool) with
                                                        | true => (match (decide ((heldN (heldF 1 (marks 1 (orNil (spOk xs b d n) (spX xs b d n)).length)) (1 + ((marks 1 (orNil (spOk xs b d n) (spX xs b d n)).length).length : Int)) : Int) < 0) : Bool) with
                                                          | true => some ⟨[.el (.sc (.bo false))], none⟩
                                                          | false => (match (!((heldN (heldF 1 (marks 1 (orNil (spOk xs b d n) (spX xs b d n)).length)) (1 + ((marks 1 (orNil (spOk xs b d n) (spX xs b d n)).length).length : Int)) : Int) == 1 + ((orNil (spOk xs b d n) (spX xs b d n)).length : Int)) : Bool) with
                                                            | true => some ⟨[.el (.sc (.bo false))], none⟩
                                                            | false => some ⟨[.el (.sc (.bo true))], none⟩))
                                                        | false => none)))
                                                  | false => none)
                                                | false => some ⟨[.el (.sc (.bo false))], none⟩)
                                              | false => none)))
                                        | false => none)
                                      | false => none)))
                                | false => none)
                              | false => some ⟨[.el (.sc (.bo false))], none⟩))
                          | false => none))
                      | false => none)
                    | false => some ⟨[.el (.sc (.bo false))], none⟩)
                  | false => none)))
            | false => none)
          | false => some ⟨[.el (.sc (.bo false))], none⟩)
        | false => none)
      | false => none)
    | false => none)) := by kernel_rfl
theorem s4 (xs : List LineV) (b : Nat) (d : Nat) (n : Int) (h_xs : ∀ a ∈ xs, K.wf .line a) (g_xs : xs.length ≤ 140737488351232) (h_b : cn .f32 b = b ∧ b < 2 ^ 32) (h_d : cn .f32 d = d ∧ d < 2 ^ 32) (h_n : -9223372036854775808 ≤ n ∧ n ≤ 9223372036854775807) : runFn T13 none0 noL Try.f4 [.vw none ⟨.line, xs⟩, .el (.sc (.fl .f32 b)), .el (.sc (.fl .f32 d)), .el (.sc (.int .i64 n))] = some ⟨[.el (.sc (.bo true))], none⟩ := by
  rw [e4]
  by_cases hs : xs.length ≤ 1048576
  · have hb : Nat.ble xs.length big = true := big_of (by omega)
    have h0 : szLeft xs.length 1048576 = 1048576 - (xs.length : Int) := by
      unfold szLeft
      have : IntKind.i64.wrap (1048576 - (xs.length : Int)) = 1048576 - (xs.length : Int) := wrap64 (by omega) (by omega)
      rw [this]
      have h2 : ¬ (1048576 - (xs.length : Int)) < 0 := by omega
      simp [h2]
    have h01 : ¬ (1048576 - (xs.length : Int)) < 0 := by omega
    have hm : ¬ (1 + 4 * (xs.length : Int) < 0) := by omega
    generalize hD : orNil (spOk xs b d n) (spX xs b d n) = D
    have hDl : D.length ≤ 1048576 := by
      rw [← hD]
      exact orNil_len _ _ (fun hok => by
        rw [spX_len]; unfold spOk within at hok; simp only [Bool.and_eq_true, decide_eq_true_eq] at hok; omega)
    have hb5 : Nat.ble D.length big = true := big_of (by omega)
    have i3 : ¬ (1 + (D.length : Int) < 0) := by omega
    have hb6 : Nat.ble (marks 1 D.length).length big = true := by rw [marks_len]; exact hb5
    simp [h0, h01, hb, hm, hb5, hb6, i3, all2_refl eqLineF_refl, all2_refl sameW_refl, all2_refl sameW_refl, heldF_marks, heldN, marks_len, Nat.beq_refl]
  · have h1 : szLeft xs.length 1048576 = -1 := by
      unfold szLeft
      have : IntKind.i64.wrap (1048576 - (xs.length : Int)) = 1048576 - (xs.length : Int) := wrap64 (by omega) (by omega)
      rw [this]
      have h2 : (1048576 - (xs.length : Int)) < 0 := by omega
      simp [h2]
    simp [h1]

theorem core4 (xs : List FV) (h : AKs (AK.fits Try.prog) [.sl .line, .sc (.float .f32), .sc (.float .f32), .sc (.int .i64)] Try.f4.params.toList xs) : COK Try.prog 4 xs [.el (.sc (.bo true))] := by
  have hp : Try.f4.params.toList = [29, 30, 30, 2] := by kernel_rfl
  rw [hp] at h
  obtain ⟨x0, x1, x2, x3, rfl, hx0, hx1, hx2, hx3⟩ := aks4 h
  obtain ⟨xs, rfl, h_xs, i0⟩ := hx0
  have g_xs : xs.length ≤ 140737488351232 := Nat.le_trans (Nat.le_mul_of_pos_right _ (show 0 < Try.prog.bytesOf 66 by exact of_decide_eq_true (by kernel_rfl))) (i0 66 (by kernel_rfl))
  obtain ⟨s1, rfl, h1⟩ := hx1
  obtain ⟨b, rfl, h_b⟩ := fits_f32 h1
  obtain ⟨s2, rfl, h2⟩ := hx2
  obtain ⟨d, rfl, h_d⟩ := fits_f32 h2
  obtain ⟨s3, rfl, h3⟩ := hx3
  obtain ⟨n, rfl, h_n⟩ := fits_i64 h3
  show COK Try.prog 4 [.vw none ⟨.line, xs⟩, .el (.sc (.fl .f32 b)), .el (.sc (.fl .f32 d)), .el (.sc (.int .i64 n))] [.el (.sc (.bo true))]
  exact fn_ok tok13 (A := none0) (L := noL) (r := none) Try.func4 (by kernel_rfl) (by kernel_rfl) (loops0 (by kernel_rfl)) (s4 xs b d n h_xs g_xs h_b h_d h_n)

end Go.Sm.Ytdeplgocckdbiaa
namespace Go.Proofs.Ytdeplgocckdbiaa
open Go.Sm Go.Sm.Ytdeplgocckdbiaa Go.ChangeShapes Go.WideShapes Go.ChangeAt Go.RowKit

set_option maxRecDepth 100000 in
theorem lifted4 (os : Os) (started : os.Started) (H : Type) (enc : TypeId × Value → H) :
    ReturnsInHanded {} Try.checked os 4 .any (Rows.fnExactSpectrumOfSpec.pre6 enc Try.prog Try.f4 Rows.fnExactSpectrumOfRow.domain false) (Rows.fnExactSpectrumOfSpec.post enc Try.prog Try.f4 false true false false) :=
  law_lifted (C := Try.checked) (aks := [.sl .line, .sc (.float .f32), .sc (.float .f32), .sc (.int .i64)]) (tb := 4) (by kernel_rfl) started (by kernel_rfl) Try.func4 (by kernel_rfl)
    (ChangeSpec.witness6 (enc := enc) (C := Try.checked) false ⟨#[], #[.slice none 0 0, .float .f32 0, .float .f32 0, .int .i64 0], []⟩ 8 (by kernel_rfl) (by kernel_rfl) (by kernel_rfl) (by kernel_rfl))
    (fun t ht => by
      have hb : Try.f4.params.toList.all (fun t => Try.prog.readableRec t && decide (t < Try.prog.types.size)) = true := by kernel_rfl
      have := List.all_eq_true.1 hb t ht
      rw [Bool.and_eq_true] at this
      exact ⟨this.1, of_decide_eq_true this.2⟩)
    (by kernel_rfl) (by kernel_rfl) rfl
    (fun ds hd => by
      have hp : Try.f4.params.size = 4 := by kernel_rfl
      rw [hp] at hd
      match ds, hd with
      | [d0, d1, d2, d3], _ => rfl)
    (rowsB_ok (by kernel_rfl)) core4

/-- **THE LAW.** -/
theorem FnExactSpectrumOf_holds : Rows.FnExactSpectrumOfSaid :=
  OpenClaim.holds_of_wide 4 Try.f4 rfl rfl rfl rfl rfl rfl rfl ⟨rfl, rfl, rfl, rfl, rfl⟩ rfl rfl rfl rfl rfl (by kernel_rfl) Try.func4 (by kernel_rfl)
    (of_decide_eq_true (by kernel_rfl)) (by unfold Func.isWrapper; first | (rw [if_pos (by decide +kernel)]; kernel_rfl) | (rw [if_neg (by decide +kernel)]; exact ⟨rfl, rfl⟩))
    (fun os started H enc _ => lifted4 os started H enc)

end Go.Proofs.Ytdeplgocckdbiaa
