/- The law FnExactTurnVector holds: whatever the input, it says true, and the input reads as it did. No condition. -/
import Derived.Test.YtdeplgocckdbiaaD7
import Derived.Test.YtdeplgocckdbiaaRows
import Derived.ProofKit
namespace Go.Sm.Ytdeplgocckdbiaa
open Go Go.Sm Go.RowKit Go.ChangeShapes Go.WideShapes Go.ChangeAt Go.Proofs Go.Proofs.Ytdeplgocckdbiaa

theorem e6 (vs : List Nat) (xs : List Nat) (t : Nat) : runFn T7 none0 noL Try.f6 [.vw none ⟨.f32, vs⟩, .vw none ⟨.f32, xs⟩, .el (.sc (.fl .f32 t))] = (match (decide (((vs.length : Int) : Int) > 1048576) : Bool) with
  | true => some ⟨[.el (.sc (.bo true))], none⟩
  | false => (match (decide (((xs.length : Int) : Int) > 1048576) : Bool) with
    | true => some ⟨[.el (.sc (.bo true))], none⟩
    | false => (match (Nat.ble vs.length big : Bool) with
      | true => (match (Nat.ble xs.length big : Bool) with
        | true => (match (Nat.ble vs.length big : Bool) with
          | true => (match (Nat.ble xs.length big : Bool) with
            | true => (match (Nat.beq (orNil (tvOk vs xs t) (tvX vs xs t)).length (orNil (tvOk vs xs t) (tvX vs xs t)).length : Bool) with
              | true => (match (Nat.ble (orNil (tvOk vs xs t) (tvX vs xs t)).length big : Bool) with
                | true => (match (!(all2 sameW (orNil (tvOk vs xs t) (tvX vs xs t)) (orNil (tvOk vs xs t) (tvX vs xs t))) : Bool) with
                  | true => some ⟨[.el (.sc (.bo false))], none⟩
                  | false => (match (!((tvOk vs xs t) == (tvOk vs xs t)) : Bool) with
                    | true => some ⟨[.el (.sc (.bo false))], none⟩
                    | false => (match (Nat.ble vs.length big : Bool) with
                      | true => (match (Nat.beq vs.length vs.length : Bool) with
                        | true => (match (Nat.ble vs.length big : Bool) with
                          | true => (match (!(all2 sameW vs vs) : Bool) with
                            | true => some ⟨[.el (.sc (.bo false))], none⟩
                            | false => (match (Nat.ble xs.length big : Bool) with
                              | true => (match (Nat.beq xs.length xs.length : Bool) with
                                | true => (match (Nat.ble xs.length big : Bool) with
                                  | true => (match (!(all2 sameW xs xs) : Bool) with
                                    | true => some ⟨[.el (.sc (.bo false))], none⟩
                                    | false => (match (decide (0 ≤ 1 ∧ 1 ≤ 1099511627776) && Nat.ble vs.length big : Bool) with
                                      | true => (match (decide (0 ≤ 1 + (vs.length : Int) ∧ 1 + (vs.length : Int) ≤ 1099511627776) && Nat.ble xs.length big : Bool) with
                                        | true => (match (decide (((1 + (vs.length : Int)) + (xs.length : Int) : Int) < 0) : Bool) with
                                          | true => some ⟨[.el (.sc (.bo false))], none⟩
                                          | false => (match (Nat.beq (orNil (tvOk vs xs t) (tvX vs xs t)).length (orNil (tvOk vs xs t) (tvX vs xs t)).length : Bool) with
                                            | true => (match (Nat.ble (orNil (tvOk vs xs t) (tvX vs xs t)).length big : Bool) with
                                              | true => (match (!(all2 sameW (orNil (tvOk vs xs t) (tvX vs xs t)) (orNil (tvOk vs xs t) (tvX vs xs t))) : Bool) with
                                                | true => some ⟨[.el (.sc (.bo false))], none⟩
                                                | false => (match (!((tvOk vs xs t) == (tvOk vs xs t)) : Bool) with
                                                  | true => some ⟨[.el (.sc (.bo false))], none⟩
                                                  | false => (match (decide (0 ≤ 1 ∧ 1 ≤ 1099511627776) && Nat.ble (orNil (tvOk vs xs t) (tvX vs xs t)).length big : Bool) with
                                                    | true => (match (decide (0 ≤ 1 ∧ 1 ≤ 1099511627776) && Nat.ble (marks 1 (orNil (tvOk vs xs t) (tvX vs xs t)).length).length big : Bool) with
                                                      | true => (match (decide ((heldN (heldF 1 (marks 1 (orNil (tvOk vs xs t) (tvX vs xs t)).length)) (1 + ((marks 1 (orNil (tvOk vs xs t) (tvX vs xs t)).length).length : Int)) : Int) < 0) : Bool) with
                                                        | true => some ⟨[.el (.sc (.bo false))], none⟩
                                                        | false => (match (!((heldN (heldF 1 (marks 1 (orNil (tvOk vs xs t) (tvX vs xs t)).length)) (1 + ((marks 1 (orNil (tvOk vs xs t) (tvX vs xs t)).length).length : Int)) : Int) == 1 + ((orNil (tvOk vs xs t) (tvX vs xs t)).length : Int)) : Bool) with
                                                          | true => some ⟨[.el (.sc (.bo false))], none⟩
                                                          | false => (match (Nat.ble vs.length big : Bool) with
                                                            | true => (match (Nat.ble xs.length big : Bool) with
                                                              | true => (match (Nat.beq (orNil (tvOk vs xs t) (tvX vs xs t)).length (orNil (tvOk vs xs t) (tvX vs xs t)).length : Bool) with
                                                                | true => (match (Nat.ble (orNil (tvOk vs xs t) (tvX vs xs t)).length big : Bool) with
                                                                  | true => (match (!(all2 sameW (orNil (tvOk vs xs t) (tvX vs xs t)) (orNil (tvOk vs xs t) (tvX vs xs t))) : Bool) with
                                                                    | true => some ⟨[.el (.sc (.bo false))], none⟩
                                                                    | false => (match (!((tvOk vs xs t) == (tvOk vs xs t)) : Bool) with
                                                                      | true => some ⟨[.el (.sc (.bo false))], none⟩
                                                                      | false => (match (decide (0 ≤ 1 ∧ 1 ≤ 1099511627776) && Nat.ble (marks 1 (orNil (tvOk vs xs t) (tvX vs xs t)).length).length big : Bool) with
                                                                        | true => (match (decide ((heldN (heldF 1 (marks 1 (orNil (tvOk vs xs t) (tvX vs xs t)).length)) (1 + ((marks 1 (orNil (tvOk vs xs t) (tvX vs xs t)).length).length : Int)) : Int) < 0) : Bool) with
                                                                          | true => some ⟨[.el (.sc (.bo false))], none⟩
                                                                          | false => (match (!((heldN (heldF 1 (marks 1 (orNil (tvOk vs xs t) (tvX vs xs t)).length)) (1 + ((marks 1 (orNil (tvOk vs xs t) (tvX vs xs t)).length).length : Int)) : Int) == 1 + ((orNil (tvOk vs xs t) (tvX vs xs t)).length : Int)) : Bool) with
                                                                            | true => some ⟨[.el (.sc (.bo false))], none⟩
                                                                            | false => some ⟨[.el (.sc (.bo true))], none⟩))
                                                                        | false => none)))
                                                                  | false => none)
                                                                | false => some ⟨[.el (.sc (.bo false))], none⟩)
                                                              | false => none)
                                                            | false => none)))
                                                      | false => none)
                                                    | false => none)))
                                              | false => none)
                                            | false => some ⟨[.el (.sc (.bo false))], none⟩))
                                        | false => none)
                                      | false => none))
                                  | false => none)
                                | false => some ⟨[.el (.sc (.bo false))], none⟩)
                              | false => none))
                          | false => none)
                        | false => some ⟨[.el (.sc (.bo false))], none⟩)
                      | false => none)))
                | false => none)
              | false => some ⟨[.el (.sc (.bo false))], none⟩)
            | false => none)
          | false => none)
        | false => none)
      | false => none))) := by kernel_rfl
theorem s6 (vs : List Nat) (xs : List Nat) (t : Nat) (h_vs : ∀ a ∈ vs, K.wf .f32 a) (g_vs : vs.length ≤ 140737488351232) (h_xs : ∀ a ∈ xs, K.wf .f32 a) (g_xs : xs.length ≤ 140737488351232) (h_t : cn .f32 t = t ∧ t < 2 ^ 32) : runFn T7 none0 noL Try.f6 [.vw none ⟨.f32, vs⟩, .vw none ⟨.f32, xs⟩, .el (.sc (.fl .f32 t))] = some ⟨[.el (.sc (.bo true))], none⟩ := by
  rw [e6]
  by_cases hs_vs : vs.length ≤ 1048576
  · by_cases hs_xs : xs.length ≤ 1048576
    · have hb_vs : Nat.ble vs.length big = true := big_of (by omega)
      have n_vs : ¬ ((vs.length : Int) > 1048576) := by omega
      have m_vs : ¬ (1 + (vs.length : Int) < 0) := by omega
      have hb_xs : Nat.ble xs.length big = true := big_of (by omega)
      have n_xs : ¬ ((xs.length : Int) > 1048576) := by omega
      have m_xs : ¬ (1 + (xs.length : Int) < 0) := by omega
      have i1 : (0 : Int) ≤ 1 + (vs.length : Int) ∧ 1 + (vs.length : Int) ≤ 1099511627776 := by omega
      have i2 : ¬ (1 + (vs.length : Int) + (xs.length : Int) < 0) := by omega
      generalize hD : orNil (tvOk vs xs t) (tvX vs xs t) = D
      have hDl : D.length ≤ 1048576 := by
        rw [← hD]
        exact orNil_len _ _ (fun hok => by
          rw [tvX_len]; omega)
      have hb5 : Nat.ble D.length big = true := big_of (by omega)
      have i3 : ¬ (1 + (D.length : Int) < 0) := by omega
      have hb6 : Nat.ble (marks 1 D.length).length big = true := by rw [marks_len]; exact hb5
      simp [hb_vs, n_vs, m_vs, hb_xs, n_xs, m_xs, hb5, hb6, i3, all2_refl sameW_refl, all2_refl sameW_refl, heldF_marks, heldN, marks_len, Nat.beq_refl, i1, i2]
    · have big_xs : ((xs.length : Int) > 1048576) := by omega
      have n_vs : ¬ ((vs.length : Int) > 1048576) := by omega
      simp [big_xs, n_vs]
  · have big_vs : ((vs.length : Int) > 1048576) := by omega
    simp [big_vs]

theorem core6 (xs : List FV) (h : AKs (AK.fits Try.prog) [.sl .f32, .sl .f32, .sc (.float .f32)] Try.f6.params.toList xs) : COK Try.prog 6 xs [.el (.sc (.bo true))] := by
  have hp : Try.f6.params.toList = [22, 22, 30] := by kernel_rfl
  rw [hp] at h
  obtain ⟨x0, x1, x2, rfl, hx0, hx1, hx2⟩ := aks3 h
  obtain ⟨vs, rfl, h_vs, i0⟩ := hx0
  have g_vs : vs.length ≤ 140737488351232 := Nat.le_trans (Nat.le_mul_of_pos_right _ (show 0 < Try.prog.bytesOf 30 by exact of_decide_eq_true (by kernel_rfl))) (i0 30 (by kernel_rfl))
  obtain ⟨xs, rfl, h_xs, i1⟩ := hx1
  have g_xs : xs.length ≤ 140737488351232 := Nat.le_trans (Nat.le_mul_of_pos_right _ (show 0 < Try.prog.bytesOf 30 by exact of_decide_eq_true (by kernel_rfl))) (i1 30 (by kernel_rfl))
  obtain ⟨s2, rfl, h2⟩ := hx2
  obtain ⟨t, rfl, h_t⟩ := fits_f32 h2
  show COK Try.prog 6 [.vw none ⟨.f32, vs⟩, .vw none ⟨.f32, xs⟩, .el (.sc (.fl .f32 t))] [.el (.sc (.bo true))]
  exact fn_ok tok7 (A := none0) (L := noL) (r := none) Try.func6 (by kernel_rfl) (by kernel_rfl) (loops0 (by kernel_rfl)) (s6 vs xs t h_vs g_vs h_xs g_xs h_t)

end Go.Sm.Ytdeplgocckdbiaa
namespace Go.Proofs.Ytdeplgocckdbiaa
open Go.Sm Go.Sm.Ytdeplgocckdbiaa Go.ChangeShapes Go.WideShapes Go.ChangeAt Go.RowKit

set_option maxRecDepth 100000 in
theorem lifted6 (os : Os) (started : os.Started) (H : Type) (enc : TypeId × Value → H) :
    ReturnsInHanded {} Try.checked os 6 .any (Rows.fnExactTurnVectorSpec.pre6 enc Try.prog Try.f6 Rows.fnExactTurnVectorRow.domain false) (Rows.fnExactTurnVectorSpec.post enc Try.prog Try.f6 false true false false) :=
  law_lifted (C := Try.checked) (aks := [.sl .f32, .sl .f32, .sc (.float .f32)]) (tb := 4) (by kernel_rfl) started (by kernel_rfl) Try.func6 (by kernel_rfl)
    (ChangeSpec.witness6 (enc := enc) (C := Try.checked) false ⟨#[], #[.slice none 0 0, .slice none 0 0, .float .f32 0], []⟩ 8 (by kernel_rfl) (by kernel_rfl) (by kernel_rfl) (by kernel_rfl))
    (fun t ht => by
      have hb : Try.f6.params.toList.all (fun t => Try.prog.readableRec t && decide (t < Try.prog.types.size)) = true := by kernel_rfl
      have := List.all_eq_true.1 hb t ht
      rw [Bool.and_eq_true] at this
      exact ⟨this.1, of_decide_eq_true this.2⟩)
    (by kernel_rfl) (by kernel_rfl) rfl
    (fun ds hd => by
      have hp : Try.f6.params.size = 3 := by kernel_rfl
      rw [hp] at hd
      match ds, hd with
      | [d0, d1, d2], _ => rfl)
    (rowsB_ok (by kernel_rfl)) core6

/-- **THE LAW.** -/
theorem FnExactTurnVector_holds : Rows.FnExactTurnVectorSaid :=
  OpenClaim.holds_of_wide 6 Try.f6 rfl rfl rfl rfl rfl rfl rfl ⟨rfl, rfl, rfl, rfl, rfl⟩ rfl rfl rfl rfl rfl (by kernel_rfl) Try.func6 (by kernel_rfl)
    (of_decide_eq_true (by kernel_rfl)) (by unfold Func.isWrapper; first | (rw [if_pos (by decide +kernel)]; kernel_rfl) | (rw [if_neg (by decide +kernel)]; exact ⟨rfl, rfl⟩))
    (fun os started H enc _ => lifted6 os started H enc)

end Go.Proofs.Ytdeplgocckdbiaa
