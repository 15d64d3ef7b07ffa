/- The law FnExactLampRests holds: whatever the input, it says true, and the input reads as it did. No condition. -/
import Derived.Test.YtlkphfpkohabeaaD11
import Derived.Test.YtlkphfpkohabeaaRows
import Derived.ProofKit
namespace Go.Sm.Ytlkphfpkohabeaa
open Go Go.Sm Go.RowKit Go.ChangeShapes Go.WideShapes Go.ChangeAt Go.Proofs Go.Proofs.Ytlkphfpkohabeaa

theorem e11 (cs : List Nat) (xs : List Nat) (ys : List Nat) : runFn T11 none0 noL Try.f11 [.vw none ⟨.f32, cs⟩, .vw none ⟨.f32, xs⟩, .vw none ⟨.f32, ys⟩] = (match (decide (((cs.length : Int) : Int) > 1048576) : Bool) with
  | true => some ⟨[.el (.sc (.bo true))], none⟩
  | false => (match (decide (((xs.length : Int) : Int) > 1048576) : Bool) with
    | true => some ⟨[.el (.sc (.bo true))], none⟩
    | false => (match (decide (((ys.length : Int) : Int) > 1048576) : Bool) with
      | true => some ⟨[.el (.sc (.bo true))], none⟩
      | false => (match (Nat.ble cs.length big : Bool) with
        | true => (match (Nat.ble xs.length big : Bool) with
          | true => (match (Nat.ble ys.length big : Bool) with
            | true => (match (Nat.ble cs.length big : Bool) with
              | true => (match (Nat.ble xs.length big : Bool) with
                | true => (match (Nat.ble ys.length big : Bool) with
                  | true => (match (Nat.beq (orNil (lampROk cs xs ys) (lampRests cs xs ys)).length (orNil (lampROk cs xs ys) (lampRests cs xs ys)).length : Bool) with
                    | true => (match (Nat.ble (orNil (lampROk cs xs ys) (lampRests cs xs ys)).length big : Bool) with
                      | true => (match (!(all2 sameW (orNil (lampROk cs xs ys) (lampRests cs xs ys)) (orNil (lampROk cs xs ys) (lampRests cs xs ys))) : Bool) with
                        | true => some ⟨[.el (.sc (.bo false))], none⟩
                        | false => (match (!(sameF (wid (orZero (lampROk cs xs ys) (lampRoot cs xs ys))) (wid (orZero (lampROk cs xs ys) (lampRoot cs xs ys)))) : Bool) with
                          | true => some ⟨[.el (.sc (.bo false))], none⟩
                          | false => (match (!((lampROk cs xs ys) == (lampROk cs xs ys)) : Bool) with
                            | true => some ⟨[.el (.sc (.bo false))], none⟩
                            | false => (match (Nat.ble cs.length big : Bool) with
                              | true => (match (Nat.beq cs.length cs.length : Bool) with
                                | true => (match (Nat.ble cs.length big : Bool) with
                                  | true => (match (!(all2 sameW cs cs) : Bool) with
                                    | true => some ⟨[.el (.sc (.bo false))], none⟩
                                    | false => (match (Nat.ble xs.length big : Bool) with
                                      | true => (match (Nat.beq xs.length xs.length : Bool) with
                                        | true => (match (Nat.ble xs.length big : Bool) with
                                          | true => (match (!(all2 sameW xs xs) : Bool) with
                                            | true => some ⟨[.el (.sc (.bo false))], none⟩
                                            | false => (match (Nat.ble ys.length big : Bool) with
                                              | true => (match (Nat.beq ys.length ys.length : Bool) with
                                                | true => (match (Nat.ble ys.length big : Bool) with
                                                  | true => (match (!(all2 sameW ys ys) : Bool) with
                                                    | true => some ⟨[.el (.sc (.bo false))], none⟩
                                                    | false => (match (decide (0 ≤ 1 ∧ 1 ≤ 1099511627776) && Nat.ble cs.length big : Bool) with
                                                      | true => (match (decide (0 ≤ 1 + (cs.length : Int) ∧ 1 + (cs.length : Int) ≤ 1099511627776) && Nat.ble xs.length big : Bool) with
                                                        | true => (match (decide (0 ≤ (1 + (cs.length : Int)) + (xs.length : Int) ∧ (1 + (cs.length : Int)) + (xs.length : Int) ≤ 1099511627776) && Nat.ble ys.length big : Bool) with
                                                          | true => (match (decide ((((1 + (cs.length : Int)) + (xs.length : Int)) + (ys.length : Int) : Int) < 0) : Bool) with
                                                            | true => some ⟨[.el (.sc (.bo false))], none⟩
                                                            | false => (match (Nat.beq (orNil (lampROk cs xs ys) (lampRests cs xs ys)).length (orNil (lampROk cs xs ys) (lampRests cs xs ys)).length : Bool) with
                                                              | true => (match (Nat.ble (orNil (lampROk cs xs ys) (lampRests cs xs ys)).length big : Bool) with
                                                                | true => (match (!(all2 sameW (orNil (lampROk cs xs ys) (lampRests cs xs ys)) (orNil (lampROk cs xs ys) (lampRests cs xs ys))) : Bool) with
                                                                  | true => some ⟨[.el (.sc (.bo false))], none⟩
                                                                  | false => (match (!(sameF (wid (orZero (lampROk cs xs ys) (lampRoot cs xs ys))) (wid (orZero (lampROk cs xs ys) (lampRoot cs xs ys)))) : Bool) with
                                                                    | true => some ⟨[.el (.sc (.bo false))], none⟩
                                                                    | false => (match (!((lampROk cs xs ys) == (lampROk cs xs ys)) : Bool) with
                                                                      | true => some ⟨[.el (.sc (.bo false))], none⟩
                                                                      | false => (match (decide (0 ≤ 1 ∧ 1 ≤ 1099511627776) && Nat.ble (orNil (lampROk cs xs ys) (lampRests cs xs ys)).length big : Bool) with
                                                                        | true => (match (decide (0 ≤ 1 ∧ 1 ≤ 1099511627776) && Nat.ble (marks 1 (orNil (lampROk cs xs ys) (lampRests cs xs ys)).length).length big : Bool) with
                                                                          | true => (match (decide ((heldN (heldF 1 (marks 1 (orNil (lampROk cs xs ys) (lampRests cs xs ys)).length)) (1 + ((marks 1 (orNil (lampROk cs xs ys) (lampRests cs xs ys)).length).length : Int)) : Int) < 0) : Bool) with
                                                                            | true => some ⟨[.el (.sc (.bo false))], none⟩
                                                                            | false => (match (!((heldN (heldF 1 (marks 1 (orNil (lampROk cs xs ys) (lampRests cs xs ys)).length)) (1 + ((marks 1 (orNil (lampROk cs xs ys) (lampRests cs xs ys)).length).length : Int)) : Int) == 1 + ((orNil (lampROk cs xs ys) (lampRests cs xs ys)).length : Int)) : Bool) with
                                                                              | true => some ⟨[.el (.sc (.bo false))], none⟩
                                                                              | false => (match (Nat.ble cs.length big : Bool) with
                                                                                | true => (match (Nat.ble xs.length big : Bool) with
                                                                                  | true => (match (Nat.ble ys.length big : Bool) with
                                                                                    | true => (match (Nat.beq (orNil (lampROk cs xs ys) (lampRests cs xs ys)).length (orNil (lampROk cs xs ys) (lampRests cs xs ys)).length : Bool) with
                                                                                      | true => (match (Nat.ble (orNil (lampROk cs xs ys) (lampRests cs xs ys)).length big : Bool) with
                                                                                        | true => (match (!(all2 sameW (orNil (lampROk cs xs ys) (lampRests cs xs ys)) (orNil (lampROk cs xs ys) (lampRests cs xs ys))) : Bool) with
                                                                                          | true => some ⟨[.el (.sc (.bo false))], none⟩
                                                                                          | false => (match (!(sameF (wid (orZero (lampROk cs xs ys) (lampRoot cs xs ys))) (wid (orZero (lampROk cs xs ys) (lampRoot cs xs ys)))) : Bool) with
                                                                                            | true => some ⟨[.el (.sc (.bo false))], none⟩
                                                                                            | false => (match (!((lampROk cs xs ys) == (lampROk cs xs ys)) : Bool) with
                                                                                              | true => some ⟨[.el (.sc (.bo false))], none⟩
                                                                                              | false => (match (decide (0 ≤ 1 ∧ 1 ≤ 1099511627776) && Nat.ble (marks 1 (orNil (lampROk cs xs ys) (lampRests cs xs ys)).length).length big : Bool) with
                                                                                                | true => (match (decide ((heldN (heldF 1 (marks 1 (orNil (lampROk cs xs ys) (lampRests cs xs ys)).length)) (1 + ((marks 1 (orNil (lampROk cs xs ys) (lampRests cs xs ys)).length).length : Int)) : Int) < 0) : Bool) with
                                                                                                  | true => some ⟨[.el (.sc (.bo false))], none⟩
                                                                                                  | false => (match (!((heldN (heldF 1 (marks 1 (orNil (lampROk cs xs ys) (lampRests cs xs ys)).length)) (1 + ((marks 1 (orNil (lampROk cs xs ys) (lampRests cs xs ys)).length).length : Int)) : Int) == 1 + ((orNil (lampROk cs xs ys) (lampRests cs xs ys)).length : Int)) : Bool) with
                                                                                                    | true => some ⟨[.el (.sc (.bo false))], none⟩
                                                                                                    | false => some ⟨[.el (.sc (.bo true))], none⟩))
                                                                                                | false => none))))
                                                                                        | false => none)
                                                                                      | false => some ⟨[.el (.sc (.bo false))], none⟩)
                                                                                    | false => none)
                                                                                  | false => none)
                                                                                | false => none)))
                                                                          | false => none)
                                                                        | false => none))))
                                                                | false => none)
                                                              | false => some ⟨[.el (.sc (.bo false))], none⟩))
                                                          | false => none)
                                                        | false => none)
                                                      | false => none))
                                                  | false => none)
                                                | false => some ⟨[.el (.sc (.bo false))], none⟩)
                                              | false => none))
                                          | false => none)
                                        | false => some ⟨[.el (.sc (.bo false))], none⟩)
                                      | false => none))
                                  | false => none)
                                | false => some ⟨[.el (.sc (.bo false))], none⟩)
                              | false => none))))
                      | false => none)
                    | false => some ⟨[.el (.sc (.bo false))], none⟩)
                  | false => none)
                | false => none)
              | false => none)
            | false => none)
          | false => none)
        | false => none)))) := by kernel_rfl
theorem s11 (cs : List Nat) (xs : List Nat) (ys : List Nat) (h_cs : ∀ a ∈ cs, K.wf .f32 a) (g_cs : cs.length ≤ 140737488351232) (h_xs : ∀ a ∈ xs, K.wf .f32 a) (g_xs : xs.length ≤ 140737488351232) (h_ys : ∀ a ∈ ys, K.wf .f32 a) (g_ys : ys.length ≤ 140737488351232) : runFn T11 none0 noL Try.f11 [.vw none ⟨.f32, cs⟩, .vw none ⟨.f32, xs⟩, .vw none ⟨.f32, ys⟩] = some ⟨[.el (.sc (.bo true))], none⟩ := by
  rw [e11]
  by_cases hs_cs : cs.length ≤ 1048576
  · by_cases hs_xs : xs.length ≤ 1048576
    · by_cases hs_ys : ys.length ≤ 1048576
      · have hb_cs : Nat.ble cs.length big = true := big_of (by omega)
        have n_cs : ¬ ((cs.length : Int) > 1048576) := by omega
        have m_cs : ¬ (1 + (cs.length : Int) < 0) := by omega
        have hb_xs : Nat.ble xs.length big = true := big_of (by omega)
        have n_xs : ¬ ((xs.length : Int) > 1048576) := by omega
        have m_xs : ¬ (1 + (xs.length : Int) < 0) := by omega
        have hb_ys : Nat.ble ys.length big = true := big_of (by omega)
        have n_ys : ¬ ((ys.length : Int) > 1048576) := by omega
        have m_ys : ¬ (1 + (ys.length : Int) < 0) := by omega
        have i1 : (0 : Int) ≤ 1 + (cs.length : Int) ∧ 1 + (cs.length : Int) ≤ 1099511627776 := by omega
        have i1b : (0 : Int) ≤ 1 + (cs.length : Int) + (xs.length : Int) ∧ 1 + (cs.length : Int) + (xs.length : Int) ≤ 1099511627776 := by omega
        have i2 : ¬ (1 + (cs.length : Int) + (xs.length : Int) + (ys.length : Int) < 0) := by omega
        generalize hD : orNil (lampROk cs xs ys) (lampRests cs xs ys) = D
        have hDl : D.length ≤ 1048576 := by
          rw [← hD]
          exact orNil_len _ _ (fun hok => by
            rw [lampRests_len]; unfold lampROk lamps at hok; simp only [Bool.and_eq_true, decide_eq_true_eq] at hok; omega)
        have hb5 : Nat.ble D.length big = true := big_of (by omega)
        have i3 : ¬ (1 + (D.length : Int) < 0) := by omega
        have hb6 : Nat.ble (marks 1 D.length).length big = true := by rw [marks_len]; exact hb5
        simp [hb_cs, n_cs, m_cs, hb_xs, n_xs, m_xs, hb_ys, n_ys, m_ys, hb5, hb6, i3, all2_refl sameW_refl, all2_refl sameW_refl, heldF_marks, heldN, marks_len, Nat.beq_refl, i1, i1b, i2, sameF_refl]
      · have big_ys : ((ys.length : Int) > 1048576) := by omega
        have n_cs : ¬ ((cs.length : Int) > 1048576) := by omega
        have n_xs : ¬ ((xs.length : Int) > 1048576) := by omega
        simp [big_ys, n_cs, n_xs]
    · have big_xs : ((xs.length : Int) > 1048576) := by omega
      have n_cs : ¬ ((cs.length : Int) > 1048576) := by omega
      simp [big_xs, n_cs]
  · have big_cs : ((cs.length : Int) > 1048576) := by omega
    simp [big_cs]

theorem core11 (xs : List FV) (h : AKs (AK.fits Try.prog) [.sl .f32, .sl .f32, .sl .f32] Try.f11.params.toList xs) : COK Try.prog 11 xs [.el (.sc (.bo true))] := by
  have hp : Try.f11.params.toList = [22, 22, 22] := by kernel_rfl
  rw [hp] at h
  obtain ⟨x0, x1, x2, rfl, hx0, hx1, hx2⟩ := aks3 h
  obtain ⟨cs, rfl, h_cs, i0⟩ := hx0
  have g_cs : cs.length ≤ 140737488351232 := Nat.le_trans (Nat.le_mul_of_pos_right _ (show 0 < Try.prog.bytesOf 30 by exact of_decide_eq_true (by kernel_rfl))) (i0 30 (by kernel_rfl))
  obtain ⟨xs, rfl, h_xs, i1⟩ := hx1
  have g_xs : xs.length ≤ 140737488351232 := Nat.le_trans (Nat.le_mul_of_pos_right _ (show 0 < Try.prog.bytesOf 30 by exact of_decide_eq_true (by kernel_rfl))) (i1 30 (by kernel_rfl))
  obtain ⟨ys, rfl, h_ys, i2⟩ := hx2
  have g_ys : ys.length ≤ 140737488351232 := Nat.le_trans (Nat.le_mul_of_pos_right _ (show 0 < Try.prog.bytesOf 30 by exact of_decide_eq_true (by kernel_rfl))) (i2 30 (by kernel_rfl))
  show COK Try.prog 11 [.vw none ⟨.f32, cs⟩, .vw none ⟨.f32, xs⟩, .vw none ⟨.f32, ys⟩] [.el (.sc (.bo true))]
  exact fn_ok tok11 (A := none0) (L := noL) (r := none) Try.func11 (by kernel_rfl) (by kernel_rfl) (loops0 (by kernel_rfl)) (s11 cs xs ys h_cs g_cs h_xs g_xs h_ys g_ys)

end Go.Sm.Ytlkphfpkohabeaa
namespace Go.Proofs.Ytlkphfpkohabeaa
open Go.Sm Go.Sm.Ytlkphfpkohabeaa Go.ChangeShapes Go.WideShapes Go.ChangeAt Go.RowKit

set_option maxRecDepth 100000 in
theorem lifted11 (os : Os) (started : os.Started) (H : Type) (enc : TypeId × Value → H) :
    ReturnsInHanded {} Try.checked os 11 .any (Rows.fnExactLampRestsSpec.pre6 enc Try.prog Try.f11 Rows.fnExactLampRestsRow.domain false) (Rows.fnExactLampRestsSpec.post enc Try.prog Try.f11 false true false false) :=
  law_lifted (C := Try.checked) (aks := [.sl .f32, .sl .f32, .sl .f32]) (tb := 4) (by kernel_rfl) started (by kernel_rfl) Try.func11 (by kernel_rfl)
    (ChangeSpec.witness6 (enc := enc) (C := Try.checked) false ⟨#[], #[.slice none 0 0, .slice none 0 0, .slice none 0 0], []⟩ 8 (by kernel_rfl) (by kernel_rfl) (by kernel_rfl) (by kernel_rfl))
    (fun t ht => by
      have hb : Try.f11.params.toList.all (fun t => Try.prog.readableRec t && decide (t < Try.prog.types.size)) = true := by kernel_rfl
      have := List.all_eq_true.1 hb t ht
      rw [Bool.and_eq_true] at this
      exact ⟨this.1, of_decide_eq_true this.2⟩)
    (by kernel_rfl) (by kernel_rfl) rfl
    (fun ds hd => by
      have hp : Try.f11.params.size = 3 := by kernel_rfl
      rw [hp] at hd
      match ds, hd with
      | [d0, d1, d2], _ => rfl)
    (rowsB_ok (by kernel_rfl)) core11

/-- **THE LAW.** -/
theorem FnExactLampRests_holds : Rows.FnExactLampRestsSaid :=
  OpenClaim.holds_of_wide 11 Try.f11 rfl rfl rfl rfl rfl rfl rfl ⟨rfl, rfl, rfl, rfl, rfl⟩ rfl rfl rfl rfl rfl (by kernel_rfl) Try.func11 (by kernel_rfl)
    (of_decide_eq_true (by kernel_rfl)) (by unfold Func.isWrapper; first | (rw [if_pos (by decide +kernel)]; kernel_rfl) | (rw [if_neg (by decide +kernel)]; exact ⟨rfl, rfl⟩))
    (fun os started H enc _ => lifted11 os started H enc)

end Go.Proofs.Ytlkphfpkohabeaa
