/- The law FnExactStitchLists holds: whatever the input, it says true, and the input reads as it did. No condition. -/
import Derived.Test.YtlkphfpkohabeaaD7
import Derived.Test.YtlkphfpkohabeaaRows
import Derived.ProofKit
namespace Go.Sm.Ytlkphfpkohabeaa
open Go Go.Sm Go.RowKit Go.ChangeShapes Go.WideShapes Go.ChangeAt Go.Proofs Go.Proofs.Ytlkphfpkohabeaa

theorem e3 (us : List Nat) (bs : List Nat) (o : Int) : runFn T7 none0 noL Try.f3 [.vw none ⟨.f32, us⟩, .vw none ⟨.f32, bs⟩, .el (.sc (.int .i64 o))] = (match (decide (((us.length : Int) : Int) > 1048576) : Bool) with
  | true => some ⟨[.el (.sc (.bo true))], none⟩
  | false => (match (decide (((bs.length : Int) : Int) > 1048576) : Bool) with
    | true => some ⟨[.el (.sc (.bo true))], none⟩
    | false => (match (Nat.ble us.length big : Bool) with
      | true => (match (Nat.ble bs.length big : Bool) with
        | true => (match (Nat.ble us.length big : Bool) with
          | true => (match (Nat.ble bs.length big : Bool) with
            | true => (match (Nat.beq (orNil (stOk us bs o) (stX us bs o)).length (orNil (stOk us bs o) (stX us bs o)).length : Bool) with
              | true => (match (Nat.ble (orNil (stOk us bs o) (stX us bs o)).length big : Bool) with
                | true => (match (!(all2 sameW (orNil (stOk us bs o) (stX us bs o)) (orNil (stOk us bs o) (stX us bs o))) : Bool) with
                  | true => some ⟨[.el (.sc (.bo false))], none⟩
                  | false => (match (!((stOk us bs o) == (stOk us bs o)) : Bool) with
                    | true => some ⟨[.el (.sc (.bo false))], none⟩
                    | false => (match (Nat.ble us.length big : Bool) with
                      | true => (match (Nat.beq us.length us.length : Bool) with
                        | true => (match (Nat.ble us.length big : Bool) with
                          | true => (match (!(all2 sameW us us) : Bool) with
                            | true => some ⟨[.el (.sc (.bo false))], none⟩
                            | false => (match (Nat.ble bs.length big : Bool) with
                              | true => (match (Nat.beq bs.length bs.length : Bool) with
                                | true => (match (Nat.ble bs.length big : Bool) with
                                  | true => (match (!(all2 sameW bs bs) : Bool) with
                                    | true => some ⟨[.el (.sc (.bo false))], none⟩
                                    | false => (match (decide (0 ≤ 1 ∧ 1 ≤ 1099511627776) && Nat.ble us.length big : Bool) with
                                      | true => (match (decide (0 ≤ 1 + (us.length : Int) ∧ 1 + (us.length : Int) ≤ 1099511627776) && Nat.ble bs.length big : Bool) with
                                        | true => (match (decide (((1 + (us.length : Int)) + (bs.length : Int) : Int) < 0) : Bool) with
                                          | true => some ⟨[.el (.sc (.bo false))], none⟩
                                          | false => (match (Nat.beq (orNil (stOk us bs o) (stX us bs o)).length (orNil (stOk us bs o) (stX us bs o)).length : Bool) with
                                            | true => (match (Nat.ble (orNil (stOk us bs o) (stX us bs o)).length big : Bool) with
                                              | true => (match (!(all2 sameW (orNil (stOk us bs o) (stX us bs o)) (orNil (stOk us bs o) (stX us bs o))) : Bool) with
                                                | true => some ⟨[.el (.sc (.bo false))], none⟩
                                                | false => (match (!((stOk us bs o) == (stOk us bs o)) : Bool) with
                                                  | true => some ⟨[.el (.sc (.bo false))], none⟩
                                                  | false => (match (decide (0 ≤ 1 ∧ 1 ≤ 1099511627776) && Nat.ble (orNil (stOk us bs o) (stX us bs o)).length big : Bool) with
                                                    | true => (match (decide (0 ≤ 1 ∧ 1 ≤ 1099511627776) && Nat.ble (marks 1 (orNil (stOk us bs o) (stX us bs o)).length).length big : Bool) with
                                                      | true => (match (decide ((heldN (heldF 1 (marks 1 (orNil (stOk us bs o) (stX us bs o)).length)) (1 + ((marks 1 (orNil (stOk us bs o) (stX us bs o)).length).length : Int)) : Int) < 0) : Bool) with
                                                        | true => some ⟨[.el (.sc (.bo false))], none⟩
                                                        | false => (match (!((heldN (heldF 1 (marks 1 (orNil (stOk us bs o) (stX us bs o)).length)) (1 + ((marks 1 (orNil (stOk us bs o) (stX us bs o)).length).length : Int)) : Int) == 1 + ((orNil (stOk us bs o) (stX us bs o)).length : Int)) : Bool) with
                                                          | true => some ⟨[.el (.sc (.bo false))], none⟩
                                                          | false => (match (Nat.ble us.length big : Bool) with
                                                            | true => (match (Nat.ble bs.length big : Bool) with
                                                              | true => (match (Nat.beq (orNil (stOk us bs o) (stX us bs o)).length (orNil (stOk us bs o) (stX us bs o)).length : Bool) with
                                                                | true => (match (Nat.ble (orNil (stOk us bs o) (stX us bs o)).length big : Bool) with
                                                                  | true => (match (!(all2 sameW (orNil (stOk us bs o) (stX us bs o)) (orNil (stOk us bs o) (stX us bs o))) : Bool) with
                                                                    | true => some ⟨[.el (.sc (.bo false))], none⟩
                                                                    | false => (match (!((stOk us bs o) == (stOk us bs o)) : Bool) with
                                                                      | true => some ⟨[.el (.sc (.bo false))], none⟩
                                                                      | false => (match (decide (0 ≤ 1 ∧ 1 ≤ 1099511627776) && Nat.ble (marks 1 (orNil (stOk us bs o) (stX us bs o)).length).length big : Bool) with
                                                                        | true => (match (decide ((heldN (heldF 1 (marks 1 (orNil (stOk us bs o) (stX us bs o)).length)) (1 + ((marks 1 (orNil (stOk us bs o) (stX us bs o)).length).length : Int)) : Int) < 0) : Bool) with
                                                                          | true => some ⟨[.el (.sc (.bo false))], none⟩
                                                                          | false => (match (!((heldN (heldF 1 (marks 1 (orNil (stOk us bs o) (stX us bs o)).length)) (1 + ((marks 1 (orNil (stOk us bs o) (stX us bs o)).length).length : Int)) : Int) == 1 + ((orNil (stOk us bs o) (stX us bs o)).length : Int)) : Bool) with
                                                                            | true => some ⟨[.el (.sc (.bo false))], none⟩
                                                                            | false => some ⟨[.el (.sc (.bo true))], none⟩))
                                                                        | false => none)))
                                                                  | false => none)
                                                                | false => some ⟨[.el (.sc (.bo false))], none⟩)
                                                              | false => none)
                                                            | false => none)))
                                                      | false => none)
                                                    | false => none)))
                                              | false => none)
                                            | false => some ⟨[.el (.sc (.bo false))], none⟩))
                                        | false => none)
                                      | false => none))
                                  | false => none)
                                | false => some ⟨[.el (.sc (.bo false))], none⟩)
                              | false => none))
                          | false => none)
                        | false => some ⟨[.el (.sc (.bo false))], none⟩)
                      | false => none)))
                | false => none)
              | false => some ⟨[.el (.sc (.bo false))], none⟩)
            | false => none)
          | false => none)
        | false => none)
      | false => none))) := by kernel_rfl
theorem s3 (us : List Nat) (bs : List Nat) (o : Int) (h_us : ∀ a ∈ us, K.wf .f32 a) (g_us : us.length ≤ 140737488351232) (h_bs : ∀ a ∈ bs, K.wf .f32 a) (g_bs : bs.length ≤ 140737488351232) (h_o : -9223372036854775808 ≤ o ∧ o ≤ 9223372036854775807) : runFn T7 none0 noL Try.f3 [.vw none ⟨.f32, us⟩, .vw none ⟨.f32, bs⟩, .el (.sc (.int .i64 o))] = some ⟨[.el (.sc (.bo true))], none⟩ := by
  rw [e3]
  by_cases hs_us : us.length ≤ 1048576
  · by_cases hs_bs : bs.length ≤ 1048576
    · have hb_us : Nat.ble us.length big = true := big_of (by omega)
      have n_us : ¬ ((us.length : Int) > 1048576) := by omega
      have m_us : ¬ (1 + (us.length : Int) < 0) := by omega
      have hb_bs : Nat.ble bs.length big = true := big_of (by omega)
      have n_bs : ¬ ((bs.length : Int) > 1048576) := by omega
      have m_bs : ¬ (1 + (bs.length : Int) < 0) := by omega
      have i1 : (0 : Int) ≤ 1 + (us.length : Int) ∧ 1 + (us.length : Int) ≤ 1099511627776 := by omega
      have i2 : ¬ (1 + (us.length : Int) + (bs.length : Int) < 0) := by omega
      generalize hD : orNil (stOk us bs o) (stX us bs o) = D
      have hDl : D.length ≤ 1048576 := by
        rw [← hD]
        exact orNil_len _ _ (fun hok => by
          unfold stOk at hok; simp only [Bool.and_eq_true] at hok; have := stX_len hok.2.2.1; omega)
      have hb5 : Nat.ble D.length big = true := big_of (by omega)
      have i3 : ¬ (1 + (D.length : Int) < 0) := by omega
      have hb6 : Nat.ble (marks 1 D.length).length big = true := by rw [marks_len]; exact hb5
      simp [hb_us, n_us, m_us, hb_bs, n_bs, m_bs, hb5, hb6, i3, all2_refl sameW_refl, all2_refl sameW_refl, heldF_marks, heldN, marks_len, Nat.beq_refl, i1, i2]
    · have big_bs : ((bs.length : Int) > 1048576) := by omega
      have n_us : ¬ ((us.length : Int) > 1048576) := by omega
      simp [big_bs, n_us]
  · have big_us : ((us.length : Int) > 1048576) := by omega
    simp [big_us]

theorem core3 (xs : List FV) (h : AKs (AK.fits Try.prog) [.sl .f32, .sl .f32, .sc (.int .i64)] Try.f3.params.toList xs) : COK Try.prog 3 xs [.el (.sc (.bo true))] := by
  have hp : Try.f3.params.toList = [22, 22, 2] := by kernel_rfl
  rw [hp] at h
  obtain ⟨x0, x1, x2, rfl, hx0, hx1, hx2⟩ := aks3 h
  obtain ⟨us, rfl, h_us, i0⟩ := hx0
  have g_us : us.length ≤ 140737488351232 := Nat.le_trans (Nat.le_mul_of_pos_right _ (show 0 < Try.prog.bytesOf 30 by exact of_decide_eq_true (by kernel_rfl))) (i0 30 (by kernel_rfl))
  obtain ⟨bs, rfl, h_bs, i1⟩ := hx1
  have g_bs : bs.length ≤ 140737488351232 := Nat.le_trans (Nat.le_mul_of_pos_right _ (show 0 < Try.prog.bytesOf 30 by exact of_decide_eq_true (by kernel_rfl))) (i1 30 (by kernel_rfl))
  obtain ⟨s2, rfl, h2⟩ := hx2
  obtain ⟨o, rfl, h_o⟩ := fits_i64 h2
  show COK Try.prog 3 [.vw none ⟨.f32, us⟩, .vw none ⟨.f32, bs⟩, .el (.sc (.int .i64 o))] [.el (.sc (.bo true))]
  exact fn_ok tok7 (A := none0) (L := noL) (r := none) Try.func3 (by kernel_rfl) (by kernel_rfl) (loops0 (by kernel_rfl)) (s3 us bs o h_us g_us h_bs g_bs h_o)

end Go.Sm.Ytlkphfpkohabeaa
namespace Go.Proofs.Ytlkphfpkohabeaa
open Go.Sm Go.Sm.Ytlkphfpkohabeaa Go.ChangeShapes Go.WideShapes Go.ChangeAt Go.RowKit

set_option maxRecDepth 100000 in
theorem lifted3 (os : Os) (started : os.Started) (H : Type) (enc : TypeId × Value → H) :
    ReturnsInHanded {} Try.checked os 3 .any (Rows.fnExactStitchListsSpec.pre6 enc Try.prog Try.f3 Rows.fnExactStitchListsRow.domain false) (Rows.fnExactStitchListsSpec.post enc Try.prog Try.f3 false true false false) :=
  law_lifted (C := Try.checked) (aks := [.sl .f32, .sl .f32, .sc (.int .i64)]) (tb := 4) (by kernel_rfl) started (by kernel_rfl) Try.func3 (by kernel_rfl)
    (ChangeSpec.witness6 (enc := enc) (C := Try.checked) false ⟨#[], #[.slice none 0 0, .slice none 0 0, .int .i64 0], []⟩ 8 (by kernel_rfl) (by kernel_rfl) (by kernel_rfl) (by kernel_rfl))
    (fun t ht => by
      have hb : Try.f3.params.toList.all (fun t => Try.prog.readableRec t && decide (t < Try.prog.types.size)) = true := by kernel_rfl
      have := List.all_eq_true.1 hb t ht
      rw [Bool.and_eq_true] at this
      exact ⟨this.1, of_decide_eq_true this.2⟩)
    (by kernel_rfl) (by kernel_rfl) rfl
    (fun ds hd => by
      have hp : Try.f3.params.size = 3 := by kernel_rfl
      rw [hp] at hd
      match ds, hd with
      | [d0, d1, d2], _ => rfl)
    (rowsB_ok (by kernel_rfl)) core3

/-- **THE LAW.** -/
theorem FnExactStitchLists_holds : Rows.FnExactStitchListsSaid :=
  OpenClaim.holds_of_wide 3 Try.f3 rfl rfl rfl rfl rfl rfl rfl ⟨rfl, rfl, rfl, rfl, rfl⟩ rfl rfl rfl rfl rfl (by kernel_rfl) Try.func3 (by kernel_rfl)
    (of_decide_eq_true (by kernel_rfl)) (by unfold Func.isWrapper; first | (rw [if_pos (by decide +kernel)]; kernel_rfl) | (rw [if_neg (by decide +kernel)]; exact ⟨rfl, rfl⟩))
    (fun os started H enc _ => lifted3 os started H enc)

end Go.Proofs.Ytlkphfpkohabeaa
