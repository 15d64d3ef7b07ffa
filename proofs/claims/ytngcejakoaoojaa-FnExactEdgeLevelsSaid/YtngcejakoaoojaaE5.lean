/- The law FnExactEdgeLevels holds: whatever the input, it says true, and the input reads as it did. No condition. -/
import Derived.Test.YtngcejakoaoojaaD8
import Derived.Test.YtngcejakoaoojaaRows
import Derived.ProofKit
namespace Go.Sm.Ytngcejakoaoojaa
open Go Go.Sm Go.RowKit Go.ChangeShapes Go.WideShapes Go.ChangeAt Go.Proofs Go.Proofs.Ytngcejakoaoojaa

theorem e5 (v : Int) (es : List EdgeV) : runFn T8 none0 noL Try.f5 [.el (.sc (.int .i64 v)), .vw none ⟨.edge, es⟩] = (match (decide ((szLeft es.length 1048576 : Int) < 0) : Bool) with
  | true => some ⟨[.el (.sc (.bo true))], none⟩
  | false => (match (Nat.ble es.length big : Bool) with
    | true => (match (Nat.ble es.length big : Bool) with
      | true => (match (Nat.beq (orNil (elOk v es) (elList v es)).length (orNil (elOk v es) (elList v es)).length : Bool) with
        | true => (match (Nat.ble (orNil (elOk v es) (elList v es)).length big : Bool) with
          | true => (match (!(all2 sameW (orNil (elOk v es) (elList v es)) (orNil (elOk v es) (elList v es))) : Bool) with
            | true => some ⟨[.el (.sc (.bo false))], none⟩
            | false => (match (!((elOk v es) == (elOk v es)) : Bool) with
              | true => some ⟨[.el (.sc (.bo false))], none⟩
              | false => (match (Nat.ble es.length big : Bool) with
                | true => (match (Nat.beq es.length es.length : Bool) with
                  | true => (match (Nat.ble es.length big : Bool) with
                    | true => (match (!(all2 eqEdgeF es es) : Bool) with
                      | true => some ⟨[.el (.sc (.bo false))], none⟩
                      | false => (match (decide (0 ≤ 1 ∧ 1 ≤ 1099511627776) && Nat.ble es.length big : Bool) with
                        | true => (match (decide ((1 + 3 * (es.length : Int) : Int) < 0) : Bool) with
                          | true => some ⟨[.el (.sc (.bo false))], none⟩
                          | false => (match (Nat.beq (orNil (elOk v es) (elList v es)).length (orNil (elOk v es) (elList v es)).length : Bool) with
                            | true => (match (Nat.ble (orNil (elOk v es) (elList v es)).length big : Bool) with
                              | true => (match (!(all2 sameW (orNil (elOk v es) (elList v es)) (orNil (elOk v es) (elList v es))) : Bool) with
                                | true => some ⟨[.el (.sc (.bo false))], none⟩
                                | false => (match (!((elOk v es) == (elOk v es)) : Bool) with
                                  | true => some ⟨[.el (.sc (.bo false))], none⟩
                                  | false => (match (decide (0 ≤ 1 ∧ 1 ≤ 1099511627776) && Nat.ble (orNil (elOk v es) (elList v es)).length big : Bool) with
                                    | true => (match (decide (0 ≤ 1 ∧ 1 ≤ 1099511627776) && Nat.ble (marks 1 (orNil (elOk v es) (elList v es)).length).length big : Bool) with
                                      | true => (match (decide ((heldN (heldF 1 (marks 1 (orNil (elOk v es) (elList v es)).length)) (1 + ((marks 1 (orNil (elOk v es) (elList v es)).length).length : Int)) : Int) < 0) : Bool) with
                                        | true => some ⟨[.el (.sc (.bo false))], none⟩
                                        | false => (match (!((heldN (heldF 1 (marks 1 (orNil (elOk v es) (elList v es)).length)) (1 + ((marks 1 (orNil (elOk v es) (elList v es)).length).length : Int)) : Int) == 1 + ((orNil (elOk v es) (elList v es)).length : Int)) : Bool) with
                                          | true => some ⟨[.el (.sc (.bo false))], none⟩
                                          | false => (match (Nat.ble es.length big : Bool) with
                                            | true => (match (Nat.beq (orNil (elOk v es) (elList v es)).length (orNil (elOk v es) (elList v es)).length : Bool) with
                                              | true => (match (Nat.ble (orNil (elOk v es) (elList v es)).length big : Bool) with
                                                | true => (match (!(all2 sameW (orNil (elOk v es) (elList v es)) (orNil (elOk v es) (elList v es))) : Bool) with
                                                  | true => some ⟨[.el (.sc (.bo false))], none⟩
                                                  | false => (match (!((elOk v es) == (elOk v es)) : Bool) with
                                                    | true => some ⟨[.el (.sc (.bo false))], none⟩
                                                    | false => (match (decide (0 ≤ 1 ∧ 1 ≤ 1099511627776) && Nat.ble (marks 1 (orNil (elOk v es) (elList v es)).length).length big : Bool) with
                                                      | true => (match (decide ((heldN (heldF 1 (marks 1 (orNil (elOk v es) (elList v es)).length)) (1 + ((marks 1 (orNil (elOk v es) (elList v es)).length).length : Int)) : Int) < 0) : Bool) with
                                                        | true => some ⟨[.el (.sc (.bo false))], none⟩
                                                        | false => (match (!((heldN (heldF 1 (marks 1 (orNil (elOk v es) (elList v es)).length)) (1 + ((marks 1 (orNil (elOk v es) (elList v es)).length).length : Int)) : Int) == 1 + ((orNil (elOk v es) (elList v es)).length : Int)) : Bool) with
                                                          | true => some ⟨[.el (.sc (.bo false))], none⟩
                                                          | false => some ⟨[.el (.sc (.bo true))], none⟩))
                                                      | false => none)))
                                                | false => none)
                                              | false => some ⟨[.el (.sc (.bo false))], none⟩)
                                            | false => none)))
                                      | false => none)
                                    | false => none)))
                              | false => none)
                            | false => some ⟨[.el (.sc (.bo false))], none⟩))
                        | false => none))
                    | false => none)
                  | false => some ⟨[.el (.sc (.bo false))], none⟩)
                | false => none)))
          | false => none)
        | false => some ⟨[.el (.sc (.bo false))], none⟩)
      | false => none)
    | false => none)) := by kernel_rfl
theorem s5 (v : Int) (es : List EdgeV) (h_v : -9223372036854775808 ≤ v ∧ v ≤ 9223372036854775807) (h_es : ∀ a ∈ es, K.wf .edge a) (g_es : es.length ≤ 140737488351232) : runFn T8 none0 noL Try.f5 [.el (.sc (.int .i64 v)), .vw none ⟨.edge, es⟩] = some ⟨[.el (.sc (.bo true))], none⟩ := by
  rw [e5]
  by_cases hs : es.length ≤ 1048576
  · have hb : Nat.ble es.length big = true := big_of (by omega)
    generalize hD : orNil (elOk v es) (elList v es) = D
    have hDl : D.length ≤ 1048576 := by
      rw [← hD]
      exact orNil_len _ _ (fun hok => elList_len hok)
    have hb5 : Nat.ble D.length big = true := big_of (by omega)
    have hb6 : Nat.ble (marks 1 D.length).length big = true := by rw [marks_len]; exact hb5
    have i3 : ¬ (1 + (D.length : Int) < 0) := by omega
    have hm : ¬ (1 + 3 * (es.length : Int) < 0) := by omega
    have h0 : szLeft es.length 1048576 = 1048576 - (es.length : Int) := by
      unfold szLeft
      have : IntKind.i64.wrap (1048576 - (es.length : Int)) = 1048576 - (es.length : Int) := wrap64 (by omega) (by omega)
      rw [this]
      have h2 : ¬ ((1048576 - (es.length : Int)) < 0) := by omega
      simp [h2]
    have h01 : ¬ (1048576 - (es.length : Int)) < 0 := by omega
    simp [h0, h01, hb, hm, hb5, hb6, i3, all2_refl eqEdgeF_refl, all2_refl sameW_refl, heldF_marks, heldN, marks_len, Nat.beq_refl]
  · have h1 : szLeft es.length 1048576 = -1 := by
      unfold szLeft
      have : IntKind.i64.wrap (1048576 - (es.length : Int)) = 1048576 - (es.length : Int) := wrap64 (by omega) (by omega)
      rw [this]
      have h2 : (1048576 - (es.length : Int)) < 0 := by omega
      simp [h2]
    simp [h1]

theorem core5 (xs : List FV) (h : AKs (AK.fits Try.prog) [.sc (.int .i64), .sl .edge] Try.f5.params.toList xs) : COK Try.prog 5 xs [.el (.sc (.bo true))] := by
  have hp : Try.f5.params.toList = [2, 39] := by kernel_rfl
  rw [hp] at h
  obtain ⟨x0, x1, rfl, hx0, hx1⟩ := aks2 h
  obtain ⟨s0, rfl, h0⟩ := hx0
  obtain ⟨v, rfl, h_v⟩ := fits_i64 h0
  obtain ⟨es, rfl, h_es, i1⟩ := hx1
  have g_es : es.length ≤ 140737488351232 := Nat.le_trans (Nat.le_mul_of_pos_right _ (show 0 < Try.prog.bytesOf 72 by exact of_decide_eq_true (by kernel_rfl))) (i1 72 (by kernel_rfl))
  show COK Try.prog 5 [.el (.sc (.int .i64 v)), .vw none ⟨.edge, es⟩] [.el (.sc (.bo true))]
  exact fn_ok tok8 (A := none0) (L := noL) (r := none) Try.func5 (by kernel_rfl) (by kernel_rfl) (loops0 (by kernel_rfl)) (s5 v es h_v h_es g_es)

end Go.Sm.Ytngcejakoaoojaa
namespace Go.Proofs.Ytngcejakoaoojaa
open Go.Sm Go.Sm.Ytngcejakoaoojaa Go.ChangeShapes Go.WideShapes Go.ChangeAt Go.RowKit

set_option maxRecDepth 100000 in
theorem lifted5 (os : Os) (started : os.Started) (H : Type) (enc : TypeId × Value → H) :
    ReturnsInHanded {} Try.checked os 5 .any (Rows.fnExactEdgeLevelsSpec.pre6 enc Try.prog Try.f5 Rows.fnExactEdgeLevelsRow.domain false) (Rows.fnExactEdgeLevelsSpec.post enc Try.prog Try.f5 false true false false) :=
  law_lifted (C := Try.checked) (aks := [.sc (.int .i64), .sl .edge]) (tb := 4) (by kernel_rfl) started (by kernel_rfl) Try.func5 (by kernel_rfl)
    (ChangeSpec.witness6 (enc := enc) (C := Try.checked) false ⟨#[], #[.int .i64 0, .slice none 0 0], []⟩ 8 (by kernel_rfl) (by kernel_rfl) (by kernel_rfl) (by kernel_rfl))
    (fun t ht => by
      have hb : Try.f5.params.toList.all (fun t => Try.prog.readableRec t && decide (t < Try.prog.types.size)) = true := by kernel_rfl
      have := List.all_eq_true.1 hb t ht
      rw [Bool.and_eq_true] at this
      exact ⟨this.1, of_decide_eq_true this.2⟩)
    (by kernel_rfl) (by kernel_rfl) rfl
    (fun ds hd => by
      have hp : Try.f5.params.size = 2 := by kernel_rfl
      rw [hp] at hd
      match ds, hd with
      | [d0, d1], _ => rfl)
    (rowsB_ok (by kernel_rfl)) core5

/-- **THE LAW.** -/
theorem FnExactEdgeLevels_holds : Rows.FnExactEdgeLevelsSaid :=
  OpenClaim.holds_of_wide 5 Try.f5 rfl rfl rfl rfl rfl rfl rfl ⟨rfl, rfl, rfl, rfl, rfl⟩ rfl rfl rfl rfl rfl (by kernel_rfl) Try.func5 (by kernel_rfl)
    (of_decide_eq_true (by kernel_rfl)) (by unfold Func.isWrapper; first | (rw [if_pos (by decide +kernel)]; kernel_rfl) | (rw [if_neg (by decide +kernel)]; exact ⟨rfl, rfl⟩))
    (fun os started H enc _ => lifted5 os started H enc)

end Go.Proofs.Ytngcejakoaoojaa
