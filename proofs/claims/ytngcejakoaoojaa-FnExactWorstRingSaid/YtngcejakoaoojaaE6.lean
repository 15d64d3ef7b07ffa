/- The law FnExactWorstRing holds: whatever the input, it says true, and the input reads as it did. No condition. -/
import Derived.Test.YtngcejakoaoojaaD8
import Derived.Test.YtngcejakoaoojaaRows
import Derived.ProofKit
namespace Go.Sm.Ytngcejakoaoojaa
open Go Go.Sm Go.RowKit Go.ChangeShapes Go.WideShapes Go.ChangeAt Go.Proofs Go.Proofs.Ytngcejakoaoojaa

theorem e6 (v : Int) (es : List EdgeV) : runFn T8 none0 noL Try.f6 [.el (.sc (.int .i64 v)), .vw none ⟨.edge, es⟩] = (match (decide ((szLeft es.length 1048576 : Int) < 0) : Bool) with
  | true => some ⟨[.el (.sc (.bo true))], none⟩
  | false => (match (Nat.ble es.length big : Bool) with
    | true => (match (Nat.ble es.length big : Bool) with
      | true => (match (!(sameF (wid (orZero (wrOk v es) (wrX v es))) (wid (orZero (wrOk v es) (wrX v es)))) : Bool) with
        | true => some ⟨[.el (.sc (.bo false))], none⟩
        | false => (match (!((wrOk v es) == (wrOk v es)) : Bool) with
          | true => some ⟨[.el (.sc (.bo false))], none⟩
          | false => (match (Nat.ble es.length big : Bool) with
            | true => (match (Nat.beq es.length es.length : Bool) with
              | true => (match (Nat.ble es.length big : Bool) with
                | true => (match (!(all2 eqEdgeF es es) : Bool) with
                  | true => some ⟨[.el (.sc (.bo false))], none⟩
                  | false => some ⟨[.el (.sc (.bo true))], none⟩)
                | false => none)
              | false => some ⟨[.el (.sc (.bo false))], none⟩)
            | false => none)))
      | false => none)
    | false => none)) := by kernel_rfl
theorem s6 (v : Int) (es : List EdgeV) (h_v : -9223372036854775808 ≤ v ∧ v ≤ 9223372036854775807) (h_es : ∀ a ∈ es, K.wf .edge a) (g_es : es.length ≤ 140737488351232) : runFn T8 none0 noL Try.f6 [.el (.sc (.int .i64 v)), .vw none ⟨.edge, es⟩] = some ⟨[.el (.sc (.bo true))], none⟩ := by
  rw [e6]
  by_cases hs : es.length ≤ 1048576
  · have hb : Nat.ble es.length big = true := big_of (by omega)
    have h0 : szLeft es.length 1048576 = 1048576 - (es.length : Int) := by
      unfold szLeft
      have : IntKind.i64.wrap (1048576 - (es.length : Int)) = 1048576 - (es.length : Int) := wrap64 (by omega) (by omega)
      rw [this]
      have h2 : ¬ ((1048576 - (es.length : Int)) < 0) := by omega
      simp [h2]
    have h01 : ¬ (1048576 - (es.length : Int)) < 0 := by omega
    simp [h0, h01, hb, sameF_refl, all2_refl eqEdgeF_refl]
  · have h1 : szLeft es.length 1048576 = -1 := by
      unfold szLeft
      have : IntKind.i64.wrap (1048576 - (es.length : Int)) = 1048576 - (es.length : Int) := wrap64 (by omega) (by omega)
      rw [this]
      have h2 : (1048576 - (es.length : Int)) < 0 := by omega
      simp [h2]
    simp [h1]

theorem core6 (xs : List FV) (h : AKs (AK.fits Try.prog) [.sc (.int .i64), .sl .edge] Try.f6.params.toList xs) : COK Try.prog 6 xs [.el (.sc (.bo true))] := by
  have hp : Try.f6.params.toList = [2, 39] := by kernel_rfl
  rw [hp] at h
  obtain ⟨x0, x1, rfl, hx0, hx1⟩ := aks2 h
  obtain ⟨s0, rfl, h0⟩ := hx0
  obtain ⟨v, rfl, h_v⟩ := fits_i64 h0
  obtain ⟨es, rfl, h_es, i1⟩ := hx1
  have g_es : es.length ≤ 140737488351232 := Nat.le_trans (Nat.le_mul_of_pos_right _ (show 0 < Try.prog.bytesOf 72 by exact of_decide_eq_true (by kernel_rfl))) (i1 72 (by kernel_rfl))
  show COK Try.prog 6 [.el (.sc (.int .i64 v)), .vw none ⟨.edge, es⟩] [.el (.sc (.bo true))]
  exact fn_ok tok8 (A := none0) (L := noL) (r := none) Try.func6 (by kernel_rfl) (by kernel_rfl) (loops0 (by kernel_rfl)) (s6 v es h_v h_es g_es)

end Go.Sm.Ytngcejakoaoojaa
namespace Go.Proofs.Ytngcejakoaoojaa
open Go.Sm Go.Sm.Ytngcejakoaoojaa Go.ChangeShapes Go.WideShapes Go.ChangeAt Go.RowKit

set_option maxRecDepth 100000 in
theorem lifted6 (os : Os) (started : os.Started) (H : Type) (enc : TypeId × Value → H) :
    ReturnsInHanded {} Try.checked os 6 .any (Rows.fnExactWorstRingSpec.pre6 enc Try.prog Try.f6 Rows.fnExactWorstRingRow.domain false) (Rows.fnExactWorstRingSpec.post enc Try.prog Try.f6 false true false false) :=
  law_lifted (C := Try.checked) (aks := [.sc (.int .i64), .sl .edge]) (tb := 4) (by kernel_rfl) started (by kernel_rfl) Try.func6 (by kernel_rfl)
    (ChangeSpec.witness6 (enc := enc) (C := Try.checked) false ⟨#[], #[.int .i64 0, .slice none 0 0], []⟩ 8 (by kernel_rfl) (by kernel_rfl) (by kernel_rfl) (by kernel_rfl))
    (fun t ht => by
      have hb : Try.f6.params.toList.all (fun t => Try.prog.readableRec t && decide (t < Try.prog.types.size)) = true := by kernel_rfl
      have := List.all_eq_true.1 hb t ht
      rw [Bool.and_eq_true] at this
      exact ⟨this.1, of_decide_eq_true this.2⟩)
    (by kernel_rfl) (by kernel_rfl) rfl
    (fun ds hd => by
      have hp : Try.f6.params.size = 2 := by kernel_rfl
      rw [hp] at hd
      match ds, hd with
      | [d0, d1], _ => rfl)
    (rowsB_ok (by kernel_rfl)) core6

/-- **THE LAW.** -/
theorem FnExactWorstRing_holds : Rows.FnExactWorstRingSaid :=
  OpenClaim.holds_of_wide 6 Try.f6 rfl rfl rfl rfl rfl rfl rfl ⟨rfl, rfl, rfl, rfl, rfl⟩ rfl rfl rfl rfl rfl (by kernel_rfl) Try.func6 (by kernel_rfl)
    (of_decide_eq_true (by kernel_rfl)) (by unfold Func.isWrapper; first | (rw [if_pos (by decide +kernel)]; kernel_rfl) | (rw [if_neg (by decide +kernel)]; exact ⟨rfl, rfl⟩))
    (fun os started H enc _ => lifted6 os started H enc)

end Go.Proofs.Ytngcejakoaoojaa
