/- The law FnExactAreEdges holds: whatever the input, it says true, and the input reads as it did. No condition. -/
import Derived.Test.YtpnkcjlapkhclaaD7
import Derived.Test.YtpnkcjlapkhclaaRows
import Derived.ProofKit
namespace Go.Sm.Ytpnkcjlapkhclaa
open Go Go.Sm Go.RowKit Go.ChangeShapes Go.WideShapes Go.ChangeAt Go.Proofs Go.Proofs.Ytpnkcjlapkhclaa

theorem e9 (v : Int) (es : List EdgeV) : runFn T7 none0 noL Try.f9 [.el (.sc (.int .i64 v)), .vw none ⟨.edge, es⟩] = (match (decide ((szLeft es.length 1048576 : Int) < 0) : Bool) with
  | true => some ⟨[.el (.sc (.bo true))], none⟩
  | false => (match (Nat.ble es.length big : Bool) with
    | true => (match (Nat.ble es.length big : Bool) with
      | true => (match (!(((within v 1 12 && decide (es.length ≤ 32)) && es.all (edgeOk v)) == ((within v 1 12 && decide (es.length ≤ 32)) && es.all (edgeOk v))) : Bool) with
        | true => some ⟨[.el (.sc (.bo false))], none⟩
        | false => (match (Nat.ble es.length big : Bool) with
          | true => (match (Nat.beq es.length es.length : Bool) with
            | true => (match (Nat.ble es.length big : Bool) with
              | true => (match (!(all2 eqEdgeF es es) : Bool) with
                | true => some ⟨[.el (.sc (.bo false))], none⟩
                | false => some ⟨[.el (.sc (.bo true))], none⟩)
              | false => none)
            | false => some ⟨[.el (.sc (.bo false))], none⟩)
          | false => none))
      | false => none)
    | false => none)) := by kernel_rfl
theorem s9 (v : Int) (es : List EdgeV) (h_v : -9223372036854775808 ≤ v ∧ v ≤ 9223372036854775807) (h_es : ∀ a ∈ es, K.wf .edge a) (g_es : es.length ≤ 140737488351232) : runFn T7 none0 noL Try.f9 [.el (.sc (.int .i64 v)), .vw none ⟨.edge, es⟩] = some ⟨[.el (.sc (.bo true))], none⟩ := by
  rw [e9]
  by_cases hs : es.length ≤ 1048576
  · have hb : Nat.ble es.length big = true := Nat.ble_eq_true_of_le (by unfold big; omega)
    simp [hb, all2_refl eqEdgeF_refl]
    split <;> rfl
  · have h1 : szLeft es.length 1048576 = -1 := by
      unfold szLeft
      have : IntKind.i64.wrap (1048576 - (es.length : Int)) = 1048576 - (es.length : Int) := wrap64 (by omega) (by omega)
      rw [this]
      have h2 : (1048576 - (es.length : Int)) < 0 := by omega
      simp [h2]
    simp [h1]

theorem core9 (xs : List FV) (h : AKs (AK.fits Try.prog) [.sc (.int .i64), .sl .edge] Try.f9.params.toList xs) : COK Try.prog 9 xs [.el (.sc (.bo true))] := by
  have hp : Try.f9.params.toList = [2, 44] := by kernel_rfl
  rw [hp] at h
  obtain ⟨x0, x1, rfl, hx0, hx1⟩ := aks2 h
  obtain ⟨s0, rfl, h0⟩ := hx0
  obtain ⟨v, rfl, h_v⟩ := fits_i64 h0
  obtain ⟨es, rfl, h_es, i1⟩ := hx1
  have g_es : es.length ≤ 140737488351232 := Nat.le_trans (Nat.le_mul_of_pos_right _ (show 0 < Try.prog.bytesOf 76 by exact of_decide_eq_true (by kernel_rfl))) (i1 76 (by kernel_rfl))
  show COK Try.prog 9 [.el (.sc (.int .i64 v)), .vw none ⟨.edge, es⟩] [.el (.sc (.bo true))]
  exact fn_ok tok7 (A := none0) (L := noL) (r := none) Try.func9 (by kernel_rfl) (by kernel_rfl) (loops0 (by kernel_rfl)) (s9 v es h_v h_es g_es)

end Go.Sm.Ytpnkcjlapkhclaa
namespace Go.Proofs.Ytpnkcjlapkhclaa
open Go.Sm Go.Sm.Ytpnkcjlapkhclaa Go.ChangeShapes Go.WideShapes Go.ChangeAt Go.RowKit

set_option maxRecDepth 100000 in
theorem lifted9 (os : Os) (started : os.Started) (H : Type) (enc : TypeId × Value → H) :
    ReturnsInHanded {} Try.checked os 9 .any (Rows.fnExactAreEdgesSpec.pre6 enc Try.prog Try.f9 Rows.fnExactAreEdgesRow.domain false) (Rows.fnExactAreEdgesSpec.post enc Try.prog Try.f9 false true false false) :=
  law_lifted (C := Try.checked) (aks := [.sc (.int .i64), .sl .edge]) (tb := 4) (by kernel_rfl) started (by kernel_rfl) Try.func9 (by kernel_rfl)
    (ChangeSpec.witness6 (enc := enc) (C := Try.checked) false ⟨#[], #[.int .i64 0, .slice none 0 0], []⟩ 8 (by kernel_rfl) (by kernel_rfl) (by kernel_rfl) (by kernel_rfl))
    (fun t ht => by
      have hb : Try.f9.params.toList.all (fun t => Try.prog.readableRec t && decide (t < Try.prog.types.size)) = true := by kernel_rfl
      have := List.all_eq_true.1 hb t ht
      rw [Bool.and_eq_true] at this
      exact ⟨this.1, of_decide_eq_true this.2⟩)
    (by kernel_rfl) (by kernel_rfl) rfl
    (fun ds hd => by
      have hp : Try.f9.params.size = 2 := by kernel_rfl
      rw [hp] at hd
      match ds, hd with
      | [d0, d1], _ => rfl)
    (rowsB_ok (by kernel_rfl)) core9

/-- **THE LAW.** -/
theorem FnExactAreEdges_holds : Rows.FnExactAreEdgesSaid :=
  OpenClaim.holds_of_wide 9 Try.f9 rfl rfl rfl rfl rfl rfl rfl ⟨rfl, rfl, rfl, rfl, rfl⟩ rfl rfl rfl rfl rfl (by kernel_rfl) Try.func9 (by kernel_rfl)
    (of_decide_eq_true (by kernel_rfl)) (by unfold Func.isWrapper; first | (rw [if_pos (by decide +kernel)]; kernel_rfl) | (rw [if_neg (by decide +kernel)]; exact ⟨rfl, rfl⟩))
    (fun os started H enc _ => lifted9 os started H enc)

end Go.Proofs.Ytpnkcjlapkhclaa
