/- The law FnExactCountLines holds: whatever the input, it says true, and the input reads as it did. No condition. -/
import Derived.Test.YtdeplgocckdbiaaD14
import Derived.Test.YtdeplgocckdbiaaRows
import Derived.ProofKit
namespace Go.Sm.Ytdeplgocckdbiaa
open Go Go.Sm Go.RowKit Go.ChangeShapes Go.WideShapes Go.ChangeAt Go.Proofs Go.Proofs.Ytdeplgocckdbiaa

theorem e8 (xss : List (List LineV)) (ys : List Nat) (b : Nat) (d : Nat) : runFn T14 none0 noL Try.f8 [.vv none .line xss, .vw none ⟨.f32, ys⟩, .el (.sc (.fl .f32 b)), .el (.sc (.fl .f32 d))] = (match (decide (((ys.length : Int) : Int) > 1048576) : Bool) with
  | true => some ⟨[.el (.sc (.bo true))], none⟩
  | false => (match (decide ((0 : Int) ≤ 1048576 ∧ (1048576 : Int) ≤ 1048576) && Nat.ble xss.length 9223372036854775807 : Bool) with
    | true => (match (decide ((szLL xss 1048576 : Int) < 0) : Bool) with
      | true => some ⟨[.el (.sc (.bo true))], none⟩
      | false => (match (Nat.ble xss.length big && xss.all (fun l => Nat.ble l.length big) : Bool) with
        | true => (match (Nat.ble ys.length big : Bool) with
          | true => (match (xss.all (fun l => Nat.ble l.length big) && Nat.ble ys.length big : Bool) with
            | true => (match (Nat.ble xss.length big && xss.all (fun l => Nat.ble l.length big) : Bool) with
              | true => (match (Nat.ble ys.length big : Bool) with
                | true => (match (xss.all (fun l => Nat.ble l.length big) && Nat.ble ys.length big : Bool) with
                  | true => (match (!((((cntRun xss ys b d).getD (0, 0)).1 : Int) == ((cntRun xss ys b d).getD (0, 0)).1) : Bool) with
                    | true => some ⟨[.el (.sc (.bo false))], none⟩
                    | false => (match (!(sameF (wid (((cntRun xss ys b d).getD (0, 0)).2)) (wid (((cntRun xss ys b d).getD (0, 0)).2))) : Bool) with
                      | true => some ⟨[.el (.sc (.bo false))], none⟩
                      | false => (match (!(((cntRun xss ys b d).isSome) == ((cntRun xss ys b d).isSome)) : Bool) with
                        | true => some ⟨[.el (.sc (.bo false))], none⟩
                        | false => (match (Nat.ble xss.length big && xss.all (fun l => Nat.ble l.length big) : Bool) with
                          | true => (match (Nat.ble xss.length big && xss.all (fun l => Nat.ble l.length big) : Bool) with
                            | true => (match (Nat.beq xss.length xss.length : Bool) with
                              | true => (match (!(all2 eqLL xss xss) : Bool) with
                                | true => some ⟨[.el (.sc (.bo false))], none⟩
                                | false => (match (Nat.ble ys.length big : Bool) with
                                  | true => (match (Nat.beq ys.length ys.length : Bool) with
                                    | true => (match (Nat.ble ys.length big : Bool) with
                                      | true => (match (!(all2 sameW ys ys) : Bool) with
                                        | true => some ⟨[.el (.sc (.bo false))], none⟩
                                        | false => some ⟨[.el (.sc (.bo true))], none⟩)
                                      | false => none)
                                    | false => some ⟨[.el (.sc (.bo false))], none⟩)
                                  | false => none))
                              | false => some ⟨[.el (.sc (.bo false))], none⟩)
                            | false => none)
                          | false => none))))
                  | false => none)
                | false => none)
              | false => none)
            | false => none)
          | false => none)
        | false => none))
    | false => none)) := by kernel_rfl
theorem s8 (xss : List (List LineV)) (ys : List Nat) (b : Nat) (d : Nat) (h_xss : ∀ l ∈ xss, ∀ a ∈ l, K.wf .line a) (g_xss : ∀ l ∈ xss, l.length ≤ 140737488351232) (k_xss : xss.length ≤ maxLen) (h_ys : ∀ a ∈ ys, K.wf .f32 a) (g_ys : ys.length ≤ 140737488351232) (h_b : cn .f32 b = b ∧ b < 2 ^ 32) (h_d : cn .f32 d = d ∧ d < 2 ^ 32) : runFn T14 none0 noL Try.f8 [.vv none .line xss, .vw none ⟨.f32, ys⟩, .el (.sc (.fl .f32 b)), .el (.sc (.fl .f32 d))] = some ⟨[.el (.sc (.bo true))], none⟩ := by
  rw [e8]
  by_cases hs2 : (ys.length : Int) > 1048576
  · simp [hs2]
  · have hk : (decide ((0 : Int) ≤ 1048576 ∧ (1048576 : Int) ≤ 1048576) && Nat.ble xss.length 9223372036854775807) = true := by
      rw [Nat.ble_eq_true_of_le (show xss.length ≤ 9223372036854775807 by unfold maxLen at k_xss; omega)]
      rfl
    rw [hk, decide_eq_false hs2]
    cases hz : decide (szLL xss 1048576 < 0) with
    | true => rfl
    | false =>
      obtain ⟨a1, a2⟩ := szLL_le (by unfold maxLen at k_xss; omega) g_xss (by omega) (by omega) (of_decide_eq_false hz)
      have hx : Nat.ble xss.length big = true := big_of (by omega)
      have hall : xss.all (fun l => Nat.ble l.length big) = true := List.all_eq_true.2 (fun l hl => big_of (by have := a2 l hl; omega))
      have hy : Nat.ble ys.length big = true := big_of (by omega)
      simp only [hx, hall, hy, Bool.and_self, all2_refl eqLL_refl, all2_refl sameW_refl, sameF_refl, Nat.beq_refl, beq_self_eq_true, Bool.not_true]

theorem core8 (xs : List FV) (h : AKs (AK.fits Try.prog) [.sll .line, .sl .f32, .sc (.float .f32), .sc (.float .f32)] Try.f8.params.toList xs) : COK Try.prog 8 xs [.el (.sc (.bo true))] := by
  have hp : Try.f8.params.toList = [55, 22, 30, 30] := by kernel_rfl
  rw [hp] at h
  obtain ⟨x0, x1, x2, x3, rfl, hx0, hx1, hx2, hx3⟩ := aks4 h
  obtain ⟨xss, rfl, h_xss, k_xss, i0⟩ := hx0
  have g_xss : ∀ l ∈ xss, l.length ≤ 140737488351232 := fun l hl => Nat.le_trans (Nat.le_mul_of_pos_right _ (show 0 < Try.prog.bytesOf 66 by exact of_decide_eq_true (by kernel_rfl))) (i0 29 66 (by kernel_rfl) (by kernel_rfl) l hl)
  obtain ⟨ys, rfl, h_ys, i1⟩ := hx1
  have g_ys : ys.length ≤ 140737488351232 := Nat.le_trans (Nat.le_mul_of_pos_right _ (show 0 < Try.prog.bytesOf 30 by exact of_decide_eq_true (by kernel_rfl))) (i1 30 (by kernel_rfl))
  obtain ⟨s2, rfl, h2⟩ := hx2
  obtain ⟨b, rfl, h_b⟩ := fits_f32 h2
  obtain ⟨s3, rfl, h3⟩ := hx3
  obtain ⟨d, rfl, h_d⟩ := fits_f32 h3
  show COK Try.prog 8 [.vv none .line xss, .vw none ⟨.f32, ys⟩, .el (.sc (.fl .f32 b)), .el (.sc (.fl .f32 d))] [.el (.sc (.bo true))]
  exact fn_ok tok14 (A := none0) (L := noL) (r := none) Try.func8 (by kernel_rfl) (by kernel_rfl) (loops0 (by kernel_rfl)) (s8 xss ys b d h_xss g_xss k_xss h_ys g_ys h_b h_d)

end Go.Sm.Ytdeplgocckdbiaa
namespace Go.Proofs.Ytdeplgocckdbiaa
open Go.Sm Go.Sm.Ytdeplgocckdbiaa Go.ChangeShapes Go.WideShapes Go.ChangeAt Go.RowKit

set_option maxRecDepth 100000 in
theorem lifted8 (os : Os) (started : os.Started) (H : Type) (enc : TypeId × Value → H) :
    ReturnsInHanded {} Try.checked os 8 .any (Rows.fnExactCountLinesSpec.pre6 enc Try.prog Try.f8 Rows.fnExactCountLinesRow.domain false) (Rows.fnExactCountLinesSpec.post enc Try.prog Try.f8 false true false false) :=
  law_lifted (C := Try.checked) (aks := [.sll .line, .sl .f32, .sc (.float .f32), .sc (.float .f32)]) (tb := 4) (by kernel_rfl) started (by kernel_rfl) Try.func8 (by kernel_rfl)
    (ChangeSpec.witness6 (enc := enc) (C := Try.checked) false ⟨#[], #[.slice none 0 0, .slice none 0 0, .float .f32 0, .float .f32 0], []⟩ 8 (by kernel_rfl) (by kernel_rfl) (by kernel_rfl) (by kernel_rfl))
    (fun t ht => by
      have hb : Try.f8.params.toList.all (fun t => Try.prog.readableRec t && decide (t < Try.prog.types.size)) = true := by kernel_rfl
      have := List.all_eq_true.1 hb t ht
      rw [Bool.and_eq_true] at this
      exact ⟨this.1, of_decide_eq_true this.2⟩)
    (by kernel_rfl) (by kernel_rfl) rfl
    (fun ds hd => by
      have hp : Try.f8.params.size = 4 := by kernel_rfl
      rw [hp] at hd
      match ds, hd with
      | [d0, d1, d2, d3], _ => rfl)
    (rowsB_ok (by kernel_rfl)) core8

end Go.Proofs.Ytdeplgocckdbiaa
