/- The law FnExactRestOf holds: whatever the input, it says true, and the input reads as it did. No condition. -/
import Derived.Test.YtdeplgocckdbiaaD13
import Derived.Test.YtdeplgocckdbiaaRows
import Derived.ProofKit
namespace Go.Sm.Ytdeplgocckdbiaa
open Go Go.Sm Go.RowKit Go.ChangeShapes Go.WideShapes Go.ChangeAt Go.Proofs Go.Proofs.Ytdeplgocckdbiaa

theorem e5 (xs : List LineV) (ys : List Nat) (b : Nat) (d : Nat) : runFn T13 none0 noL Try.f5 [.vw none ⟨.line, xs⟩, .vw none ⟨.f32, ys⟩, .el (.sc (.fl .f32 b)), .el (.sc (.fl .f32 d))] = (match (decide (((ys.length : Int) : Int) > 1048576) : Bool) with
  | true => some ⟨[.el (.sc (.bo true))], none⟩
  | false => (match (decide ((szLeft xs.length 1048576 : Int) < 0) : Bool) with
    | true => some ⟨[.el (.sc (.bo true))], none⟩
    | false => (match (Nat.ble xs.length big : Bool) with
      | true => (match (Nat.ble ys.length big : Bool) with
        | true => (match (Nat.ble xs.length big && Nat.ble ys.length big : Bool) with
          | true => (match (Nat.ble xs.length big : Bool) with
            | true => (match (Nat.ble ys.length big : Bool) with
              | true => (match (!(sameF (wid (orZero (restOk xs ys b d) (restSum xs ys b d))) (wid (orZero (restOk xs ys b d) (restSum xs ys b d)))) : Bool) with
                | true => some ⟨[.el (.sc (.bo false))], none⟩
                | false => (match (!((restOk xs ys b d) == (restOk xs ys b d)) : Bool) with
                  | true => some ⟨[.el (.sc (.bo false))], none⟩
                  | false => (match (Nat.ble xs.length big : Bool) with
                    | true => (match (Nat.beq xs.length xs.length : Bool) with
                      | true => (match (Nat.ble xs.length big : Bool) with
                        | true => (match (!(all2 eqLineF xs xs) : Bool) with
                          | true => some ⟨[.el (.sc (.bo false))], none⟩
                          | false => (match (Nat.ble ys.length big : Bool) with
                            | true => (match (Nat.beq ys.length ys.length : Bool) with
                              | true => (match (Nat.ble ys.length big : Bool) with
                                | true => (match (!(all2 sameW ys ys) : Bool) with
                                  | true => some ⟨[.el (.sc (.bo false))], none⟩
                                  | false => some ⟨[.el (.sc (.bo true))], none⟩)
                                | false => none)
                              | false => some ⟨[.el (.sc (.bo false))], none⟩)
                            | false => none))
                        | false => none)
                      | false => some ⟨[.el (.sc (.bo false))], none⟩)
                    | false => none)))
              | false => none)
            | false => none)
          | false => none)
        | false => none)
      | false => none))) := by kernel_rfl
theorem s5 (xs : List LineV) (ys : List Nat) (b : Nat) (d : Nat) (h_xs : ∀ a ∈ xs, K.wf .line a) (g_xs : xs.length ≤ 140737488351232) (h_ys : ∀ a ∈ ys, K.wf .f32 a) (g_ys : ys.length ≤ 140737488351232) (h_b : cn .f32 b = b ∧ b < 2 ^ 32) (h_d : cn .f32 d = d ∧ d < 2 ^ 32) : runFn T13 none0 noL Try.f5 [.vw none ⟨.line, xs⟩, .vw none ⟨.f32, ys⟩, .el (.sc (.fl .f32 b)), .el (.sc (.fl .f32 d))] = some ⟨[.el (.sc (.bo true))], none⟩ := by
  rw [e5]
  by_cases hs2 : (ys.length : Int) > 1048576
  · simp [hs2]
  · by_cases hs : xs.length ≤ 1048576
    · have hb : Nat.ble xs.length big = true := Nat.ble_eq_true_of_le (by unfold big; omega)
      have hb2 : Nat.ble ys.length big = true := Nat.ble_eq_true_of_le (by unfold big; omega)
      simp [hs2, hb, hb2, sameF_refl, all2_refl eqLineF_refl, all2_refl sameW_refl]
      try (split <;> rfl)
    · have h1 : szLeft xs.length 1048576 = -1 := by
        unfold szLeft
        have : IntKind.i64.wrap (1048576 - (xs.length : Int)) = 1048576 - (xs.length : Int) := wrap64 (by omega) (by omega)
        rw [this]
        have h2 : (1048576 - (xs.length : Int)) < 0 := by omega
        simp [h2]
      simp [hs2, h1]

theorem core5 (xs : List FV) (h : AKs (AK.fits Try.prog) [.sl .line, .sl .f32, .sc (.float .f32), .sc (.float .f32)] Try.f5.params.toList xs) : COK Try.prog 5 xs [.el (.sc (.bo true))] := by
  have hp : Try.f5.params.toList = [29, 22, 30, 30] := by kernel_rfl
  rw [hp] at h
  obtain ⟨x0, x1, x2, x3, rfl, hx0, hx1, hx2, hx3⟩ := aks4 h
  obtain ⟨xs, rfl, h_xs, i0⟩ := hx0
  have g_xs : xs.length ≤ 140737488351232 := Nat.le_trans (Nat.le_mul_of_pos_right _ (show 0 < Try.prog.bytesOf 66 by exact of_decide_eq_true (by kernel_rfl))) (i0 66 (by kernel_rfl))
  obtain ⟨ys, rfl, h_ys, i1⟩ := hx1
  have g_ys : ys.length ≤ 140737488351232 := Nat.le_trans (Nat.le_mul_of_pos_right _ (show 0 < Try.prog.bytesOf 30 by exact of_decide_eq_true (by kernel_rfl))) (i1 30 (by kernel_rfl))
  obtain ⟨s2, rfl, h2⟩ := hx2
  obtain ⟨b, rfl, h_b⟩ := fits_f32 h2
  obtain ⟨s3, rfl, h3⟩ := hx3
  obtain ⟨d, rfl, h_d⟩ := fits_f32 h3
  show COK Try.prog 5 [.vw none ⟨.line, xs⟩, .vw none ⟨.f32, ys⟩, .el (.sc (.fl .f32 b)), .el (.sc (.fl .f32 d))] [.el (.sc (.bo true))]
  exact fn_ok tok13 (A := none0) (L := noL) (r := none) Try.func5 (by kernel_rfl) (by kernel_rfl) (loops0 (by kernel_rfl)) (s5 xs ys b d h_xs g_xs h_ys g_ys h_b h_d)

end Go.Sm.Ytdeplgocckdbiaa
namespace Go.Proofs.Ytdeplgocckdbiaa
open Go.Sm Go.Sm.Ytdeplgocckdbiaa Go.ChangeShapes Go.WideShapes Go.ChangeAt Go.RowKit

set_option maxRecDepth 100000 in
theorem lifted5 (os : Os) (started : os.Started) (H : Type) (enc : TypeId × Value → H) :
    ReturnsInHanded {} Try.checked os 5 .any (Rows.fnExactRestOfSpec.pre6 enc Try.prog Try.f5 Rows.fnExactRestOfRow.domain false) (Rows.fnExactRestOfSpec.post enc Try.prog Try.f5 false true false false) :=
  law_lifted (C := Try.checked) (aks := [.sl .line, .sl .f32, .sc (.float .f32), .sc (.float .f32)]) (tb := 4) (by kernel_rfl) started (by kernel_rfl) Try.func5 (by kernel_rfl)
    (ChangeSpec.witness6 (enc := enc) (C := Try.checked) false ⟨#[], #[.slice none 0 0, .slice none 0 0, .float .f32 0, .float .f32 0], []⟩ 8 (by kernel_rfl) (by kernel_rfl) (by kernel_rfl) (by kernel_rfl))
    (fun t ht => by
      have hb : Try.f5.params.toList.all (fun t => Try.prog.readableRec t && decide (t < Try.prog.types.size)) = true := by kernel_rfl
      have := List.all_eq_true.1 hb t ht
      rw [Bool.and_eq_true] at this
      exact ⟨this.1, of_decide_eq_true this.2⟩)
    (by kernel_rfl) (by kernel_rfl) rfl
    (fun ds hd => by
      have hp : Try.f5.params.size = 4 := by kernel_rfl
      rw [hp] at hd
      match ds, hd with
      | [d0, d1, d2, d3], _ => rfl)
    (rowsB_ok (by kernel_rfl)) core5

/-- **THE LAW.** -/
theorem FnExactRestOf_holds : Rows.FnExactRestOfSaid :=
  OpenClaim.holds_of_wide 5 Try.f5 rfl rfl rfl rfl rfl rfl rfl ⟨rfl, rfl, rfl, rfl, rfl⟩ rfl rfl rfl rfl rfl (by kernel_rfl) Try.func5 (by kernel_rfl)
    (of_decide_eq_true (by kernel_rfl)) (by unfold Func.isWrapper; first | (rw [if_pos (by decide +kernel)]; kernel_rfl) | (rw [if_neg (by decide +kernel)]; exact ⟨rfl, rfl⟩))
    (fun os started H enc _ => lifted5 os started H enc)

end Go.Proofs.Ytdeplgocckdbiaa
