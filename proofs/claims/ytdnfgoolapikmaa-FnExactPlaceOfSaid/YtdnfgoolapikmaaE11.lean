/- The law FnExactPlaceOf holds: whatever the input, it says true, and the input reads as it did. No condition. -/
import Derived.Test.YtdnfgoolapikmaaD8
import Derived.Test.YtdnfgoolapikmaaRows
import Derived.ProofKit
namespace Go.Sm.Ytdnfgoolapikmaa
open Go Go.Sm Go.RowKit Go.ChangeShapes Go.WideShapes Go.ChangeAt Go.Proofs Go.Proofs.Ytdnfgoolapikmaa

theorem e11 (xs : List Nat) (w : Nat) (a : Nat) (b : Nat) (n : Int) : runFn T8 none0 noL Try.f11 [.vw none ⟨.f32, xs⟩, .el (.sc (.fl .f32 w)), .el (.sc (.fl .f32 a)), .el (.sc (.fl .f32 b)), .el (.sc (.int .i64 n))] = (match (decide (((xs.length : Int) : Int) > 1048576) : Bool) with
  | true => some ⟨[.el (.sc (.bo true))], none⟩
  | false => (match (Nat.ble xs.length big : Bool) with
    | true => (match (Nat.ble xs.length big : Bool) with
      | true => (match (!(sameF (wid (orZero (placeOk xs w a b n) (placeX (placeRun xs w a b n)))) (wid (orZero (placeOk xs w a b n) (placeX (placeRun xs w a b n))))) : Bool) with
        | true => some ⟨[.el (.sc (.bo false))], none⟩
        | false => (match (!((placeOk xs w a b n) == (placeOk xs w a b n)) : Bool) with
          | true => some ⟨[.el (.sc (.bo false))], none⟩
          | false => (match (Nat.ble xs.length big : Bool) with
            | true => (match (Nat.beq xs.length xs.length : Bool) with
              | true => (match (Nat.ble xs.length big : Bool) with
                | true => (match (!(all2 sameW xs xs) : Bool) with
                  | true => some ⟨[.el (.sc (.bo false))], none⟩
                  | false => some ⟨[.el (.sc (.bo true))], none⟩)
                | false => none)
              | false => some ⟨[.el (.sc (.bo false))], none⟩)
            | false => none)))
      | false => none)
    | false => none)) := by kernel_rfl
theorem s11 (xs : List Nat) (w : Nat) (a : Nat) (b : Nat) (n : Int) (h_xs : ∀ a ∈ xs, K.wf .f32 a) (g_xs : xs.length ≤ 140737488351232) (h_w : cn .f32 w = w ∧ w < 2 ^ 32) (h_a : cn .f32 a = a ∧ a < 2 ^ 32) (h_b : cn .f32 b = b ∧ b < 2 ^ 32) (h_n : -9223372036854775808 ≤ n ∧ n ≤ 9223372036854775807) : runFn T8 none0 noL Try.f11 [.vw none ⟨.f32, xs⟩, .el (.sc (.fl .f32 w)), .el (.sc (.fl .f32 a)), .el (.sc (.fl .f32 b)), .el (.sc (.int .i64 n))] = some ⟨[.el (.sc (.bo true))], none⟩ := by
  rw [e11]
  by_cases hs : xs.length ≤ 1048576
  · have hb : Nat.ble xs.length big = true := Nat.ble_eq_true_of_le (by unfold big; omega)
    have h1 : ¬ ((xs.length : Int) > 1048576) := by omega
    simp [hb, h1, sameF_refl, all2_refl sameW_refl]
  · have h1 : ((xs.length : Int) > 1048576) := by omega
    simp [h1]

theorem core11 (xs : List FV) (h : AKs (AK.fits Try.prog) [.sl .f32, .sc (.float .f32), .sc (.float .f32), .sc (.float .f32), .sc (.int .i64)] Try.f11.params.toList xs) : COK Try.prog 11 xs [.el (.sc (.bo true))] := by
  have hp : Try.f11.params.toList = [22, 37, 37, 37, 2] := by kernel_rfl
  rw [hp] at h
  obtain ⟨x0, x1, x2, x3, x4, rfl, hx0, hx1, hx2, hx3, hx4⟩ := aks5 h
  obtain ⟨xs, rfl, h_xs, i0⟩ := hx0
  have g_xs : xs.length ≤ 140737488351232 := Nat.le_trans (Nat.le_mul_of_pos_right _ (show 0 < Try.prog.bytesOf 37 by exact of_decide_eq_true (by kernel_rfl))) (i0 37 (by kernel_rfl))
  obtain ⟨s1, rfl, h1⟩ := hx1
  obtain ⟨w, rfl, h_w⟩ := fits_f32 h1
  obtain ⟨s2, rfl, h2⟩ := hx2
  obtain ⟨a, rfl, h_a⟩ := fits_f32 h2
  obtain ⟨s3, rfl, h3⟩ := hx3
  obtain ⟨b, rfl, h_b⟩ := fits_f32 h3
  obtain ⟨s4, rfl, h4⟩ := hx4
  obtain ⟨n, rfl, h_n⟩ := fits_i64 h4
  show COK Try.prog 11 [.vw none ⟨.f32, xs⟩, .el (.sc (.fl .f32 w)), .el (.sc (.fl .f32 a)), .el (.sc (.fl .f32 b)), .el (.sc (.int .i64 n))] [.el (.sc (.bo true))]
  exact fn_ok tok8 (A := none0) (L := noL) (r := none) Try.func11 (by kernel_rfl) (by kernel_rfl) (loops0 (by kernel_rfl)) (s11 xs w a b n h_xs g_xs h_w h_a h_b h_n)

end Go.Sm.Ytdnfgoolapikmaa
namespace Go.Proofs.Ytdnfgoolapikmaa
open Go.Sm Go.Sm.Ytdnfgoolapikmaa Go.ChangeShapes Go.WideShapes Go.ChangeAt Go.RowKit

set_option maxRecDepth 100000 in
theorem lifted11 (os : Os) (started : os.Started) (H : Type) (enc : TypeId × Value → H) :
    ReturnsInHanded {} Try.checked os 11 .any (Rows.fnExactPlaceOfSpec.pre6 enc Try.prog Try.f11 Rows.fnExactPlaceOfRow.domain false) (Rows.fnExactPlaceOfSpec.post enc Try.prog Try.f11 false true false false) :=
  law_lifted (C := Try.checked) (aks := [.sl .f32, .sc (.float .f32), .sc (.float .f32), .sc (.float .f32), .sc (.int .i64)]) (tb := 4) (by kernel_rfl) started (by kernel_rfl) Try.func11 (by kernel_rfl)
    (ChangeSpec.witness6 (enc := enc) (C := Try.checked) false ⟨#[], #[.slice none 0 0, .float .f32 0, .float .f32 0, .float .f32 0, .int .i64 0], []⟩ 8 (by kernel_rfl) (by kernel_rfl) (by kernel_rfl) (by kernel_rfl))
    (fun t ht => by
      have hb : Try.f11.params.toList.all (fun t => Try.prog.readableRec t && decide (t < Try.prog.types.size)) = true := by kernel_rfl
      have := List.all_eq_true.1 hb t ht
      rw [Bool.and_eq_true] at this
      exact ⟨this.1, of_decide_eq_true this.2⟩)
    (by kernel_rfl) (by kernel_rfl) rfl
    (fun ds hd => by
      have hp : Try.f11.params.size = 5 := by kernel_rfl
      rw [hp] at hd
      match ds, hd with
      | [d0, d1, d2, d3, d4], _ => rfl)
    (rowsB_ok (by kernel_rfl)) core11

/-- **THE LAW.** -/
theorem FnExactPlaceOf_holds : Rows.FnExactPlaceOfSaid :=
  OpenClaim.holds_of_wide 11 Try.f11 rfl rfl rfl rfl rfl rfl rfl ⟨rfl, rfl, rfl, rfl, rfl⟩ rfl rfl rfl rfl rfl (by kernel_rfl) Try.func11 (by kernel_rfl)
    (of_decide_eq_true (by kernel_rfl)) (by unfold Func.isWrapper; first | (rw [if_pos (by decide +kernel)]; kernel_rfl) | (rw [if_neg (by decide +kernel)]; exact ⟨rfl, rfl⟩))
    (fun os started H enc _ => lifted11 os started H enc)

end Go.Proofs.Ytdnfgoolapikmaa
