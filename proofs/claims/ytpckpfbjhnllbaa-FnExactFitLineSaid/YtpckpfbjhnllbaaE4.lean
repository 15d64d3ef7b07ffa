/- The law FnExactFitLine holds: whatever the input, it says true, and the input reads as it did. No condition. -/
import Derived.Test.YtpckpfbjhnllbaaD14
import Derived.Test.YtpckpfbjhnllbaaRows
import Derived.ProofKit
namespace Go.Sm.Ytpckpfbjhnllbaa
open Go Go.Sm Go.RowKit Go.ChangeShapes Go.WideShapes Go.ChangeAt Go.Proofs Go.Proofs.Ytpckpfbjhnllbaa

theorem e4 (lp : Nat) (lh : Nat) (lw : Nat) (lk : Int) (ys : List Nat) (b : Nat) (d : Nat) (n : Int) : runFn T14 none0 noL Try.f4 [.el (.ag [(.fl .f32 lp), (.fl .f32 lh), (.fl .f32 lw), (.int .i64 lk)]), .vw none ⟨.f32, ys⟩, .el (.sc (.fl .f32 b)), .el (.sc (.fl .f32 d)), .el (.sc (.int .i64 n))] = (match (decide (((ys.length : Int) : Int) > 1048576) : Bool) with | true => some ⟨[.el (.sc (.bo true))], none⟩ | false => (match (Nat.ble ys.length big : Bool) with | true => (match (Nat.ble ys.length big : Bool) with | true => (match flS (((⟨lp, lh, lw, lk⟩ : LineV))) ys b d n with | some s_14 => (match (Nat.ble ys.length big : Bool) with | true => (match (Nat.ble ys.length big : Bool) with | true => (match flI (((⟨lp, lh, lw, lk⟩ : LineV))) ys b d n with | some s_15 => (match (!(eqLineF s_15.1 s_14.1) : Bool) with | true => some ⟨[.el (.sc (.bo false))], none⟩ | false => (match (!(sameF (wid s_15.2) (wid s_14.2)) : Bool) with | true => some ⟨[.el (.sc (.bo false))], none⟩ | false => (match (!(true == true) : Bool) with | true => some ⟨[.el (.sc (.bo false))], none⟩ | false => (match (Nat.ble ys.length big : Bool) with | true => (match (Nat.beq ys.length ys.length : Bool) with | true => (match (Nat.ble ys.length big : Bool) with | true => (match (!(all2 sameW ys ys) : Bool) with | true => some ⟨[.el (.sc (.bo false))], none⟩ | false => some ⟨[.el (.sc (.bo true))], none⟩) | false => none) | false => some ⟨[.el (.sc (.bo false))], none⟩) | false => none)))) | none => (match (!(eqLineF ((⟨0, 0, 0, 0⟩ : LineV)) s_14.1) : Bool) with | true => some ⟨[.el (.sc (.bo false))], none⟩ | false => (match (!(sameF (wid 0) (wid s_14.2)) : Bool) with | true => some ⟨[.el (.sc (.bo false))], none⟩ | false => (match (!(false == true) : Bool) with | true => some ⟨[.el (.sc (.bo false))], none⟩ | false => (match (Nat.ble ys.length big : Bool) with | true => (match (Nat.beq ys.length ys.length : Bool) with | true => (match (Nat.ble ys.length big : Bool) with | true => (match (!(all2 sameW ys ys) : Bool) with | true => some ⟨[.el (.sc (.bo false))], none⟩ | false => some ⟨[.el (.sc (.bo true))], none⟩) | false => none) | false => some ⟨[.el (.sc (.bo false))], none⟩) | false => none))))) | false => none) | false => none) | none => (match (Nat.ble ys.length big : Bool) with | true => (match (Nat.ble ys.length big : Bool) with | true => (match flI (((⟨lp, lh, lw, lk⟩ : LineV))) ys b d n with | some s_16 => (match (!(eqLineF s_16.1 ((⟨0, 0, 0, 0⟩ : LineV))) : Bool) with | true => some ⟨[.el (.sc (.bo false))], none⟩ | false => (match (!(sameF (wid s_16.2) (wid 0)) : Bool) with | true => some ⟨[.el (.sc (.bo false))], none⟩ | false => (match (!(true == false) : Bool) with | true => some ⟨[.el (.sc (.bo false))], none⟩ | false => (match (Nat.ble ys.length big : Bool) with | true => (match (Nat.beq ys.length ys.length : Bool) with | true => (match (Nat.ble ys.length big : Bool) with | true => (match (!(all2 sameW ys ys) : Bool) with | true => some ⟨[.el (.sc (.bo false))], none⟩ | false => some ⟨[.el (.sc (.bo true))], none⟩) | false => none) | false => some ⟨[.el (.sc (.bo false))], none⟩) | false => none)))) | none => (match (!(eqLineF ((⟨0, 0, 0, 0⟩ : LineV)) ((⟨0, 0, 0, 0⟩ : LineV))) : Bool) with | true => some ⟨[.el (.sc (.bo false))], none⟩ | false => (match (!(sameF (wid 0) (wid 0)) : Bool) with | true => some ⟨[.el (.sc (.bo false))], none⟩ | false => (match (!(false == false) : Bool) with | true => some ⟨[.el (.sc (.bo false))], none⟩ | false => (match (Nat.ble ys.length big : Bool) with | true => (match (Nat.beq ys.length ys.length : Bool) with | true => (match (Nat.ble ys.length big : Bool) with | true => (match (!(all2 sameW ys ys) : Bool) with | true => some ⟨[.el (.sc (.bo false))], none⟩ | false => some ⟨[.el (.sc (.bo true))], none⟩) | false => none) | false => some ⟨[.el (.sc (.bo false))], none⟩) | false => none))))) | false => none) | false => none)) | false => none) | false => none)) := by kernel_rfl
theorem s4 (lp : Nat) (lh : Nat) (lw : Nat) (lk : Int) (ys : List Nat) (b : Nat) (d : Nat) (n : Int) (h_l : K.wf .line (⟨lp, lh, lw, lk⟩ : LineV)) (h_ys : ∀ a ∈ ys, K.wf .f32 a) (g_ys : ys.length ≤ 140737488351232) (h_b : cn .f32 b = b ∧ b < 2 ^ 32) (h_d : cn .f32 d = d ∧ d < 2 ^ 32) (h_n : -9223372036854775808 ≤ n ∧ n ≤ 9223372036854775807) : runFn T14 none0 noL Try.f4 [.el (.ag [(.fl .f32 lp), (.fl .f32 lh), (.fl .f32 lw), (.int .i64 lk)]), .vw none ⟨.f32, ys⟩, .el (.sc (.fl .f32 b)), .el (.sc (.fl .f32 d)), .el (.sc (.int .i64 n))] = some ⟨[.el (.sc (.bo true))], none⟩ := by
  rw [e4]
  by_cases hs2 : (ys.length : Int) > 1048576
  · simp [hs2]
  · have hb : Nat.ble ys.length big = true := big_of (by omega)
    simp only [fl_same]
    cases flS (⟨lp, lh, lw, lk⟩ : LineV) ys b d n with
    | none => simp [hs2, hb, sameF_refl, eqLineF_refl, all2_refl sameW_refl, eqLineF]
    | some s => simp [hs2, hb, sameF_refl, eqLineF_refl, all2_refl sameW_refl, eqLineF]

theorem core4 (xs : List FV) (h : AKs (AK.fits Try.prog) [.ag .line, .sl .f32, .sc (.float .f32), .sc (.float .f32), .sc (.int .i64)] Try.f4.params.toList xs) : COK Try.prog 4 xs [.el (.sc (.bo true))] := by
  have hp : Try.f4.params.toList = [37, 23, 24, 24, 2] := by kernel_rfl
  rw [hp] at h
  obtain ⟨x0, x1, x2, x3, x4, rfl, hx0, hx1, hx2, hx3, hx4⟩ := aks5 h
  obtain ⟨l, rfl, h_l⟩ := hx0
  obtain ⟨ys, rfl, h_ys, i1⟩ := hx1
  have g_ys : ys.length ≤ 140737488351232 := Nat.le_trans (Nat.le_mul_of_pos_right _ (show 0 < Try.prog.bytesOf 24 by exact of_decide_eq_true (by kernel_rfl))) (i1 24 (by kernel_rfl))
  obtain ⟨s2, rfl, h2⟩ := hx2
  obtain ⟨b, rfl, h_b⟩ := fits_f32 h2
  obtain ⟨s3, rfl, h3⟩ := hx3
  obtain ⟨d, rfl, h_d⟩ := fits_f32 h3
  obtain ⟨s4, rfl, h4⟩ := hx4
  obtain ⟨n, rfl, h_n⟩ := fits_i64 h4
  show COK Try.prog 4 [.el (.ag [(.fl .f32 l.p), (.fl .f32 l.h), (.fl .f32 l.w), (.int .i64 l.k)]), .vw none ⟨.f32, ys⟩, .el (.sc (.fl .f32 b)), .el (.sc (.fl .f32 d)), .el (.sc (.int .i64 n))] [.el (.sc (.bo true))]
  exact fn_ok tok14 (A := none0) (L := noL) (r := none) Try.func4 (by kernel_rfl) (by kernel_rfl) (loops0 (by kernel_rfl)) (s4 l.p l.h l.w l.k ys b d n h_l h_ys g_ys h_b h_d h_n)

end Go.Sm.Ytpckpfbjhnllbaa
namespace Go.Proofs.Ytpckpfbjhnllbaa
open Go.Sm Go.Sm.Ytpckpfbjhnllbaa Go.ChangeShapes Go.WideShapes Go.ChangeAt Go.RowKit

set_option maxRecDepth 100000 in
theorem lifted4 (os : Os) (started : os.Started) (H : Type) (enc : TypeId × Value → H) :
    ReturnsInHanded {} Try.checked os 4 .any (Rows.fnExactFitLineSpec.pre6 enc Try.prog Try.f4 Rows.fnExactFitLineRow.domain false) (Rows.fnExactFitLineSpec.post enc Try.prog Try.f4 false true false false) :=
  law_lifted (C := Try.checked) (aks := [.ag .line, .sl .f32, .sc (.float .f32), .sc (.float .f32), .sc (.int .i64)]) (tb := 4) (by kernel_rfl) started (by kernel_rfl) Try.func4 (by kernel_rfl)
    (ChangeSpec.witness6 (enc := enc) (C := Try.checked) false ⟨#[], #[.agg #[.float .f32 0, .float .f32 0, .float .f32 0, .int .i64 0], .slice none 0 0, .float .f32 0, .float .f32 0, .int .i64 0], []⟩ 8 (by kernel_rfl) (by kernel_rfl) (by kernel_rfl) (by kernel_rfl))
    (fun t ht => by
      have hb : Try.f4.params.toList.all (fun t => Try.prog.readableRec t && decide (t < Try.prog.types.size)) = true := by kernel_rfl
      have := List.all_eq_true.1 hb t ht
      rw [Bool.and_eq_true] at this
      exact ⟨this.1, of_decide_eq_true this.2⟩)
    (by kernel_rfl) (by kernel_rfl) rfl
    (fun ds hd => by
      have hp : Try.f4.params.size = 5 := by kernel_rfl
      rw [hp] at hd
      match ds, hd with
      | [d0, d1, d2, d3, d4], _ => rfl)
    (rowsB_ok (by kernel_rfl)) core4

/-- **THE LAW.** -/
theorem FnExactFitLine_holds : Rows.FnExactFitLineSaid :=
  OpenClaim.holds_of_wide 4 Try.f4 rfl rfl rfl rfl rfl rfl rfl ⟨rfl, rfl, rfl, rfl, rfl⟩ rfl rfl rfl rfl rfl (by kernel_rfl) Try.func4 (by kernel_rfl)
    (of_decide_eq_true (by kernel_rfl)) (by unfold Func.isWrapper; first | (rw [if_pos (by decide +kernel)]; kernel_rfl) | (rw [if_neg (by decide +kernel)]; exact ⟨rfl, rfl⟩))
    (fun os started H enc _ => lifted4 os started H enc)

end Go.Proofs.Ytpckpfbjhnllbaa
