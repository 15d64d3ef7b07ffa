/- The law FnExactLineAt holds: whatever the input, it says true, and the input reads as it did. No condition. -/
import Derived.Test.YtlkphfpkohabeaaD11
import Derived.Test.YtlkphfpkohabeaaRows
import Derived.ProofKit
namespace Go.Sm.Ytlkphfpkohabeaa
open Go Go.Sm Go.RowKit Go.ChangeShapes Go.WideShapes Go.ChangeAt Go.Proofs Go.Proofs.Ytlkphfpkohabeaa

theorem e6 (lp : Nat) (lh : Nat) (lw : Nat) (lk : Int) (x : Nat) : runFn T11 none0 noL Try.f6 [.el (.ag [(.fl .f32 lp), (.fl .f32 lh), (.fl .f32 lw), (.int .i64 lk)]), .el (.sc (.fl .f32 x))] = (match (!(sameF (wid (orZero (lineOk (((⟨lp, lh, lw, lk⟩ : LineV))) x) (lineV (((⟨lp, lh, lw, lk⟩ : LineV))) x))) (wid (orZero (lineOk (((⟨lp, lh, lw, lk⟩ : LineV))) x) (lineV (((⟨lp, lh, lw, lk⟩ : LineV))) x)))) : Bool) with
  | true => some ⟨[.el (.sc (.bo false))], none⟩
  | false => (match (!((lineOk (((⟨lp, lh, lw, lk⟩ : LineV))) x) == (lineOk (((⟨lp, lh, lw, lk⟩ : LineV))) x)) : Bool) with
    | true => some ⟨[.el (.sc (.bo false))], none⟩
    | false => some ⟨[.el (.sc (.bo true))], none⟩)) := by kernel_rfl
theorem s6 (lp : Nat) (lh : Nat) (lw : Nat) (lk : Int) (x : Nat) (h_l : K.wf .line (⟨lp, lh, lw, lk⟩ : LineV)) (h_x : cn .f32 x = x ∧ x < 2 ^ 32) : runFn T11 none0 noL Try.f6 [.el (.ag [(.fl .f32 lp), (.fl .f32 lh), (.fl .f32 lw), (.int .i64 lk)]), .el (.sc (.fl .f32 x))] = some ⟨[.el (.sc (.bo true))], none⟩ := by
  rw [e6]
  simp [sameF_refl]

theorem core6 (xs : List FV) (h : AKs (AK.fits Try.prog) [.ag .line, .sc (.float .f32)] Try.f6.params.toList xs) : COK Try.prog 6 xs [.el (.sc (.bo true))] := by
  have hp : Try.f6.params.toList = [46, 30] := by kernel_rfl
  rw [hp] at h
  obtain ⟨x0, x1, rfl, hx0, hx1⟩ := aks2 h
  obtain ⟨l, rfl, h_l⟩ := hx0
  obtain ⟨s1, rfl, h1⟩ := hx1
  obtain ⟨x, rfl, h_x⟩ := fits_f32 h1
  show COK Try.prog 6 [.el (.ag [(.fl .f32 l.p), (.fl .f32 l.h), (.fl .f32 l.w), (.int .i64 l.k)]), .el (.sc (.fl .f32 x))] [.el (.sc (.bo true))]
  exact fn_ok tok11 (A := none0) (L := noL) (r := none) Try.func6 (by kernel_rfl) (by kernel_rfl) (loops0 (by kernel_rfl)) (s6 l.p l.h l.w l.k x h_l h_x)

end Go.Sm.Ytlkphfpkohabeaa
namespace Go.Proofs.Ytlkphfpkohabeaa
open Go.Sm Go.Sm.Ytlkphfpkohabeaa Go.ChangeShapes Go.WideShapes Go.ChangeAt Go.RowKit

set_option maxRecDepth 100000 in
theorem lifted6 (os : Os) (started : os.Started) (H : Type) (enc : TypeId × Value → H) :
    ReturnsInHanded {} Try.checked os 6 .any (Rows.fnExactLineAtSpec.pre6 enc Try.prog Try.f6 Rows.fnExactLineAtRow.domain false) (Rows.fnExactLineAtSpec.post enc Try.prog Try.f6 false true false false) :=
  law_lifted (C := Try.checked) (aks := [.ag .line, .sc (.float .f32)]) (tb := 4) (by kernel_rfl) started (by kernel_rfl) Try.func6 (by kernel_rfl)
    (ChangeSpec.witness6 (enc := enc) (C := Try.checked) false ⟨#[], #[.agg #[.float .f32 0, .float .f32 0, .float .f32 0, .int .i64 0], .float .f32 0], []⟩ 8 (by kernel_rfl) (by kernel_rfl) (by kernel_rfl) (by kernel_rfl))
    (fun t ht => by
      have hb : Try.f6.params.toList.all (fun t => Try.prog.readableRec t && decide (t < Try.prog.types.size)) = true := by kernel_rfl
      have := List.all_eq_true.1 hb t ht
      rw [Bool.and_eq_true] at this
      exact ⟨this.1, of_decide_eq_true this.2⟩)
    (by kernel_rfl) (by kernel_rfl) rfl
    (fun ds hd => by
      have hp : Try.f6.params.size = 2 := by kernel_rfl
      rw [hp] at hd
      match ds, hd with
      | [d0, d1], _ => rfl)
    (rowsB_ok (by kernel_rfl)) core6

/-- **THE LAW.** -/
theorem FnExactLineAt_holds : Rows.FnExactLineAtSaid :=
  OpenClaim.holds_of_wide 6 Try.f6 rfl rfl rfl rfl rfl rfl rfl ⟨rfl, rfl, rfl, rfl, rfl⟩ rfl rfl rfl rfl rfl (by kernel_rfl) Try.func6 (by kernel_rfl)
    (of_decide_eq_true (by kernel_rfl)) (by unfold Func.isWrapper; first | (rw [if_pos (by decide +kernel)]; kernel_rfl) | (rw [if_neg (by decide +kernel)]; exact ⟨rfl, rfl⟩))
    (fun os started H enc _ => lifted6 os started H enc)

end Go.Proofs.Ytlkphfpkohabeaa
