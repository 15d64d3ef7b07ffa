/- The law FnExactSpectraShared holds: whatever the input, it says true, and the input reads as it did. No condition. -/
import Derived.Test.YtdeplgocckdbiaaE12g
namespace Go.Proofs.Ytdeplgocckdbiaa
open Go.Sm Go.Sm.Ytdeplgocckdbiaa Go.ChangeShapes Go.WideShapes Go.ChangeAt Go.RowKit

theorem closed12 : joinedFacts Try.prog 12 Try.f12 Rows.fnExactSpectraSharedSpec Rows.fnExactSpectraSharedRow = true := by
  unfold joinedFacts
  simp only [jf12_0, jf12_1, jf12_2, jf12_3, jf12_4, jf12_5, jf12_6, jf12_7, jf12_8, jf12_9, jf12_10, jf12_11, jf12_12, jf12_13, jf12_14, jf12_15, jf12_16, jf12_17, jf12_18, jf12_19, jf12_20, jf12_21, jf12_22, jf12_23, jf12_24, jf12_25, jf12_26, jf12_27, jf12_29, jf12_30, jf12_31, Bool.and_self, Bool.true_and, Bool.and_true]
  kernel_rfl

/-- **THE LAW.** -/
theorem FnExactSpectraShared_holds : Rows.FnExactSpectraSharedSaid :=
  OpenClaim.holds_of_wide 12 Try.f12 rfl rfl rfl rfl rfl rfl rfl ⟨rfl, rfl, rfl, rfl, rfl⟩ rfl rfl rfl rfl rfl (by kernel_rfl) Try.func12 closed12
    (of_decide_eq_true (by kernel_rfl)) (by unfold Func.isWrapper; first | (rw [if_pos (by decide +kernel)]; kernel_rfl) | (rw [if_neg (by decide +kernel)]; exact ⟨rfl, rfl⟩))
    (fun os started H enc _ => lifted12 os started H enc)

end Go.Proofs.Ytdeplgocckdbiaa
