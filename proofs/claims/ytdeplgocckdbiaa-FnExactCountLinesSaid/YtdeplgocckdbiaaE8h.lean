/- The law FnExactCountLines holds: whatever the input, it says true, and the input reads as it did. No condition. -/
import Derived.Test.YtdeplgocckdbiaaE8g
namespace Go.Proofs.Ytdeplgocckdbiaa
open Go.Sm Go.Sm.Ytdeplgocckdbiaa Go.ChangeShapes Go.WideShapes Go.ChangeAt Go.RowKit

theorem closed8 : joinedFacts Try.prog 8 Try.f8 Rows.fnExactCountLinesSpec Rows.fnExactCountLinesRow = true := by
  unfold joinedFacts
  simp only [jf8_0, jf8_1, jf8_2, jf8_3, jf8_4, jf8_5, jf8_6, jf8_7, jf8_8, jf8_9, jf8_10, jf8_11, jf8_12, jf8_13, jf8_14, jf8_15, jf8_16, jf8_17, jf8_18, jf8_19, jf8_20, jf8_21, jf8_22, jf8_23, jf8_24, jf8_25, jf8_26, jf8_27, jf8_29, jf8_30, jf8_31, Bool.and_self, Bool.true_and, Bool.and_true]
  kernel_rfl

/-- **THE LAW.** -/
theorem FnExactCountLines_holds : Rows.FnExactCountLinesSaid :=
  OpenClaim.holds_of_wide 8 Try.f8 rfl rfl rfl rfl rfl rfl rfl ⟨rfl, rfl, rfl, rfl, rfl⟩ rfl rfl rfl rfl rfl (by kernel_rfl) Try.func8 closed8
    (of_decide_eq_true (by kernel_rfl)) (by unfold Func.isWrapper; first | (rw [if_pos (by decide +kernel)]; kernel_rfl) | (rw [if_neg (by decide +kernel)]; exact ⟨rfl, rfl⟩))
    (fun os started H enc _ => lifted8 os started H enc)

end Go.Proofs.Ytdeplgocckdbiaa
