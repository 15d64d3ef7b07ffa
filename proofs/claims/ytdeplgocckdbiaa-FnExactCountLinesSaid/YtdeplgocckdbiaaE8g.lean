/- The law FnExactCountLines holds: whatever the input, it says true, and the input reads as it did. No condition. -/
import Derived.Test.YtdeplgocckdbiaaE8
import Derived.KernelRfl
namespace Go.Proofs.Ytdeplgocckdbiaa
open Go.Sm Go.Sm.Ytdeplgocckdbiaa Go.ChangeShapes Go.WideShapes Go.ChangeAt Go.RowKit

theorem jf8_0 : (Rows.fnExactCountLinesRow.wf (OpenSpec.ofChange Rows.fnExactCountLinesSpec)) = true := by kernel_rfl
theorem jf8_1 : (laidOutB Try.prog) = true := by kernel_rfl
theorem jf8_2 : (mapsRowed Try.prog) = true := by kernel_rfl
theorem jf8_3 : (Try.f8.params.all (Try.prog.readableRec ·)) = true := by kernel_rfl
theorem jf8_4 : (namedTie Try.prog Rows.fnExactCountLinesRow.named Rows.fnExactCountLinesSpec.vars) = true := by kernel_rfl
theorem jf8_5 : ((Rows.fnExactCountLinesRow.stops == [])) = true := by kernel_rfl
theorem jf8_6 : ((Try.prog.stops == [])) = true := by kernel_rfl
theorem jf8_7 : ((Rows.fnExactCountLinesRow.knobs == [])) = true := by kernel_rfl
theorem jf8_8 : ((Try.prog.stopKnobs == [])) = true := by kernel_rfl
theorem jf8_9 : ((Rows.fnExactCountLinesRow.inPlace == Try.prog.inPlace 8)) = true := by kernel_rfl
theorem jf8_10 : ((Rows.fnExactCountLinesRow.unfollowed == Try.prog.unfollowed 8)) = true := by kernel_rfl
theorem jf8_11 : ((Rows.fnExactCountLinesRow.recurses == Try.prog.recurses 8)) = true := by kernel_rfl
theorem jf8_12 : ((Rows.fnExactCountLinesRow.named == Try.prog.varsNamed 8)) = true := by kernel_rfl
theorem jf8_13 : ((Rows.fnExactCountLinesRow.maps == (Try.f8.params.toList ++ Rows.fnExactCountLinesSpec.plain.varTypes Try.prog).any (Try.prog.mapsRec ·))) = true := by kernel_rfl
theorem jf8_14 : ((Rows.fnExactCountLinesRow.ifaces == (Try.f8.params.toList ++ Rows.fnExactCountLinesSpec.plain.varTypes Try.prog).any (Try.prog.ifacesRec ·))) = true := by kernel_rfl
theorem jf8_15 : ((Rows.fnExactCountLinesRow.mapsOut == Try.prog.mapsAmong Try.f8.resultTypes.toList)) = true := by kernel_rfl
theorem jf8_16 : ((Rows.fnExactCountLinesRow.loops == (Try.f8.params.toList ++ Rows.fnExactCountLinesSpec.plain.varTypes Try.prog).any (Try.prog.loopsFrom ·))) = true := by kernel_rfl
theorem jf8_17 : ((Rows.fnExactCountLinesRow.wideKeys == (Try.f8.params.toList ++ Rows.fnExactCountLinesSpec.plain.varTypes Try.prog ++ Try.f8.resultTypes.toList).any (Try.prog.wideKeysFrom ·))) = true := by kernel_rfl
theorem jf8_18 : (Rows.fnExactCountLinesSpec.vars.all (Try.prog.varReadable ·)) = true := by kernel_rfl
theorem jf8_19 : (Try.f8.resultTypes.all (fun t => Try.prog.readableRec t && decide (t < Try.prog.types.size))) = true := by kernel_rfl
theorem jf8_20 : ((Rows.fnExactCountLinesRow.ifacesOut == Try.f8.resultTypes.toList.any (Try.prog.ifacesRec ·))) = true := by kernel_rfl
theorem jf8_21 : ((Rows.fnExactCountLinesRow.loopsOut == Try.f8.resultTypes.toList.any (Try.prog.loopsFrom ·))) = true := by kernel_rfl
theorem jf8_22 : ((Rows.fnExactCountLinesRow.plainKeys == Try.prog.plainKeys)) = true := by kernel_rfl
theorem jf8_23 : (Rows.fnExactCountLinesRow.shortTexts.isNone) = true := by kernel_rfl
theorem jf8_24 : (Try.prog.stopsHeard) = true := by kernel_rfl
theorem jf8_25 : (Try.prog.mayEnter) = true := by kernel_rfl
theorem jf8_26 : ((Rows.fnExactCountLinesRow.lifted == Try.prog.liftsFinal)) = true := by kernel_rfl
theorem jf8_27 : ((Try.prog.make == some Rows.fnExactCountLinesRow.make)) = true := by kernel_rfl
theorem jf8_28 : ((Rows.fnExactCountLinesRow.kinds == (if Rows.fnExactCountLinesRow.domain.isEmpty then [] else Try.f8.params.toList.map fun t => match Try.prog.underlying t with | some (.int k) => some k | _ => none))) = true := by kernel_rfl
theorem jf8_29 : ((Rows.fnExactCountLinesRow.pinned == Rows.fnExactCountLinesRow.pinnedBy)) = true := by kernel_rfl
theorem jf8_30 : ((Rows.fnExactCountLinesRow.veiled == (Try.f8.params.toList ++ Rows.fnExactCountLinesSpec.plain.varTypes Try.prog ++ Try.f8.resultTypes.toList).any (Try.prog.veiledRec ·))) = true := by kernel_rfl
theorem jf8_31 : (Rows.fnExactCountLinesRow.veiledFits Try.prog Try.f8.params.toList (Try.f8.params.toList ++ Rows.fnExactCountLinesSpec.plain.varTypes Try.prog ++ Try.f8.resultTypes.toList)) = true := by kernel_rfl

end Go.Proofs.Ytdeplgocckdbiaa
