/- The law FnExactSpectraShared holds: whatever the input, it says true, and the input reads as it did. No condition. -/
import Derived.Test.YtdeplgocckdbiaaE12
import Derived.KernelRfl
namespace Go.Proofs.Ytdeplgocckdbiaa
open Go.Sm Go.Sm.Ytdeplgocckdbiaa Go.ChangeShapes Go.WideShapes Go.ChangeAt Go.RowKit

theorem jf12_0 : (Rows.fnExactSpectraSharedRow.wf (OpenSpec.ofChange Rows.fnExactSpectraSharedSpec)) = true := by kernel_rfl
theorem jf12_1 : (laidOutB Try.prog) = true := by kernel_rfl
theorem jf12_2 : (mapsRowed Try.prog) = true := by kernel_rfl
theorem jf12_3 : (Try.f12.params.all (Try.prog.readableRec ·)) = true := by kernel_rfl
theorem jf12_4 : (namedTie Try.prog Rows.fnExactSpectraSharedRow.named Rows.fnExactSpectraSharedSpec.vars) = true := by kernel_rfl
theorem jf12_5 : ((Rows.fnExactSpectraSharedRow.stops == [])) = true := by kernel_rfl
theorem jf12_6 : ((Try.prog.stops == [])) = true := by kernel_rfl
theorem jf12_7 : ((Rows.fnExactSpectraSharedRow.knobs == [])) = true := by kernel_rfl
theorem jf12_8 : ((Try.prog.stopKnobs == [])) = true := by kernel_rfl
theorem jf12_9 : ((Rows.fnExactSpectraSharedRow.inPlace == Try.prog.inPlace 12)) = true := by kernel_rfl
theorem jf12_10 : ((Rows.fnExactSpectraSharedRow.unfollowed == Try.prog.unfollowed 12)) = true := by kernel_rfl
theorem jf12_11 : ((Rows.fnExactSpectraSharedRow.recurses == Try.prog.recurses 12)) = true := by kernel_rfl
theorem jf12_12 : ((Rows.fnExactSpectraSharedRow.named == Try.prog.varsNamed 12)) = true := by kernel_rfl
theorem jf12_13 : ((Rows.fnExactSpectraSharedRow.maps == (Try.f12.params.toList ++ Rows.fnExactSpectraSharedSpec.plain.varTypes Try.prog).any (Try.prog.mapsRec ·))) = true := by kernel_rfl
theorem jf12_14 : ((Rows.fnExactSpectraSharedRow.ifaces == (Try.f12.params.toList ++ Rows.fnExactSpectraSharedSpec.plain.varTypes Try.prog).any (Try.prog.ifacesRec ·))) = true := by kernel_rfl
theorem jf12_15 : ((Rows.fnExactSpectraSharedRow.mapsOut == Try.prog.mapsAmong Try.f12.resultTypes.toList)) = true := by kernel_rfl
theorem jf12_16 : ((Rows.fnExactSpectraSharedRow.loops == (Try.f12.params.toList ++ Rows.fnExactSpectraSharedSpec.plain.varTypes Try.prog).any (Try.prog.loopsFrom ·))) = true := by kernel_rfl
theorem jf12_17 : ((Rows.fnExactSpectraSharedRow.wideKeys == (Try.f12.params.toList ++ Rows.fnExactSpectraSharedSpec.plain.varTypes Try.prog ++ Try.f12.resultTypes.toList).any (Try.prog.wideKeysFrom ·))) = true := by kernel_rfl
theorem jf12_18 : (Rows.fnExactSpectraSharedSpec.vars.all (Try.prog.varReadable ·)) = true := by kernel_rfl
theorem jf12_19 : (Try.f12.resultTypes.all (fun t => Try.prog.readableRec t && decide (t < Try.prog.types.size))) = true := by kernel_rfl
theorem jf12_20 : ((Rows.fnExactSpectraSharedRow.ifacesOut == Try.f12.resultTypes.toList.any (Try.prog.ifacesRec ·))) = true := by kernel_rfl
theorem jf12_21 : ((Rows.fnExactSpectraSharedRow.loopsOut == Try.f12.resultTypes.toList.any (Try.prog.loopsFrom ·))) = true := by kernel_rfl
theorem jf12_22 : ((Rows.fnExactSpectraSharedRow.plainKeys == Try.prog.plainKeys)) = true := by kernel_rfl
theorem jf12_23 : (Rows.fnExactSpectraSharedRow.shortTexts.isNone) = true := by kernel_rfl
theorem jf12_24 : (Try.prog.stopsHeard) = true := by kernel_rfl
theorem jf12_25 : (Try.prog.mayEnter) = true := by kernel_rfl
theorem jf12_26 : ((Rows.fnExactSpectraSharedRow.lifted == Try.prog.liftsFinal)) = true := by kernel_rfl
theorem jf12_27 : ((Try.prog.make == some Rows.fnExactSpectraSharedRow.make)) = true := by kernel_rfl
theorem jf12_28 : ((Rows.fnExactSpectraSharedRow.kinds == (if Rows.fnExactSpectraSharedRow.domain.isEmpty then [] else Try.f12.params.toList.map fun t => match Try.prog.underlying t with | some (.int k) => some k | _ => none))) = true := by kernel_rfl
theorem jf12_29 : ((Rows.fnExactSpectraSharedRow.pinned == Rows.fnExactSpectraSharedRow.pinnedBy)) = true := by kernel_rfl
theorem jf12_30 : ((Rows.fnExactSpectraSharedRow.veiled == (Try.f12.params.toList ++ Rows.fnExactSpectraSharedSpec.plain.varTypes Try.prog ++ Try.f12.resultTypes.toList).any (Try.prog.veiledRec ·))) = true := by kernel_rfl
theorem jf12_31 : (Rows.fnExactSpectraSharedRow.veiledFits Try.prog Try.f12.params.toList (Try.f12.params.toList ++ Rows.fnExactSpectraSharedSpec.plain.varTypes Try.prog ++ Try.f12.resultTypes.toList)) = true := by kernel_rfl

end Go.Proofs.Ytdeplgocckdbiaa
