/-
  No cell of these rows narrows 'for every input' (looked for: loops, veiled, ifaces, maps, wideKeys, modest, calm, conditions, laid).
  DERIVED. THE GIVEN ROWS OF THIS SEAT. 12 by the template 'for every input the law returns true; each argument reads behind the call as it read before'; 0 by the template 'total and deterministic' (their statements: YtlkphfpkohabeaaTotals.lean).
  GIVEN WITH THE SEED: the statements are not yours to turn. If you find one false, say at which input.
  Laid BY PROGRAM, IN A SANDBOX (cutbox-rows.mjs): the forced cells as the released guide's own fill.sh prints them over the translation 24ffceb8166e7253… (all of the seat's roots in one cut). By AI agents, Wed Nov 11 2026. No macro, syntax, notation, axiom, sorry.
-/
import Derived.Test.YtlkphfpkohabeaaChecked
import GoSem.Claim
import GoSem.ClaimJoined
import GoSem.ClaimMapViews
import Derived.JoinedTies
import Derived.KernelRfl
namespace Go.Proofs.Ytlkphfpkohabeaa
/- THE CELL 'sum', in the pinned program and in every row, IS THE sha256 OF THE DUMP (.gsa) THAT YtlkphfpkohabeaaProg.lean LOADS. Nothing in Lean hashes anything: it is a label: what it is worth is what the hold of that sum in a sandbox is worth. -/
noncomputable def Try.pinned : Pinned := { name := "ytlkphfpkohabeaa", sum := "24ffceb8166e725328e3ec992663f2732d6dd3fdba3cbf65439672ca5fc27c29", checked := Try.checked }
namespace Rows
def none {H : Type} : Left H := { results := [], args := [] }

/-- 'laws.FnExactStitchLists': WHATEVER THE INPUT: true; the input reads as it did. -/
def fnExactStitchListsSpec : ChangeSpec := { name := "fnExactStitchLists", fn := fun _ => fun
  | [d1, d2, d3] => { results := [.lit (.bool true)], args := [d1, d2, d3] }
  | _ => none }
def fnExactStitchListsRow : OpenClaim := { program := "ytlkphfpkohabeaa", sum := "24ffceb8166e725328e3ec992663f2732d6dd3fdba3cbf65439672ca5fc27c29", func := "loop.example/g01403/laws.FnExactStitchLists", spec := "fnExactStitchLists", unfollowed := true, recurses := true, apart := false }
def FnExactStitchListsSaid : Prop := fnExactStitchListsRow.holds Try.pinned (OpenSpec.ofChange fnExactStitchListsSpec)

/-- ITS FALSE NEIGHBOUR: 'it returns false'. Refute it at one input. -/
def fnExactStitchListsWrong : ChangeSpec := { name := "fnExactStitchLists", fn := fun _ => fun
  | [d1, d2, d3] => { results := [.lit (.bool false)], args := [d1, d2, d3] }
  | _ => none }
def FnExactStitchListsWrongFalsely : Prop := fnExactStitchListsRow.holds Try.pinned (OpenSpec.ofChange fnExactStitchListsWrong)

/-- 'laws.FnExactShiftLines': WHATEVER THE INPUT: true; the input reads as it did. -/
def fnExactShiftLinesSpec : ChangeSpec := { name := "fnExactShiftLines", fn := fun _ => fun
  | [d1, d2, d3] => { results := [.lit (.bool true)], args := [d1, d2, d3] }
  | _ => none }
def fnExactShiftLinesRow : OpenClaim := { program := "ytlkphfpkohabeaa", sum := "24ffceb8166e725328e3ec992663f2732d6dd3fdba3cbf65439672ca5fc27c29", func := "loop.example/g01403/laws.FnExactShiftLines", spec := "fnExactShiftLines", unfollowed := true, recurses := true, apart := false }
def FnExactShiftLinesSaid : Prop := fnExactShiftLinesRow.holds Try.pinned (OpenSpec.ofChange fnExactShiftLinesSpec)

/-- ITS FALSE NEIGHBOUR: 'it returns false'. Refute it at one input. -/
def fnExactShiftLinesWrong : ChangeSpec := { name := "fnExactShiftLines", fn := fun _ => fun
  | [d1, d2, d3] => { results := [.lit (.bool false)], args := [d1, d2, d3] }
  | _ => none }
def FnExactShiftLinesWrongFalsely : Prop := fnExactShiftLinesRow.holds Try.pinned (OpenSpec.ofChange fnExactShiftLinesWrong)

/-- 'laws.FnExactMatchLines': WHATEVER THE INPUT: true; the input reads as it did. -/
def fnExactMatchLinesSpec : ChangeSpec := { name := "fnExactMatchLines", fn := fun _ => fun
  | [d1, d2, d3] => { results := [.lit (.bool true)], args := [d1, d2, d3] }
  | _ => none }
def fnExactMatchLinesRow : OpenClaim := { program := "ytlkphfpkohabeaa", sum := "24ffceb8166e725328e3ec992663f2732d6dd3fdba3cbf65439672ca5fc27c29", func := "loop.example/g01403/laws.FnExactMatchLines", spec := "fnExactMatchLines", unfollowed := true, recurses := true, apart := false }
def FnExactMatchLinesSaid : Prop := fnExactMatchLinesRow.holds Try.pinned (OpenSpec.ofChange fnExactMatchLinesSpec)

/-- ITS FALSE NEIGHBOUR: 'it returns false'. Refute it at one input. -/
def fnExactMatchLinesWrong : ChangeSpec := { name := "fnExactMatchLines", fn := fun _ => fun
  | [d1, d2, d3] => { results := [.lit (.bool false)], args := [d1, d2, d3] }
  | _ => none }
def FnExactMatchLinesWrongFalsely : Prop := fnExactMatchLinesRow.holds Try.pinned (OpenSpec.ofChange fnExactMatchLinesWrong)

/-- 'laws.FnExactLineAt': WHATEVER THE INPUT: true; the input reads as it did. -/
def fnExactLineAtSpec : ChangeSpec := { name := "fnExactLineAt", fn := fun _ => fun
  | [d1, d2] => { results := [.lit (.bool true)], args := [d1, d2] }
  | _ => none }
def fnExactLineAtRow : OpenClaim := { program := "ytlkphfpkohabeaa", sum := "24ffceb8166e725328e3ec992663f2732d6dd3fdba3cbf65439672ca5fc27c29", func := "loop.example/g01403/laws.FnExactLineAt", spec := "fnExactLineAt", inPlace := ["math.Float64frombits"], unfollowed := true, recurses := true, apart := false }
def FnExactLineAtSaid : Prop := fnExactLineAtRow.holds Try.pinned (OpenSpec.ofChange fnExactLineAtSpec)

/-- ITS FALSE NEIGHBOUR: 'it returns false'. Refute it at one input. -/
def fnExactLineAtWrong : ChangeSpec := { name := "fnExactLineAt", fn := fun _ => fun
  | [d1, d2] => { results := [.lit (.bool false)], args := [d1, d2] }
  | _ => none }
def FnExactLineAtWrongFalsely : Prop := fnExactLineAtRow.holds Try.pinned (OpenSpec.ofChange fnExactLineAtWrong)

/-- 'laws.FnExactNoiseRatio': WHATEVER THE INPUT: true; the input reads as it did. -/
def fnExactNoiseRatioSpec : ChangeSpec := { name := "fnExactNoiseRatio", fn := fun _ => fun
  | [d1, d2, d3] => { results := [.lit (.bool true)], args := [d1, d2, d3] }
  | _ => none }
def fnExactNoiseRatioRow : OpenClaim := { program := "ytlkphfpkohabeaa", sum := "24ffceb8166e725328e3ec992663f2732d6dd3fdba3cbf65439672ca5fc27c29", func := "loop.example/g01403/laws.FnExactNoiseRatio", spec := "fnExactNoiseRatio", inPlace := ["math.sqrt"], unfollowed := true, recurses := true, apart := false }
def FnExactNoiseRatioSaid : Prop := fnExactNoiseRatioRow.holds Try.pinned (OpenSpec.ofChange fnExactNoiseRatioSpec)

/-- ITS FALSE NEIGHBOUR: 'it returns false'. Refute it at one input. -/
def fnExactNoiseRatioWrong : ChangeSpec := { name := "fnExactNoiseRatio", fn := fun _ => fun
  | [d1, d2, d3] => { results := [.lit (.bool false)], args := [d1, d2, d3] }
  | _ => none }
def FnExactNoiseRatioWrongFalsely : Prop := fnExactNoiseRatioRow.holds Try.pinned (OpenSpec.ofChange fnExactNoiseRatioWrong)

/-- 'laws.FnExactDepthOf': WHATEVER THE INPUT: true; the input reads as it did. -/
def fnExactDepthOfSpec : ChangeSpec := { name := "fnExactDepthOf", fn := fun _ => fun
  | [d1, d2] => { results := [.lit (.bool true)], args := [d1, d2] }
  | _ => none }
def fnExactDepthOfRow : OpenClaim := { program := "ytlkphfpkohabeaa", sum := "24ffceb8166e725328e3ec992663f2732d6dd3fdba3cbf65439672ca5fc27c29", func := "loop.example/g01403/laws.FnExactDepthOf", spec := "fnExactDepthOf", inPlace := ["math.Float64frombits", "math.Float64bits"], unfollowed := true, recurses := true, apart := false }
def FnExactDepthOfSaid : Prop := fnExactDepthOfRow.holds Try.pinned (OpenSpec.ofChange fnExactDepthOfSpec)

/-- ITS FALSE NEIGHBOUR: 'it returns false'. Refute it at one input. -/
def fnExactDepthOfWrong : ChangeSpec := { name := "fnExactDepthOf", fn := fun _ => fun
  | [d1, d2] => { results := [.lit (.bool false)], args := [d1, d2] }
  | _ => none }
def FnExactDepthOfWrongFalsely : Prop := fnExactDepthOfRow.holds Try.pinned (OpenSpec.ofChange fnExactDepthOfWrong)

/-- 'laws.FnExactEdgeLevels': WHATEVER THE INPUT: true; the input reads as it did. -/
def fnExactEdgeLevelsSpec : ChangeSpec := { name := "fnExactEdgeLevels", fn := fun _ => fun
  | [d1, d2] => { results := [.lit (.bool true)], args := [d1, d2] }
  | _ => none }
def fnExactEdgeLevelsRow : OpenClaim := { program := "ytlkphfpkohabeaa", sum := "24ffceb8166e725328e3ec992663f2732d6dd3fdba3cbf65439672ca5fc27c29", func := "loop.example/g01403/laws.FnExactEdgeLevels", spec := "fnExactEdgeLevels", unfollowed := true, recurses := true, apart := false }
def FnExactEdgeLevelsSaid : Prop := fnExactEdgeLevelsRow.holds Try.pinned (OpenSpec.ofChange fnExactEdgeLevelsSpec)

/-- ITS FALSE NEIGHBOUR: 'it returns false'. Refute it at one input. -/
def fnExactEdgeLevelsWrong : ChangeSpec := { name := "fnExactEdgeLevels", fn := fun _ => fun
  | [d1, d2] => { results := [.lit (.bool false)], args := [d1, d2] }
  | _ => none }
def FnExactEdgeLevelsWrongFalsely : Prop := fnExactEdgeLevelsRow.holds Try.pinned (OpenSpec.ofChange fnExactEdgeLevelsWrong)

/-- 'laws.FnExactWorstRing': WHATEVER THE INPUT: true; the input reads as it did. -/
def fnExactWorstRingSpec : ChangeSpec := { name := "fnExactWorstRing", fn := fun _ => fun
  | [d1, d2] => { results := [.lit (.bool true)], args := [d1, d2] }
  | _ => none }
def fnExactWorstRingRow : OpenClaim := { program := "ytlkphfpkohabeaa", sum := "24ffceb8166e725328e3ec992663f2732d6dd3fdba3cbf65439672ca5fc27c29", func := "loop.example/g01403/laws.FnExactWorstRing", spec := "fnExactWorstRing", unfollowed := true, recurses := true, apart := false }
def FnExactWorstRingSaid : Prop := fnExactWorstRingRow.holds Try.pinned (OpenSpec.ofChange fnExactWorstRingSpec)

/-- ITS FALSE NEIGHBOUR: 'it returns false'. Refute it at one input. -/
def fnExactWorstRingWrong : ChangeSpec := { name := "fnExactWorstRing", fn := fun _ => fun
  | [d1, d2] => { results := [.lit (.bool false)], args := [d1, d2] }
  | _ => none }
def FnExactWorstRingWrongFalsely : Prop := fnExactWorstRingRow.holds Try.pinned (OpenSpec.ofChange fnExactWorstRingWrong)

/-- 'laws.FnExactLampRests': WHATEVER THE INPUT: true; the input reads as it did. -/
def fnExactLampRestsSpec : ChangeSpec := { name := "fnExactLampRests", fn := fun _ => fun
  | [d1, d2, d3] => { results := [.lit (.bool true)], args := [d1, d2, d3] }
  | _ => none }
def fnExactLampRestsRow : OpenClaim := { program := "ytlkphfpkohabeaa", sum := "24ffceb8166e725328e3ec992663f2732d6dd3fdba3cbf65439672ca5fc27c29", func := "loop.example/g01403/laws.FnExactLampRests", spec := "fnExactLampRests", inPlace := ["math.sqrt"], unfollowed := true, recurses := true, apart := false }
def FnExactLampRestsSaid : Prop := fnExactLampRestsRow.holds Try.pinned (OpenSpec.ofChange fnExactLampRestsSpec)

/-- ITS FALSE NEIGHBOUR: 'it returns false'. Refute it at one input. -/
def fnExactLampRestsWrong : ChangeSpec := { name := "fnExactLampRests", fn := fun _ => fun
  | [d1, d2, d3] => { results := [.lit (.bool false)], args := [d1, d2, d3] }
  | _ => none }
def FnExactLampRestsWrongFalsely : Prop := fnExactLampRestsRow.holds Try.pinned (OpenSpec.ofChange fnExactLampRestsWrong)

/-- 'laws.FnExactLampCurve': WHATEVER THE INPUT: true; the input reads as it did. -/
def fnExactLampCurveSpec : ChangeSpec := { name := "fnExactLampCurve", fn := fun _ => fun
  | [d1, d2] => { results := [.lit (.bool true)], args := [d1, d2] }
  | _ => none }
def fnExactLampCurveRow : OpenClaim := { program := "ytlkphfpkohabeaa", sum := "24ffceb8166e725328e3ec992663f2732d6dd3fdba3cbf65439672ca5fc27c29", func := "loop.example/g01403/laws.FnExactLampCurve", spec := "fnExactLampCurve", unfollowed := true, recurses := true, apart := false }
def FnExactLampCurveSaid : Prop := fnExactLampCurveRow.holds Try.pinned (OpenSpec.ofChange fnExactLampCurveSpec)

/-- ITS FALSE NEIGHBOUR: 'it returns false'. Refute it at one input. -/
def fnExactLampCurveWrong : ChangeSpec := { name := "fnExactLampCurve", fn := fun _ => fun
  | [d1, d2] => { results := [.lit (.bool false)], args := [d1, d2] }
  | _ => none }
def FnExactLampCurveWrongFalsely : Prop := fnExactLampCurveRow.holds Try.pinned (OpenSpec.ofChange fnExactLampCurveWrong)

/-- 'laws.FnExactLinesAt': WHATEVER THE INPUT: true; the input reads as it did. -/
def fnExactLinesAtSpec : ChangeSpec := { name := "fnExactLinesAt", fn := fun _ => fun
  | [d1, d2] => { results := [.lit (.bool true)], args := [d1, d2] }
  | _ => none }
def fnExactLinesAtRow : OpenClaim := { program := "ytlkphfpkohabeaa", sum := "24ffceb8166e725328e3ec992663f2732d6dd3fdba3cbf65439672ca5fc27c29", func := "loop.example/g01403/laws.FnExactLinesAt", spec := "fnExactLinesAt", inPlace := ["math.Float64frombits"], unfollowed := true, recurses := true, apart := false }
def FnExactLinesAtSaid : Prop := fnExactLinesAtRow.holds Try.pinned (OpenSpec.ofChange fnExactLinesAtSpec)

/-- ITS FALSE NEIGHBOUR: 'it returns false'. Refute it at one input. -/
def fnExactLinesAtWrong : ChangeSpec := { name := "fnExactLinesAt", fn := fun _ => fun
  | [d1, d2] => { results := [.lit (.bool false)], args := [d1, d2] }
  | _ => none }
def FnExactLinesAtWrongFalsely : Prop := fnExactLinesAtRow.holds Try.pinned (OpenSpec.ofChange fnExactLinesAtWrong)

/-- 'laws.FnExactScanOf': WHATEVER THE INPUT: true; the input reads as it did. -/
def fnExactScanOfSpec : ChangeSpec := { name := "fnExactScanOf", fn := fun _ => fun
  | [d1, d2, d3, d4] => { results := [.lit (.bool true)], args := [d1, d2, d3, d4] }
  | _ => none }
def fnExactScanOfRow : OpenClaim := { program := "ytlkphfpkohabeaa", sum := "24ffceb8166e725328e3ec992663f2732d6dd3fdba3cbf65439672ca5fc27c29", func := "loop.example/g01403/laws.FnExactScanOf", spec := "fnExactScanOf", inPlace := ["math.Float32frombits", "math.Float64frombits", "math.Float64bits", "math.archTrunc"], unfollowed := true, recurses := true, apart := false }
def FnExactScanOfSaid : Prop := fnExactScanOfRow.holds Try.pinned (OpenSpec.ofChange fnExactScanOfSpec)

/-- ITS FALSE NEIGHBOUR: 'it returns false'. Refute it at one input. -/
def fnExactScanOfWrong : ChangeSpec := { name := "fnExactScanOf", fn := fun _ => fun
  | [d1, d2, d3, d4] => { results := [.lit (.bool false)], args := [d1, d2, d3, d4] }
  | _ => none }
def FnExactScanOfWrongFalsely : Prop := fnExactScanOfRow.holds Try.pinned (OpenSpec.ofChange fnExactScanOfWrong)

/- THE SECOND FORM. 'bulk': how many values and letters a reading holds, each counted each time it is reached (what is shared counts as often as it is met; a slice's spare places count too). A statement '..UptoSaid' is the law's where the arguments, and the package variables that the reading takes, are together of bulk at most 1048576: NARROWER than '..Said'. Prove '..Said' where nothing that the law and all that it calls make is longer than what came in: it says more and counts as full. Else prove '..UptoSaid'. A law counts once. -/
mutual
def uptoBulk {H : Type} : DataW H → Nat
  | .lit (.string bytes) => bytes.length + 1
  | .lit _ => 1
  | .nil => 1
  | .ptr d => uptoBulk d + 1
  | .slice elems spare => uptoBulkAll elems + uptoBulkAll spare + 1
  | .agg parts => uptoBulkAll parts + 1
  | .iface _ d => uptoBulk d + 1
  | .map entries => uptoBulkEntries entries + 1
  | .held _ => 1
def uptoBulkAll {H : Type} : List (DataW H) → Nat
  | [] => 0
  | d :: r => uptoBulk d + uptoBulkAll r
def uptoBulkEntries {H : Type} : List (Lit × DataW H) → Nat
  | [] => 0
  | x :: r => uptoBulkEntry x + uptoBulkEntries r
def uptoBulkEntry {H : Type} : Lit × DataW H → Nat
  | (.string bytes, d) => bytes.length + uptoBulk d + 1
  | (_, d) => uptoBulk d + 1
 end
def uptoSmall : (H : Type) → List (DataW H) → Bool := fun _ ds => decide (uptoBulkAll ds ≤ 1048576)
def OpenSpec.upto (s : _root_.Go.ChangeSpec) : _root_.Go.OpenSpec := { _root_.Go.OpenSpec.ofChange s with cond := some uptoSmall }

/-- 'laws.FnExactStitchLists', WHERE WHAT IT READS IS OF BULK AT MOST 1048576: true; the input reads as it did. -/
def fnExactStitchListsUptoRow : OpenClaim := { program := "ytlkphfpkohabeaa", sum := "24ffceb8166e725328e3ec992663f2732d6dd3fdba3cbf65439672ca5fc27c29", func := "loop.example/g01403/laws.FnExactStitchLists", spec := "fnExactStitchLists", unfollowed := true, recurses := true, apart := false, narrowed := true }
def FnExactStitchListsUptoSaid : Prop := fnExactStitchListsUptoRow.holds Try.pinned (OpenSpec.upto fnExactStitchListsSpec)

/-- 'laws.FnExactShiftLines', WHERE WHAT IT READS IS OF BULK AT MOST 1048576: true; the input reads as it did. -/
def fnExactShiftLinesUptoRow : OpenClaim := { program := "ytlkphfpkohabeaa", sum := "24ffceb8166e725328e3ec992663f2732d6dd3fdba3cbf65439672ca5fc27c29", func := "loop.example/g01403/laws.FnExactShiftLines", spec := "fnExactShiftLines", unfollowed := true, recurses := true, apart := false, narrowed := true }
def FnExactShiftLinesUptoSaid : Prop := fnExactShiftLinesUptoRow.holds Try.pinned (OpenSpec.upto fnExactShiftLinesSpec)

/-- 'laws.FnExactMatchLines', WHERE WHAT IT READS IS OF BULK AT MOST 1048576: true; the input reads as it did. -/
def fnExactMatchLinesUptoRow : OpenClaim := { program := "ytlkphfpkohabeaa", sum := "24ffceb8166e725328e3ec992663f2732d6dd3fdba3cbf65439672ca5fc27c29", func := "loop.example/g01403/laws.FnExactMatchLines", spec := "fnExactMatchLines", unfollowed := true, recurses := true, apart := false, narrowed := true }
def FnExactMatchLinesUptoSaid : Prop := fnExactMatchLinesUptoRow.holds Try.pinned (OpenSpec.upto fnExactMatchLinesSpec)

/-- 'laws.FnExactLineAt', WHERE WHAT IT READS IS OF BULK AT MOST 1048576: true; the input reads as it did. -/
def fnExactLineAtUptoRow : OpenClaim := { program := "ytlkphfpkohabeaa", sum := "24ffceb8166e725328e3ec992663f2732d6dd3fdba3cbf65439672ca5fc27c29", func := "loop.example/g01403/laws.FnExactLineAt", spec := "fnExactLineAt", inPlace := ["math.Float64frombits"], unfollowed := true, recurses := true, apart := false, narrowed := true }
def FnExactLineAtUptoSaid : Prop := fnExactLineAtUptoRow.holds Try.pinned (OpenSpec.upto fnExactLineAtSpec)

/-- 'laws.FnExactNoiseRatio', WHERE WHAT IT READS IS OF BULK AT MOST 1048576: true; the input reads as it did. -/
def fnExactNoiseRatioUptoRow : OpenClaim := { program := "ytlkphfpkohabeaa", sum := "24ffceb8166e725328e3ec992663f2732d6dd3fdba3cbf65439672ca5fc27c29", func := "loop.example/g01403/laws.FnExactNoiseRatio", spec := "fnExactNoiseRatio", inPlace := ["math.sqrt"], unfollowed := true, recurses := true, apart := false, narrowed := true }
def FnExactNoiseRatioUptoSaid : Prop := fnExactNoiseRatioUptoRow.holds Try.pinned (OpenSpec.upto fnExactNoiseRatioSpec)

/-- 'laws.FnExactDepthOf', WHERE WHAT IT READS IS OF BULK AT MOST 1048576: true; the input reads as it did. -/
def fnExactDepthOfUptoRow : OpenClaim := { program := "ytlkphfpkohabeaa", sum := "24ffceb8166e725328e3ec992663f2732d6dd3fdba3cbf65439672ca5fc27c29", func := "loop.example/g01403/laws.FnExactDepthOf", spec := "fnExactDepthOf", inPlace := ["math.Float64frombits", "math.Float64bits"], unfollowed := true, recurses := true, apart := false, narrowed := true }
def FnExactDepthOfUptoSaid : Prop := fnExactDepthOfUptoRow.holds Try.pinned (OpenSpec.upto fnExactDepthOfSpec)

/-- 'laws.FnExactEdgeLevels', WHERE WHAT IT READS IS OF BULK AT MOST 1048576: true; the input reads as it did. -/
def fnExactEdgeLevelsUptoRow : OpenClaim := { program := "ytlkphfpkohabeaa", sum := "24ffceb8166e725328e3ec992663f2732d6dd3fdba3cbf65439672ca5fc27c29", func := "loop.example/g01403/laws.FnExactEdgeLevels", spec := "fnExactEdgeLevels", unfollowed := true, recurses := true, apart := false, narrowed := true }
def FnExactEdgeLevelsUptoSaid : Prop := fnExactEdgeLevelsUptoRow.holds Try.pinned (OpenSpec.upto fnExactEdgeLevelsSpec)

/-- 'laws.FnExactWorstRing', WHERE WHAT IT READS IS OF BULK AT MOST 1048576: true; the input reads as it did. -/
def fnExactWorstRingUptoRow : OpenClaim := { program := "ytlkphfpkohabeaa", sum := "24ffceb8166e725328e3ec992663f2732d6dd3fdba3cbf65439672ca5fc27c29", func := "loop.example/g01403/laws.FnExactWorstRing", spec := "fnExactWorstRing", unfollowed := true, recurses := true, apart := false, narrowed := true }
def FnExactWorstRingUptoSaid : Prop := fnExactWorstRingUptoRow.holds Try.pinned (OpenSpec.upto fnExactWorstRingSpec)

/-- 'laws.FnExactLampRests', WHERE WHAT IT READS IS OF BULK AT MOST 1048576: true; the input reads as it did. -/
def fnExactLampRestsUptoRow : OpenClaim := { program := "ytlkphfpkohabeaa", sum := "24ffceb8166e725328e3ec992663f2732d6dd3fdba3cbf65439672ca5fc27c29", func := "loop.example/g01403/laws.FnExactLampRests", spec := "fnExactLampRests", inPlace := ["math.sqrt"], unfollowed := true, recurses := true, apart := false, narrowed := true }
def FnExactLampRestsUptoSaid : Prop := fnExactLampRestsUptoRow.holds Try.pinned (OpenSpec.upto fnExactLampRestsSpec)

/-- 'laws.FnExactLampCurve', WHERE WHAT IT READS IS OF BULK AT MOST 1048576: true; the input reads as it did. -/
def fnExactLampCurveUptoRow : OpenClaim := { program := "ytlkphfpkohabeaa", sum := "24ffceb8166e725328e3ec992663f2732d6dd3fdba3cbf65439672ca5fc27c29", func := "loop.example/g01403/laws.FnExactLampCurve", spec := "fnExactLampCurve", unfollowed := true, recurses := true, apart := false, narrowed := true }
def FnExactLampCurveUptoSaid : Prop := fnExactLampCurveUptoRow.holds Try.pinned (OpenSpec.upto fnExactLampCurveSpec)

/-- 'laws.FnExactLinesAt', WHERE WHAT IT READS IS OF BULK AT MOST 1048576: true; the input reads as it did. -/
def fnExactLinesAtUptoRow : OpenClaim := { program := "ytlkphfpkohabeaa", sum := "24ffceb8166e725328e3ec992663f2732d6dd3fdba3cbf65439672ca5fc27c29", func := "loop.example/g01403/laws.FnExactLinesAt", spec := "fnExactLinesAt", inPlace := ["math.Float64frombits"], unfollowed := true, recurses := true, apart := false, narrowed := true }
def FnExactLinesAtUptoSaid : Prop := fnExactLinesAtUptoRow.holds Try.pinned (OpenSpec.upto fnExactLinesAtSpec)

/-- 'laws.FnExactScanOf', WHERE WHAT IT READS IS OF BULK AT MOST 1048576: true; the input reads as it did. -/
def fnExactScanOfUptoRow : OpenClaim := { program := "ytlkphfpkohabeaa", sum := "24ffceb8166e725328e3ec992663f2732d6dd3fdba3cbf65439672ca5fc27c29", func := "loop.example/g01403/laws.FnExactScanOf", spec := "fnExactScanOf", inPlace := ["math.Float32frombits", "math.Float64frombits", "math.Float64bits", "math.archTrunc"], unfollowed := true, recurses := true, apart := false, narrowed := true }
def FnExactScanOfUptoSaid : Prop := fnExactScanOfUptoRow.holds Try.pinned (OpenSpec.upto fnExactScanOfSpec)

end Rows
end Go.Proofs.Ytlkphfpkohabeaa
