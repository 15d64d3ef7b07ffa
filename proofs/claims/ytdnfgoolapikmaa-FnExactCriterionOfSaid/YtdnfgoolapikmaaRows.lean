/-
  No cell of these rows narrows 'for every input' (looked for: loops, veiled, ifaces, maps, wideKeys, modest, calm, conditions, laid).
  DERIVED. THE GIVEN ROWS OF THIS SEAT. 12 by the template 'for every input the law returns true; each argument reads behind the call as it read before'; 0 by the template 'total and deterministic' (their statements: YtdnfgoolapikmaaTotals.lean).
  GIVEN WITH THE SEED: the statements are not yours to turn. If you find one false, say at which input.
  Laid BY PROGRAM, IN A SANDBOX (cutbox-rows.mjs): the forced cells as the released guide's own fill.sh prints them over the translation f025b206989031ce… (all of the seat's roots in one cut). By AI agents, Wed Nov 11 2026. No macro, syntax, notation, axiom, sorry.
-/
import Derived.Test.YtdnfgoolapikmaaChecked
import GoSem.Claim
import GoSem.ClaimJoined
import GoSem.ClaimMapViews
import Derived.JoinedTies
import Derived.KernelRfl
namespace Go.Proofs.Ytdnfgoolapikmaa
/- THE CELL 'sum', in the pinned program and in every row, IS THE sha256 OF THE DUMP (.gsa) THAT YtdnfgoolapikmaaProg.lean LOADS. Nothing in Lean hashes anything: it is a label: what it is worth is what the hold of that sum in a sandbox is worth. -/
noncomputable def Try.pinned : Pinned := { name := "ytdnfgoolapikmaa", sum := "f025b206989031ce67e9b762540d61fe80d4a0616da83d51695bac50901bedf1", checked := Try.checked }
namespace Rows
def none {H : Type} : Left H := { results := [], args := [] }

/-- 'laws.FnExactPadScan': WHATEVER THE INPUT: true; the input reads as it did. -/
def fnExactPadScanSpec : ChangeSpec := { name := "fnExactPadScan", fn := fun _ => fun
  | [d1, d2] => { results := [.lit (.bool true)], args := [d1, d2] }
  | _ => none }
def fnExactPadScanRow : OpenClaim := { program := "ytdnfgoolapikmaa", sum := "f025b206989031ce67e9b762540d61fe80d4a0616da83d51695bac50901bedf1", func := "loop.example/g01403/laws.FnExactPadScan", spec := "fnExactPadScan", unfollowed := true, recurses := true, apart := false }
def FnExactPadScanSaid : Prop := fnExactPadScanRow.holds Try.pinned (OpenSpec.ofChange fnExactPadScanSpec)

/-- ITS FALSE NEIGHBOUR: 'it returns false'. Refute it at one input. -/
def fnExactPadScanWrong : ChangeSpec := { name := "fnExactPadScan", fn := fun _ => fun
  | [d1, d2] => { results := [.lit (.bool false)], args := [d1, d2] }
  | _ => none }
def FnExactPadScanWrongFalsely : Prop := fnExactPadScanRow.holds Try.pinned (OpenSpec.ofChange fnExactPadScanWrong)

/-- 'laws.FnExactBendOf': WHATEVER THE INPUT: true; the input reads as it did. -/
def fnExactBendOfSpec : ChangeSpec := { name := "fnExactBendOf", fn := fun _ => fun
  | [d] => { results := [.lit (.bool true)], args := [d] }
  | _ => none }
def fnExactBendOfRow : OpenClaim := { program := "ytdnfgoolapikmaa", sum := "f025b206989031ce67e9b762540d61fe80d4a0616da83d51695bac50901bedf1", func := "loop.example/g01403/laws.FnExactBendOf", spec := "fnExactBendOf", unfollowed := true, recurses := true, apart := false }
def FnExactBendOfSaid : Prop := fnExactBendOfRow.holds Try.pinned (OpenSpec.ofChange fnExactBendOfSpec)

/-- ITS FALSE NEIGHBOUR: 'it returns false'. Refute it at one input. -/
def fnExactBendOfWrong : ChangeSpec := { name := "fnExactBendOf", fn := fun _ => fun
  | [d] => { results := [.lit (.bool false)], args := [d] }
  | _ => none }
def FnExactBendOfWrongFalsely : Prop := fnExactBendOfRow.holds Try.pinned (OpenSpec.ofChange fnExactBendOfWrong)

/-- 'laws.FnExactSameLines': WHATEVER THE INPUT: true; the input reads as it did. -/
def fnExactSameLinesSpec : ChangeSpec := { name := "fnExactSameLines", fn := fun _ => fun
  | [d1, d2] => { results := [.lit (.bool true)], args := [d1, d2] }
  | _ => none }
def fnExactSameLinesRow : OpenClaim := { program := "ytdnfgoolapikmaa", sum := "f025b206989031ce67e9b762540d61fe80d4a0616da83d51695bac50901bedf1", func := "loop.example/g01403/laws.FnExactSameLines", spec := "fnExactSameLines", inPlace := ["math.Float32bits", "math.Float64bits"], unfollowed := true, recurses := true, apart := false }
def FnExactSameLinesSaid : Prop := fnExactSameLinesRow.holds Try.pinned (OpenSpec.ofChange fnExactSameLinesSpec)

/-- ITS FALSE NEIGHBOUR: 'it returns false'. Refute it at one input. -/
def fnExactSameLinesWrong : ChangeSpec := { name := "fnExactSameLines", fn := fun _ => fun
  | [d1, d2] => { results := [.lit (.bool false)], args := [d1, d2] }
  | _ => none }
def FnExactSameLinesWrongFalsely : Prop := fnExactSameLinesRow.holds Try.pinned (OpenSpec.ofChange fnExactSameLinesWrong)

/-- 'laws.FnExactHalfWidth': WHATEVER THE INPUT: true; the input reads as it did. -/
def fnExactHalfWidthSpec : ChangeSpec := { name := "fnExactHalfWidth", fn := fun _ => fun
  | [d1, d2] => { results := [.lit (.bool true)], args := [d1, d2] }
  | _ => none }
def fnExactHalfWidthRow : OpenClaim := { program := "ytdnfgoolapikmaa", sum := "f025b206989031ce67e9b762540d61fe80d4a0616da83d51695bac50901bedf1", func := "loop.example/g01403/laws.FnExactHalfWidth", spec := "fnExactHalfWidth", unfollowed := true, recurses := true, apart := false }
def FnExactHalfWidthSaid : Prop := fnExactHalfWidthRow.holds Try.pinned (OpenSpec.ofChange fnExactHalfWidthSpec)

/-- ITS FALSE NEIGHBOUR: 'it returns false'. Refute it at one input. -/
def fnExactHalfWidthWrong : ChangeSpec := { name := "fnExactHalfWidth", fn := fun _ => fun
  | [d1, d2] => { results := [.lit (.bool false)], args := [d1, d2] }
  | _ => none }
def FnExactHalfWidthWrongFalsely : Prop := fnExactHalfWidthRow.holds Try.pinned (OpenSpec.ofChange fnExactHalfWidthWrong)

/-- 'laws.FnExactLampLine': WHATEVER THE INPUT: true; the input reads as it did. -/
def fnExactLampLineSpec : ChangeSpec := { name := "fnExactLampLine", fn := fun _ => fun
  | [d1, d2] => { results := [.lit (.bool true)], args := [d1, d2] }
  | _ => none }
def fnExactLampLineRow : OpenClaim := { program := "ytdnfgoolapikmaa", sum := "f025b206989031ce67e9b762540d61fe80d4a0616da83d51695bac50901bedf1", func := "loop.example/g01403/laws.FnExactLampLine", spec := "fnExactLampLine", unfollowed := true, recurses := true, apart := false }
def FnExactLampLineSaid : Prop := fnExactLampLineRow.holds Try.pinned (OpenSpec.ofChange fnExactLampLineSpec)

/-- ITS FALSE NEIGHBOUR: 'it returns false'. Refute it at one input. -/
def fnExactLampLineWrong : ChangeSpec := { name := "fnExactLampLine", fn := fun _ => fun
  | [d1, d2] => { results := [.lit (.bool false)], args := [d1, d2] }
  | _ => none }
def FnExactLampLineWrongFalsely : Prop := fnExactLampLineRow.holds Try.pinned (OpenSpec.ofChange fnExactLampLineWrong)

/-- 'laws.FnExactGrowthWidth': WHATEVER THE INPUT: true; the input reads as it did. -/
def fnExactGrowthWidthSpec : ChangeSpec := { name := "fnExactGrowthWidth", fn := fun _ => fun
  | [d1, d2, d3] => { results := [.lit (.bool true)], args := [d1, d2, d3] }
  | _ => none }
def fnExactGrowthWidthRow : OpenClaim := { program := "ytdnfgoolapikmaa", sum := "f025b206989031ce67e9b762540d61fe80d4a0616da83d51695bac50901bedf1", func := "loop.example/g01403/laws.FnExactGrowthWidth", spec := "fnExactGrowthWidth", inPlace := ["math.Float64frombits"], unfollowed := true, recurses := true, apart := false }
def FnExactGrowthWidthSaid : Prop := fnExactGrowthWidthRow.holds Try.pinned (OpenSpec.ofChange fnExactGrowthWidthSpec)

/-- ITS FALSE NEIGHBOUR: 'it returns false'. Refute it at one input. -/
def fnExactGrowthWidthWrong : ChangeSpec := { name := "fnExactGrowthWidth", fn := fun _ => fun
  | [d1, d2, d3] => { results := [.lit (.bool false)], args := [d1, d2, d3] }
  | _ => none }
def FnExactGrowthWidthWrongFalsely : Prop := fnExactGrowthWidthRow.holds Try.pinned (OpenSpec.ofChange fnExactGrowthWidthWrong)

/-- 'laws.FnExactCosmicMarks': WHATEVER THE INPUT: true; the input reads as it did. -/
def fnExactCosmicMarksSpec : ChangeSpec := { name := "fnExactCosmicMarks", fn := fun _ => fun
  | [d1, d2] => { results := [.lit (.bool true)], args := [d1, d2] }
  | _ => none }
def fnExactCosmicMarksRow : OpenClaim := { program := "ytdnfgoolapikmaa", sum := "f025b206989031ce67e9b762540d61fe80d4a0616da83d51695bac50901bedf1", func := "loop.example/g01403/laws.FnExactCosmicMarks", spec := "fnExactCosmicMarks", unfollowed := true, recurses := true, apart := false }
def FnExactCosmicMarksSaid : Prop := fnExactCosmicMarksRow.holds Try.pinned (OpenSpec.ofChange fnExactCosmicMarksSpec)

/-- ITS FALSE NEIGHBOUR: 'it returns false'. Refute it at one input. -/
def fnExactCosmicMarksWrong : ChangeSpec := { name := "fnExactCosmicMarks", fn := fun _ => fun
  | [d1, d2] => { results := [.lit (.bool false)], args := [d1, d2] }
  | _ => none }
def FnExactCosmicMarksWrongFalsely : Prop := fnExactCosmicMarksRow.holds Try.pinned (OpenSpec.ofChange fnExactCosmicMarksWrong)

/-- 'laws.FnExactCriterionOf': WHATEVER THE INPUT: true; the input reads as it did. -/
def fnExactCriterionOfSpec : ChangeSpec := { name := "fnExactCriterionOf", fn := fun _ => fun
  | [d1, d2, d3] => { results := [.lit (.bool true)], args := [d1, d2, d3] }
  | _ => none }
def fnExactCriterionOfRow : OpenClaim := { program := "ytdnfgoolapikmaa", sum := "f025b206989031ce67e9b762540d61fe80d4a0616da83d51695bac50901bedf1", func := "loop.example/g01403/laws.FnExactCriterionOf", spec := "fnExactCriterionOf", inPlace := ["math.Float64frombits", "math.Float64bits"], unfollowed := true, recurses := true, apart := false }
def FnExactCriterionOfSaid : Prop := fnExactCriterionOfRow.holds Try.pinned (OpenSpec.ofChange fnExactCriterionOfSpec)

/-- ITS FALSE NEIGHBOUR: 'it returns false'. Refute it at one input. -/
def fnExactCriterionOfWrong : ChangeSpec := { name := "fnExactCriterionOf", fn := fun _ => fun
  | [d1, d2, d3] => { results := [.lit (.bool false)], args := [d1, d2, d3] }
  | _ => none }
def FnExactCriterionOfWrongFalsely : Prop := fnExactCriterionOfRow.holds Try.pinned (OpenSpec.ofChange fnExactCriterionOfWrong)

/-- 'laws.FnExactPlaceOf': WHATEVER THE INPUT: true; the input reads as it did. -/
def fnExactPlaceOfSpec : ChangeSpec := { name := "fnExactPlaceOf", fn := fun _ => fun
  | [d1, d2, d3, d4, d5] => { results := [.lit (.bool true)], args := [d1, d2, d3, d4, d5] }
  | _ => none }
def fnExactPlaceOfRow : OpenClaim := { program := "ytdnfgoolapikmaa", sum := "f025b206989031ce67e9b762540d61fe80d4a0616da83d51695bac50901bedf1", func := "loop.example/g01403/laws.FnExactPlaceOf", spec := "fnExactPlaceOf", unfollowed := true, recurses := true, apart := false }
def FnExactPlaceOfSaid : Prop := fnExactPlaceOfRow.holds Try.pinned (OpenSpec.ofChange fnExactPlaceOfSpec)

/-- ITS FALSE NEIGHBOUR: 'it returns false'. Refute it at one input. -/
def fnExactPlaceOfWrong : ChangeSpec := { name := "fnExactPlaceOf", fn := fun _ => fun
  | [d1, d2, d3, d4, d5] => { results := [.lit (.bool false)], args := [d1, d2, d3, d4, d5] }
  | _ => none }
def FnExactPlaceOfWrongFalsely : Prop := fnExactPlaceOfRow.holds Try.pinned (OpenSpec.ofChange fnExactPlaceOfWrong)

/-- 'laws.FnExactRemoveMarks': WHATEVER THE INPUT: true; the input reads as it did. -/
def fnExactRemoveMarksSpec : ChangeSpec := { name := "fnExactRemoveMarks", fn := fun _ => fun
  | [d1, d2] => { results := [.lit (.bool true)], args := [d1, d2] }
  | _ => none }
def fnExactRemoveMarksRow : OpenClaim := { program := "ytdnfgoolapikmaa", sum := "f025b206989031ce67e9b762540d61fe80d4a0616da83d51695bac50901bedf1", func := "loop.example/g01403/laws.FnExactRemoveMarks", spec := "fnExactRemoveMarks", unfollowed := true, recurses := true, apart := false }
def FnExactRemoveMarksSaid : Prop := fnExactRemoveMarksRow.holds Try.pinned (OpenSpec.ofChange fnExactRemoveMarksSpec)

/-- ITS FALSE NEIGHBOUR: 'it returns false'. Refute it at one input. -/
def fnExactRemoveMarksWrong : ChangeSpec := { name := "fnExactRemoveMarks", fn := fun _ => fun
  | [d1, d2] => { results := [.lit (.bool false)], args := [d1, d2] }
  | _ => none }
def FnExactRemoveMarksWrongFalsely : Prop := fnExactRemoveMarksRow.holds Try.pinned (OpenSpec.ofChange fnExactRemoveMarksWrong)

/-- 'laws.FnExactBentPeaks': WHATEVER THE INPUT: true; the input reads as it did. -/
def fnExactBentPeaksSpec : ChangeSpec := { name := "fnExactBentPeaks", fn := fun _ => fun
  | [d1, d2] => { results := [.lit (.bool true)], args := [d1, d2] }
  | _ => none }
def fnExactBentPeaksRow : OpenClaim := { program := "ytdnfgoolapikmaa", sum := "f025b206989031ce67e9b762540d61fe80d4a0616da83d51695bac50901bedf1", func := "loop.example/g01403/laws.FnExactBentPeaks", spec := "fnExactBentPeaks", unfollowed := true, recurses := true, apart := false }
def FnExactBentPeaksSaid : Prop := fnExactBentPeaksRow.holds Try.pinned (OpenSpec.ofChange fnExactBentPeaksSpec)

/-- ITS FALSE NEIGHBOUR: 'it returns false'. Refute it at one input. -/
def fnExactBentPeaksWrong : ChangeSpec := { name := "fnExactBentPeaks", fn := fun _ => fun
  | [d1, d2] => { results := [.lit (.bool false)], args := [d1, d2] }
  | _ => none }
def FnExactBentPeaksWrongFalsely : Prop := fnExactBentPeaksRow.holds Try.pinned (OpenSpec.ofChange fnExactBentPeaksWrong)

/-- 'laws.FnExactManySlits': WHATEVER THE INPUT: true; the input reads as it did. -/
def fnExactManySlitsSpec : ChangeSpec := { name := "fnExactManySlits", fn := fun _ => fun
  | [d1, d2] => { results := [.lit (.bool true)], args := [d1, d2] }
  | _ => none }
def fnExactManySlitsRow : OpenClaim := { program := "ytdnfgoolapikmaa", sum := "f025b206989031ce67e9b762540d61fe80d4a0616da83d51695bac50901bedf1", func := "loop.example/g01403/laws.FnExactManySlits", spec := "fnExactManySlits", inPlace := ["math.Float64frombits", "math.Float64bits", "math.archTrunc"], apart := false }
def FnExactManySlitsSaid : Prop := fnExactManySlitsRow.holds Try.pinned (OpenSpec.ofChange fnExactManySlitsSpec)

/-- ITS FALSE NEIGHBOUR: 'it returns false'. Refute it at one input. -/
def fnExactManySlitsWrong : ChangeSpec := { name := "fnExactManySlits", fn := fun _ => fun
  | [d1, d2] => { results := [.lit (.bool false)], args := [d1, d2] }
  | _ => none }
def FnExactManySlitsWrongFalsely : Prop := fnExactManySlitsRow.holds Try.pinned (OpenSpec.ofChange fnExactManySlitsWrong)

/- THE SECOND FORM. 'bulk': how many values and letters a reading holds, each counted each time it is reached (what is shared counts as often as it is met; a slice's spare places count too). A statement '..UptoSaid' is the law's where the arguments, and the package variables that the reading takes, are together of bulk at most 1048576: NARROWER than '..Said'. Prove '..Said' where nothing that the law and all that it calls make is longer than what came in: it says more and counts as full. Else prove '..UptoSaid'. A law counts once. -/
mutual
def uptoBulk {H : Type} : DataW H → Nat
  | .lit (.string bytes) => bytes.length + 1
  | .lit _ => 1
  | .nil => 1
  | .ptr d => uptoBulk d + 1
  | .slice elems spare => uptoBulkAll elems + uptoBulkAll spare + 1
  | .agg parts => uptoBulkAll parts + 1
  | .iface _ d => uptoBulk d + 1
  | .map entries => uptoBulkEntries entries + 1
  | .held _ => 1
def uptoBulkAll {H : Type} : List (DataW H) → Nat
  | [] => 0
  | d :: r => uptoBulk d + uptoBulkAll r
def uptoBulkEntries {H : Type} : List (Lit × DataW H) → Nat
  | [] => 0
  | x :: r => uptoBulkEntry x + uptoBulkEntries r
def uptoBulkEntry {H : Type} : Lit × DataW H → Nat
  | (.string bytes, d) => bytes.length + uptoBulk d + 1
  | (_, d) => uptoBulk d + 1
 end
def uptoSmall : (H : Type) → List (DataW H) → Bool := fun _ ds => decide (uptoBulkAll ds ≤ 1048576)
def OpenSpec.upto (s : _root_.Go.ChangeSpec) : _root_.Go.OpenSpec := { _root_.Go.OpenSpec.ofChange s with cond := some uptoSmall }

/-- 'laws.FnExactPadScan', WHERE WHAT IT READS IS OF BULK AT MOST 1048576: true; the input reads as it did. -/
def fnExactPadScanUptoRow : OpenClaim := { program := "ytdnfgoolapikmaa", sum := "f025b206989031ce67e9b762540d61fe80d4a0616da83d51695bac50901bedf1", func := "loop.example/g01403/laws.FnExactPadScan", spec := "fnExactPadScan", unfollowed := true, recurses := true, apart := false, narrowed := true }
def FnExactPadScanUptoSaid : Prop := fnExactPadScanUptoRow.holds Try.pinned (OpenSpec.upto fnExactPadScanSpec)

/-- 'laws.FnExactBendOf', WHERE WHAT IT READS IS OF BULK AT MOST 1048576: true; the input reads as it did. -/
def fnExactBendOfUptoRow : OpenClaim := { program := "ytdnfgoolapikmaa", sum := "f025b206989031ce67e9b762540d61fe80d4a0616da83d51695bac50901bedf1", func := "loop.example/g01403/laws.FnExactBendOf", spec := "fnExactBendOf", unfollowed := true, recurses := true, apart := false, narrowed := true }
def FnExactBendOfUptoSaid : Prop := fnExactBendOfUptoRow.holds Try.pinned (OpenSpec.upto fnExactBendOfSpec)

/-- 'laws.FnExactSameLines', WHERE WHAT IT READS IS OF BULK AT MOST 1048576: true; the input reads as it did. -/
def fnExactSameLinesUptoRow : OpenClaim := { program := "ytdnfgoolapikmaa", sum := "f025b206989031ce67e9b762540d61fe80d4a0616da83d51695bac50901bedf1", func := "loop.example/g01403/laws.FnExactSameLines", spec := "fnExactSameLines", inPlace := ["math.Float32bits", "math.Float64bits"], unfollowed := true, recurses := true, apart := false, narrowed := true }
def FnExactSameLinesUptoSaid : Prop := fnExactSameLinesUptoRow.holds Try.pinned (OpenSpec.upto fnExactSameLinesSpec)

/-- 'laws.FnExactHalfWidth', WHERE WHAT IT READS IS OF BULK AT MOST 1048576: true; the input reads as it did. -/
def fnExactHalfWidthUptoRow : OpenClaim := { program := "ytdnfgoolapikmaa", sum := "f025b206989031ce67e9b762540d61fe80d4a0616da83d51695bac50901bedf1", func := "loop.example/g01403/laws.FnExactHalfWidth", spec := "fnExactHalfWidth", unfollowed := true, recurses := true, apart := false, narrowed := true }
def FnExactHalfWidthUptoSaid : Prop := fnExactHalfWidthUptoRow.holds Try.pinned (OpenSpec.upto fnExactHalfWidthSpec)

/-- 'laws.FnExactLampLine', WHERE WHAT IT READS IS OF BULK AT MOST 1048576: true; the input reads as it did. -/
def fnExactLampLineUptoRow : OpenClaim := { program := "ytdnfgoolapikmaa", sum := "f025b206989031ce67e9b762540d61fe80d4a0616da83d51695bac50901bedf1", func := "loop.example/g01403/laws.FnExactLampLine", spec := "fnExactLampLine", unfollowed := true, recurses := true, apart := false, narrowed := true }
def FnExactLampLineUptoSaid : Prop := fnExactLampLineUptoRow.holds Try.pinned (OpenSpec.upto fnExactLampLineSpec)

/-- 'laws.FnExactGrowthWidth', WHERE WHAT IT READS IS OF BULK AT MOST 1048576: true; the input reads as it did. -/
def fnExactGrowthWidthUptoRow : OpenClaim := { program := "ytdnfgoolapikmaa", sum := "f025b206989031ce67e9b762540d61fe80d4a0616da83d51695bac50901bedf1", func := "loop.example/g01403/laws.FnExactGrowthWidth", spec := "fnExactGrowthWidth", inPlace := ["math.Float64frombits"], unfollowed := true, recurses := true, apart := false, narrowed := true }
def FnExactGrowthWidthUptoSaid : Prop := fnExactGrowthWidthUptoRow.holds Try.pinned (OpenSpec.upto fnExactGrowthWidthSpec)

/-- 'laws.FnExactCosmicMarks', WHERE WHAT IT READS IS OF BULK AT MOST 1048576: true; the input reads as it did. -/
def fnExactCosmicMarksUptoRow : OpenClaim := { program := "ytdnfgoolapikmaa", sum := "f025b206989031ce67e9b762540d61fe80d4a0616da83d51695bac50901bedf1", func := "loop.example/g01403/laws.FnExactCosmicMarks", spec := "fnExactCosmicMarks", unfollowed := true, recurses := true, apart := false, narrowed := true }
def FnExactCosmicMarksUptoSaid : Prop := fnExactCosmicMarksUptoRow.holds Try.pinned (OpenSpec.upto fnExactCosmicMarksSpec)

/-- 'laws.FnExactCriterionOf', WHERE WHAT IT READS IS OF BULK AT MOST 1048576: true; the input reads as it did. -/
def fnExactCriterionOfUptoRow : OpenClaim := { program := "ytdnfgoolapikmaa", sum := "f025b206989031ce67e9b762540d61fe80d4a0616da83d51695bac50901bedf1", func := "loop.example/g01403/laws.FnExactCriterionOf", spec := "fnExactCriterionOf", inPlace := ["math.Float64frombits", "math.Float64bits"], unfollowed := true, recurses := true, apart := false, narrowed := true }
def FnExactCriterionOfUptoSaid : Prop := fnExactCriterionOfUptoRow.holds Try.pinned (OpenSpec.upto fnExactCriterionOfSpec)

/-- 'laws.FnExactPlaceOf', WHERE WHAT IT READS IS OF BULK AT MOST 1048576: true; the input reads as it did. -/
def fnExactPlaceOfUptoRow : OpenClaim := { program := "ytdnfgoolapikmaa", sum := "f025b206989031ce67e9b762540d61fe80d4a0616da83d51695bac50901bedf1", func := "loop.example/g01403/laws.FnExactPlaceOf", spec := "fnExactPlaceOf", unfollowed := true, recurses := true, apart := false, narrowed := true }
def FnExactPlaceOfUptoSaid : Prop := fnExactPlaceOfUptoRow.holds Try.pinned (OpenSpec.upto fnExactPlaceOfSpec)

/-- 'laws.FnExactRemoveMarks', WHERE WHAT IT READS IS OF BULK AT MOST 1048576: true; the input reads as it did. -/
def fnExactRemoveMarksUptoRow : OpenClaim := { program := "ytdnfgoolapikmaa", sum := "f025b206989031ce67e9b762540d61fe80d4a0616da83d51695bac50901bedf1", func := "loop.example/g01403/laws.FnExactRemoveMarks", spec := "fnExactRemoveMarks", unfollowed := true, recurses := true, apart := false, narrowed := true }
def FnExactRemoveMarksUptoSaid : Prop := fnExactRemoveMarksUptoRow.holds Try.pinned (OpenSpec.upto fnExactRemoveMarksSpec)

/-- 'laws.FnExactBentPeaks', WHERE WHAT IT READS IS OF BULK AT MOST 1048576: true; the input reads as it did. -/
def fnExactBentPeaksUptoRow : OpenClaim := { program := "ytdnfgoolapikmaa", sum := "f025b206989031ce67e9b762540d61fe80d4a0616da83d51695bac50901bedf1", func := "loop.example/g01403/laws.FnExactBentPeaks", spec := "fnExactBentPeaks", unfollowed := true, recurses := true, apart := false, narrowed := true }
def FnExactBentPeaksUptoSaid : Prop := fnExactBentPeaksUptoRow.holds Try.pinned (OpenSpec.upto fnExactBentPeaksSpec)

/-- 'laws.FnExactManySlits', WHERE WHAT IT READS IS OF BULK AT MOST 1048576: true; the input reads as it did. -/
def fnExactManySlitsUptoRow : OpenClaim := { program := "ytdnfgoolapikmaa", sum := "f025b206989031ce67e9b762540d61fe80d4a0616da83d51695bac50901bedf1", func := "loop.example/g01403/laws.FnExactManySlits", spec := "fnExactManySlits", inPlace := ["math.Float64frombits", "math.Float64bits", "math.archTrunc"], apart := false, narrowed := true }
def FnExactManySlitsUptoSaid : Prop := fnExactManySlitsUptoRow.holds Try.pinned (OpenSpec.upto fnExactManySlitsSpec)

end Rows
end Go.Proofs.Ytdnfgoolapikmaa
