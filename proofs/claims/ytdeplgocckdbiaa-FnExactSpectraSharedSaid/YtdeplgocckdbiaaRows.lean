/-
  No cell of these rows narrows 'for every input' (looked for: loops, veiled, ifaces, maps, wideKeys, modest, calm, conditions, laid).
  DERIVED. THE GIVEN ROWS OF THIS SEAT. 12 by the template 'for every input the law returns true; each argument reads behind the call as it read before'; 0 by the template 'total and deterministic' (their statements: YtdeplgocckdbiaaTotals.lean).
  GIVEN WITH THE SEED: the statements are not yours to turn. If you find one false, say at which input.
  Laid BY PROGRAM, IN A SANDBOX (cutbox-rows.mjs): the forced cells as the released guide's own fill.sh prints them over the translation 497c221a40885b42… (all of the seat's roots in one cut). By AI agents, Wed Nov 11 2026. No macro, syntax, notation, axiom, sorry.
-/
import Derived.Test.YtdeplgocckdbiaaChecked
import GoSem.Claim
import GoSem.ClaimJoined
import GoSem.ClaimMapViews
import Derived.JoinedTies
import Derived.KernelRfl
namespace Go.Proofs.Ytdeplgocckdbiaa
/- THE CELL 'sum', in the pinned program and in every row, IS THE sha256 OF THE DUMP (.gsa) THAT YtdeplgocckdbiaaProg.lean LOADS. Nothing in Lean hashes anything: it is a label: what it is worth is what the hold of that sum in a sandbox is worth. -/
noncomputable def Try.pinned : Pinned := { name := "ytdeplgocckdbiaa", sum := "497c221a40885b4237b1dd06db7e1fad96e7e64e0867234383d3408a971dff95", checked := Try.checked }
namespace Rows
def none {H : Type} : Left H := { results := [], args := [] }

/-- 'laws.FnExactSoftScan': WHATEVER THE INPUT: true; the input reads as it did. -/
def fnExactSoftScanSpec : ChangeSpec := { name := "fnExactSoftScan", fn := fun _ => fun
  | [d1, d2] => { results := [.lit (.bool true)], args := [d1, d2] }
  | _ => none }
def fnExactSoftScanRow : OpenClaim := { program := "ytdeplgocckdbiaa", sum := "497c221a40885b4237b1dd06db7e1fad96e7e64e0867234383d3408a971dff95", func := "loop.example/g01403/laws.FnExactSoftScan", spec := "fnExactSoftScan", inPlace := ["math.Float32frombits", "math.Float64frombits", "math.Float64bits", "math.archTrunc"], unfollowed := true, recurses := true, apart := false }
def FnExactSoftScanSaid : Prop := fnExactSoftScanRow.holds Try.pinned (OpenSpec.ofChange fnExactSoftScanSpec)

/-- ITS FALSE NEIGHBOUR: 'it returns false'. Refute it at one input. -/
def fnExactSoftScanWrong : ChangeSpec := { name := "fnExactSoftScan", fn := fun _ => fun
  | [d1, d2] => { results := [.lit (.bool false)], args := [d1, d2] }
  | _ => none }
def FnExactSoftScanWrongFalsely : Prop := fnExactSoftScanRow.holds Try.pinned (OpenSpec.ofChange fnExactSoftScanWrong)

/-- 'laws.FnExactSpectrumOf': WHATEVER THE INPUT: true; the input reads as it did. -/
def fnExactSpectrumOfSpec : ChangeSpec := { name := "fnExactSpectrumOf", fn := fun _ => fun
  | [d1, d2, d3, d4] => { results := [.lit (.bool true)], args := [d1, d2, d3, d4] }
  | _ => none }
def fnExactSpectrumOfRow : OpenClaim := { program := "ytdeplgocckdbiaa", sum := "497c221a40885b4237b1dd06db7e1fad96e7e64e0867234383d3408a971dff95", func := "loop.example/g01403/laws.FnExactSpectrumOf", spec := "fnExactSpectrumOf", inPlace := ["math.Float64frombits"], unfollowed := true, recurses := true, apart := false }
def FnExactSpectrumOfSaid : Prop := fnExactSpectrumOfRow.holds Try.pinned (OpenSpec.ofChange fnExactSpectrumOfSpec)

/-- ITS FALSE NEIGHBOUR: 'it returns false'. Refute it at one input. -/
def fnExactSpectrumOfWrong : ChangeSpec := { name := "fnExactSpectrumOf", fn := fun _ => fun
  | [d1, d2, d3, d4] => { results := [.lit (.bool false)], args := [d1, d2, d3, d4] }
  | _ => none }
def FnExactSpectrumOfWrongFalsely : Prop := fnExactSpectrumOfRow.holds Try.pinned (OpenSpec.ofChange fnExactSpectrumOfWrong)

/-- 'laws.FnExactRestOf': WHATEVER THE INPUT: true; the input reads as it did. -/
def fnExactRestOfSpec : ChangeSpec := { name := "fnExactRestOf", fn := fun _ => fun
  | [d1, d2, d3, d4] => { results := [.lit (.bool true)], args := [d1, d2, d3, d4] }
  | _ => none }
def fnExactRestOfRow : OpenClaim := { program := "ytdeplgocckdbiaa", sum := "497c221a40885b4237b1dd06db7e1fad96e7e64e0867234383d3408a971dff95", func := "loop.example/g01403/laws.FnExactRestOf", spec := "fnExactRestOf", inPlace := ["math.Float64frombits"], unfollowed := true, recurses := true, apart := false }
def FnExactRestOfSaid : Prop := fnExactRestOfRow.holds Try.pinned (OpenSpec.ofChange fnExactRestOfSpec)

/-- ITS FALSE NEIGHBOUR: 'it returns false'. Refute it at one input. -/
def fnExactRestOfWrong : ChangeSpec := { name := "fnExactRestOf", fn := fun _ => fun
  | [d1, d2, d3, d4] => { results := [.lit (.bool false)], args := [d1, d2, d3, d4] }
  | _ => none }
def FnExactRestOfWrongFalsely : Prop := fnExactRestOfRow.holds Try.pinned (OpenSpec.ofChange fnExactRestOfWrong)

/-- 'laws.FnExactTurnVector': WHATEVER THE INPUT: true; the input reads as it did. -/
def fnExactTurnVectorSpec : ChangeSpec := { name := "fnExactTurnVector", fn := fun _ => fun
  | [d1, d2, d3] => { results := [.lit (.bool true)], args := [d1, d2, d3] }
  | _ => none }
def fnExactTurnVectorRow : OpenClaim := { program := "ytdeplgocckdbiaa", sum := "497c221a40885b4237b1dd06db7e1fad96e7e64e0867234383d3408a971dff95", func := "loop.example/g01403/laws.FnExactTurnVector", spec := "fnExactTurnVector", inPlace := ["math.sqrt", "math.Float32frombits", "math.Float64frombits", "math.Float64bits", "math.archTrunc"], unfollowed := true, recurses := true, apart := false }
def FnExactTurnVectorSaid : Prop := fnExactTurnVectorRow.holds Try.pinned (OpenSpec.ofChange fnExactTurnVectorSpec)

/-- ITS FALSE NEIGHBOUR: 'it returns false'. Refute it at one input. -/
def fnExactTurnVectorWrong : ChangeSpec := { name := "fnExactTurnVector", fn := fun _ => fun
  | [d1, d2, d3] => { results := [.lit (.bool false)], args := [d1, d2, d3] }
  | _ => none }
def FnExactTurnVectorWrongFalsely : Prop := fnExactTurnVectorRow.holds Try.pinned (OpenSpec.ofChange fnExactTurnVectorWrong)

/-- 'laws.FnExactPulseTurns': WHATEVER THE INPUT: true; the input reads as it did. -/
def fnExactPulseTurnsSpec : ChangeSpec := { name := "fnExactPulseTurns", fn := fun _ => fun
  | [d] => { results := [.lit (.bool true)], args := [d] }
  | _ => none }
def fnExactPulseTurnsRow : OpenClaim := { program := "ytdeplgocckdbiaa", sum := "497c221a40885b4237b1dd06db7e1fad96e7e64e0867234383d3408a971dff95", func := "loop.example/g01403/laws.FnExactPulseTurns", spec := "fnExactPulseTurns", inPlace := ["math.sqrt", "math.Float32frombits", "math.Float64frombits", "math.Float64bits", "math.archTrunc"], unfollowed := true, recurses := true, apart := false }
def FnExactPulseTurnsSaid : Prop := fnExactPulseTurnsRow.holds Try.pinned (OpenSpec.ofChange fnExactPulseTurnsSpec)

/-- ITS FALSE NEIGHBOUR: 'it returns false'. Refute it at one input. -/
def fnExactPulseTurnsWrong : ChangeSpec := { name := "fnExactPulseTurns", fn := fun _ => fun
  | [d] => { results := [.lit (.bool false)], args := [d] }
  | _ => none }
def FnExactPulseTurnsWrongFalsely : Prop := fnExactPulseTurnsRow.holds Try.pinned (OpenSpec.ofChange fnExactPulseTurnsWrong)

/-- 'laws.FnExactCountLines': WHATEVER THE INPUT: true; the input reads as it did. -/
def fnExactCountLinesSpec : ChangeSpec := { name := "fnExactCountLines", fn := fun _ => fun
  | [d1, d2, d3, d4] => { results := [.lit (.bool true)], args := [d1, d2, d3, d4] }
  | _ => none }
def fnExactCountLinesRow : OpenClaim := { program := "ytdeplgocckdbiaa", sum := "497c221a40885b4237b1dd06db7e1fad96e7e64e0867234383d3408a971dff95", func := "loop.example/g01403/laws.FnExactCountLines", spec := "fnExactCountLines", inPlace := ["math.Float64frombits", "math.Float64bits"], unfollowed := true, recurses := true, apart := false }
def FnExactCountLinesSaid : Prop := fnExactCountLinesRow.holds Try.pinned (OpenSpec.ofChange fnExactCountLinesSpec)

/-- ITS FALSE NEIGHBOUR: 'it returns false'. Refute it at one input. -/
def fnExactCountLinesWrong : ChangeSpec := { name := "fnExactCountLines", fn := fun _ => fun
  | [d1, d2, d3, d4] => { results := [.lit (.bool false)], args := [d1, d2, d3, d4] }
  | _ => none }
def FnExactCountLinesWrongFalsely : Prop := fnExactCountLinesRow.holds Try.pinned (OpenSpec.ofChange fnExactCountLinesWrong)

/-- 'laws.FnExactFitHeights': WHATEVER THE INPUT: true; the input reads as it did. -/
def fnExactFitHeightsSpec : ChangeSpec := { name := "fnExactFitHeights", fn := fun _ => fun
  | [d1, d2, d3, d4] => { results := [.lit (.bool true)], args := [d1, d2, d3, d4] }
  | _ => none }
def fnExactFitHeightsRow : OpenClaim := { program := "ytdeplgocckdbiaa", sum := "497c221a40885b4237b1dd06db7e1fad96e7e64e0867234383d3408a971dff95", func := "loop.example/g01403/laws.FnExactFitHeights", spec := "fnExactFitHeights", inPlace := ["math.Float64frombits"], unfollowed := true, recurses := true, apart := false }
def FnExactFitHeightsSaid : Prop := fnExactFitHeightsRow.holds Try.pinned (OpenSpec.ofChange fnExactFitHeightsSpec)

/-- ITS FALSE NEIGHBOUR: 'it returns false'. Refute it at one input. -/
def fnExactFitHeightsWrong : ChangeSpec := { name := "fnExactFitHeights", fn := fun _ => fun
  | [d1, d2, d3, d4] => { results := [.lit (.bool false)], args := [d1, d2, d3, d4] }
  | _ => none }
def FnExactFitHeightsWrongFalsely : Prop := fnExactFitHeightsRow.holds Try.pinned (OpenSpec.ofChange fnExactFitHeightsWrong)

/-- 'laws.FnExactFitLine': WHATEVER THE INPUT: true; the input reads as it did. -/
def fnExactFitLineSpec : ChangeSpec := { name := "fnExactFitLine", fn := fun _ => fun
  | [d1, d2, d3, d4, d5] => { results := [.lit (.bool true)], args := [d1, d2, d3, d4, d5] }
  | _ => none }
def fnExactFitLineRow : OpenClaim := { program := "ytdeplgocckdbiaa", sum := "497c221a40885b4237b1dd06db7e1fad96e7e64e0867234383d3408a971dff95", func := "loop.example/g01403/laws.FnExactFitLine", spec := "fnExactFitLine", inPlace := ["math.Float64frombits"], unfollowed := true, recurses := true, apart := false }
def FnExactFitLineSaid : Prop := fnExactFitLineRow.holds Try.pinned (OpenSpec.ofChange fnExactFitLineSpec)

/-- ITS FALSE NEIGHBOUR: 'it returns false'. Refute it at one input. -/
def fnExactFitLineWrong : ChangeSpec := { name := "fnExactFitLine", fn := fun _ => fun
  | [d1, d2, d3, d4, d5] => { results := [.lit (.bool false)], args := [d1, d2, d3, d4, d5] }
  | _ => none }
def FnExactFitLineWrongFalsely : Prop := fnExactFitLineRow.holds Try.pinned (OpenSpec.ofChange fnExactFitLineWrong)

/-- 'laws.FnExactPeaksOf': WHATEVER THE INPUT: true; the input reads as it did. -/
def fnExactPeaksOfSpec : ChangeSpec := { name := "fnExactPeaksOf", fn := fun _ => fun
  | [d1, d2, d3] => { results := [.lit (.bool true)], args := [d1, d2, d3] }
  | _ => none }
def fnExactPeaksOfRow : OpenClaim := { program := "ytdeplgocckdbiaa", sum := "497c221a40885b4237b1dd06db7e1fad96e7e64e0867234383d3408a971dff95", func := "loop.example/g01403/laws.FnExactPeaksOf", spec := "fnExactPeaksOf", unfollowed := true, recurses := true, apart := false }
def FnExactPeaksOfSaid : Prop := fnExactPeaksOfRow.holds Try.pinned (OpenSpec.ofChange fnExactPeaksOfSpec)

/-- ITS FALSE NEIGHBOUR: 'it returns false'. Refute it at one input. -/
def fnExactPeaksOfWrong : ChangeSpec := { name := "fnExactPeaksOf", fn := fun _ => fun
  | [d1, d2, d3] => { results := [.lit (.bool false)], args := [d1, d2, d3] }
  | _ => none }
def FnExactPeaksOfWrongFalsely : Prop := fnExactPeaksOfRow.holds Try.pinned (OpenSpec.ofChange fnExactPeaksOfWrong)

/-- 'laws.FnExactSpectraShared': WHATEVER THE INPUT: true; the input reads as it did. -/
def fnExactSpectraSharedSpec : ChangeSpec := { name := "fnExactSpectraShared", fn := fun _ => fun
  | [d1, d2, d3, d4, d5] => { results := [.lit (.bool true)], args := [d1, d2, d3, d4, d5] }
  | _ => none }
def fnExactSpectraSharedRow : OpenClaim := { program := "ytdeplgocckdbiaa", sum := "497c221a40885b4237b1dd06db7e1fad96e7e64e0867234383d3408a971dff95", func := "loop.example/g01403/laws.FnExactSpectraShared", spec := "fnExactSpectraShared", inPlace := ["math.Float64frombits"], unfollowed := true, recurses := true, apart := false }
def FnExactSpectraSharedSaid : Prop := fnExactSpectraSharedRow.holds Try.pinned (OpenSpec.ofChange fnExactSpectraSharedSpec)

/-- ITS FALSE NEIGHBOUR: 'it returns false'. Refute it at one input. -/
def fnExactSpectraSharedWrong : ChangeSpec := { name := "fnExactSpectraShared", fn := fun _ => fun
  | [d1, d2, d3, d4, d5] => { results := [.lit (.bool false)], args := [d1, d2, d3, d4, d5] }
  | _ => none }
def FnExactSpectraSharedWrongFalsely : Prop := fnExactSpectraSharedRow.holds Try.pinned (OpenSpec.ofChange fnExactSpectraSharedWrong)

/-- 'laws.FnSpectraSharedOfAll': WHATEVER THE INPUT: true; the input reads as it did. -/
def fnSpectraSharedOfAllSpec : ChangeSpec := { name := "fnSpectraSharedOfAll", fn := fun _ => fun
  | [d1, d2, d3, d4, d5, d6] => { results := [.lit (.bool true)], args := [d1, d2, d3, d4, d5, d6] }
  | _ => none }
def fnSpectraSharedOfAllRow : OpenClaim := { program := "ytdeplgocckdbiaa", sum := "497c221a40885b4237b1dd06db7e1fad96e7e64e0867234383d3408a971dff95", func := "loop.example/g01403/laws.FnSpectraSharedOfAll", spec := "fnSpectraSharedOfAll", inPlace := ["math.Float64frombits"], unfollowed := true, recurses := true, apart := false }
def FnSpectraSharedOfAllSaid : Prop := fnSpectraSharedOfAllRow.holds Try.pinned (OpenSpec.ofChange fnSpectraSharedOfAllSpec)

/-- ITS FALSE NEIGHBOUR: 'it returns false'. Refute it at one input. -/
def fnSpectraSharedOfAllWrong : ChangeSpec := { name := "fnSpectraSharedOfAll", fn := fun _ => fun
  | [d1, d2, d3, d4, d5, d6] => { results := [.lit (.bool false)], args := [d1, d2, d3, d4, d5, d6] }
  | _ => none }
def FnSpectraSharedOfAllWrongFalsely : Prop := fnSpectraSharedOfAllRow.holds Try.pinned (OpenSpec.ofChange fnSpectraSharedOfAllWrong)

/-- 'laws.FnLevelEdges': WHATEVER THE INPUT: true; the input reads as it did. -/
def fnLevelEdgesSpec : ChangeSpec := { name := "fnLevelEdges", fn := fun _ => fun
  | [d1, d2] => { results := [.lit (.bool true)], args := [d1, d2] }
  | _ => none }
def fnLevelEdgesRow : OpenClaim := { program := "ytdeplgocckdbiaa", sum := "497c221a40885b4237b1dd06db7e1fad96e7e64e0867234383d3408a971dff95", func := "loop.example/g01403/laws.FnLevelEdges", spec := "fnLevelEdges", inPlace := ["math.Float32bits"], unfollowed := true, recurses := true, apart := false }
def FnLevelEdgesSaid : Prop := fnLevelEdgesRow.holds Try.pinned (OpenSpec.ofChange fnLevelEdgesSpec)

/-- ITS FALSE NEIGHBOUR: 'it returns false'. Refute it at one input. -/
def fnLevelEdgesWrong : ChangeSpec := { name := "fnLevelEdges", fn := fun _ => fun
  | [d1, d2] => { results := [.lit (.bool false)], args := [d1, d2] }
  | _ => none }
def FnLevelEdgesWrongFalsely : Prop := fnLevelEdgesRow.holds Try.pinned (OpenSpec.ofChange fnLevelEdgesWrong)

/- THE SECOND FORM. 'bulk': how many values and letters a reading holds, each counted each time it is reached (what is shared counts as often as it is met; a slice's spare places count too). A statement '..UptoSaid' is the law's where the arguments, and the package variables that the reading takes, are together of bulk at most 1048576: NARROWER than '..Said'. Prove '..Said' where nothing that the law and all that it calls make is longer than what came in: it says more and counts as full. Else prove '..UptoSaid'. A law counts once. -/
mutual
def uptoBulk {H : Type} : DataW H → Nat
  | .lit (.string bytes) => bytes.length + 1
  | .lit _ => 1
  | .nil => 1
  | .ptr d => uptoBulk d + 1
  | .slice elems spare => uptoBulkAll elems + uptoBulkAll spare + 1
  | .agg parts => uptoBulkAll parts + 1
  | .iface _ d => uptoBulk d + 1
  | .map entries => uptoBulkEntries entries + 1
  | .held _ => 1
def uptoBulkAll {H : Type} : List (DataW H) → Nat
  | [] => 0
  | d :: r => uptoBulk d + uptoBulkAll r
def uptoBulkEntries {H : Type} : List (Lit × DataW H) → Nat
  | [] => 0
  | x :: r => uptoBulkEntry x + uptoBulkEntries r
def uptoBulkEntry {H : Type} : Lit × DataW H → Nat
  | (.string bytes, d) => bytes.length + uptoBulk d + 1
  | (_, d) => uptoBulk d + 1
 end
def uptoSmall : (H : Type) → List (DataW H) → Bool := fun _ ds => decide (uptoBulkAll ds ≤ 1048576)
def OpenSpec.upto (s : _root_.Go.ChangeSpec) : _root_.Go.OpenSpec := { _root_.Go.OpenSpec.ofChange s with cond := some uptoSmall }

/-- 'laws.FnExactSoftScan', WHERE WHAT IT READS IS OF BULK AT MOST 1048576: true; the input reads as it did. -/
def fnExactSoftScanUptoRow : OpenClaim := { program := "ytdeplgocckdbiaa", sum := "497c221a40885b4237b1dd06db7e1fad96e7e64e0867234383d3408a971dff95", func := "loop.example/g01403/laws.FnExactSoftScan", spec := "fnExactSoftScan", inPlace := ["math.Float32frombits", "math.Float64frombits", "math.Float64bits", "math.archTrunc"], unfollowed := true, recurses := true, apart := false, narrowed := true }
def FnExactSoftScanUptoSaid : Prop := fnExactSoftScanUptoRow.holds Try.pinned (OpenSpec.upto fnExactSoftScanSpec)

/-- 'laws.FnExactSpectrumOf', WHERE WHAT IT READS IS OF BULK AT MOST 1048576: true; the input reads as it did. -/
def fnExactSpectrumOfUptoRow : OpenClaim := { program := "ytdeplgocckdbiaa", sum := "497c221a40885b4237b1dd06db7e1fad96e7e64e0867234383d3408a971dff95", func := "loop.example/g01403/laws.FnExactSpectrumOf", spec := "fnExactSpectrumOf", inPlace := ["math.Float64frombits"], unfollowed := true, recurses := true, apart := false, narrowed := true }
def FnExactSpectrumOfUptoSaid : Prop := fnExactSpectrumOfUptoRow.holds Try.pinned (OpenSpec.upto fnExactSpectrumOfSpec)

/-- 'laws.FnExactRestOf', WHERE WHAT IT READS IS OF BULK AT MOST 1048576: true; the input reads as it did. -/
def fnExactRestOfUptoRow : OpenClaim := { program := "ytdeplgocckdbiaa", sum := "497c221a40885b4237b1dd06db7e1fad96e7e64e0867234383d3408a971dff95", func := "loop.example/g01403/laws.FnExactRestOf", spec := "fnExactRestOf", inPlace := ["math.Float64frombits"], unfollowed := true, recurses := true, apart := false, narrowed := true }
def FnExactRestOfUptoSaid : Prop := fnExactRestOfUptoRow.holds Try.pinned (OpenSpec.upto fnExactRestOfSpec)

/-- 'laws.FnExactTurnVector', WHERE WHAT IT READS IS OF BULK AT MOST 1048576: true; the input reads as it did. -/
def fnExactTurnVectorUptoRow : OpenClaim := { program := "ytdeplgocckdbiaa", sum := "497c221a40885b4237b1dd06db7e1fad96e7e64e0867234383d3408a971dff95", func := "loop.example/g01403/laws.FnExactTurnVector", spec := "fnExactTurnVector", inPlace := ["math.sqrt", "math.Float32frombits", "math.Float64frombits", "math.Float64bits", "math.archTrunc"], unfollowed := true, recurses := true, apart := false, narrowed := true }
def FnExactTurnVectorUptoSaid : Prop := fnExactTurnVectorUptoRow.holds Try.pinned (OpenSpec.upto fnExactTurnVectorSpec)

/-- 'laws.FnExactPulseTurns', WHERE WHAT IT READS IS OF BULK AT MOST 1048576: true; the input reads as it did. -/
def fnExactPulseTurnsUptoRow : OpenClaim := { program := "ytdeplgocckdbiaa", sum := "497c221a40885b4237b1dd06db7e1fad96e7e64e0867234383d3408a971dff95", func := "loop.example/g01403/laws.FnExactPulseTurns", spec := "fnExactPulseTurns", inPlace := ["math.sqrt", "math.Float32frombits", "math.Float64frombits", "math.Float64bits", "math.archTrunc"], unfollowed := true, recurses := true, apart := false, narrowed := true }
def FnExactPulseTurnsUptoSaid : Prop := fnExactPulseTurnsUptoRow.holds Try.pinned (OpenSpec.upto fnExactPulseTurnsSpec)

/-- 'laws.FnExactCountLines', WHERE WHAT IT READS IS OF BULK AT MOST 1048576: true; the input reads as it did. -/
def fnExactCountLinesUptoRow : OpenClaim := { program := "ytdeplgocckdbiaa", sum := "497c221a40885b4237b1dd06db7e1fad96e7e64e0867234383d3408a971dff95", func := "loop.example/g01403/laws.FnExactCountLines", spec := "fnExactCountLines", inPlace := ["math.Float64frombits", "math.Float64bits"], unfollowed := true, recurses := true, apart := false, narrowed := true }
def FnExactCountLinesUptoSaid : Prop := fnExactCountLinesUptoRow.holds Try.pinned (OpenSpec.upto fnExactCountLinesSpec)

/-- 'laws.FnExactFitHeights', WHERE WHAT IT READS IS OF BULK AT MOST 1048576: true; the input reads as it did. -/
def fnExactFitHeightsUptoRow : OpenClaim := { program := "ytdeplgocckdbiaa", sum := "497c221a40885b4237b1dd06db7e1fad96e7e64e0867234383d3408a971dff95", func := "loop.example/g01403/laws.FnExactFitHeights", spec := "fnExactFitHeights", inPlace := ["math.Float64frombits"], unfollowed := true, recurses := true, apart := false, narrowed := true }
def FnExactFitHeightsUptoSaid : Prop := fnExactFitHeightsUptoRow.holds Try.pinned (OpenSpec.upto fnExactFitHeightsSpec)

/-- 'laws.FnExactFitLine', WHERE WHAT IT READS IS OF BULK AT MOST 1048576: true; the input reads as it did. -/
def fnExactFitLineUptoRow : OpenClaim := { program := "ytdeplgocckdbiaa", sum := "497c221a40885b4237b1dd06db7e1fad96e7e64e0867234383d3408a971dff95", func := "loop.example/g01403/laws.FnExactFitLine", spec := "fnExactFitLine", inPlace := ["math.Float64frombits"], unfollowed := true, recurses := true, apart := false, narrowed := true }
def FnExactFitLineUptoSaid : Prop := fnExactFitLineUptoRow.holds Try.pinned (OpenSpec.upto fnExactFitLineSpec)

/-- 'laws.FnExactPeaksOf', WHERE WHAT IT READS IS OF BULK AT MOST 1048576: true; the input reads as it did. -/
def fnExactPeaksOfUptoRow : OpenClaim := { program := "ytdeplgocckdbiaa", sum := "497c221a40885b4237b1dd06db7e1fad96e7e64e0867234383d3408a971dff95", func := "loop.example/g01403/laws.FnExactPeaksOf", spec := "fnExactPeaksOf", unfollowed := true, recurses := true, apart := false, narrowed := true }
def FnExactPeaksOfUptoSaid : Prop := fnExactPeaksOfUptoRow.holds Try.pinned (OpenSpec.upto fnExactPeaksOfSpec)

/-- 'laws.FnExactSpectraShared', WHERE WHAT IT READS IS OF BULK AT MOST 1048576: true; the input reads as it did. -/
def fnExactSpectraSharedUptoRow : OpenClaim := { program := "ytdeplgocckdbiaa", sum := "497c221a40885b4237b1dd06db7e1fad96e7e64e0867234383d3408a971dff95", func := "loop.example/g01403/laws.FnExactSpectraShared", spec := "fnExactSpectraShared", inPlace := ["math.Float64frombits"], unfollowed := true, recurses := true, apart := false, narrowed := true }
def FnExactSpectraSharedUptoSaid : Prop := fnExactSpectraSharedUptoRow.holds Try.pinned (OpenSpec.upto fnExactSpectraSharedSpec)

/-- 'laws.FnSpectraSharedOfAll', WHERE WHAT IT READS IS OF BULK AT MOST 1048576: true; the input reads as it did. -/
def fnSpectraSharedOfAllUptoRow : OpenClaim := { program := "ytdeplgocckdbiaa", sum := "497c221a40885b4237b1dd06db7e1fad96e7e64e0867234383d3408a971dff95", func := "loop.example/g01403/laws.FnSpectraSharedOfAll", spec := "fnSpectraSharedOfAll", inPlace := ["math.Float64frombits"], unfollowed := true, recurses := true, apart := false, narrowed := true }
def FnSpectraSharedOfAllUptoSaid : Prop := fnSpectraSharedOfAllUptoRow.holds Try.pinned (OpenSpec.upto fnSpectraSharedOfAllSpec)

/-- 'laws.FnLevelEdges', WHERE WHAT IT READS IS OF BULK AT MOST 1048576: true; the input reads as it did. -/
def fnLevelEdgesUptoRow : OpenClaim := { program := "ytdeplgocckdbiaa", sum := "497c221a40885b4237b1dd06db7e1fad96e7e64e0867234383d3408a971dff95", func := "loop.example/g01403/laws.FnLevelEdges", spec := "fnLevelEdges", inPlace := ["math.Float32bits"], unfollowed := true, recurses := true, apart := false, narrowed := true }
def FnLevelEdgesUptoSaid : Prop := fnLevelEdgesUptoRow.holds Try.pinned (OpenSpec.upto fnLevelEdgesSpec)

end Rows
end Go.Proofs.Ytdeplgocckdbiaa
