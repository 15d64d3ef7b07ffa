/-
  No cell of these rows narrows 'for every input' (looked for: loops, veiled, ifaces, maps, wideKeys, modest, calm, conditions, laid).
  DERIVED. THE GIVEN ROWS OF THIS SEAT. 11 by the template 'for every input the law returns true; each argument reads behind the call as it read before'; 0 by the template 'total and deterministic' (their statements: YtpnkcjlapkhclaaTotals.lean).
  GIVEN WITH THE SEED: the statements are not yours to turn. If you find one false, say at which input.
  Laid BY PROGRAM, IN A SANDBOX (cutbox-rows.mjs): the forced cells as the released guide's own fill.sh prints them over the translation 31bd50fe17143528… (all of the seat's roots in one cut). By AI agents, Wed Nov 11 2026. No macro, syntax, notation, axiom, sorry.
-/
import Derived.Test.YtpnkcjlapkhclaaChecked
import GoSem.Claim
import GoSem.ClaimJoined
import GoSem.ClaimMapViews
import Derived.JoinedTies
import Derived.KernelRfl
namespace Go.Proofs.Ytpnkcjlapkhclaa
/- THE CELL 'sum', in the pinned program and in every row, IS THE sha256 OF THE DUMP (.gsa) THAT YtpnkcjlapkhclaaProg.lean LOADS. Nothing in Lean hashes anything: it is a label: what it is worth is what the hold of that sum in a sandbox is worth. -/
noncomputable def Try.pinned : Pinned := { name := "ytpnkcjlapkhclaa", sum := "31bd50fe17143528c665b2a27e9a052debf3f3d7269ed44572217616770c1268", checked := Try.checked }
namespace Rows
def none {H : Type} : Left H := { results := [], args := [] }

/-- 'laws.FnExactValidLine': WHATEVER THE INPUT: true; the input reads as it did. -/
def fnExactValidLineSpec : ChangeSpec := { name := "fnExactValidLine", fn := fun _ => fun
  | [d] => { results := [.lit (.bool true)], args := [d] }
  | _ => none }
def fnExactValidLineRow : OpenClaim := { program := "ytpnkcjlapkhclaa", sum := "31bd50fe17143528c665b2a27e9a052debf3f3d7269ed44572217616770c1268", func := "loop.example/g01403/laws.FnExactValidLine", spec := "fnExactValidLine", unfollowed := true, recurses := true, apart := false }
def FnExactValidLineSaid : Prop := fnExactValidLineRow.holds Try.pinned (OpenSpec.ofChange fnExactValidLineSpec)

/-- ITS FALSE NEIGHBOUR: 'it returns false'. Refute it at one input. -/
def fnExactValidLineWrong : ChangeSpec := { name := "fnExactValidLine", fn := fun _ => fun
  | [d] => { results := [.lit (.bool false)], args := [d] }
  | _ => none }
def FnExactValidLineWrongFalsely : Prop := fnExactValidLineRow.holds Try.pinned (OpenSpec.ofChange fnExactValidLineWrong)

/-- 'laws.FnExactFreeRange': WHATEVER THE INPUT: true; the input reads as it did. -/
def fnExactFreeRangeSpec : ChangeSpec := { name := "fnExactFreeRange", fn := fun _ => fun
  | [d1, d2] => { results := [.lit (.bool true)], args := [d1, d2] }
  | _ => none }
def fnExactFreeRangeRow : OpenClaim := { program := "ytpnkcjlapkhclaa", sum := "31bd50fe17143528c665b2a27e9a052debf3f3d7269ed44572217616770c1268", func := "loop.example/g01403/laws.FnExactFreeRange", spec := "fnExactFreeRange", unfollowed := true, recurses := true, apart := false }
def FnExactFreeRangeSaid : Prop := fnExactFreeRangeRow.holds Try.pinned (OpenSpec.ofChange fnExactFreeRangeSpec)

/-- ITS FALSE NEIGHBOUR: 'it returns false'. Refute it at one input. -/
def fnExactFreeRangeWrong : ChangeSpec := { name := "fnExactFreeRange", fn := fun _ => fun
  | [d1, d2] => { results := [.lit (.bool false)], args := [d1, d2] }
  | _ => none }
def FnExactFreeRangeWrongFalsely : Prop := fnExactFreeRangeRow.holds Try.pinned (OpenSpec.ofChange fnExactFreeRangeWrong)

/-- 'laws.FnExactGratingOut': WHATEVER THE INPUT: true; the input reads as it did. -/
def fnExactGratingOutSpec : ChangeSpec := { name := "fnExactGratingOut", fn := fun _ => fun
  | [d1, d2, d3, d4] => { results := [.lit (.bool true)], args := [d1, d2, d3, d4] }
  | _ => none }
def fnExactGratingOutRow : OpenClaim := { program := "ytpnkcjlapkhclaa", sum := "31bd50fe17143528c665b2a27e9a052debf3f3d7269ed44572217616770c1268", func := "loop.example/g01403/laws.FnExactGratingOut", spec := "fnExactGratingOut", unfollowed := true, recurses := true, apart := false }
def FnExactGratingOutSaid : Prop := fnExactGratingOutRow.holds Try.pinned (OpenSpec.ofChange fnExactGratingOutSpec)

/-- ITS FALSE NEIGHBOUR: 'it returns false'. Refute it at one input. -/
def fnExactGratingOutWrong : ChangeSpec := { name := "fnExactGratingOut", fn := fun _ => fun
  | [d1, d2, d3, d4] => { results := [.lit (.bool false)], args := [d1, d2, d3, d4] }
  | _ => none }
def FnExactGratingOutWrongFalsely : Prop := fnExactGratingOutRow.holds Try.pinned (OpenSpec.ofChange fnExactGratingOutWrong)

/-- 'laws.FnExactLadderFit': WHATEVER THE INPUT: true; the input reads as it did. -/
def fnExactLadderFitSpec : ChangeSpec := { name := "fnExactLadderFit", fn := fun _ => fun
  | [d] => { results := [.lit (.bool true)], args := [d] }
  | _ => none }
def fnExactLadderFitRow : OpenClaim := { program := "ytpnkcjlapkhclaa", sum := "31bd50fe17143528c665b2a27e9a052debf3f3d7269ed44572217616770c1268", func := "loop.example/g01403/laws.FnExactLadderFit", spec := "fnExactLadderFit", unfollowed := true, recurses := true, apart := false }
def FnExactLadderFitSaid : Prop := fnExactLadderFitRow.holds Try.pinned (OpenSpec.ofChange fnExactLadderFitSpec)

/-- ITS FALSE NEIGHBOUR: 'it returns false'. Refute it at one input. -/
def fnExactLadderFitWrong : ChangeSpec := { name := "fnExactLadderFit", fn := fun _ => fun
  | [d] => { results := [.lit (.bool false)], args := [d] }
  | _ => none }
def FnExactLadderFitWrongFalsely : Prop := fnExactLadderFitRow.holds Try.pinned (OpenSpec.ofChange fnExactLadderFitWrong)

/-- 'laws.FnExactAreaOf': WHATEVER THE INPUT: true; the input reads as it did. -/
def fnExactAreaOfSpec : ChangeSpec := { name := "fnExactAreaOf", fn := fun _ => fun
  | [d] => { results := [.lit (.bool true)], args := [d] }
  | _ => none }
def fnExactAreaOfRow : OpenClaim := { program := "ytpnkcjlapkhclaa", sum := "31bd50fe17143528c665b2a27e9a052debf3f3d7269ed44572217616770c1268", func := "loop.example/g01403/laws.FnExactAreaOf", spec := "fnExactAreaOf", unfollowed := true, recurses := true, apart := false }
def FnExactAreaOfSaid : Prop := fnExactAreaOfRow.holds Try.pinned (OpenSpec.ofChange fnExactAreaOfSpec)

/-- ITS FALSE NEIGHBOUR: 'it returns false'. Refute it at one input. -/
def fnExactAreaOfWrong : ChangeSpec := { name := "fnExactAreaOf", fn := fun _ => fun
  | [d] => { results := [.lit (.bool false)], args := [d] }
  | _ => none }
def FnExactAreaOfWrongFalsely : Prop := fnExactAreaOfRow.holds Try.pinned (OpenSpec.ofChange fnExactAreaOfWrong)

/-- 'laws.FnExactLadderNext': WHATEVER THE INPUT: true; the input reads as it did. -/
def fnExactLadderNextSpec : ChangeSpec := { name := "fnExactLadderNext", fn := fun _ => fun
  | [d] => { results := [.lit (.bool true)], args := [d] }
  | _ => none }
def fnExactLadderNextRow : OpenClaim := { program := "ytpnkcjlapkhclaa", sum := "31bd50fe17143528c665b2a27e9a052debf3f3d7269ed44572217616770c1268", func := "loop.example/g01403/laws.FnExactLadderNext", spec := "fnExactLadderNext", unfollowed := true, recurses := true, apart := false }
def FnExactLadderNextSaid : Prop := fnExactLadderNextRow.holds Try.pinned (OpenSpec.ofChange fnExactLadderNextSpec)

/-- ITS FALSE NEIGHBOUR: 'it returns false'. Refute it at one input. -/
def fnExactLadderNextWrong : ChangeSpec := { name := "fnExactLadderNext", fn := fun _ => fun
  | [d] => { results := [.lit (.bool false)], args := [d] }
  | _ => none }
def FnExactLadderNextWrongFalsely : Prop := fnExactLadderNextRow.holds Try.pinned (OpenSpec.ofChange fnExactLadderNextWrong)

/-- 'laws.FnExactAreEdges': WHATEVER THE INPUT: true; the input reads as it did. -/
def fnExactAreEdgesSpec : ChangeSpec := { name := "fnExactAreEdges", fn := fun _ => fun
  | [d1, d2] => { results := [.lit (.bool true)], args := [d1, d2] }
  | _ => none }
def fnExactAreEdgesRow : OpenClaim := { program := "ytpnkcjlapkhclaa", sum := "31bd50fe17143528c665b2a27e9a052debf3f3d7269ed44572217616770c1268", func := "loop.example/g01403/laws.FnExactAreEdges", spec := "fnExactAreEdges", unfollowed := true, recurses := true, apart := false }
def FnExactAreEdgesSaid : Prop := fnExactAreEdgesRow.holds Try.pinned (OpenSpec.ofChange fnExactAreEdgesSpec)

/-- ITS FALSE NEIGHBOUR: 'it returns false'. Refute it at one input. -/
def fnExactAreEdgesWrong : ChangeSpec := { name := "fnExactAreEdges", fn := fun _ => fun
  | [d1, d2] => { results := [.lit (.bool false)], args := [d1, d2] }
  | _ => none }
def FnExactAreEdgesWrongFalsely : Prop := fnExactAreEdgesRow.holds Try.pinned (OpenSpec.ofChange fnExactAreEdgesWrong)

/-- 'laws.FnExactDifferencesOf': WHATEVER THE INPUT: true; the input reads as it did. -/
def fnExactDifferencesOfSpec : ChangeSpec := { name := "fnExactDifferencesOf", fn := fun _ => fun
  | [d1, d2] => { results := [.lit (.bool true)], args := [d1, d2] }
  | _ => none }
def fnExactDifferencesOfRow : OpenClaim := { program := "ytpnkcjlapkhclaa", sum := "31bd50fe17143528c665b2a27e9a052debf3f3d7269ed44572217616770c1268", func := "loop.example/g01403/laws.FnExactDifferencesOf", spec := "fnExactDifferencesOf", unfollowed := true, recurses := true, apart := false }
def FnExactDifferencesOfSaid : Prop := fnExactDifferencesOfRow.holds Try.pinned (OpenSpec.ofChange fnExactDifferencesOfSpec)

/-- ITS FALSE NEIGHBOUR: 'it returns false'. Refute it at one input. -/
def fnExactDifferencesOfWrong : ChangeSpec := { name := "fnExactDifferencesOf", fn := fun _ => fun
  | [d1, d2] => { results := [.lit (.bool false)], args := [d1, d2] }
  | _ => none }
def FnExactDifferencesOfWrongFalsely : Prop := fnExactDifferencesOfRow.holds Try.pinned (OpenSpec.ofChange fnExactDifferencesOfWrong)

/-- 'laws.FnExactGratingOrders': WHATEVER THE INPUT: true; the input reads as it did. -/
def fnExactGratingOrdersSpec : ChangeSpec := { name := "fnExactGratingOrders", fn := fun _ => fun
  | [d1, d2, d3] => { results := [.lit (.bool true)], args := [d1, d2, d3] }
  | _ => none }
def fnExactGratingOrdersRow : OpenClaim := { program := "ytpnkcjlapkhclaa", sum := "31bd50fe17143528c665b2a27e9a052debf3f3d7269ed44572217616770c1268", func := "loop.example/g01403/laws.FnExactGratingOrders", spec := "fnExactGratingOrders", unfollowed := true, recurses := true, apart := false }
def FnExactGratingOrdersSaid : Prop := fnExactGratingOrdersRow.holds Try.pinned (OpenSpec.ofChange fnExactGratingOrdersSpec)

/-- ITS FALSE NEIGHBOUR: 'it returns false'. Refute it at one input. -/
def fnExactGratingOrdersWrong : ChangeSpec := { name := "fnExactGratingOrders", fn := fun _ => fun
  | [d1, d2, d3] => { results := [.lit (.bool false)], args := [d1, d2, d3] }
  | _ => none }
def FnExactGratingOrdersWrongFalsely : Prop := fnExactGratingOrdersRow.holds Try.pinned (OpenSpec.ofChange fnExactGratingOrdersWrong)

/-- 'laws.FnExactWaveAt': WHATEVER THE INPUT: true; the input reads as it did. -/
def fnExactWaveAtSpec : ChangeSpec := { name := "fnExactWaveAt", fn := fun _ => fun
  | [d1, d2] => { results := [.lit (.bool true)], args := [d1, d2] }
  | _ => none }
def fnExactWaveAtRow : OpenClaim := { program := "ytpnkcjlapkhclaa", sum := "31bd50fe17143528c665b2a27e9a052debf3f3d7269ed44572217616770c1268", func := "loop.example/g01403/laws.FnExactWaveAt", spec := "fnExactWaveAt", unfollowed := true, recurses := true, apart := false }
def FnExactWaveAtSaid : Prop := fnExactWaveAtRow.holds Try.pinned (OpenSpec.ofChange fnExactWaveAtSpec)

/-- ITS FALSE NEIGHBOUR: 'it returns false'. Refute it at one input. -/
def fnExactWaveAtWrong : ChangeSpec := { name := "fnExactWaveAt", fn := fun _ => fun
  | [d1, d2] => { results := [.lit (.bool false)], args := [d1, d2] }
  | _ => none }
def FnExactWaveAtWrongFalsely : Prop := fnExactWaveAtRow.holds Try.pinned (OpenSpec.ofChange fnExactWaveAtWrong)

/-- 'laws.FnExactBlendLines': WHATEVER THE INPUT: true; the input reads as it did. -/
def fnExactBlendLinesSpec : ChangeSpec := { name := "fnExactBlendLines", fn := fun _ => fun
  | [d1, d2] => { results := [.lit (.bool true)], args := [d1, d2] }
  | _ => none }
def fnExactBlendLinesRow : OpenClaim := { program := "ytpnkcjlapkhclaa", sum := "31bd50fe17143528c665b2a27e9a052debf3f3d7269ed44572217616770c1268", func := "loop.example/g01403/laws.FnExactBlendLines", spec := "fnExactBlendLines", unfollowed := true, recurses := true, apart := false }
def FnExactBlendLinesSaid : Prop := fnExactBlendLinesRow.holds Try.pinned (OpenSpec.ofChange fnExactBlendLinesSpec)

/-- ITS FALSE NEIGHBOUR: 'it returns false'. Refute it at one input. -/
def fnExactBlendLinesWrong : ChangeSpec := { name := "fnExactBlendLines", fn := fun _ => fun
  | [d1, d2] => { results := [.lit (.bool false)], args := [d1, d2] }
  | _ => none }
def FnExactBlendLinesWrongFalsely : Prop := fnExactBlendLinesRow.holds Try.pinned (OpenSpec.ofChange fnExactBlendLinesWrong)

/- THE SECOND FORM. 'bulk': how many values and letters a reading holds, each counted each time it is reached (what is shared counts as often as it is met; a slice's spare places count too). A statement '..UptoSaid' is the law's where the arguments, and the package variables that the reading takes, are together of bulk at most 1048576: NARROWER than '..Said'. Prove '..Said' where nothing that the law and all that it calls make is longer than what came in: it says more and counts as full. Else prove '..UptoSaid'. A law counts once. -/
mutual
def uptoBulk {H : Type} : DataW H → Nat
  | .lit (.string bytes) => bytes.length + 1
  | .lit _ => 1
  | .nil => 1
  | .ptr d => uptoBulk d + 1
  | .slice elems spare => uptoBulkAll elems + uptoBulkAll spare + 1
  | .agg parts => uptoBulkAll parts + 1
  | .iface _ d => uptoBulk d + 1
  | .map entries => uptoBulkEntries entries + 1
  | .held _ => 1
def uptoBulkAll {H : Type} : List (DataW H) → Nat
  | [] => 0
  | d :: r => uptoBulk d + uptoBulkAll r
def uptoBulkEntries {H : Type} : List (Lit × DataW H) → Nat
  | [] => 0
  | x :: r => uptoBulkEntry x + uptoBulkEntries r
def uptoBulkEntry {H : Type} : Lit × DataW H → Nat
  | (.string bytes, d) => bytes.length + uptoBulk d + 1
  | (_, d) => uptoBulk d + 1
 end
def uptoSmall : (H : Type) → List (DataW H) → Bool := fun _ ds => decide (uptoBulkAll ds ≤ 1048576)
def OpenSpec.upto (s : _root_.Go.ChangeSpec) : _root_.Go.OpenSpec := { _root_.Go.OpenSpec.ofChange s with cond := some uptoSmall }

/-- 'laws.FnExactValidLine', WHERE WHAT IT READS IS OF BULK AT MOST 1048576: true; the input reads as it did. -/
def fnExactValidLineUptoRow : OpenClaim := { program := "ytpnkcjlapkhclaa", sum := "31bd50fe17143528c665b2a27e9a052debf3f3d7269ed44572217616770c1268", func := "loop.example/g01403/laws.FnExactValidLine", spec := "fnExactValidLine", unfollowed := true, recurses := true, apart := false, narrowed := true }
def FnExactValidLineUptoSaid : Prop := fnExactValidLineUptoRow.holds Try.pinned (OpenSpec.upto fnExactValidLineSpec)

/-- 'laws.FnExactFreeRange', WHERE WHAT IT READS IS OF BULK AT MOST 1048576: true; the input reads as it did. -/
def fnExactFreeRangeUptoRow : OpenClaim := { program := "ytpnkcjlapkhclaa", sum := "31bd50fe17143528c665b2a27e9a052debf3f3d7269ed44572217616770c1268", func := "loop.example/g01403/laws.FnExactFreeRange", spec := "fnExactFreeRange", unfollowed := true, recurses := true, apart := false, narrowed := true }
def FnExactFreeRangeUptoSaid : Prop := fnExactFreeRangeUptoRow.holds Try.pinned (OpenSpec.upto fnExactFreeRangeSpec)

/-- 'laws.FnExactGratingOut', WHERE WHAT IT READS IS OF BULK AT MOST 1048576: true; the input reads as it did. -/
def fnExactGratingOutUptoRow : OpenClaim := { program := "ytpnkcjlapkhclaa", sum := "31bd50fe17143528c665b2a27e9a052debf3f3d7269ed44572217616770c1268", func := "loop.example/g01403/laws.FnExactGratingOut", spec := "fnExactGratingOut", unfollowed := true, recurses := true, apart := false, narrowed := true }
def FnExactGratingOutUptoSaid : Prop := fnExactGratingOutUptoRow.holds Try.pinned (OpenSpec.upto fnExactGratingOutSpec)

/-- 'laws.FnExactLadderFit', WHERE WHAT IT READS IS OF BULK AT MOST 1048576: true; the input reads as it did. -/
def fnExactLadderFitUptoRow : OpenClaim := { program := "ytpnkcjlapkhclaa", sum := "31bd50fe17143528c665b2a27e9a052debf3f3d7269ed44572217616770c1268", func := "loop.example/g01403/laws.FnExactLadderFit", spec := "fnExactLadderFit", unfollowed := true, recurses := true, apart := false, narrowed := true }
def FnExactLadderFitUptoSaid : Prop := fnExactLadderFitUptoRow.holds Try.pinned (OpenSpec.upto fnExactLadderFitSpec)

/-- 'laws.FnExactAreaOf', WHERE WHAT IT READS IS OF BULK AT MOST 1048576: true; the input reads as it did. -/
def fnExactAreaOfUptoRow : OpenClaim := { program := "ytpnkcjlapkhclaa", sum := "31bd50fe17143528c665b2a27e9a052debf3f3d7269ed44572217616770c1268", func := "loop.example/g01403/laws.FnExactAreaOf", spec := "fnExactAreaOf", unfollowed := true, recurses := true, apart := false, narrowed := true }
def FnExactAreaOfUptoSaid : Prop := fnExactAreaOfUptoRow.holds Try.pinned (OpenSpec.upto fnExactAreaOfSpec)

/-- 'laws.FnExactLadderNext', WHERE WHAT IT READS IS OF BULK AT MOST 1048576: true; the input reads as it did. -/
def fnExactLadderNextUptoRow : OpenClaim := { program := "ytpnkcjlapkhclaa", sum := "31bd50fe17143528c665b2a27e9a052debf3f3d7269ed44572217616770c1268", func := "loop.example/g01403/laws.FnExactLadderNext", spec := "fnExactLadderNext", unfollowed := true, recurses := true, apart := false, narrowed := true }
def FnExactLadderNextUptoSaid : Prop := fnExactLadderNextUptoRow.holds Try.pinned (OpenSpec.upto fnExactLadderNextSpec)

/-- 'laws.FnExactAreEdges', WHERE WHAT IT READS IS OF BULK AT MOST 1048576: true; the input reads as it did. -/
def fnExactAreEdgesUptoRow : OpenClaim := { program := "ytpnkcjlapkhclaa", sum := "31bd50fe17143528c665b2a27e9a052debf3f3d7269ed44572217616770c1268", func := "loop.example/g01403/laws.FnExactAreEdges", spec := "fnExactAreEdges", unfollowed := true, recurses := true, apart := false, narrowed := true }
def FnExactAreEdgesUptoSaid : Prop := fnExactAreEdgesUptoRow.holds Try.pinned (OpenSpec.upto fnExactAreEdgesSpec)

/-- 'laws.FnExactDifferencesOf', WHERE WHAT IT READS IS OF BULK AT MOST 1048576: true; the input reads as it did. -/
def fnExactDifferencesOfUptoRow : OpenClaim := { program := "ytpnkcjlapkhclaa", sum := "31bd50fe17143528c665b2a27e9a052debf3f3d7269ed44572217616770c1268", func := "loop.example/g01403/laws.FnExactDifferencesOf", spec := "fnExactDifferencesOf", unfollowed := true, recurses := true, apart := false, narrowed := true }
def FnExactDifferencesOfUptoSaid : Prop := fnExactDifferencesOfUptoRow.holds Try.pinned (OpenSpec.upto fnExactDifferencesOfSpec)

/-- 'laws.FnExactGratingOrders', WHERE WHAT IT READS IS OF BULK AT MOST 1048576: true; the input reads as it did. -/
def fnExactGratingOrdersUptoRow : OpenClaim := { program := "ytpnkcjlapkhclaa", sum := "31bd50fe17143528c665b2a27e9a052debf3f3d7269ed44572217616770c1268", func := "loop.example/g01403/laws.FnExactGratingOrders", spec := "fnExactGratingOrders", unfollowed := true, recurses := true, apart := false, narrowed := true }
def FnExactGratingOrdersUptoSaid : Prop := fnExactGratingOrdersUptoRow.holds Try.pinned (OpenSpec.upto fnExactGratingOrdersSpec)

/-- 'laws.FnExactWaveAt', WHERE WHAT IT READS IS OF BULK AT MOST 1048576: true; the input reads as it did. -/
def fnExactWaveAtUptoRow : OpenClaim := { program := "ytpnkcjlapkhclaa", sum := "31bd50fe17143528c665b2a27e9a052debf3f3d7269ed44572217616770c1268", func := "loop.example/g01403/laws.FnExactWaveAt", spec := "fnExactWaveAt", unfollowed := true, recurses := true, apart := false, narrowed := true }
def FnExactWaveAtUptoSaid : Prop := fnExactWaveAtUptoRow.holds Try.pinned (OpenSpec.upto fnExactWaveAtSpec)

/-- 'laws.FnExactBlendLines', WHERE WHAT IT READS IS OF BULK AT MOST 1048576: true; the input reads as it did. -/
def fnExactBlendLinesUptoRow : OpenClaim := { program := "ytpnkcjlapkhclaa", sum := "31bd50fe17143528c665b2a27e9a052debf3f3d7269ed44572217616770c1268", func := "loop.example/g01403/laws.FnExactBlendLines", spec := "fnExactBlendLines", unfollowed := true, recurses := true, apart := false, narrowed := true }
def FnExactBlendLinesUptoSaid : Prop := fnExactBlendLinesUptoRow.holds Try.pinned (OpenSpec.upto fnExactBlendLinesSpec)

end Rows
end Go.Proofs.Ytpnkcjlapkhclaa
