/-
  No cell of these rows narrows 'for every input' (looked for: loops, veiled, ifaces, maps, wideKeys, modest, calm, conditions, laid).
  DERIVED. THE GIVEN ROWS OF THIS SEAT. 5 by the template 'for every input the law returns true; each argument reads behind the call as it read before'; 0 by the template 'total and deterministic' (their statements: YtngcejakoaoojaaTotals.lean).
  GIVEN WITH THE SEED: the statements are not yours to turn. If you find one false, say at which input.
  Laid BY PROGRAM, IN A SANDBOX (cutbox-rows.mjs): the forced cells as the released guide's own fill.sh prints them over the translation 6560ba9999db0baf… (all of the seat's roots in one cut). By AI agents, Wed Nov 11 2026. No macro, syntax, notation, axiom, sorry.
-/
import Derived.Test.YtngcejakoaoojaaChecked
import GoSem.Claim
import GoSem.ClaimJoined
import GoSem.ClaimMapViews
import Derived.JoinedTies
import Derived.KernelRfl
namespace Go.Proofs.Ytngcejakoaoojaa
/- THE CELL 'sum', in the pinned program and in every row, IS THE sha256 OF THE DUMP (.gsa) THAT YtngcejakoaoojaaProg.lean LOADS. Nothing in Lean hashes anything: it is a label: what it is worth is what the hold of that sum in a sandbox is worth. -/
noncomputable def Try.pinned : Pinned := { name := "ytngcejakoaoojaa", sum := "6560ba9999db0baf745cc2f4276142e1c4a19ca55cd7bbd50127463244c011b0", checked := Try.checked }
namespace Rows
def none {H : Type} : Left H := { results := [], args := [] }

/-- 'laws.FnExactSameLines': WHATEVER THE INPUT: true; the input reads as it did. -/
def fnExactSameLinesSpec : ChangeSpec := { name := "fnExactSameLines", fn := fun _ => fun
  | [d1, d2] => { results := [.lit (.bool true)], args := [d1, d2] }
  | _ => none }
def fnExactSameLinesRow : OpenClaim := { program := "ytngcejakoaoojaa", sum := "6560ba9999db0baf745cc2f4276142e1c4a19ca55cd7bbd50127463244c011b0", func := "loop.example/g01403/laws.FnExactSameLines", spec := "fnExactSameLines", inPlace := ["math.Float32bits", "math.Float64bits"], unfollowed := true, recurses := true, apart := false }
def FnExactSameLinesSaid : Prop := fnExactSameLinesRow.holds Try.pinned (OpenSpec.ofChange fnExactSameLinesSpec)

/-- ITS FALSE NEIGHBOUR: 'it returns false'. Refute it at one input. -/
def fnExactSameLinesWrong : ChangeSpec := { name := "fnExactSameLines", fn := fun _ => fun
  | [d1, d2] => { results := [.lit (.bool false)], args := [d1, d2] }
  | _ => none }
def FnExactSameLinesWrongFalsely : Prop := fnExactSameLinesRow.holds Try.pinned (OpenSpec.ofChange fnExactSameLinesWrong)

/-- 'laws.FnExactMatchLines': WHATEVER THE INPUT: true; the input reads as it did. -/
def fnExactMatchLinesSpec : ChangeSpec := { name := "fnExactMatchLines", fn := fun _ => fun
  | [d1, d2, d3] => { results := [.lit (.bool true)], args := [d1, d2, d3] }
  | _ => none }
def fnExactMatchLinesRow : OpenClaim := { program := "ytngcejakoaoojaa", sum := "6560ba9999db0baf745cc2f4276142e1c4a19ca55cd7bbd50127463244c011b0", func := "loop.example/g01403/laws.FnExactMatchLines", spec := "fnExactMatchLines", unfollowed := true, recurses := true, apart := false }
def FnExactMatchLinesSaid : Prop := fnExactMatchLinesRow.holds Try.pinned (OpenSpec.ofChange fnExactMatchLinesSpec)

/-- ITS FALSE NEIGHBOUR: 'it returns false'. Refute it at one input. -/
def fnExactMatchLinesWrong : ChangeSpec := { name := "fnExactMatchLines", fn := fun _ => fun
  | [d1, d2, d3] => { results := [.lit (.bool false)], args := [d1, d2, d3] }
  | _ => none }
def FnExactMatchLinesWrongFalsely : Prop := fnExactMatchLinesRow.holds Try.pinned (OpenSpec.ofChange fnExactMatchLinesWrong)

/-- 'laws.FnExactEdgeLevels': WHATEVER THE INPUT: true; the input reads as it did. -/
def fnExactEdgeLevelsSpec : ChangeSpec := { name := "fnExactEdgeLevels", fn := fun _ => fun
  | [d1, d2] => { results := [.lit (.bool true)], args := [d1, d2] }
  | _ => none }
def fnExactEdgeLevelsRow : OpenClaim := { program := "ytngcejakoaoojaa", sum := "6560ba9999db0baf745cc2f4276142e1c4a19ca55cd7bbd50127463244c011b0", func := "loop.example/g01403/laws.FnExactEdgeLevels", spec := "fnExactEdgeLevels", unfollowed := true, recurses := true, apart := false }
def FnExactEdgeLevelsSaid : Prop := fnExactEdgeLevelsRow.holds Try.pinned (OpenSpec.ofChange fnExactEdgeLevelsSpec)

/-- ITS FALSE NEIGHBOUR: 'it returns false'. Refute it at one input. -/
def fnExactEdgeLevelsWrong : ChangeSpec := { name := "fnExactEdgeLevels", fn := fun _ => fun
  | [d1, d2] => { results := [.lit (.bool false)], args := [d1, d2] }
  | _ => none }
def FnExactEdgeLevelsWrongFalsely : Prop := fnExactEdgeLevelsRow.holds Try.pinned (OpenSpec.ofChange fnExactEdgeLevelsWrong)

/-- 'laws.FnExactWorstRing': WHATEVER THE INPUT: true; the input reads as it did. -/
def fnExactWorstRingSpec : ChangeSpec := { name := "fnExactWorstRing", fn := fun _ => fun
  | [d1, d2] => { results := [.lit (.bool true)], args := [d1, d2] }
  | _ => none }
def fnExactWorstRingRow : OpenClaim := { program := "ytngcejakoaoojaa", sum := "6560ba9999db0baf745cc2f4276142e1c4a19ca55cd7bbd50127463244c011b0", func := "loop.example/g01403/laws.FnExactWorstRing", spec := "fnExactWorstRing", unfollowed := true, recurses := true, apart := false }
def FnExactWorstRingSaid : Prop := fnExactWorstRingRow.holds Try.pinned (OpenSpec.ofChange fnExactWorstRingSpec)

/-- ITS FALSE NEIGHBOUR: 'it returns false'. Refute it at one input. -/
def fnExactWorstRingWrong : ChangeSpec := { name := "fnExactWorstRing", fn := fun _ => fun
  | [d1, d2] => { results := [.lit (.bool false)], args := [d1, d2] }
  | _ => none }
def FnExactWorstRingWrongFalsely : Prop := fnExactWorstRingRow.holds Try.pinned (OpenSpec.ofChange fnExactWorstRingWrong)

/-- 'laws.FnExactLampCurve': WHATEVER THE INPUT: true; the input reads as it did. -/
def fnExactLampCurveSpec : ChangeSpec := { name := "fnExactLampCurve", fn := fun _ => fun
  | [d1, d2] => { results := [.lit (.bool true)], args := [d1, d2] }
  | _ => none }
def fnExactLampCurveRow : OpenClaim := { program := "ytngcejakoaoojaa", sum := "6560ba9999db0baf745cc2f4276142e1c4a19ca55cd7bbd50127463244c011b0", func := "loop.example/g01403/laws.FnExactLampCurve", spec := "fnExactLampCurve", unfollowed := true, recurses := true, apart := false }
def FnExactLampCurveSaid : Prop := fnExactLampCurveRow.holds Try.pinned (OpenSpec.ofChange fnExactLampCurveSpec)

/-- ITS FALSE NEIGHBOUR: 'it returns false'. Refute it at one input. -/
def fnExactLampCurveWrong : ChangeSpec := { name := "fnExactLampCurve", fn := fun _ => fun
  | [d1, d2] => { results := [.lit (.bool false)], args := [d1, d2] }
  | _ => none }
def FnExactLampCurveWrongFalsely : Prop := fnExactLampCurveRow.holds Try.pinned (OpenSpec.ofChange fnExactLampCurveWrong)

/- THE SECOND FORM. 'bulk': how many values and letters a reading holds, each counted each time it is reached (what is shared counts as often as it is met; a slice's spare places count too). A statement '..UptoSaid' is the law's where the arguments, and the package variables that the reading takes, are together of bulk at most 1048576: NARROWER than '..Said'. Prove '..Said' where nothing that the law and all that it calls make is longer than what came in: it says more and counts as full. Else prove '..UptoSaid'. A law counts once. -/
mutual
def uptoBulk {H : Type} : DataW H → Nat
  | .lit (.string bytes) => bytes.length + 1
  | .lit _ => 1
  | .nil => 1
  | .ptr d => uptoBulk d + 1
  | .slice elems spare => uptoBulkAll elems + uptoBulkAll spare + 1
  | .agg parts => uptoBulkAll parts + 1
  | .iface _ d => uptoBulk d + 1
  | .map entries => uptoBulkEntries entries + 1
  | .held _ => 1
def uptoBulkAll {H : Type} : List (DataW H) → Nat
  | [] => 0
  | d :: r => uptoBulk d + uptoBulkAll r
def uptoBulkEntries {H : Type} : List (Lit × DataW H) → Nat
  | [] => 0
  | x :: r => uptoBulkEntry x + uptoBulkEntries r
def uptoBulkEntry {H : Type} : Lit × DataW H → Nat
  | (.string bytes, d) => bytes.length + uptoBulk d + 1
  | (_, d) => uptoBulk d + 1
 end
def uptoSmall : (H : Type) → List (DataW H) → Bool := fun _ ds => decide (uptoBulkAll ds ≤ 1048576)
def OpenSpec.upto (s : _root_.Go.ChangeSpec) : _root_.Go.OpenSpec := { _root_.Go.OpenSpec.ofChange s with cond := some uptoSmall }

/-- 'laws.FnExactSameLines', WHERE WHAT IT READS IS OF BULK AT MOST 1048576: true; the input reads as it did. -/
def fnExactSameLinesUptoRow : OpenClaim := { program := "ytngcejakoaoojaa", sum := "6560ba9999db0baf745cc2f4276142e1c4a19ca55cd7bbd50127463244c011b0", func := "loop.example/g01403/laws.FnExactSameLines", spec := "fnExactSameLines", inPlace := ["math.Float32bits", "math.Float64bits"], unfollowed := true, recurses := true, apart := false, narrowed := true }
def FnExactSameLinesUptoSaid : Prop := fnExactSameLinesUptoRow.holds Try.pinned (OpenSpec.upto fnExactSameLinesSpec)

/-- 'laws.FnExactMatchLines', WHERE WHAT IT READS IS OF BULK AT MOST 1048576: true; the input reads as it did. -/
def fnExactMatchLinesUptoRow : OpenClaim := { program := "ytngcejakoaoojaa", sum := "6560ba9999db0baf745cc2f4276142e1c4a19ca55cd7bbd50127463244c011b0", func := "loop.example/g01403/laws.FnExactMatchLines", spec := "fnExactMatchLines", unfollowed := true, recurses := true, apart := false, narrowed := true }
def FnExactMatchLinesUptoSaid : Prop := fnExactMatchLinesUptoRow.holds Try.pinned (OpenSpec.upto fnExactMatchLinesSpec)

/-- 'laws.FnExactEdgeLevels', WHERE WHAT IT READS IS OF BULK AT MOST 1048576: true; the input reads as it did. -/
def fnExactEdgeLevelsUptoRow : OpenClaim := { program := "ytngcejakoaoojaa", sum := "6560ba9999db0baf745cc2f4276142e1c4a19ca55cd7bbd50127463244c011b0", func := "loop.example/g01403/laws.FnExactEdgeLevels", spec := "fnExactEdgeLevels", unfollowed := true, recurses := true, apart := false, narrowed := true }
def FnExactEdgeLevelsUptoSaid : Prop := fnExactEdgeLevelsUptoRow.holds Try.pinned (OpenSpec.upto fnExactEdgeLevelsSpec)

/-- 'laws.FnExactWorstRing', WHERE WHAT IT READS IS OF BULK AT MOST 1048576: true; the input reads as it did. -/
def fnExactWorstRingUptoRow : OpenClaim := { program := "ytngcejakoaoojaa", sum := "6560ba9999db0baf745cc2f4276142e1c4a19ca55cd7bbd50127463244c011b0", func := "loop.example/g01403/laws.FnExactWorstRing", spec := "fnExactWorstRing", unfollowed := true, recurses := true, apart := false, narrowed := true }
def FnExactWorstRingUptoSaid : Prop := fnExactWorstRingUptoRow.holds Try.pinned (OpenSpec.upto fnExactWorstRingSpec)

/-- 'laws.FnExactLampCurve', WHERE WHAT IT READS IS OF BULK AT MOST 1048576: true; the input reads as it did. -/
def fnExactLampCurveUptoRow : OpenClaim := { program := "ytngcejakoaoojaa", sum := "6560ba9999db0baf745cc2f4276142e1c4a19ca55cd7bbd50127463244c011b0", func := "loop.example/g01403/laws.FnExactLampCurve", spec := "fnExactLampCurve", unfollowed := true, recurses := true, apart := false, narrowed := true }
def FnExactLampCurveUptoSaid : Prop := fnExactLampCurveUptoRow.holds Try.pinned (OpenSpec.upto fnExactLampCurveSpec)

end Rows
end Go.Proofs.Ytngcejakoaoojaa
