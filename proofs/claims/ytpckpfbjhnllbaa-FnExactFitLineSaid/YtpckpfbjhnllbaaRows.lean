/-
  No cell of these rows narrows 'for every input' (looked for: loops, veiled, ifaces, maps, wideKeys, modest, calm, conditions, laid).
  DERIVED. THE GIVEN ROWS OF THIS SEAT. 2 by the template 'for every input the law returns true; each argument reads behind the call as it read before'; 0 by the template 'total and deterministic' (their statements: YtpckpfbjhnllbaaTotals.lean).
  GIVEN WITH THE SEED: the statements are not yours to turn. If you find one false, say at which input.
  Laid BY PROGRAM, IN A SANDBOX (cutbox-rows.mjs): the forced cells as the released guide's own fill.sh prints them over the translation 436e035bbc650da0… (all of the seat's roots in one cut). By AI agents, Wed Nov 11 2026. No macro, syntax, notation, axiom, sorry.
-/
import Derived.Test.YtpckpfbjhnllbaaChecked
import GoSem.Claim
import GoSem.ClaimJoined
import GoSem.ClaimMapViews
import Derived.JoinedTies
import Derived.KernelRfl
namespace Go.Proofs.Ytpckpfbjhnllbaa
/- THE CELL 'sum', in the pinned program and in every row, IS THE sha256 OF THE DUMP (.gsa) THAT YtpckpfbjhnllbaaProg.lean LOADS. Nothing in Lean hashes anything: it is a label: what it is worth is what the hold of that sum in a sandbox is worth. -/
noncomputable def Try.pinned : Pinned := { name := "ytpckpfbjhnllbaa", sum := "436e035bbc650da0d9dc9f384de3e000e184f250519d8284a3716879124fe7d3", checked := Try.checked }
namespace Rows
def none {H : Type} : Left H := { results := [], args := [] }

/-- 'laws.FnExactFitHeights': WHATEVER THE INPUT: true; the input reads as it did. -/
def fnExactFitHeightsSpec : ChangeSpec := { name := "fnExactFitHeights", fn := fun _ => fun
  | [d1, d2, d3, d4] => { results := [.lit (.bool true)], args := [d1, d2, d3, d4] }
  | _ => none }
def fnExactFitHeightsRow : OpenClaim := { program := "ytpckpfbjhnllbaa", sum := "436e035bbc650da0d9dc9f384de3e000e184f250519d8284a3716879124fe7d3", func := "loop.example/g01403/laws.FnExactFitHeights", spec := "fnExactFitHeights", inPlace := ["math.Float64frombits"], unfollowed := true, recurses := true, apart := false }
def FnExactFitHeightsSaid : Prop := fnExactFitHeightsRow.holds Try.pinned (OpenSpec.ofChange fnExactFitHeightsSpec)

/-- ITS FALSE NEIGHBOUR: 'it returns false'. Refute it at one input. -/
def fnExactFitHeightsWrong : ChangeSpec := { name := "fnExactFitHeights", fn := fun _ => fun
  | [d1, d2, d3, d4] => { results := [.lit (.bool false)], args := [d1, d2, d3, d4] }
  | _ => none }
def FnExactFitHeightsWrongFalsely : Prop := fnExactFitHeightsRow.holds Try.pinned (OpenSpec.ofChange fnExactFitHeightsWrong)

/-- 'laws.FnExactFitLine': WHATEVER THE INPUT: true; the input reads as it did. -/
def fnExactFitLineSpec : ChangeSpec := { name := "fnExactFitLine", fn := fun _ => fun
  | [d1, d2, d3, d4, d5] => { results := [.lit (.bool true)], args := [d1, d2, d3, d4, d5] }
  | _ => none }
def fnExactFitLineRow : OpenClaim := { program := "ytpckpfbjhnllbaa", sum := "436e035bbc650da0d9dc9f384de3e000e184f250519d8284a3716879124fe7d3", func := "loop.example/g01403/laws.FnExactFitLine", spec := "fnExactFitLine", inPlace := ["math.Float64frombits"], unfollowed := true, recurses := true, apart := false }
def FnExactFitLineSaid : Prop := fnExactFitLineRow.holds Try.pinned (OpenSpec.ofChange fnExactFitLineSpec)

/-- ITS FALSE NEIGHBOUR: 'it returns false'. Refute it at one input. -/
def fnExactFitLineWrong : ChangeSpec := { name := "fnExactFitLine", fn := fun _ => fun
  | [d1, d2, d3, d4, d5] => { results := [.lit (.bool false)], args := [d1, d2, d3, d4, d5] }
  | _ => none }
def FnExactFitLineWrongFalsely : Prop := fnExactFitLineRow.holds Try.pinned (OpenSpec.ofChange fnExactFitLineWrong)

/- THE SECOND FORM. 'bulk': how many values and letters a reading holds, each counted each time it is reached (what is shared counts as often as it is met; a slice's spare places count too). A statement '..UptoSaid' is the law's where the arguments, and the package variables that the reading takes, are together of bulk at most 1048576: NARROWER than '..Said'. Prove '..Said' where nothing that the law and all that it calls make is longer than what came in: it says more and counts as full. Else prove '..UptoSaid'. A law counts once. -/
mutual
def uptoBulk {H : Type} : DataW H → Nat
  | .lit (.string bytes) => bytes.length + 1
  | .lit _ => 1
  | .nil => 1
  | .ptr d => uptoBulk d + 1
  | .slice elems spare => uptoBulkAll elems + uptoBulkAll spare + 1
  | .agg parts => uptoBulkAll parts + 1
  | .iface _ d => uptoBulk d + 1
  | .map entries => uptoBulkEntries entries + 1
  | .held _ => 1
def uptoBulkAll {H : Type} : List (DataW H) → Nat
  | [] => 0
  | d :: r => uptoBulk d + uptoBulkAll r
def uptoBulkEntries {H : Type} : List (Lit × DataW H) → Nat
  | [] => 0
  | x :: r => uptoBulkEntry x + uptoBulkEntries r
def uptoBulkEntry {H : Type} : Lit × DataW H → Nat
  | (.string bytes, d) => bytes.length + uptoBulk d + 1
  | (_, d) => uptoBulk d + 1
 end
def uptoSmall : (H : Type) → List (DataW H) → Bool := fun _ ds => decide (uptoBulkAll ds ≤ 1048576)
def OpenSpec.upto (s : _root_.Go.ChangeSpec) : _root_.Go.OpenSpec := { _root_.Go.OpenSpec.ofChange s with cond := some uptoSmall }

/-- 'laws.FnExactFitHeights', WHERE WHAT IT READS IS OF BULK AT MOST 1048576: true; the input reads as it did. -/
def fnExactFitHeightsUptoRow : OpenClaim := { program := "ytpckpfbjhnllbaa", sum := "436e035bbc650da0d9dc9f384de3e000e184f250519d8284a3716879124fe7d3", func := "loop.example/g01403/laws.FnExactFitHeights", spec := "fnExactFitHeights", inPlace := ["math.Float64frombits"], unfollowed := true, recurses := true, apart := false, narrowed := true }
def FnExactFitHeightsUptoSaid : Prop := fnExactFitHeightsUptoRow.holds Try.pinned (OpenSpec.upto fnExactFitHeightsSpec)

/-- 'laws.FnExactFitLine', WHERE WHAT IT READS IS OF BULK AT MOST 1048576: true; the input reads as it did. -/
def fnExactFitLineUptoRow : OpenClaim := { program := "ytpckpfbjhnllbaa", sum := "436e035bbc650da0d9dc9f384de3e000e184f250519d8284a3716879124fe7d3", func := "loop.example/g01403/laws.FnExactFitLine", spec := "fnExactFitLine", inPlace := ["math.Float64frombits"], unfollowed := true, recurses := true, apart := false, narrowed := true }
def FnExactFitLineUptoSaid : Prop := fnExactFitLineUptoRow.holds Try.pinned (OpenSpec.upto fnExactFitLineSpec)

end Rows
end Go.Proofs.Ytpckpfbjhnllbaa
