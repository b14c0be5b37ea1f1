/-
  No cell of these rows narrows 'for every input' (looked for: loops, veiled, ifaces, maps, wideKeys, modest, calm, conditions, laid).
  DERIVED. THE GIVEN ROWS OF THIS SEAT. 12 by the template 'for every input the law returns true; each argument reads behind the call as it read before'; 0 by the template 'total and deterministic' (their statements: YtnobgdgnncfcpaaTotals.lean).
  GIVEN WITH THE SEED: the statements are not yours to turn. If you find one false, say at which input.
  Laid BY PROGRAM, IN A SANDBOX (cutbox-rows.mjs): the forced cells as the released guide's own fill.sh prints them over the translation 05744386b73fdf5e… (all of the seat's roots in one cut). By AI agents, Wed Nov 11 2026. No macro, syntax, notation, axiom, sorry.
-/
import Derived.Test.YtnobgdgnncfcpaaChecked
import GoSem.Claim
import GoSem.ClaimJoined
import GoSem.ClaimMapViews
import Derived.JoinedTies
import Derived.KernelRfl
namespace Go.Proofs.Ytnobgdgnncfcpaa
/- THE CELL 'sum', in the pinned program and in every row, IS THE sha256 OF THE DUMP (.gsa) THAT YtnobgdgnncfcpaaProg.lean LOADS. Nothing in Lean hashes anything: it is a label: what it is worth is what the hold of that sum in a sandbox is worth. -/
noncomputable def Try.pinned : Pinned := { name := "ytnobgdgnncfcpaa", sum := "05744386b73fdf5e2457b117adc669f2aa4ffa2ad7b1edb4eba0d1bc9e6f4682", checked := Try.checked }
namespace Rows
def none {H : Type} : Left H := { results := [], args := [] }

/-- 'laws.FnAnswersAhead': WHATEVER THE INPUT: true; the input reads as it did. -/
def fnAnswersAheadSpec : ChangeSpec := { name := "fnAnswersAhead", fn := fun _ => fun
  | [d] => { results := [.lit (.bool true)], args := [d] }
  | _ => none }
def fnAnswersAheadRow : OpenClaim := { program := "ytnobgdgnncfcpaa", sum := "05744386b73fdf5e2457b117adc669f2aa4ffa2ad7b1edb4eba0d1bc9e6f4682", func := "loop.example/dynamicbridges/laws.FnAnswersAhead", spec := "fnAnswersAhead", inPlace := ["slices.overlaps[loop.example/dynamicbridges/impl.Edge]"], unfollowed := true, recurses := true, apart := false }
def FnAnswersAheadSaid : Prop := fnAnswersAheadRow.holds Try.pinned (OpenSpec.ofChange fnAnswersAheadSpec)

/-- ITS FALSE NEIGHBOUR: 'it returns false'. Refute it at one input. -/
def fnAnswersAheadWrong : ChangeSpec := { name := "fnAnswersAhead", fn := fun _ => fun
  | [d] => { results := [.lit (.bool false)], args := [d] }
  | _ => none }
def FnAnswersAheadWrongFalsely : Prop := fnAnswersAheadRow.holds Try.pinned (OpenSpec.ofChange fnAnswersAheadWrong)

/-- 'laws.FnCutNode': WHATEVER THE INPUT: true; the input reads as it did. -/
def fnCutNodeSpec : ChangeSpec := { name := "fnCutNode", fn := fun _ => fun
  | [d] => { results := [.lit (.bool true)], args := [d] }
  | _ => none }
def fnCutNodeRow : OpenClaim := { program := "ytnobgdgnncfcpaa", sum := "05744386b73fdf5e2457b117adc669f2aa4ffa2ad7b1edb4eba0d1bc9e6f4682", func := "loop.example/dynamicbridges/laws.FnCutNode", spec := "fnCutNode", unfollowed := true, recurses := true, apart := false }
def FnCutNodeSaid : Prop := fnCutNodeRow.holds Try.pinned (OpenSpec.ofChange fnCutNodeSpec)

/-- ITS FALSE NEIGHBOUR: 'it returns false'. Refute it at one input. -/
def fnCutNodeWrong : ChangeSpec := { name := "fnCutNode", fn := fun _ => fun
  | [d] => { results := [.lit (.bool false)], args := [d] }
  | _ => none }
def FnCutNodeWrongFalsely : Prop := fnCutNodeRow.holds Try.pinned (OpenSpec.ofChange fnCutNodeWrong)

/-- 'laws.FnSearchLow': WHATEVER THE INPUT: true; the input reads as it did. -/
def fnSearchLowSpec : ChangeSpec := { name := "fnSearchLow", fn := fun _ => fun
  | [d] => { results := [.lit (.bool true)], args := [d] }
  | _ => none }
def fnSearchLowRow : OpenClaim := { program := "ytnobgdgnncfcpaa", sum := "05744386b73fdf5e2457b117adc669f2aa4ffa2ad7b1edb4eba0d1bc9e6f4682", func := "loop.example/dynamicbridges/laws.FnSearchLow", spec := "fnSearchLow", recurses := true, apart := false }
def FnSearchLowSaid : Prop := fnSearchLowRow.holds Try.pinned (OpenSpec.ofChange fnSearchLowSpec)

/-- ITS FALSE NEIGHBOUR: 'it returns false'. Refute it at one input. -/
def fnSearchLowWrong : ChangeSpec := { name := "fnSearchLow", fn := fun _ => fun
  | [d] => { results := [.lit (.bool false)], args := [d] }
  | _ => none }
def FnSearchLowWrongFalsely : Prop := fnSearchLowRow.holds Try.pinned (OpenSpec.ofChange fnSearchLowWrong)

/-- 'laws.FnExactIsCutNode': WHATEVER THE INPUT: true; the input reads as it did. -/
def fnExactIsCutNodeSpec : ChangeSpec := { name := "fnExactIsCutNode", fn := fun _ => fun
  | [d1, d2] => { results := [.lit (.bool true)], args := [d1, d2] }
  | _ => none }
def fnExactIsCutNodeRow : OpenClaim := { program := "ytnobgdgnncfcpaa", sum := "05744386b73fdf5e2457b117adc669f2aa4ffa2ad7b1edb4eba0d1bc9e6f4682", func := "loop.example/dynamicbridges/laws.FnExactIsCutNode", spec := "fnExactIsCutNode", unfollowed := true, recurses := true, apart := false }
def FnExactIsCutNodeSaid : Prop := fnExactIsCutNodeRow.holds Try.pinned (OpenSpec.ofChange fnExactIsCutNodeSpec)

/-- ITS FALSE NEIGHBOUR: 'it returns false'. Refute it at one input. -/
def fnExactIsCutNodeWrong : ChangeSpec := { name := "fnExactIsCutNode", fn := fun _ => fun
  | [d1, d2] => { results := [.lit (.bool false)], args := [d1, d2] }
  | _ => none }
def FnExactIsCutNodeWrongFalsely : Prop := fnExactIsCutNodeRow.holds Try.pinned (OpenSpec.ofChange fnExactIsCutNodeWrong)

/-- 'laws.FnExactAnswersAhead': WHATEVER THE INPUT: true; the input reads as it did. -/
def fnExactAnswersAheadSpec : ChangeSpec := { name := "fnExactAnswersAhead", fn := fun _ => fun
  | [d1, d2] => { results := [.lit (.bool true)], args := [d1, d2] }
  | _ => none }
def fnExactAnswersAheadRow : OpenClaim := { program := "ytnobgdgnncfcpaa", sum := "05744386b73fdf5e2457b117adc669f2aa4ffa2ad7b1edb4eba0d1bc9e6f4682", func := "loop.example/dynamicbridges/laws.FnExactAnswersAhead", spec := "fnExactAnswersAhead", inPlace := ["slices.overlaps[loop.example/dynamicbridges/impl.Edge]"], unfollowed := true, recurses := true, apart := false }
def FnExactAnswersAheadSaid : Prop := fnExactAnswersAheadRow.holds Try.pinned (OpenSpec.ofChange fnExactAnswersAheadSpec)

/-- ITS FALSE NEIGHBOUR: 'it returns false'. Refute it at one input. -/
def fnExactAnswersAheadWrong : ChangeSpec := { name := "fnExactAnswersAhead", fn := fun _ => fun
  | [d1, d2] => { results := [.lit (.bool false)], args := [d1, d2] }
  | _ => none }
def FnExactAnswersAheadWrongFalsely : Prop := fnExactAnswersAheadRow.holds Try.pinned (OpenSpec.ofChange fnExactAnswersAheadWrong)

/-- 'laws.FnCutNodeTwice': WHATEVER THE INPUT: true; the input reads as it did. -/
def fnCutNodeTwiceSpec : ChangeSpec := { name := "fnCutNodeTwice", fn := fun _ => fun
  | [d] => { results := [.lit (.bool true)], args := [d] }
  | _ => none }
def fnCutNodeTwiceRow : OpenClaim := { program := "ytnobgdgnncfcpaa", sum := "05744386b73fdf5e2457b117adc669f2aa4ffa2ad7b1edb4eba0d1bc9e6f4682", func := "loop.example/dynamicbridges/laws.FnCutNodeTwice", spec := "fnCutNodeTwice", unfollowed := true, recurses := true, apart := false }
def FnCutNodeTwiceSaid : Prop := fnCutNodeTwiceRow.holds Try.pinned (OpenSpec.ofChange fnCutNodeTwiceSpec)

/-- ITS FALSE NEIGHBOUR: 'it returns false'. Refute it at one input. -/
def fnCutNodeTwiceWrong : ChangeSpec := { name := "fnCutNodeTwice", fn := fun _ => fun
  | [d] => { results := [.lit (.bool false)], args := [d] }
  | _ => none }
def FnCutNodeTwiceWrongFalsely : Prop := fnCutNodeTwiceRow.holds Try.pinned (OpenSpec.ofChange fnCutNodeTwiceWrong)

/-- 'laws.FnIsCutNode': WHATEVER THE INPUT: true; the input reads as it did. -/
def fnIsCutNodeSpec : ChangeSpec := { name := "fnIsCutNode", fn := fun _ => fun
  | [d] => { results := [.lit (.bool true)], args := [d] }
  | _ => none }
def fnIsCutNodeRow : OpenClaim := { program := "ytnobgdgnncfcpaa", sum := "05744386b73fdf5e2457b117adc669f2aa4ffa2ad7b1edb4eba0d1bc9e6f4682", func := "loop.example/dynamicbridges/laws.FnIsCutNode", spec := "fnIsCutNode", unfollowed := true, recurses := true, apart := false }
def FnIsCutNodeSaid : Prop := fnIsCutNodeRow.holds Try.pinned (OpenSpec.ofChange fnIsCutNodeSpec)

/-- ITS FALSE NEIGHBOUR: 'it returns false'. Refute it at one input. -/
def fnIsCutNodeWrong : ChangeSpec := { name := "fnIsCutNode", fn := fun _ => fun
  | [d] => { results := [.lit (.bool false)], args := [d] }
  | _ => none }
def FnIsCutNodeWrongFalsely : Prop := fnIsCutNodeRow.holds Try.pinned (OpenSpec.ofChange fnIsCutNodeWrong)

/-- 'laws.FnCutNodesOf': WHATEVER THE INPUT: true; the input reads as it did. -/
def fnCutNodesOfSpec : ChangeSpec := { name := "fnCutNodesOf", fn := fun _ => fun
  | [d] => { results := [.lit (.bool true)], args := [d] }
  | _ => none }
def fnCutNodesOfRow : OpenClaim := { program := "ytnobgdgnncfcpaa", sum := "05744386b73fdf5e2457b117adc669f2aa4ffa2ad7b1edb4eba0d1bc9e6f4682", func := "loop.example/dynamicbridges/laws.FnCutNodesOf", spec := "fnCutNodesOf", unfollowed := true, recurses := true, apart := false }
def FnCutNodesOfSaid : Prop := fnCutNodesOfRow.holds Try.pinned (OpenSpec.ofChange fnCutNodesOfSpec)

/-- ITS FALSE NEIGHBOUR: 'it returns false'. Refute it at one input. -/
def fnCutNodesOfWrong : ChangeSpec := { name := "fnCutNodesOf", fn := fun _ => fun
  | [d] => { results := [.lit (.bool false)], args := [d] }
  | _ => none }
def FnCutNodesOfWrongFalsely : Prop := fnCutNodesOfRow.holds Try.pinned (OpenSpec.ofChange fnCutNodesOfWrong)

/-- 'laws.FnConnected': WHATEVER THE INPUT: true; the input reads as it did. -/
def fnConnectedSpec : ChangeSpec := { name := "fnConnected", fn := fun _ => fun
  | [d] => { results := [.lit (.bool true)], args := [d] }
  | _ => none }
def fnConnectedRow : OpenClaim := { program := "ytnobgdgnncfcpaa", sum := "05744386b73fdf5e2457b117adc669f2aa4ffa2ad7b1edb4eba0d1bc9e6f4682", func := "loop.example/dynamicbridges/laws.FnConnected", spec := "fnConnected", recurses := true, apart := false }
def FnConnectedSaid : Prop := fnConnectedRow.holds Try.pinned (OpenSpec.ofChange fnConnectedSpec)

/-- ITS FALSE NEIGHBOUR: 'it returns false'. Refute it at one input. -/
def fnConnectedWrong : ChangeSpec := { name := "fnConnected", fn := fun _ => fun
  | [d] => { results := [.lit (.bool false)], args := [d] }
  | _ => none }
def FnConnectedWrongFalsely : Prop := fnConnectedRow.holds Try.pinned (OpenSpec.ofChange fnConnectedWrong)

/-- 'laws.FnPathTriangle': WHATEVER THE INPUT: true; the input reads as it did. -/
def fnPathTriangleSpec : ChangeSpec := { name := "fnPathTriangle", fn := fun _ => fun
  | [d] => { results := [.lit (.bool true)], args := [d] }
  | _ => none }
def fnPathTriangleRow : OpenClaim := { program := "ytnobgdgnncfcpaa", sum := "05744386b73fdf5e2457b117adc669f2aa4ffa2ad7b1edb4eba0d1bc9e6f4682", func := "loop.example/dynamicbridges/laws.FnPathTriangle", spec := "fnPathTriangle", recurses := true, apart := false }
def FnPathTriangleSaid : Prop := fnPathTriangleRow.holds Try.pinned (OpenSpec.ofChange fnPathTriangleSpec)

/-- ITS FALSE NEIGHBOUR: 'it returns false'. Refute it at one input. -/
def fnPathTriangleWrong : ChangeSpec := { name := "fnPathTriangle", fn := fun _ => fun
  | [d] => { results := [.lit (.bool false)], args := [d] }
  | _ => none }
def FnPathTriangleWrongFalsely : Prop := fnPathTriangleRow.holds Try.pinned (OpenSpec.ofChange fnPathTriangleWrong)

/-- 'laws.FnExactPathBetween': WHATEVER THE INPUT: true; the input reads as it did. -/
def fnExactPathBetweenSpec : ChangeSpec := { name := "fnExactPathBetween", fn := fun _ => fun
  | [d1, d2, d3] => { results := [.lit (.bool true)], args := [d1, d2, d3] }
  | _ => none }
def fnExactPathBetweenRow : OpenClaim := { program := "ytnobgdgnncfcpaa", sum := "05744386b73fdf5e2457b117adc669f2aa4ffa2ad7b1edb4eba0d1bc9e6f4682", func := "loop.example/dynamicbridges/laws.FnExactPathBetween", spec := "fnExactPathBetween", recurses := true, apart := false }
def FnExactPathBetweenSaid : Prop := fnExactPathBetweenRow.holds Try.pinned (OpenSpec.ofChange fnExactPathBetweenSpec)

/-- ITS FALSE NEIGHBOUR: 'it returns false'. Refute it at one input. -/
def fnExactPathBetweenWrong : ChangeSpec := { name := "fnExactPathBetween", fn := fun _ => fun
  | [d1, d2, d3] => { results := [.lit (.bool false)], args := [d1, d2, d3] }
  | _ => none }
def FnExactPathBetweenWrongFalsely : Prop := fnExactPathBetweenRow.holds Try.pinned (OpenSpec.ofChange fnExactPathBetweenWrong)

/-- 'laws.FnPathBetween': WHATEVER THE INPUT: true; the input reads as it did. -/
def fnPathBetweenSpec : ChangeSpec := { name := "fnPathBetween", fn := fun _ => fun
  | [d] => { results := [.lit (.bool true)], args := [d] }
  | _ => none }
def fnPathBetweenRow : OpenClaim := { program := "ytnobgdgnncfcpaa", sum := "05744386b73fdf5e2457b117adc669f2aa4ffa2ad7b1edb4eba0d1bc9e6f4682", func := "loop.example/dynamicbridges/laws.FnPathBetween", spec := "fnPathBetween", recurses := true, apart := false }
def FnPathBetweenSaid : Prop := fnPathBetweenRow.holds Try.pinned (OpenSpec.ofChange fnPathBetweenSpec)

/-- ITS FALSE NEIGHBOUR: 'it returns false'. Refute it at one input. -/
def fnPathBetweenWrong : ChangeSpec := { name := "fnPathBetween", fn := fun _ => fun
  | [d] => { results := [.lit (.bool false)], args := [d] }
  | _ => none }
def FnPathBetweenWrongFalsely : Prop := fnPathBetweenRow.holds Try.pinned (OpenSpec.ofChange fnPathBetweenWrong)

/- THE SECOND FORM. 'bulk': how many values and letters a reading holds, each counted each time it is reached (what is shared counts as often as it is met; a slice's spare places count too). A statement '..UptoSaid' is the law's where the arguments, and the package variables that the reading takes, are together of bulk at most 1048576: NARROWER than '..Said'. Prove '..Said' where nothing that the law and all that it calls make is longer than what came in: it says more and counts as full. Else prove '..UptoSaid'. A law counts once. -/
mutual
def uptoBulk {H : Type} : DataW H → Nat
  | .lit (.string bytes) => bytes.length + 1
  | .lit _ => 1
  | .nil => 1
  | .ptr d => uptoBulk d + 1
  | .slice elems spare => uptoBulkAll elems + uptoBulkAll spare + 1
  | .agg parts => uptoBulkAll parts + 1
  | .iface _ d => uptoBulk d + 1
  | .map entries => uptoBulkEntries entries + 1
  | .held _ => 1
def uptoBulkAll {H : Type} : List (DataW H) → Nat
  | [] => 0
  | d :: r => uptoBulk d + uptoBulkAll r
def uptoBulkEntries {H : Type} : List (Lit × DataW H) → Nat
  | [] => 0
  | x :: r => uptoBulkEntry x + uptoBulkEntries r
def uptoBulkEntry {H : Type} : Lit × DataW H → Nat
  | (.string bytes, d) => bytes.length + uptoBulk d + 1
  | (_, d) => uptoBulk d + 1
 end
def uptoSmall : (H : Type) → List (DataW H) → Bool := fun _ ds => decide (uptoBulkAll ds ≤ 1048576)
def OpenSpec.upto (s : _root_.Go.ChangeSpec) : _root_.Go.OpenSpec := { _root_.Go.OpenSpec.ofChange s with cond := some uptoSmall }

/-- 'laws.FnAnswersAhead', WHERE WHAT IT READS IS OF BULK AT MOST 1048576: true; the input reads as it did. -/
def fnAnswersAheadUptoRow : OpenClaim := { program := "ytnobgdgnncfcpaa", sum := "05744386b73fdf5e2457b117adc669f2aa4ffa2ad7b1edb4eba0d1bc9e6f4682", func := "loop.example/dynamicbridges/laws.FnAnswersAhead", spec := "fnAnswersAhead", inPlace := ["slices.overlaps[loop.example/dynamicbridges/impl.Edge]"], unfollowed := true, recurses := true, apart := false, narrowed := true }
def FnAnswersAheadUptoSaid : Prop := fnAnswersAheadUptoRow.holds Try.pinned (OpenSpec.upto fnAnswersAheadSpec)

/-- 'laws.FnCutNode', WHERE WHAT IT READS IS OF BULK AT MOST 1048576: true; the input reads as it did. -/
def fnCutNodeUptoRow : OpenClaim := { program := "ytnobgdgnncfcpaa", sum := "05744386b73fdf5e2457b117adc669f2aa4ffa2ad7b1edb4eba0d1bc9e6f4682", func := "loop.example/dynamicbridges/laws.FnCutNode", spec := "fnCutNode", unfollowed := true, recurses := true, apart := false, narrowed := true }
def FnCutNodeUptoSaid : Prop := fnCutNodeUptoRow.holds Try.pinned (OpenSpec.upto fnCutNodeSpec)

/-- 'laws.FnSearchLow', WHERE WHAT IT READS IS OF BULK AT MOST 1048576: true; the input reads as it did. -/
def fnSearchLowUptoRow : OpenClaim := { program := "ytnobgdgnncfcpaa", sum := "05744386b73fdf5e2457b117adc669f2aa4ffa2ad7b1edb4eba0d1bc9e6f4682", func := "loop.example/dynamicbridges/laws.FnSearchLow", spec := "fnSearchLow", recurses := true, apart := false, narrowed := true }
def FnSearchLowUptoSaid : Prop := fnSearchLowUptoRow.holds Try.pinned (OpenSpec.upto fnSearchLowSpec)

/-- 'laws.FnExactIsCutNode', WHERE WHAT IT READS IS OF BULK AT MOST 1048576: true; the input reads as it did. -/
def fnExactIsCutNodeUptoRow : OpenClaim := { program := "ytnobgdgnncfcpaa", sum := "05744386b73fdf5e2457b117adc669f2aa4ffa2ad7b1edb4eba0d1bc9e6f4682", func := "loop.example/dynamicbridges/laws.FnExactIsCutNode", spec := "fnExactIsCutNode", unfollowed := true, recurses := true, apart := false, narrowed := true }
def FnExactIsCutNodeUptoSaid : Prop := fnExactIsCutNodeUptoRow.holds Try.pinned (OpenSpec.upto fnExactIsCutNodeSpec)

/-- 'laws.FnExactAnswersAhead', WHERE WHAT IT READS IS OF BULK AT MOST 1048576: true; the input reads as it did. -/
def fnExactAnswersAheadUptoRow : OpenClaim := { program := "ytnobgdgnncfcpaa", sum := "05744386b73fdf5e2457b117adc669f2aa4ffa2ad7b1edb4eba0d1bc9e6f4682", func := "loop.example/dynamicbridges/laws.FnExactAnswersAhead", spec := "fnExactAnswersAhead", inPlace := ["slices.overlaps[loop.example/dynamicbridges/impl.Edge]"], unfollowed := true, recurses := true, apart := false, narrowed := true }
def FnExactAnswersAheadUptoSaid : Prop := fnExactAnswersAheadUptoRow.holds Try.pinned (OpenSpec.upto fnExactAnswersAheadSpec)

/-- 'laws.FnCutNodeTwice', WHERE WHAT IT READS IS OF BULK AT MOST 1048576: true; the input reads as it did. -/
def fnCutNodeTwiceUptoRow : OpenClaim := { program := "ytnobgdgnncfcpaa", sum := "05744386b73fdf5e2457b117adc669f2aa4ffa2ad7b1edb4eba0d1bc9e6f4682", func := "loop.example/dynamicbridges/laws.FnCutNodeTwice", spec := "fnCutNodeTwice", unfollowed := true, recurses := true, apart := false, narrowed := true }
def FnCutNodeTwiceUptoSaid : Prop := fnCutNodeTwiceUptoRow.holds Try.pinned (OpenSpec.upto fnCutNodeTwiceSpec)

/-- 'laws.FnIsCutNode', WHERE WHAT IT READS IS OF BULK AT MOST 1048576: true; the input reads as it did. -/
def fnIsCutNodeUptoRow : OpenClaim := { program := "ytnobgdgnncfcpaa", sum := "05744386b73fdf5e2457b117adc669f2aa4ffa2ad7b1edb4eba0d1bc9e6f4682", func := "loop.example/dynamicbridges/laws.FnIsCutNode", spec := "fnIsCutNode", unfollowed := true, recurses := true, apart := false, narrowed := true }
def FnIsCutNodeUptoSaid : Prop := fnIsCutNodeUptoRow.holds Try.pinned (OpenSpec.upto fnIsCutNodeSpec)

/-- 'laws.FnCutNodesOf', WHERE WHAT IT READS IS OF BULK AT MOST 1048576: true; the input reads as it did. -/
def fnCutNodesOfUptoRow : OpenClaim := { program := "ytnobgdgnncfcpaa", sum := "05744386b73fdf5e2457b117adc669f2aa4ffa2ad7b1edb4eba0d1bc9e6f4682", func := "loop.example/dynamicbridges/laws.FnCutNodesOf", spec := "fnCutNodesOf", unfollowed := true, recurses := true, apart := false, narrowed := true }
def FnCutNodesOfUptoSaid : Prop := fnCutNodesOfUptoRow.holds Try.pinned (OpenSpec.upto fnCutNodesOfSpec)

/-- 'laws.FnConnected', WHERE WHAT IT READS IS OF BULK AT MOST 1048576: true; the input reads as it did. -/
def fnConnectedUptoRow : OpenClaim := { program := "ytnobgdgnncfcpaa", sum := "05744386b73fdf5e2457b117adc669f2aa4ffa2ad7b1edb4eba0d1bc9e6f4682", func := "loop.example/dynamicbridges/laws.FnConnected", spec := "fnConnected", recurses := true, apart := false, narrowed := true }
def FnConnectedUptoSaid : Prop := fnConnectedUptoRow.holds Try.pinned (OpenSpec.upto fnConnectedSpec)

/-- 'laws.FnPathTriangle', WHERE WHAT IT READS IS OF BULK AT MOST 1048576: true; the input reads as it did. -/
def fnPathTriangleUptoRow : OpenClaim := { program := "ytnobgdgnncfcpaa", sum := "05744386b73fdf5e2457b117adc669f2aa4ffa2ad7b1edb4eba0d1bc9e6f4682", func := "loop.example/dynamicbridges/laws.FnPathTriangle", spec := "fnPathTriangle", recurses := true, apart := false, narrowed := true }
def FnPathTriangleUptoSaid : Prop := fnPathTriangleUptoRow.holds Try.pinned (OpenSpec.upto fnPathTriangleSpec)

/-- 'laws.FnExactPathBetween', WHERE WHAT IT READS IS OF BULK AT MOST 1048576: true; the input reads as it did. -/
def fnExactPathBetweenUptoRow : OpenClaim := { program := "ytnobgdgnncfcpaa", sum := "05744386b73fdf5e2457b117adc669f2aa4ffa2ad7b1edb4eba0d1bc9e6f4682", func := "loop.example/dynamicbridges/laws.FnExactPathBetween", spec := "fnExactPathBetween", recurses := true, apart := false, narrowed := true }
def FnExactPathBetweenUptoSaid : Prop := fnExactPathBetweenUptoRow.holds Try.pinned (OpenSpec.upto fnExactPathBetweenSpec)

/-- 'laws.FnPathBetween', WHERE WHAT IT READS IS OF BULK AT MOST 1048576: true; the input reads as it did. -/
def fnPathBetweenUptoRow : OpenClaim := { program := "ytnobgdgnncfcpaa", sum := "05744386b73fdf5e2457b117adc669f2aa4ffa2ad7b1edb4eba0d1bc9e6f4682", func := "loop.example/dynamicbridges/laws.FnPathBetween", spec := "fnPathBetween", recurses := true, apart := false, narrowed := true }
def FnPathBetweenUptoSaid : Prop := fnPathBetweenUptoRow.holds Try.pinned (OpenSpec.upto fnPathBetweenSpec)

end Rows
end Go.Proofs.Ytnobgdgnncfcpaa
