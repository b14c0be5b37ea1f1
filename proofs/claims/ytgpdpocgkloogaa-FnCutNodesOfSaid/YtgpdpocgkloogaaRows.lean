/-
  No cell of these rows narrows 'for every input' (looked for: loops, veiled, ifaces, maps, wideKeys, modest, calm, conditions, laid).
  DERIVED. THE GIVEN ROWS OF THIS SEAT. 9 by the template 'for every input the law returns true; each argument reads behind the call as it read before'; 0 by the template 'total and deterministic' (their statements: YtgpdpocgkloogaaTotals.lean).
  GIVEN WITH THE SEED: the statements are not yours to turn. If you find one false, say at which input.
  Laid BY PROGRAM, IN A SANDBOX (cutbox-rows.mjs): the forced cells as the released guide's own fill.sh prints them over the translation 0ac52a9057ea0ffc… (all of the seat's roots in one cut). By AI agents, Wed Nov 11 2026. No macro, syntax, notation, axiom, sorry.
-/
import Derived.Test.YtgpdpocgkloogaaChecked
import GoSem.Claim
import GoSem.ClaimJoined
import GoSem.ClaimMapViews
import Derived.JoinedTies
import Derived.KernelRfl
namespace Go.Proofs.Ytgpdpocgkloogaa
/- THE CELL 'sum', in the pinned program and in every row, IS THE sha256 OF THE DUMP (.gsa) THAT YtgpdpocgkloogaaProg.lean LOADS. Nothing in Lean hashes anything: it is a label: what it is worth is what the hold of that sum in a sandbox is worth. -/
noncomputable def Try.pinned : Pinned := { name := "ytgpdpocgkloogaa", sum := "0ac52a9057ea0ffcb95edf265fdfd14aa91d4e2bd25c7a5272cac39726395aef", checked := Try.checked }
namespace Rows
def none {H : Type} : Left H := { results := [], args := [] }

/-- 'laws.FnExactIsCutNode': WHATEVER THE INPUT: true; the input reads as it did. -/
def fnExactIsCutNodeSpec : ChangeSpec := { name := "fnExactIsCutNode", fn := fun _ => fun
  | [d1, d2] => { results := [.lit (.bool true)], args := [d1, d2] }
  | _ => none }
def fnExactIsCutNodeRow : OpenClaim := { program := "ytgpdpocgkloogaa", sum := "0ac52a9057ea0ffcb95edf265fdfd14aa91d4e2bd25c7a5272cac39726395aef", func := "loop.example/dynamicbridges/laws.FnExactIsCutNode", spec := "fnExactIsCutNode", unfollowed := true, recurses := true, apart := false }
def FnExactIsCutNodeSaid : Prop := fnExactIsCutNodeRow.holds Try.pinned (OpenSpec.ofChange fnExactIsCutNodeSpec)

/-- ITS FALSE NEIGHBOUR: 'it returns false'. Refute it at one input. -/
def fnExactIsCutNodeWrong : ChangeSpec := { name := "fnExactIsCutNode", fn := fun _ => fun
  | [d1, d2] => { results := [.lit (.bool false)], args := [d1, d2] }
  | _ => none }
def FnExactIsCutNodeWrongFalsely : Prop := fnExactIsCutNodeRow.holds Try.pinned (OpenSpec.ofChange fnExactIsCutNodeWrong)

/-- 'laws.FnExactPathBetween': WHATEVER THE INPUT: true; the input reads as it did. -/
def fnExactPathBetweenSpec : ChangeSpec := { name := "fnExactPathBetween", fn := fun _ => fun
  | [d1, d2, d3] => { results := [.lit (.bool true)], args := [d1, d2, d3] }
  | _ => none }
def fnExactPathBetweenRow : OpenClaim := { program := "ytgpdpocgkloogaa", sum := "0ac52a9057ea0ffcb95edf265fdfd14aa91d4e2bd25c7a5272cac39726395aef", func := "loop.example/dynamicbridges/laws.FnExactPathBetween", spec := "fnExactPathBetween", recurses := true, apart := false }
def FnExactPathBetweenSaid : Prop := fnExactPathBetweenRow.holds Try.pinned (OpenSpec.ofChange fnExactPathBetweenSpec)

/-- ITS FALSE NEIGHBOUR: 'it returns false'. Refute it at one input. -/
def fnExactPathBetweenWrong : ChangeSpec := { name := "fnExactPathBetween", fn := fun _ => fun
  | [d1, d2, d3] => { results := [.lit (.bool false)], args := [d1, d2, d3] }
  | _ => none }
def FnExactPathBetweenWrongFalsely : Prop := fnExactPathBetweenRow.holds Try.pinned (OpenSpec.ofChange fnExactPathBetweenWrong)

/-- 'laws.FnExactCycleThrough': WHATEVER THE INPUT: true; the input reads as it did. -/
def fnExactCycleThroughSpec : ChangeSpec := { name := "fnExactCycleThrough", fn := fun _ => fun
  | [d1, d2] => { results := [.lit (.bool true)], args := [d1, d2] }
  | _ => none }
def fnExactCycleThroughRow : OpenClaim := { program := "ytgpdpocgkloogaa", sum := "0ac52a9057ea0ffcb95edf265fdfd14aa91d4e2bd25c7a5272cac39726395aef", func := "loop.example/dynamicbridges/laws.FnExactCycleThrough", spec := "fnExactCycleThrough", unfollowed := true, recurses := true, apart := false }
def FnExactCycleThroughSaid : Prop := fnExactCycleThroughRow.holds Try.pinned (OpenSpec.ofChange fnExactCycleThroughSpec)

/-- ITS FALSE NEIGHBOUR: 'it returns false'. Refute it at one input. -/
def fnExactCycleThroughWrong : ChangeSpec := { name := "fnExactCycleThrough", fn := fun _ => fun
  | [d1, d2] => { results := [.lit (.bool false)], args := [d1, d2] }
  | _ => none }
def FnExactCycleThroughWrongFalsely : Prop := fnExactCycleThroughRow.holds Try.pinned (OpenSpec.ofChange fnExactCycleThroughWrong)

/-- 'laws.FnSearchLow': WHATEVER THE INPUT: true; the input reads as it did. -/
def fnSearchLowSpec : ChangeSpec := { name := "fnSearchLow", fn := fun _ => fun
  | [d] => { results := [.lit (.bool true)], args := [d] }
  | _ => none }
def fnSearchLowRow : OpenClaim := { program := "ytgpdpocgkloogaa", sum := "0ac52a9057ea0ffcb95edf265fdfd14aa91d4e2bd25c7a5272cac39726395aef", func := "loop.example/dynamicbridges/laws.FnSearchLow", spec := "fnSearchLow", recurses := true, apart := false }
def FnSearchLowSaid : Prop := fnSearchLowRow.holds Try.pinned (OpenSpec.ofChange fnSearchLowSpec)

/-- ITS FALSE NEIGHBOUR: 'it returns false'. Refute it at one input. -/
def fnSearchLowWrong : ChangeSpec := { name := "fnSearchLow", fn := fun _ => fun
  | [d] => { results := [.lit (.bool false)], args := [d] }
  | _ => none }
def FnSearchLowWrongFalsely : Prop := fnSearchLowRow.holds Try.pinned (OpenSpec.ofChange fnSearchLowWrong)

/-- 'laws.FnCutNodesOf': WHATEVER THE INPUT: true; the input reads as it did. -/
def fnCutNodesOfSpec : ChangeSpec := { name := "fnCutNodesOf", fn := fun _ => fun
  | [d] => { results := [.lit (.bool true)], args := [d] }
  | _ => none }
def fnCutNodesOfRow : OpenClaim := { program := "ytgpdpocgkloogaa", sum := "0ac52a9057ea0ffcb95edf265fdfd14aa91d4e2bd25c7a5272cac39726395aef", func := "loop.example/dynamicbridges/laws.FnCutNodesOf", spec := "fnCutNodesOf", unfollowed := true, recurses := true, apart := false }
def FnCutNodesOfSaid : Prop := fnCutNodesOfRow.holds Try.pinned (OpenSpec.ofChange fnCutNodesOfSpec)

/-- ITS FALSE NEIGHBOUR: 'it returns false'. Refute it at one input. -/
def fnCutNodesOfWrong : ChangeSpec := { name := "fnCutNodesOf", fn := fun _ => fun
  | [d] => { results := [.lit (.bool false)], args := [d] }
  | _ => none }
def FnCutNodesOfWrongFalsely : Prop := fnCutNodesOfRow.holds Try.pinned (OpenSpec.ofChange fnCutNodesOfWrong)

/-- 'laws.FnBlockNodes': WHATEVER THE INPUT: true; the input reads as it did. -/
def fnBlockNodesSpec : ChangeSpec := { name := "fnBlockNodes", fn := fun _ => fun
  | [d] => { results := [.lit (.bool true)], args := [d] }
  | _ => none }
def fnBlockNodesRow : OpenClaim := { program := "ytgpdpocgkloogaa", sum := "0ac52a9057ea0ffcb95edf265fdfd14aa91d4e2bd25c7a5272cac39726395aef", func := "loop.example/dynamicbridges/laws.FnBlockNodes", spec := "fnBlockNodes", unfollowed := true, recurses := true, apart := false }
def FnBlockNodesSaid : Prop := fnBlockNodesRow.holds Try.pinned (OpenSpec.ofChange fnBlockNodesSpec)

/-- ITS FALSE NEIGHBOUR: 'it returns false'. Refute it at one input. -/
def fnBlockNodesWrong : ChangeSpec := { name := "fnBlockNodes", fn := fun _ => fun
  | [d] => { results := [.lit (.bool false)], args := [d] }
  | _ => none }
def FnBlockNodesWrongFalsely : Prop := fnBlockNodesRow.holds Try.pinned (OpenSpec.ofChange fnBlockNodesWrong)

/-- 'laws.FnBlocksOf': WHATEVER THE INPUT: true; the input reads as it did. -/
def fnBlocksOfSpec : ChangeSpec := { name := "fnBlocksOf", fn := fun _ => fun
  | [d] => { results := [.lit (.bool true)], args := [d] }
  | _ => none }
def fnBlocksOfRow : OpenClaim := { program := "ytgpdpocgkloogaa", sum := "0ac52a9057ea0ffcb95edf265fdfd14aa91d4e2bd25c7a5272cac39726395aef", func := "loop.example/dynamicbridges/laws.FnBlocksOf", spec := "fnBlocksOf", unfollowed := true, recurses := true, apart := false }
def FnBlocksOfSaid : Prop := fnBlocksOfRow.holds Try.pinned (OpenSpec.ofChange fnBlocksOfSpec)

/-- ITS FALSE NEIGHBOUR: 'it returns false'. Refute it at one input. -/
def fnBlocksOfWrong : ChangeSpec := { name := "fnBlocksOf", fn := fun _ => fun
  | [d] => { results := [.lit (.bool false)], args := [d] }
  | _ => none }
def FnBlocksOfWrongFalsely : Prop := fnBlocksOfRow.holds Try.pinned (OpenSpec.ofChange fnBlocksOfWrong)

/-- 'laws.FnBlockCycle': WHATEVER THE INPUT: true; the input reads as it did. -/
def fnBlockCycleSpec : ChangeSpec := { name := "fnBlockCycle", fn := fun _ => fun
  | [d] => { results := [.lit (.bool true)], args := [d] }
  | _ => none }
def fnBlockCycleRow : OpenClaim := { program := "ytgpdpocgkloogaa", sum := "0ac52a9057ea0ffcb95edf265fdfd14aa91d4e2bd25c7a5272cac39726395aef", func := "loop.example/dynamicbridges/laws.FnBlockCycle", spec := "fnBlockCycle", unfollowed := true, recurses := true, apart := false }
def FnBlockCycleSaid : Prop := fnBlockCycleRow.holds Try.pinned (OpenSpec.ofChange fnBlockCycleSpec)

/-- ITS FALSE NEIGHBOUR: 'it returns false'. Refute it at one input. -/
def fnBlockCycleWrong : ChangeSpec := { name := "fnBlockCycle", fn := fun _ => fun
  | [d] => { results := [.lit (.bool false)], args := [d] }
  | _ => none }
def FnBlockCycleWrongFalsely : Prop := fnBlockCycleRow.holds Try.pinned (OpenSpec.ofChange fnBlockCycleWrong)

/-- 'laws.FnBlockCuts': WHATEVER THE INPUT: true; the input reads as it did. -/
def fnBlockCutsSpec : ChangeSpec := { name := "fnBlockCuts", fn := fun _ => fun
  | [d] => { results := [.lit (.bool true)], args := [d] }
  | _ => none }
def fnBlockCutsRow : OpenClaim := { program := "ytgpdpocgkloogaa", sum := "0ac52a9057ea0ffcb95edf265fdfd14aa91d4e2bd25c7a5272cac39726395aef", func := "loop.example/dynamicbridges/laws.FnBlockCuts", spec := "fnBlockCuts", unfollowed := true, recurses := true, apart := false }
def FnBlockCutsSaid : Prop := fnBlockCutsRow.holds Try.pinned (OpenSpec.ofChange fnBlockCutsSpec)

/-- ITS FALSE NEIGHBOUR: 'it returns false'. Refute it at one input. -/
def fnBlockCutsWrong : ChangeSpec := { name := "fnBlockCuts", fn := fun _ => fun
  | [d] => { results := [.lit (.bool false)], args := [d] }
  | _ => none }
def FnBlockCutsWrongFalsely : Prop := fnBlockCutsRow.holds Try.pinned (OpenSpec.ofChange fnBlockCutsWrong)

/- THE SECOND FORM. 'bulk': how many values and letters a reading holds, each counted each time it is reached (what is shared counts as often as it is met; a slice's spare places count too). A statement '..UptoSaid' is the law's where the arguments, and the package variables that the reading takes, are together of bulk at most 1048576: NARROWER than '..Said'. Prove '..Said' where nothing that the law and all that it calls make is longer than what came in: it says more and counts as full. Else prove '..UptoSaid'. A law counts once. -/
mutual
def uptoBulk {H : Type} : DataW H → Nat
  | .lit (.string bytes) => bytes.length + 1
  | .lit _ => 1
  | .nil => 1
  | .ptr d => uptoBulk d + 1
  | .slice elems spare => uptoBulkAll elems + uptoBulkAll spare + 1
  | .agg parts => uptoBulkAll parts + 1
  | .iface _ d => uptoBulk d + 1
  | .map entries => uptoBulkEntries entries + 1
  | .held _ => 1
def uptoBulkAll {H : Type} : List (DataW H) → Nat
  | [] => 0
  | d :: r => uptoBulk d + uptoBulkAll r
def uptoBulkEntries {H : Type} : List (Lit × DataW H) → Nat
  | [] => 0
  | x :: r => uptoBulkEntry x + uptoBulkEntries r
def uptoBulkEntry {H : Type} : Lit × DataW H → Nat
  | (.string bytes, d) => bytes.length + uptoBulk d + 1
  | (_, d) => uptoBulk d + 1
 end
def uptoSmall : (H : Type) → List (DataW H) → Bool := fun _ ds => decide (uptoBulkAll ds ≤ 1048576)
def OpenSpec.upto (s : _root_.Go.ChangeSpec) : _root_.Go.OpenSpec := { _root_.Go.OpenSpec.ofChange s with cond := some uptoSmall }

/-- 'laws.FnExactIsCutNode', WHERE WHAT IT READS IS OF BULK AT MOST 1048576: true; the input reads as it did. -/
def fnExactIsCutNodeUptoRow : OpenClaim := { program := "ytgpdpocgkloogaa", sum := "0ac52a9057ea0ffcb95edf265fdfd14aa91d4e2bd25c7a5272cac39726395aef", func := "loop.example/dynamicbridges/laws.FnExactIsCutNode", spec := "fnExactIsCutNode", unfollowed := true, recurses := true, apart := false, narrowed := true }
def FnExactIsCutNodeUptoSaid : Prop := fnExactIsCutNodeUptoRow.holds Try.pinned (OpenSpec.upto fnExactIsCutNodeSpec)

/-- 'laws.FnExactPathBetween', WHERE WHAT IT READS IS OF BULK AT MOST 1048576: true; the input reads as it did. -/
def fnExactPathBetweenUptoRow : OpenClaim := { program := "ytgpdpocgkloogaa", sum := "0ac52a9057ea0ffcb95edf265fdfd14aa91d4e2bd25c7a5272cac39726395aef", func := "loop.example/dynamicbridges/laws.FnExactPathBetween", spec := "fnExactPathBetween", recurses := true, apart := false, narrowed := true }
def FnExactPathBetweenUptoSaid : Prop := fnExactPathBetweenUptoRow.holds Try.pinned (OpenSpec.upto fnExactPathBetweenSpec)

/-- 'laws.FnExactCycleThrough', WHERE WHAT IT READS IS OF BULK AT MOST 1048576: true; the input reads as it did. -/
def fnExactCycleThroughUptoRow : OpenClaim := { program := "ytgpdpocgkloogaa", sum := "0ac52a9057ea0ffcb95edf265fdfd14aa91d4e2bd25c7a5272cac39726395aef", func := "loop.example/dynamicbridges/laws.FnExactCycleThrough", spec := "fnExactCycleThrough", unfollowed := true, recurses := true, apart := false, narrowed := true }
def FnExactCycleThroughUptoSaid : Prop := fnExactCycleThroughUptoRow.holds Try.pinned (OpenSpec.upto fnExactCycleThroughSpec)

/-- 'laws.FnSearchLow', WHERE WHAT IT READS IS OF BULK AT MOST 1048576: true; the input reads as it did. -/
def fnSearchLowUptoRow : OpenClaim := { program := "ytgpdpocgkloogaa", sum := "0ac52a9057ea0ffcb95edf265fdfd14aa91d4e2bd25c7a5272cac39726395aef", func := "loop.example/dynamicbridges/laws.FnSearchLow", spec := "fnSearchLow", recurses := true, apart := false, narrowed := true }
def FnSearchLowUptoSaid : Prop := fnSearchLowUptoRow.holds Try.pinned (OpenSpec.upto fnSearchLowSpec)

/-- 'laws.FnCutNodesOf', WHERE WHAT IT READS IS OF BULK AT MOST 1048576: true; the input reads as it did. -/
def fnCutNodesOfUptoRow : OpenClaim := { program := "ytgpdpocgkloogaa", sum := "0ac52a9057ea0ffcb95edf265fdfd14aa91d4e2bd25c7a5272cac39726395aef", func := "loop.example/dynamicbridges/laws.FnCutNodesOf", spec := "fnCutNodesOf", unfollowed := true, recurses := true, apart := false, narrowed := true }
def FnCutNodesOfUptoSaid : Prop := fnCutNodesOfUptoRow.holds Try.pinned (OpenSpec.upto fnCutNodesOfSpec)

/-- 'laws.FnBlockNodes', WHERE WHAT IT READS IS OF BULK AT MOST 1048576: true; the input reads as it did. -/
def fnBlockNodesUptoRow : OpenClaim := { program := "ytgpdpocgkloogaa", sum := "0ac52a9057ea0ffcb95edf265fdfd14aa91d4e2bd25c7a5272cac39726395aef", func := "loop.example/dynamicbridges/laws.FnBlockNodes", spec := "fnBlockNodes", unfollowed := true, recurses := true, apart := false, narrowed := true }
def FnBlockNodesUptoSaid : Prop := fnBlockNodesUptoRow.holds Try.pinned (OpenSpec.upto fnBlockNodesSpec)

/-- 'laws.FnBlocksOf', WHERE WHAT IT READS IS OF BULK AT MOST 1048576: true; the input reads as it did. -/
def fnBlocksOfUptoRow : OpenClaim := { program := "ytgpdpocgkloogaa", sum := "0ac52a9057ea0ffcb95edf265fdfd14aa91d4e2bd25c7a5272cac39726395aef", func := "loop.example/dynamicbridges/laws.FnBlocksOf", spec := "fnBlocksOf", unfollowed := true, recurses := true, apart := false, narrowed := true }
def FnBlocksOfUptoSaid : Prop := fnBlocksOfUptoRow.holds Try.pinned (OpenSpec.upto fnBlocksOfSpec)

/-- 'laws.FnBlockCycle', WHERE WHAT IT READS IS OF BULK AT MOST 1048576: true; the input reads as it did. -/
def fnBlockCycleUptoRow : OpenClaim := { program := "ytgpdpocgkloogaa", sum := "0ac52a9057ea0ffcb95edf265fdfd14aa91d4e2bd25c7a5272cac39726395aef", func := "loop.example/dynamicbridges/laws.FnBlockCycle", spec := "fnBlockCycle", unfollowed := true, recurses := true, apart := false, narrowed := true }
def FnBlockCycleUptoSaid : Prop := fnBlockCycleUptoRow.holds Try.pinned (OpenSpec.upto fnBlockCycleSpec)

/-- 'laws.FnBlockCuts', WHERE WHAT IT READS IS OF BULK AT MOST 1048576: true; the input reads as it did. -/
def fnBlockCutsUptoRow : OpenClaim := { program := "ytgpdpocgkloogaa", sum := "0ac52a9057ea0ffcb95edf265fdfd14aa91d4e2bd25c7a5272cac39726395aef", func := "loop.example/dynamicbridges/laws.FnBlockCuts", spec := "fnBlockCuts", unfollowed := true, recurses := true, apart := false, narrowed := true }
def FnBlockCutsUptoSaid : Prop := fnBlockCutsUptoRow.holds Try.pinned (OpenSpec.upto fnBlockCutsSpec)

end Rows
end Go.Proofs.Ytgpdpocgkloogaa
