/-
  No cell of these rows narrows 'for every input' (looked for: loops, veiled, ifaces, maps, wideKeys, modest, calm, conditions, laid).
  DERIVED. THE GIVEN ROWS OF THIS SEAT. 10 by the template 'for every input the law returns true; each argument reads behind the call as it read before'; 0 by the template 'total and deterministic' (their statements: YtbaholclcfpknaaTotals.lean).
  GIVEN WITH THE SEED: the statements are not yours to turn. If you find one false, say at which input.
  Laid BY PROGRAM, IN A SANDBOX (cutbox-rows.mjs): the forced cells as the released guide's own fill.sh prints them over the translation 1a99574e938e3040… (all of the seat's roots in one cut). By AI agents, Wed Nov 11 2026. No macro, syntax, notation, axiom, sorry.
-/
import Derived.Test.YtbaholclcfpknaaChecked
import GoSem.Claim
import GoSem.ClaimJoined
import GoSem.ClaimMapViews
import Derived.JoinedTies
import Derived.KernelRfl
namespace Go.Proofs.Ytbaholclcfpknaa
/- THE CELL 'sum', in the pinned program and in every row, IS THE sha256 OF THE DUMP (.gsa) THAT YtbaholclcfpknaaProg.lean LOADS. Nothing in Lean hashes anything: it is a label: what it is worth is what the hold of that sum in a sandbox is worth. -/
noncomputable def Try.pinned : Pinned := { name := "ytbaholclcfpknaa", sum := "1a99574e938e3040c82453662913847546bf9bf3948445691d4cd56c8602ed73", checked := Try.checked }
namespace Rows
def none {H : Type} : Left H := { results := [], args := [] }

/-- 'laws.FnBridgeTree': WHATEVER THE INPUT: true; the input reads as it did. -/
def fnBridgeTreeSpec : ChangeSpec := { name := "fnBridgeTree", fn := fun _ => fun
  | [d] => { results := [.lit (.bool true)], args := [d] }
  | _ => none }
def fnBridgeTreeRow : OpenClaim := { program := "ytbaholclcfpknaa", sum := "1a99574e938e3040c82453662913847546bf9bf3948445691d4cd56c8602ed73", func := "loop.example/dynamicbridges/laws.FnBridgeTree", spec := "fnBridgeTree", unfollowed := true, recurses := true, apart := false }
def FnBridgeTreeSaid : Prop := fnBridgeTreeRow.holds Try.pinned (OpenSpec.ofChange fnBridgeTreeSpec)

/-- ITS FALSE NEIGHBOUR: 'it returns false'. Refute it at one input. -/
def fnBridgeTreeWrong : ChangeSpec := { name := "fnBridgeTree", fn := fun _ => fun
  | [d] => { results := [.lit (.bool false)], args := [d] }
  | _ => none }
def FnBridgeTreeWrongFalsely : Prop := fnBridgeTreeRow.holds Try.pinned (OpenSpec.ofChange fnBridgeTreeWrong)

/-- 'laws.FnCertificateOf': WHATEVER THE INPUT: true; the input reads as it did. -/
def fnCertificateOfSpec : ChangeSpec := { name := "fnCertificateOf", fn := fun _ => fun
  | [d] => { results := [.lit (.bool true)], args := [d] }
  | _ => none }
def fnCertificateOfRow : OpenClaim := { program := "ytbaholclcfpknaa", sum := "1a99574e938e3040c82453662913847546bf9bf3948445691d4cd56c8602ed73", func := "loop.example/dynamicbridges/laws.FnCertificateOf", spec := "fnCertificateOf", unfollowed := true, recurses := true, apart := false }
def FnCertificateOfSaid : Prop := fnCertificateOfRow.holds Try.pinned (OpenSpec.ofChange fnCertificateOfSpec)

/-- ITS FALSE NEIGHBOUR: 'it returns false'. Refute it at one input. -/
def fnCertificateOfWrong : ChangeSpec := { name := "fnCertificateOf", fn := fun _ => fun
  | [d] => { results := [.lit (.bool false)], args := [d] }
  | _ => none }
def FnCertificateOfWrongFalsely : Prop := fnCertificateOfRow.holds Try.pinned (OpenSpec.ofChange fnCertificateOfWrong)

/-- 'laws.FnBlockNodes': WHATEVER THE INPUT: true; the input reads as it did. -/
def fnBlockNodesSpec : ChangeSpec := { name := "fnBlockNodes", fn := fun _ => fun
  | [d] => { results := [.lit (.bool true)], args := [d] }
  | _ => none }
def fnBlockNodesRow : OpenClaim := { program := "ytbaholclcfpknaa", sum := "1a99574e938e3040c82453662913847546bf9bf3948445691d4cd56c8602ed73", func := "loop.example/dynamicbridges/laws.FnBlockNodes", spec := "fnBlockNodes", unfollowed := true, recurses := true, apart := false }
def FnBlockNodesSaid : Prop := fnBlockNodesRow.holds Try.pinned (OpenSpec.ofChange fnBlockNodesSpec)

/-- ITS FALSE NEIGHBOUR: 'it returns false'. Refute it at one input. -/
def fnBlockNodesWrong : ChangeSpec := { name := "fnBlockNodes", fn := fun _ => fun
  | [d] => { results := [.lit (.bool false)], args := [d] }
  | _ => none }
def FnBlockNodesWrongFalsely : Prop := fnBlockNodesRow.holds Try.pinned (OpenSpec.ofChange fnBlockNodesWrong)

/-- 'laws.FnBlocksOf': WHATEVER THE INPUT: true; the input reads as it did. -/
def fnBlocksOfSpec : ChangeSpec := { name := "fnBlocksOf", fn := fun _ => fun
  | [d] => { results := [.lit (.bool true)], args := [d] }
  | _ => none }
def fnBlocksOfRow : OpenClaim := { program := "ytbaholclcfpknaa", sum := "1a99574e938e3040c82453662913847546bf9bf3948445691d4cd56c8602ed73", func := "loop.example/dynamicbridges/laws.FnBlocksOf", spec := "fnBlocksOf", unfollowed := true, recurses := true, apart := false }
def FnBlocksOfSaid : Prop := fnBlocksOfRow.holds Try.pinned (OpenSpec.ofChange fnBlocksOfSpec)

/-- ITS FALSE NEIGHBOUR: 'it returns false'. Refute it at one input. -/
def fnBlocksOfWrong : ChangeSpec := { name := "fnBlocksOf", fn := fun _ => fun
  | [d] => { results := [.lit (.bool false)], args := [d] }
  | _ => none }
def FnBlocksOfWrongFalsely : Prop := fnBlocksOfRow.holds Try.pinned (OpenSpec.ofChange fnBlocksOfWrong)

/-- 'laws.FnBlockCuts': WHATEVER THE INPUT: true; the input reads as it did. -/
def fnBlockCutsSpec : ChangeSpec := { name := "fnBlockCuts", fn := fun _ => fun
  | [d] => { results := [.lit (.bool true)], args := [d] }
  | _ => none }
def fnBlockCutsRow : OpenClaim := { program := "ytbaholclcfpknaa", sum := "1a99574e938e3040c82453662913847546bf9bf3948445691d4cd56c8602ed73", func := "loop.example/dynamicbridges/laws.FnBlockCuts", spec := "fnBlockCuts", unfollowed := true, recurses := true, apart := false }
def FnBlockCutsSaid : Prop := fnBlockCutsRow.holds Try.pinned (OpenSpec.ofChange fnBlockCutsSpec)

/-- ITS FALSE NEIGHBOUR: 'it returns false'. Refute it at one input. -/
def fnBlockCutsWrong : ChangeSpec := { name := "fnBlockCuts", fn := fun _ => fun
  | [d] => { results := [.lit (.bool false)], args := [d] }
  | _ => none }
def FnBlockCutsWrongFalsely : Prop := fnBlockCutsRow.holds Try.pinned (OpenSpec.ofChange fnBlockCutsWrong)

/-- 'laws.FnRoundSafe': WHATEVER THE INPUT: true; the input reads as it did. -/
def fnRoundSafeSpec : ChangeSpec := { name := "fnRoundSafe", fn := fun _ => fun
  | [d] => { results := [.lit (.bool true)], args := [d] }
  | _ => none }
def fnRoundSafeRow : OpenClaim := { program := "ytbaholclcfpknaa", sum := "1a99574e938e3040c82453662913847546bf9bf3948445691d4cd56c8602ed73", func := "loop.example/dynamicbridges/laws.FnRoundSafe", spec := "fnRoundSafe", recurses := true, apart := false }
def FnRoundSafeSaid : Prop := fnRoundSafeRow.holds Try.pinned (OpenSpec.ofChange fnRoundSafeSpec)

/-- ITS FALSE NEIGHBOUR: 'it returns false'. Refute it at one input. -/
def fnRoundSafeWrong : ChangeSpec := { name := "fnRoundSafe", fn := fun _ => fun
  | [d] => { results := [.lit (.bool false)], args := [d] }
  | _ => none }
def FnRoundSafeWrongFalsely : Prop := fnRoundSafeRow.holds Try.pinned (OpenSpec.ofChange fnRoundSafeWrong)

/-- 'laws.FnRoundChains': WHATEVER THE INPUT: true; the input reads as it did. -/
def fnRoundChainsSpec : ChangeSpec := { name := "fnRoundChains", fn := fun _ => fun
  | [d] => { results := [.lit (.bool true)], args := [d] }
  | _ => none }
def fnRoundChainsRow : OpenClaim := { program := "ytbaholclcfpknaa", sum := "1a99574e938e3040c82453662913847546bf9bf3948445691d4cd56c8602ed73", func := "loop.example/dynamicbridges/laws.FnRoundChains", spec := "fnRoundChains", unfollowed := true, recurses := true, apart := false }
def FnRoundChainsSaid : Prop := fnRoundChainsRow.holds Try.pinned (OpenSpec.ofChange fnRoundChainsSpec)

/-- ITS FALSE NEIGHBOUR: 'it returns false'. Refute it at one input. -/
def fnRoundChainsWrong : ChangeSpec := { name := "fnRoundChains", fn := fun _ => fun
  | [d] => { results := [.lit (.bool false)], args := [d] }
  | _ => none }
def FnRoundChainsWrongFalsely : Prop := fnRoundChainsRow.holds Try.pinned (OpenSpec.ofChange fnRoundChainsWrong)

/-- 'laws.FnCyclePut': WHATEVER THE INPUT: true; the input reads as it did. -/
def fnCyclePutSpec : ChangeSpec := { name := "fnCyclePut", fn := fun _ => fun
  | [d] => { results := [.lit (.bool true)], args := [d] }
  | _ => none }
def fnCyclePutRow : OpenClaim := { program := "ytbaholclcfpknaa", sum := "1a99574e938e3040c82453662913847546bf9bf3948445691d4cd56c8602ed73", func := "loop.example/dynamicbridges/laws.FnCyclePut", spec := "fnCyclePut", inPlace := ["slices.overlaps[loop.example/dynamicbridges/impl.Edge]"], unfollowed := true, recurses := true, apart := false }
def FnCyclePutSaid : Prop := fnCyclePutRow.holds Try.pinned (OpenSpec.ofChange fnCyclePutSpec)

/-- ITS FALSE NEIGHBOUR: 'it returns false'. Refute it at one input. -/
def fnCyclePutWrong : ChangeSpec := { name := "fnCyclePut", fn := fun _ => fun
  | [d] => { results := [.lit (.bool false)], args := [d] }
  | _ => none }
def FnCyclePutWrongFalsely : Prop := fnCyclePutRow.holds Try.pinned (OpenSpec.ofChange fnCyclePutWrong)

/-- 'laws.FnFlowPut': WHATEVER THE INPUT: true; the input reads as it did. -/
def fnFlowPutSpec : ChangeSpec := { name := "fnFlowPut", fn := fun _ => fun
  | [d] => { results := [.lit (.bool true)], args := [d] }
  | _ => none }
def fnFlowPutRow : OpenClaim := { program := "ytbaholclcfpknaa", sum := "1a99574e938e3040c82453662913847546bf9bf3948445691d4cd56c8602ed73", func := "loop.example/dynamicbridges/laws.FnFlowPut", spec := "fnFlowPut", inPlace := ["slices.overlaps[loop.example/dynamicbridges/impl.Edge]"], unfollowed := true, recurses := true, apart := false }
def FnFlowPutSaid : Prop := fnFlowPutRow.holds Try.pinned (OpenSpec.ofChange fnFlowPutSpec)

/-- ITS FALSE NEIGHBOUR: 'it returns false'. Refute it at one input. -/
def fnFlowPutWrong : ChangeSpec := { name := "fnFlowPut", fn := fun _ => fun
  | [d] => { results := [.lit (.bool false)], args := [d] }
  | _ => none }
def FnFlowPutWrongFalsely : Prop := fnFlowPutRow.holds Try.pinned (OpenSpec.ofChange fnFlowPutWrong)

/-- 'laws.FnExactDisjointPaths': WHATEVER THE INPUT: true; the input reads as it did. -/
def fnExactDisjointPathsSpec : ChangeSpec := { name := "fnExactDisjointPaths", fn := fun _ => fun
  | [d1, d2, d3] => { results := [.lit (.bool true)], args := [d1, d2, d3] }
  | _ => none }
def fnExactDisjointPathsRow : OpenClaim := { program := "ytbaholclcfpknaa", sum := "1a99574e938e3040c82453662913847546bf9bf3948445691d4cd56c8602ed73", func := "loop.example/dynamicbridges/laws.FnExactDisjointPaths", spec := "fnExactDisjointPaths", unfollowed := true, recurses := true, apart := false }
def FnExactDisjointPathsSaid : Prop := fnExactDisjointPathsRow.holds Try.pinned (OpenSpec.ofChange fnExactDisjointPathsSpec)

/-- ITS FALSE NEIGHBOUR: 'it returns false'. Refute it at one input. -/
def fnExactDisjointPathsWrong : ChangeSpec := { name := "fnExactDisjointPaths", fn := fun _ => fun
  | [d1, d2, d3] => { results := [.lit (.bool false)], args := [d1, d2, d3] }
  | _ => none }
def FnExactDisjointPathsWrongFalsely : Prop := fnExactDisjointPathsRow.holds Try.pinned (OpenSpec.ofChange fnExactDisjointPathsWrong)

/- THE SECOND FORM. 'bulk': how many values and letters a reading holds, each counted each time it is reached (what is shared counts as often as it is met; a slice's spare places count too). A statement '..UptoSaid' is the law's where the arguments, and the package variables that the reading takes, are together of bulk at most 1048576: NARROWER than '..Said'. Prove '..Said' where nothing that the law and all that it calls make is longer than what came in: it says more and counts as full. Else prove '..UptoSaid'. A law counts once. -/
mutual
def uptoBulk {H : Type} : DataW H → Nat
  | .lit (.string bytes) => bytes.length + 1
  | .lit _ => 1
  | .nil => 1
  | .ptr d => uptoBulk d + 1
  | .slice elems spare => uptoBulkAll elems + uptoBulkAll spare + 1
  | .agg parts => uptoBulkAll parts + 1
  | .iface _ d => uptoBulk d + 1
  | .map entries => uptoBulkEntries entries + 1
  | .held _ => 1
def uptoBulkAll {H : Type} : List (DataW H) → Nat
  | [] => 0
  | d :: r => uptoBulk d + uptoBulkAll r
def uptoBulkEntries {H : Type} : List (Lit × DataW H) → Nat
  | [] => 0
  | x :: r => uptoBulkEntry x + uptoBulkEntries r
def uptoBulkEntry {H : Type} : Lit × DataW H → Nat
  | (.string bytes, d) => bytes.length + uptoBulk d + 1
  | (_, d) => uptoBulk d + 1
 end
def uptoSmall : (H : Type) → List (DataW H) → Bool := fun _ ds => decide (uptoBulkAll ds ≤ 1048576)
def OpenSpec.upto (s : _root_.Go.ChangeSpec) : _root_.Go.OpenSpec := { _root_.Go.OpenSpec.ofChange s with cond := some uptoSmall }

/-- 'laws.FnBridgeTree', WHERE WHAT IT READS IS OF BULK AT MOST 1048576: true; the input reads as it did. -/
def fnBridgeTreeUptoRow : OpenClaim := { program := "ytbaholclcfpknaa", sum := "1a99574e938e3040c82453662913847546bf9bf3948445691d4cd56c8602ed73", func := "loop.example/dynamicbridges/laws.FnBridgeTree", spec := "fnBridgeTree", unfollowed := true, recurses := true, apart := false, narrowed := true }
def FnBridgeTreeUptoSaid : Prop := fnBridgeTreeUptoRow.holds Try.pinned (OpenSpec.upto fnBridgeTreeSpec)

/-- 'laws.FnCertificateOf', WHERE WHAT IT READS IS OF BULK AT MOST 1048576: true; the input reads as it did. -/
def fnCertificateOfUptoRow : OpenClaim := { program := "ytbaholclcfpknaa", sum := "1a99574e938e3040c82453662913847546bf9bf3948445691d4cd56c8602ed73", func := "loop.example/dynamicbridges/laws.FnCertificateOf", spec := "fnCertificateOf", unfollowed := true, recurses := true, apart := false, narrowed := true }
def FnCertificateOfUptoSaid : Prop := fnCertificateOfUptoRow.holds Try.pinned (OpenSpec.upto fnCertificateOfSpec)

/-- 'laws.FnBlockNodes', WHERE WHAT IT READS IS OF BULK AT MOST 1048576: true; the input reads as it did. -/
def fnBlockNodesUptoRow : OpenClaim := { program := "ytbaholclcfpknaa", sum := "1a99574e938e3040c82453662913847546bf9bf3948445691d4cd56c8602ed73", func := "loop.example/dynamicbridges/laws.FnBlockNodes", spec := "fnBlockNodes", unfollowed := true, recurses := true, apart := false, narrowed := true }
def FnBlockNodesUptoSaid : Prop := fnBlockNodesUptoRow.holds Try.pinned (OpenSpec.upto fnBlockNodesSpec)

/-- 'laws.FnBlocksOf', WHERE WHAT IT READS IS OF BULK AT MOST 1048576: true; the input reads as it did. -/
def fnBlocksOfUptoRow : OpenClaim := { program := "ytbaholclcfpknaa", sum := "1a99574e938e3040c82453662913847546bf9bf3948445691d4cd56c8602ed73", func := "loop.example/dynamicbridges/laws.FnBlocksOf", spec := "fnBlocksOf", unfollowed := true, recurses := true, apart := false, narrowed := true }
def FnBlocksOfUptoSaid : Prop := fnBlocksOfUptoRow.holds Try.pinned (OpenSpec.upto fnBlocksOfSpec)

/-- 'laws.FnBlockCuts', WHERE WHAT IT READS IS OF BULK AT MOST 1048576: true; the input reads as it did. -/
def fnBlockCutsUptoRow : OpenClaim := { program := "ytbaholclcfpknaa", sum := "1a99574e938e3040c82453662913847546bf9bf3948445691d4cd56c8602ed73", func := "loop.example/dynamicbridges/laws.FnBlockCuts", spec := "fnBlockCuts", unfollowed := true, recurses := true, apart := false, narrowed := true }
def FnBlockCutsUptoSaid : Prop := fnBlockCutsUptoRow.holds Try.pinned (OpenSpec.upto fnBlockCutsSpec)

/-- 'laws.FnRoundSafe', WHERE WHAT IT READS IS OF BULK AT MOST 1048576: true; the input reads as it did. -/
def fnRoundSafeUptoRow : OpenClaim := { program := "ytbaholclcfpknaa", sum := "1a99574e938e3040c82453662913847546bf9bf3948445691d4cd56c8602ed73", func := "loop.example/dynamicbridges/laws.FnRoundSafe", spec := "fnRoundSafe", recurses := true, apart := false, narrowed := true }
def FnRoundSafeUptoSaid : Prop := fnRoundSafeUptoRow.holds Try.pinned (OpenSpec.upto fnRoundSafeSpec)

/-- 'laws.FnRoundChains', WHERE WHAT IT READS IS OF BULK AT MOST 1048576: true; the input reads as it did. -/
def fnRoundChainsUptoRow : OpenClaim := { program := "ytbaholclcfpknaa", sum := "1a99574e938e3040c82453662913847546bf9bf3948445691d4cd56c8602ed73", func := "loop.example/dynamicbridges/laws.FnRoundChains", spec := "fnRoundChains", unfollowed := true, recurses := true, apart := false, narrowed := true }
def FnRoundChainsUptoSaid : Prop := fnRoundChainsUptoRow.holds Try.pinned (OpenSpec.upto fnRoundChainsSpec)

/-- 'laws.FnCyclePut', WHERE WHAT IT READS IS OF BULK AT MOST 1048576: true; the input reads as it did. -/
def fnCyclePutUptoRow : OpenClaim := { program := "ytbaholclcfpknaa", sum := "1a99574e938e3040c82453662913847546bf9bf3948445691d4cd56c8602ed73", func := "loop.example/dynamicbridges/laws.FnCyclePut", spec := "fnCyclePut", inPlace := ["slices.overlaps[loop.example/dynamicbridges/impl.Edge]"], unfollowed := true, recurses := true, apart := false, narrowed := true }
def FnCyclePutUptoSaid : Prop := fnCyclePutUptoRow.holds Try.pinned (OpenSpec.upto fnCyclePutSpec)

/-- 'laws.FnFlowPut', WHERE WHAT IT READS IS OF BULK AT MOST 1048576: true; the input reads as it did. -/
def fnFlowPutUptoRow : OpenClaim := { program := "ytbaholclcfpknaa", sum := "1a99574e938e3040c82453662913847546bf9bf3948445691d4cd56c8602ed73", func := "loop.example/dynamicbridges/laws.FnFlowPut", spec := "fnFlowPut", inPlace := ["slices.overlaps[loop.example/dynamicbridges/impl.Edge]"], unfollowed := true, recurses := true, apart := false, narrowed := true }
def FnFlowPutUptoSaid : Prop := fnFlowPutUptoRow.holds Try.pinned (OpenSpec.upto fnFlowPutSpec)

/-- 'laws.FnExactDisjointPaths', WHERE WHAT IT READS IS OF BULK AT MOST 1048576: true; the input reads as it did. -/
def fnExactDisjointPathsUptoRow : OpenClaim := { program := "ytbaholclcfpknaa", sum := "1a99574e938e3040c82453662913847546bf9bf3948445691d4cd56c8602ed73", func := "loop.example/dynamicbridges/laws.FnExactDisjointPaths", spec := "fnExactDisjointPaths", unfollowed := true, recurses := true, apart := false, narrowed := true }
def FnExactDisjointPathsUptoSaid : Prop := fnExactDisjointPathsUptoRow.holds Try.pinned (OpenSpec.upto fnExactDisjointPathsSpec)

end Rows
end Go.Proofs.Ytbaholclcfpknaa
