/-
  No cell of these rows narrows 'for every input' (looked for: loops, veiled, ifaces, maps, wideKeys, modest, calm, conditions, laid).
  DERIVED. THE GIVEN ROWS OF THIS SEAT. 12 by the template 'for every input the law returns true; each argument reads behind the call as it read before'; 0 by the template 'total and deterministic' (their statements: YtlahjdgcgfgifaaTotals.lean).
  GIVEN WITH THE SEED: the statements are not yours to turn. If you find one false, say at which input.
  Laid BY PROGRAM, IN A SANDBOX (cutbox-rows.mjs): the forced cells as the released guide's own fill.sh prints them over the translation 1cbca55b51bacd1f… (all of the seat's roots in one cut). By AI agents, Wed Nov 11 2026. No macro, syntax, notation, axiom, sorry.
-/
import Derived.Test.YtlahjdgcgfgifaaChecked
import GoSem.Claim
import GoSem.ClaimJoined
import GoSem.ClaimMapViews
import Derived.JoinedTies
import Derived.KernelRfl
namespace Go.Proofs.Ytlahjdgcgfgifaa
/- THE CELL 'sum', in the pinned program and in every row, IS THE sha256 OF THE DUMP (.gsa) THAT YtlahjdgcgfgifaaProg.lean LOADS. Nothing in Lean hashes anything: it is a label: what it is worth is what the hold of that sum in a sandbox is worth. -/
noncomputable def Try.pinned : Pinned := { name := "ytlahjdgcgfgifaa", sum := "1cbca55b51bacd1f46aebe88a59c13a298dece70cc5e2396f3dd2055d593351f", checked := Try.checked }
namespace Rows
def none {H : Type} : Left H := { results := [], args := [] }

/-- 'laws.FnBridgeTree': WHATEVER THE INPUT: true; the input reads as it did. -/
def fnBridgeTreeSpec : ChangeSpec := { name := "fnBridgeTree", fn := fun _ => fun
  | [d] => { results := [.lit (.bool true)], args := [d] }
  | _ => none }
def fnBridgeTreeRow : OpenClaim := { program := "ytlahjdgcgfgifaa", sum := "1cbca55b51bacd1f46aebe88a59c13a298dece70cc5e2396f3dd2055d593351f", func := "loop.example/dynamicbridges/laws.FnBridgeTree", spec := "fnBridgeTree", unfollowed := true, recurses := true, apart := false }
def FnBridgeTreeSaid : Prop := fnBridgeTreeRow.holds Try.pinned (OpenSpec.ofChange fnBridgeTreeSpec)

/-- ITS FALSE NEIGHBOUR: 'it returns false'. Refute it at one input. -/
def fnBridgeTreeWrong : ChangeSpec := { name := "fnBridgeTree", fn := fun _ => fun
  | [d] => { results := [.lit (.bool false)], args := [d] }
  | _ => none }
def FnBridgeTreeWrongFalsely : Prop := fnBridgeTreeRow.holds Try.pinned (OpenSpec.ofChange fnBridgeTreeWrong)

/-- 'laws.FnBridgeEnds': WHATEVER THE INPUT: true; the input reads as it did. -/
def fnBridgeEndsSpec : ChangeSpec := { name := "fnBridgeEnds", fn := fun _ => fun
  | [d] => { results := [.lit (.bool true)], args := [d] }
  | _ => none }
def fnBridgeEndsRow : OpenClaim := { program := "ytlahjdgcgfgifaa", sum := "1cbca55b51bacd1f46aebe88a59c13a298dece70cc5e2396f3dd2055d593351f", func := "loop.example/dynamicbridges/laws.FnBridgeEnds", spec := "fnBridgeEnds", unfollowed := true, recurses := true, apart := false }
def FnBridgeEndsSaid : Prop := fnBridgeEndsRow.holds Try.pinned (OpenSpec.ofChange fnBridgeEndsSpec)

/-- ITS FALSE NEIGHBOUR: 'it returns false'. Refute it at one input. -/
def fnBridgeEndsWrong : ChangeSpec := { name := "fnBridgeEnds", fn := fun _ => fun
  | [d] => { results := [.lit (.bool false)], args := [d] }
  | _ => none }
def FnBridgeEndsWrongFalsely : Prop := fnBridgeEndsRow.holds Try.pinned (OpenSpec.ofChange fnBridgeEndsWrong)

/-- 'laws.FnIsBridge': WHATEVER THE INPUT: true; the input reads as it did. -/
def fnIsBridgeSpec : ChangeSpec := { name := "fnIsBridge", fn := fun _ => fun
  | [d] => { results := [.lit (.bool true)], args := [d] }
  | _ => none }
def fnIsBridgeRow : OpenClaim := { program := "ytlahjdgcgfgifaa", sum := "1cbca55b51bacd1f46aebe88a59c13a298dece70cc5e2396f3dd2055d593351f", func := "loop.example/dynamicbridges/laws.FnIsBridge", spec := "fnIsBridge", unfollowed := true, recurses := true, apart := false }
def FnIsBridgeSaid : Prop := fnIsBridgeRow.holds Try.pinned (OpenSpec.ofChange fnIsBridgeSpec)

/-- ITS FALSE NEIGHBOUR: 'it returns false'. Refute it at one input. -/
def fnIsBridgeWrong : ChangeSpec := { name := "fnIsBridge", fn := fun _ => fun
  | [d] => { results := [.lit (.bool false)], args := [d] }
  | _ => none }
def FnIsBridgeWrongFalsely : Prop := fnIsBridgeRow.holds Try.pinned (OpenSpec.ofChange fnIsBridgeWrong)

/-- 'laws.FnBridgesBetween': WHATEVER THE INPUT: true; the input reads as it did. -/
def fnBridgesBetweenSpec : ChangeSpec := { name := "fnBridgesBetween", fn := fun _ => fun
  | [d] => { results := [.lit (.bool true)], args := [d] }
  | _ => none }
def fnBridgesBetweenRow : OpenClaim := { program := "ytlahjdgcgfgifaa", sum := "1cbca55b51bacd1f46aebe88a59c13a298dece70cc5e2396f3dd2055d593351f", func := "loop.example/dynamicbridges/laws.FnBridgesBetween", spec := "fnBridgesBetween", unfollowed := true, recurses := true, apart := false }
def FnBridgesBetweenSaid : Prop := fnBridgesBetweenRow.holds Try.pinned (OpenSpec.ofChange fnBridgesBetweenSpec)

/-- ITS FALSE NEIGHBOUR: 'it returns false'. Refute it at one input. -/
def fnBridgesBetweenWrong : ChangeSpec := { name := "fnBridgesBetween", fn := fun _ => fun
  | [d] => { results := [.lit (.bool false)], args := [d] }
  | _ => none }
def FnBridgesBetweenWrongFalsely : Prop := fnBridgesBetweenRow.holds Try.pinned (OpenSpec.ofChange fnBridgesBetweenWrong)

/-- 'laws.FnCutNodesBetween': WHATEVER THE INPUT: true; the input reads as it did. -/
def fnCutNodesBetweenSpec : ChangeSpec := { name := "fnCutNodesBetween", fn := fun _ => fun
  | [d] => { results := [.lit (.bool true)], args := [d] }
  | _ => none }
def fnCutNodesBetweenRow : OpenClaim := { program := "ytlahjdgcgfgifaa", sum := "1cbca55b51bacd1f46aebe88a59c13a298dece70cc5e2396f3dd2055d593351f", func := "loop.example/dynamicbridges/laws.FnCutNodesBetween", spec := "fnCutNodesBetween", unfollowed := true, recurses := true, apart := false }
def FnCutNodesBetweenSaid : Prop := fnCutNodesBetweenRow.holds Try.pinned (OpenSpec.ofChange fnCutNodesBetweenSpec)

/-- ITS FALSE NEIGHBOUR: 'it returns false'. Refute it at one input. -/
def fnCutNodesBetweenWrong : ChangeSpec := { name := "fnCutNodesBetween", fn := fun _ => fun
  | [d] => { results := [.lit (.bool false)], args := [d] }
  | _ => none }
def FnCutNodesBetweenWrongFalsely : Prop := fnCutNodesBetweenRow.holds Try.pinned (OpenSpec.ofChange fnCutNodesBetweenWrong)

/-- 'laws.FnForestOf': WHATEVER THE INPUT: true; the input reads as it did. -/
def fnForestOfSpec : ChangeSpec := { name := "fnForestOf", fn := fun _ => fun
  | [d] => { results := [.lit (.bool true)], args := [d] }
  | _ => none }
def fnForestOfRow : OpenClaim := { program := "ytlahjdgcgfgifaa", sum := "1cbca55b51bacd1f46aebe88a59c13a298dece70cc5e2396f3dd2055d593351f", func := "loop.example/dynamicbridges/laws.FnForestOf", spec := "fnForestOf", unfollowed := true, recurses := true, apart := false }
def FnForestOfSaid : Prop := fnForestOfRow.holds Try.pinned (OpenSpec.ofChange fnForestOfSpec)

/-- ITS FALSE NEIGHBOUR: 'it returns false'. Refute it at one input. -/
def fnForestOfWrong : ChangeSpec := { name := "fnForestOf", fn := fun _ => fun
  | [d] => { results := [.lit (.bool false)], args := [d] }
  | _ => none }
def FnForestOfWrongFalsely : Prop := fnForestOfRow.holds Try.pinned (OpenSpec.ofChange fnForestOfWrong)

/-- 'laws.FnExactCycleThrough': WHATEVER THE INPUT: true; the input reads as it did. -/
def fnExactCycleThroughSpec : ChangeSpec := { name := "fnExactCycleThrough", fn := fun _ => fun
  | [d1, d2] => { results := [.lit (.bool true)], args := [d1, d2] }
  | _ => none }
def fnExactCycleThroughRow : OpenClaim := { program := "ytlahjdgcgfgifaa", sum := "1cbca55b51bacd1f46aebe88a59c13a298dece70cc5e2396f3dd2055d593351f", func := "loop.example/dynamicbridges/laws.FnExactCycleThrough", spec := "fnExactCycleThrough", unfollowed := true, recurses := true, apart := false }
def FnExactCycleThroughSaid : Prop := fnExactCycleThroughRow.holds Try.pinned (OpenSpec.ofChange fnExactCycleThroughSpec)

/-- ITS FALSE NEIGHBOUR: 'it returns false'. Refute it at one input. -/
def fnExactCycleThroughWrong : ChangeSpec := { name := "fnExactCycleThrough", fn := fun _ => fun
  | [d1, d2] => { results := [.lit (.bool false)], args := [d1, d2] }
  | _ => none }
def FnExactCycleThroughWrongFalsely : Prop := fnExactCycleThroughRow.holds Try.pinned (OpenSpec.ofChange fnExactCycleThroughWrong)

/-- 'laws.FnCycleThrough': WHATEVER THE INPUT: true; the input reads as it did. -/
def fnCycleThroughSpec : ChangeSpec := { name := "fnCycleThrough", fn := fun _ => fun
  | [d] => { results := [.lit (.bool true)], args := [d] }
  | _ => none }
def fnCycleThroughRow : OpenClaim := { program := "ytlahjdgcgfgifaa", sum := "1cbca55b51bacd1f46aebe88a59c13a298dece70cc5e2396f3dd2055d593351f", func := "loop.example/dynamicbridges/laws.FnCycleThrough", spec := "fnCycleThrough", unfollowed := true, recurses := true, apart := false }
def FnCycleThroughSaid : Prop := fnCycleThroughRow.holds Try.pinned (OpenSpec.ofChange fnCycleThroughSpec)

/-- ITS FALSE NEIGHBOUR: 'it returns false'. Refute it at one input. -/
def fnCycleThroughWrong : ChangeSpec := { name := "fnCycleThrough", fn := fun _ => fun
  | [d] => { results := [.lit (.bool false)], args := [d] }
  | _ => none }
def FnCycleThroughWrongFalsely : Prop := fnCycleThroughRow.holds Try.pinned (OpenSpec.ofChange fnCycleThroughWrong)

/-- 'laws.FnSafeCycle': WHATEVER THE INPUT: true; the input reads as it did. -/
def fnSafeCycleSpec : ChangeSpec := { name := "fnSafeCycle", fn := fun _ => fun
  | [d] => { results := [.lit (.bool true)], args := [d] }
  | _ => none }
def fnSafeCycleRow : OpenClaim := { program := "ytlahjdgcgfgifaa", sum := "1cbca55b51bacd1f46aebe88a59c13a298dece70cc5e2396f3dd2055d593351f", func := "loop.example/dynamicbridges/laws.FnSafeCycle", spec := "fnSafeCycle", unfollowed := true, recurses := true, apart := false }
def FnSafeCycleSaid : Prop := fnSafeCycleRow.holds Try.pinned (OpenSpec.ofChange fnSafeCycleSpec)

/-- ITS FALSE NEIGHBOUR: 'it returns false'. Refute it at one input. -/
def fnSafeCycleWrong : ChangeSpec := { name := "fnSafeCycle", fn := fun _ => fun
  | [d] => { results := [.lit (.bool false)], args := [d] }
  | _ => none }
def FnSafeCycleWrongFalsely : Prop := fnSafeCycleRow.holds Try.pinned (OpenSpec.ofChange fnSafeCycleWrong)

/-- 'laws.FnCyclePut': WHATEVER THE INPUT: true; the input reads as it did. -/
def fnCyclePutSpec : ChangeSpec := { name := "fnCyclePut", fn := fun _ => fun
  | [d] => { results := [.lit (.bool true)], args := [d] }
  | _ => none }
def fnCyclePutRow : OpenClaim := { program := "ytlahjdgcgfgifaa", sum := "1cbca55b51bacd1f46aebe88a59c13a298dece70cc5e2396f3dd2055d593351f", func := "loop.example/dynamicbridges/laws.FnCyclePut", spec := "fnCyclePut", inPlace := ["slices.overlaps[loop.example/dynamicbridges/impl.Edge]"], unfollowed := true, recurses := true, apart := false }
def FnCyclePutSaid : Prop := fnCyclePutRow.holds Try.pinned (OpenSpec.ofChange fnCyclePutSpec)

/-- ITS FALSE NEIGHBOUR: 'it returns false'. Refute it at one input. -/
def fnCyclePutWrong : ChangeSpec := { name := "fnCyclePut", fn := fun _ => fun
  | [d] => { results := [.lit (.bool false)], args := [d] }
  | _ => none }
def FnCyclePutWrongFalsely : Prop := fnCyclePutRow.holds Try.pinned (OpenSpec.ofChange fnCyclePutWrong)

/-- 'laws.FnRoundSafe': WHATEVER THE INPUT: true; the input reads as it did. -/
def fnRoundSafeSpec : ChangeSpec := { name := "fnRoundSafe", fn := fun _ => fun
  | [d] => { results := [.lit (.bool true)], args := [d] }
  | _ => none }
def fnRoundSafeRow : OpenClaim := { program := "ytlahjdgcgfgifaa", sum := "1cbca55b51bacd1f46aebe88a59c13a298dece70cc5e2396f3dd2055d593351f", func := "loop.example/dynamicbridges/laws.FnRoundSafe", spec := "fnRoundSafe", recurses := true, apart := false }
def FnRoundSafeSaid : Prop := fnRoundSafeRow.holds Try.pinned (OpenSpec.ofChange fnRoundSafeSpec)

/-- ITS FALSE NEIGHBOUR: 'it returns false'. Refute it at one input. -/
def fnRoundSafeWrong : ChangeSpec := { name := "fnRoundSafe", fn := fun _ => fun
  | [d] => { results := [.lit (.bool false)], args := [d] }
  | _ => none }
def FnRoundSafeWrongFalsely : Prop := fnRoundSafeRow.holds Try.pinned (OpenSpec.ofChange fnRoundSafeWrong)

/-- 'laws.FnRoundChains': WHATEVER THE INPUT: true; the input reads as it did. -/
def fnRoundChainsSpec : ChangeSpec := { name := "fnRoundChains", fn := fun _ => fun
  | [d] => { results := [.lit (.bool true)], args := [d] }
  | _ => none }
def fnRoundChainsRow : OpenClaim := { program := "ytlahjdgcgfgifaa", sum := "1cbca55b51bacd1f46aebe88a59c13a298dece70cc5e2396f3dd2055d593351f", func := "loop.example/dynamicbridges/laws.FnRoundChains", spec := "fnRoundChains", unfollowed := true, recurses := true, apart := false }
def FnRoundChainsSaid : Prop := fnRoundChainsRow.holds Try.pinned (OpenSpec.ofChange fnRoundChainsSpec)

/-- ITS FALSE NEIGHBOUR: 'it returns false'. Refute it at one input. -/
def fnRoundChainsWrong : ChangeSpec := { name := "fnRoundChains", fn := fun _ => fun
  | [d] => { results := [.lit (.bool false)], args := [d] }
  | _ => none }
def FnRoundChainsWrongFalsely : Prop := fnRoundChainsRow.holds Try.pinned (OpenSpec.ofChange fnRoundChainsWrong)

/- THE SECOND FORM. 'bulk': how many values and letters a reading holds, each counted each time it is reached (what is shared counts as often as it is met; a slice's spare places count too). A statement '..UptoSaid' is the law's where the arguments, and the package variables that the reading takes, are together of bulk at most 1048576: NARROWER than '..Said'. Prove '..Said' where nothing that the law and all that it calls make is longer than what came in: it says more and counts as full. Else prove '..UptoSaid'. A law counts once. -/
mutual
def uptoBulk {H : Type} : DataW H → Nat
  | .lit (.string bytes) => bytes.length + 1
  | .lit _ => 1
  | .nil => 1
  | .ptr d => uptoBulk d + 1
  | .slice elems spare => uptoBulkAll elems + uptoBulkAll spare + 1
  | .agg parts => uptoBulkAll parts + 1
  | .iface _ d => uptoBulk d + 1
  | .map entries => uptoBulkEntries entries + 1
  | .held _ => 1
def uptoBulkAll {H : Type} : List (DataW H) → Nat
  | [] => 0
  | d :: r => uptoBulk d + uptoBulkAll r
def uptoBulkEntries {H : Type} : List (Lit × DataW H) → Nat
  | [] => 0
  | x :: r => uptoBulkEntry x + uptoBulkEntries r
def uptoBulkEntry {H : Type} : Lit × DataW H → Nat
  | (.string bytes, d) => bytes.length + uptoBulk d + 1
  | (_, d) => uptoBulk d + 1
 end
def uptoSmall : (H : Type) → List (DataW H) → Bool := fun _ ds => decide (uptoBulkAll ds ≤ 1048576)
def OpenSpec.upto (s : _root_.Go.ChangeSpec) : _root_.Go.OpenSpec := { _root_.Go.OpenSpec.ofChange s with cond := some uptoSmall }

/-- 'laws.FnBridgeTree', WHERE WHAT IT READS IS OF BULK AT MOST 1048576: true; the input reads as it did. -/
def fnBridgeTreeUptoRow : OpenClaim := { program := "ytlahjdgcgfgifaa", sum := "1cbca55b51bacd1f46aebe88a59c13a298dece70cc5e2396f3dd2055d593351f", func := "loop.example/dynamicbridges/laws.FnBridgeTree", spec := "fnBridgeTree", unfollowed := true, recurses := true, apart := false, narrowed := true }
def FnBridgeTreeUptoSaid : Prop := fnBridgeTreeUptoRow.holds Try.pinned (OpenSpec.upto fnBridgeTreeSpec)

/-- 'laws.FnBridgeEnds', WHERE WHAT IT READS IS OF BULK AT MOST 1048576: true; the input reads as it did. -/
def fnBridgeEndsUptoRow : OpenClaim := { program := "ytlahjdgcgfgifaa", sum := "1cbca55b51bacd1f46aebe88a59c13a298dece70cc5e2396f3dd2055d593351f", func := "loop.example/dynamicbridges/laws.FnBridgeEnds", spec := "fnBridgeEnds", unfollowed := true, recurses := true, apart := false, narrowed := true }
def FnBridgeEndsUptoSaid : Prop := fnBridgeEndsUptoRow.holds Try.pinned (OpenSpec.upto fnBridgeEndsSpec)

/-- 'laws.FnIsBridge', WHERE WHAT IT READS IS OF BULK AT MOST 1048576: true; the input reads as it did. -/
def fnIsBridgeUptoRow : OpenClaim := { program := "ytlahjdgcgfgifaa", sum := "1cbca55b51bacd1f46aebe88a59c13a298dece70cc5e2396f3dd2055d593351f", func := "loop.example/dynamicbridges/laws.FnIsBridge", spec := "fnIsBridge", unfollowed := true, recurses := true, apart := false, narrowed := true }
def FnIsBridgeUptoSaid : Prop := fnIsBridgeUptoRow.holds Try.pinned (OpenSpec.upto fnIsBridgeSpec)

/-- 'laws.FnBridgesBetween', WHERE WHAT IT READS IS OF BULK AT MOST 1048576: true; the input reads as it did. -/
def fnBridgesBetweenUptoRow : OpenClaim := { program := "ytlahjdgcgfgifaa", sum := "1cbca55b51bacd1f46aebe88a59c13a298dece70cc5e2396f3dd2055d593351f", func := "loop.example/dynamicbridges/laws.FnBridgesBetween", spec := "fnBridgesBetween", unfollowed := true, recurses := true, apart := false, narrowed := true }
def FnBridgesBetweenUptoSaid : Prop := fnBridgesBetweenUptoRow.holds Try.pinned (OpenSpec.upto fnBridgesBetweenSpec)

/-- 'laws.FnCutNodesBetween', WHERE WHAT IT READS IS OF BULK AT MOST 1048576: true; the input reads as it did. -/
def fnCutNodesBetweenUptoRow : OpenClaim := { program := "ytlahjdgcgfgifaa", sum := "1cbca55b51bacd1f46aebe88a59c13a298dece70cc5e2396f3dd2055d593351f", func := "loop.example/dynamicbridges/laws.FnCutNodesBetween", spec := "fnCutNodesBetween", unfollowed := true, recurses := true, apart := false, narrowed := true }
def FnCutNodesBetweenUptoSaid : Prop := fnCutNodesBetweenUptoRow.holds Try.pinned (OpenSpec.upto fnCutNodesBetweenSpec)

/-- 'laws.FnForestOf', WHERE WHAT IT READS IS OF BULK AT MOST 1048576: true; the input reads as it did. -/
def fnForestOfUptoRow : OpenClaim := { program := "ytlahjdgcgfgifaa", sum := "1cbca55b51bacd1f46aebe88a59c13a298dece70cc5e2396f3dd2055d593351f", func := "loop.example/dynamicbridges/laws.FnForestOf", spec := "fnForestOf", unfollowed := true, recurses := true, apart := false, narrowed := true }
def FnForestOfUptoSaid : Prop := fnForestOfUptoRow.holds Try.pinned (OpenSpec.upto fnForestOfSpec)

/-- 'laws.FnExactCycleThrough', WHERE WHAT IT READS IS OF BULK AT MOST 1048576: true; the input reads as it did. -/
def fnExactCycleThroughUptoRow : OpenClaim := { program := "ytlahjdgcgfgifaa", sum := "1cbca55b51bacd1f46aebe88a59c13a298dece70cc5e2396f3dd2055d593351f", func := "loop.example/dynamicbridges/laws.FnExactCycleThrough", spec := "fnExactCycleThrough", unfollowed := true, recurses := true, apart := false, narrowed := true }
def FnExactCycleThroughUptoSaid : Prop := fnExactCycleThroughUptoRow.holds Try.pinned (OpenSpec.upto fnExactCycleThroughSpec)

/-- 'laws.FnCycleThrough', WHERE WHAT IT READS IS OF BULK AT MOST 1048576: true; the input reads as it did. -/
def fnCycleThroughUptoRow : OpenClaim := { program := "ytlahjdgcgfgifaa", sum := "1cbca55b51bacd1f46aebe88a59c13a298dece70cc5e2396f3dd2055d593351f", func := "loop.example/dynamicbridges/laws.FnCycleThrough", spec := "fnCycleThrough", unfollowed := true, recurses := true, apart := false, narrowed := true }
def FnCycleThroughUptoSaid : Prop := fnCycleThroughUptoRow.holds Try.pinned (OpenSpec.upto fnCycleThroughSpec)

/-- 'laws.FnSafeCycle', WHERE WHAT IT READS IS OF BULK AT MOST 1048576: true; the input reads as it did. -/
def fnSafeCycleUptoRow : OpenClaim := { program := "ytlahjdgcgfgifaa", sum := "1cbca55b51bacd1f46aebe88a59c13a298dece70cc5e2396f3dd2055d593351f", func := "loop.example/dynamicbridges/laws.FnSafeCycle", spec := "fnSafeCycle", unfollowed := true, recurses := true, apart := false, narrowed := true }
def FnSafeCycleUptoSaid : Prop := fnSafeCycleUptoRow.holds Try.pinned (OpenSpec.upto fnSafeCycleSpec)

/-- 'laws.FnCyclePut', WHERE WHAT IT READS IS OF BULK AT MOST 1048576: true; the input reads as it did. -/
def fnCyclePutUptoRow : OpenClaim := { program := "ytlahjdgcgfgifaa", sum := "1cbca55b51bacd1f46aebe88a59c13a298dece70cc5e2396f3dd2055d593351f", func := "loop.example/dynamicbridges/laws.FnCyclePut", spec := "fnCyclePut", inPlace := ["slices.overlaps[loop.example/dynamicbridges/impl.Edge]"], unfollowed := true, recurses := true, apart := false, narrowed := true }
def FnCyclePutUptoSaid : Prop := fnCyclePutUptoRow.holds Try.pinned (OpenSpec.upto fnCyclePutSpec)

/-- 'laws.FnRoundSafe', WHERE WHAT IT READS IS OF BULK AT MOST 1048576: true; the input reads as it did. -/
def fnRoundSafeUptoRow : OpenClaim := { program := "ytlahjdgcgfgifaa", sum := "1cbca55b51bacd1f46aebe88a59c13a298dece70cc5e2396f3dd2055d593351f", func := "loop.example/dynamicbridges/laws.FnRoundSafe", spec := "fnRoundSafe", recurses := true, apart := false, narrowed := true }
def FnRoundSafeUptoSaid : Prop := fnRoundSafeUptoRow.holds Try.pinned (OpenSpec.upto fnRoundSafeSpec)

/-- 'laws.FnRoundChains', WHERE WHAT IT READS IS OF BULK AT MOST 1048576: true; the input reads as it did. -/
def fnRoundChainsUptoRow : OpenClaim := { program := "ytlahjdgcgfgifaa", sum := "1cbca55b51bacd1f46aebe88a59c13a298dece70cc5e2396f3dd2055d593351f", func := "loop.example/dynamicbridges/laws.FnRoundChains", spec := "fnRoundChains", unfollowed := true, recurses := true, apart := false, narrowed := true }
def FnRoundChainsUptoSaid : Prop := fnRoundChainsUptoRow.holds Try.pinned (OpenSpec.upto fnRoundChainsSpec)

end Rows
end Go.Proofs.Ytlahjdgcgfgifaa
