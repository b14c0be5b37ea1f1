/-
  No cell of these rows narrows 'for every input' (looked for: loops, veiled, ifaces, maps, wideKeys, modest, calm, conditions, laid).
  DERIVED. THE GIVEN ROWS OF THIS SEAT. 11 by the template 'for every input the law returns true; each argument reads behind the call as it read before'; 0 by the template 'total and deterministic' (their statements: YtagpdfbgimnljaaTotals.lean).
  GIVEN WITH THE SEED: the statements are not yours to turn. If you find one false, say at which input.
  Laid BY PROGRAM, IN A SANDBOX (cutbox-rows.mjs): the forced cells as the released guide's own fill.sh prints them over the translation a8c5977a1d5349eb… (all of the seat's roots in one cut). By AI agents, Wed Nov 11 2026. No macro, syntax, notation, axiom, sorry.
-/
import Derived.Test.YtagpdfbgimnljaaChecked
import GoSem.Claim
import GoSem.ClaimJoined
import GoSem.ClaimMapViews
import Derived.JoinedTies
import Derived.KernelRfl
namespace Go.Proofs.Ytagpdfbgimnljaa
/- THE CELL 'sum', in the pinned program and in every row, IS THE sha256 OF THE DUMP (.gsa) THAT YtagpdfbgimnljaaProg.lean LOADS. Nothing in Lean hashes anything: it is a label: what it is worth is what the hold of that sum in a sandbox is worth. -/
noncomputable def Try.pinned : Pinned := { name := "ytagpdfbgimnljaa", sum := "a8c5977a1d5349ebc2954c2f8c82a6486fb119f333fa15442b4b0181784e2e38", checked := Try.checked }
namespace Rows
def none {H : Type} : Left H := { results := [], args := [] }

/-- 'laws.FnAnswersAhead': WHATEVER THE INPUT: true; the input reads as it did. -/
def fnAnswersAheadSpec : ChangeSpec := { name := "fnAnswersAhead", fn := fun _ => fun
  | [d] => { results := [.lit (.bool true)], args := [d] }
  | _ => none }
def fnAnswersAheadRow : OpenClaim := { program := "ytagpdfbgimnljaa", sum := "a8c5977a1d5349ebc2954c2f8c82a6486fb119f333fa15442b4b0181784e2e38", func := "loop.example/dynamicbridges/laws.FnAnswersAhead", spec := "fnAnswersAhead", inPlace := ["slices.overlaps[loop.example/dynamicbridges/impl.Edge]"], unfollowed := true, recurses := true, apart := false }
def FnAnswersAheadSaid : Prop := fnAnswersAheadRow.holds Try.pinned (OpenSpec.ofChange fnAnswersAheadSpec)

/-- ITS FALSE NEIGHBOUR: 'it returns false'. Refute it at one input. -/
def fnAnswersAheadWrong : ChangeSpec := { name := "fnAnswersAhead", fn := fun _ => fun
  | [d] => { results := [.lit (.bool false)], args := [d] }
  | _ => none }
def FnAnswersAheadWrongFalsely : Prop := fnAnswersAheadRow.holds Try.pinned (OpenSpec.ofChange fnAnswersAheadWrong)

/-- 'laws.FnExactAnswersAhead': WHATEVER THE INPUT: true; the input reads as it did. -/
def fnExactAnswersAheadSpec : ChangeSpec := { name := "fnExactAnswersAhead", fn := fun _ => fun
  | [d1, d2] => { results := [.lit (.bool true)], args := [d1, d2] }
  | _ => none }
def fnExactAnswersAheadRow : OpenClaim := { program := "ytagpdfbgimnljaa", sum := "a8c5977a1d5349ebc2954c2f8c82a6486fb119f333fa15442b4b0181784e2e38", func := "loop.example/dynamicbridges/laws.FnExactAnswersAhead", spec := "fnExactAnswersAhead", inPlace := ["slices.overlaps[loop.example/dynamicbridges/impl.Edge]"], unfollowed := true, recurses := true, apart := false }
def FnExactAnswersAheadSaid : Prop := fnExactAnswersAheadRow.holds Try.pinned (OpenSpec.ofChange fnExactAnswersAheadSpec)

/-- ITS FALSE NEIGHBOUR: 'it returns false'. Refute it at one input. -/
def fnExactAnswersAheadWrong : ChangeSpec := { name := "fnExactAnswersAhead", fn := fun _ => fun
  | [d1, d2] => { results := [.lit (.bool false)], args := [d1, d2] }
  | _ => none }
def FnExactAnswersAheadWrongFalsely : Prop := fnExactAnswersAheadRow.holds Try.pinned (OpenSpec.ofChange fnExactAnswersAheadWrong)

/-- 'laws.FnOpsLeveled': WHATEVER THE INPUT: true; the input reads as it did. -/
def fnOpsLeveledSpec : ChangeSpec := { name := "fnOpsLeveled", fn := fun _ => fun
  | [d] => { results := [.lit (.bool true)], args := [d] }
  | _ => none }
def fnOpsLeveledRow : OpenClaim := { program := "ytagpdfbgimnljaa", sum := "a8c5977a1d5349ebc2954c2f8c82a6486fb119f333fa15442b4b0181784e2e38", func := "loop.example/dynamicbridges/laws.FnOpsLeveled", spec := "fnOpsLeveled", inPlace := ["slices.overlaps[loop.example/dynamicbridges/impl.Edge]", "slices.overlaps[int]", "slices.overlaps[bool]"], unfollowed := true, recurses := true, apart := false }
def FnOpsLeveledSaid : Prop := fnOpsLeveledRow.holds Try.pinned (OpenSpec.ofChange fnOpsLeveledSpec)

/-- ITS FALSE NEIGHBOUR: 'it returns false'. Refute it at one input. -/
def fnOpsLeveledWrong : ChangeSpec := { name := "fnOpsLeveled", fn := fun _ => fun
  | [d] => { results := [.lit (.bool false)], args := [d] }
  | _ => none }
def FnOpsLeveledWrongFalsely : Prop := fnOpsLeveledRow.holds Try.pinned (OpenSpec.ofChange fnOpsLeveledWrong)

/-- 'laws.FnPutCutLevel': WHATEVER THE INPUT: true; the input reads as it did. -/
def fnPutCutLevelSpec : ChangeSpec := { name := "fnPutCutLevel", fn := fun _ => fun
  | [d] => { results := [.lit (.bool true)], args := [d] }
  | _ => none }
def fnPutCutLevelRow : OpenClaim := { program := "ytagpdfbgimnljaa", sum := "a8c5977a1d5349ebc2954c2f8c82a6486fb119f333fa15442b4b0181784e2e38", func := "loop.example/dynamicbridges/laws.FnPutCutLevel", spec := "fnPutCutLevel", inPlace := ["slices.overlaps[loop.example/dynamicbridges/impl.Edge]", "slices.overlaps[int]", "slices.overlaps[bool]"], unfollowed := true, recurses := true, apart := false }
def FnPutCutLevelSaid : Prop := fnPutCutLevelRow.holds Try.pinned (OpenSpec.ofChange fnPutCutLevelSpec)

/-- ITS FALSE NEIGHBOUR: 'it returns false'. Refute it at one input. -/
def fnPutCutLevelWrong : ChangeSpec := { name := "fnPutCutLevel", fn := fun _ => fun
  | [d] => { results := [.lit (.bool false)], args := [d] }
  | _ => none }
def FnPutCutLevelWrongFalsely : Prop := fnPutCutLevelRow.holds Try.pinned (OpenSpec.ofChange fnPutCutLevelWrong)

/-- 'laws.FnExactTourOf': WHATEVER THE INPUT: true; the input reads as it did. -/
def fnExactTourOfSpec : ChangeSpec := { name := "fnExactTourOf", fn := fun _ => fun
  | [d1, d2] => { results := [.lit (.bool true)], args := [d1, d2] }
  | _ => none }
def fnExactTourOfRow : OpenClaim := { program := "ytagpdfbgimnljaa", sum := "a8c5977a1d5349ebc2954c2f8c82a6486fb119f333fa15442b4b0181784e2e38", func := "loop.example/dynamicbridges/laws.FnExactTourOf", spec := "fnExactTourOf", recurses := true, apart := false }
def FnExactTourOfSaid : Prop := fnExactTourOfRow.holds Try.pinned (OpenSpec.ofChange fnExactTourOfSpec)

/-- ITS FALSE NEIGHBOUR: 'it returns false'. Refute it at one input. -/
def fnExactTourOfWrong : ChangeSpec := { name := "fnExactTourOf", fn := fun _ => fun
  | [d1, d2] => { results := [.lit (.bool false)], args := [d1, d2] }
  | _ => none }
def FnExactTourOfWrongFalsely : Prop := fnExactTourOfRow.holds Try.pinned (OpenSpec.ofChange fnExactTourOfWrong)

/-- 'laws.FnTourGraph': WHATEVER THE INPUT: true; the input reads as it did. -/
def fnTourGraphSpec : ChangeSpec := { name := "fnTourGraph", fn := fun _ => fun
  | [d] => { results := [.lit (.bool true)], args := [d] }
  | _ => none }
def fnTourGraphRow : OpenClaim := { program := "ytagpdfbgimnljaa", sum := "a8c5977a1d5349ebc2954c2f8c82a6486fb119f333fa15442b4b0181784e2e38", func := "loop.example/dynamicbridges/laws.FnTourGraph", spec := "fnTourGraph", unfollowed := true, recurses := true, apart := false }
def FnTourGraphSaid : Prop := fnTourGraphRow.holds Try.pinned (OpenSpec.ofChange fnTourGraphSpec)

/-- ITS FALSE NEIGHBOUR: 'it returns false'. Refute it at one input. -/
def fnTourGraphWrong : ChangeSpec := { name := "fnTourGraph", fn := fun _ => fun
  | [d] => { results := [.lit (.bool false)], args := [d] }
  | _ => none }
def FnTourGraphWrongFalsely : Prop := fnTourGraphRow.holds Try.pinned (OpenSpec.ofChange fnTourGraphWrong)

/-- 'laws.FnTourOf': WHATEVER THE INPUT: true; the input reads as it did. -/
def fnTourOfSpec : ChangeSpec := { name := "fnTourOf", fn := fun _ => fun
  | [d] => { results := [.lit (.bool true)], args := [d] }
  | _ => none }
def fnTourOfRow : OpenClaim := { program := "ytagpdfbgimnljaa", sum := "a8c5977a1d5349ebc2954c2f8c82a6486fb119f333fa15442b4b0181784e2e38", func := "loop.example/dynamicbridges/laws.FnTourOf", spec := "fnTourOf", unfollowed := true, recurses := true, apart := false }
def FnTourOfSaid : Prop := fnTourOfRow.holds Try.pinned (OpenSpec.ofChange fnTourOfSpec)

/-- ITS FALSE NEIGHBOUR: 'it returns false'. Refute it at one input. -/
def fnTourOfWrong : ChangeSpec := { name := "fnTourOf", fn := fun _ => fun
  | [d] => { results := [.lit (.bool false)], args := [d] }
  | _ => none }
def FnTourOfWrongFalsely : Prop := fnTourOfRow.holds Try.pinned (OpenSpec.ofChange fnTourOfWrong)

/-- 'laws.FnDepthPath': WHATEVER THE INPUT: true; the input reads as it did. -/
def fnDepthPathSpec : ChangeSpec := { name := "fnDepthPath", fn := fun _ => fun
  | [d] => { results := [.lit (.bool true)], args := [d] }
  | _ => none }
def fnDepthPathRow : OpenClaim := { program := "ytagpdfbgimnljaa", sum := "a8c5977a1d5349ebc2954c2f8c82a6486fb119f333fa15442b4b0181784e2e38", func := "loop.example/dynamicbridges/laws.FnDepthPath", spec := "fnDepthPath", unfollowed := true, recurses := true, apart := false }
def FnDepthPathSaid : Prop := fnDepthPathRow.holds Try.pinned (OpenSpec.ofChange fnDepthPathSpec)

/-- ITS FALSE NEIGHBOUR: 'it returns false'. Refute it at one input. -/
def fnDepthPathWrong : ChangeSpec := { name := "fnDepthPath", fn := fun _ => fun
  | [d] => { results := [.lit (.bool false)], args := [d] }
  | _ => none }
def FnDepthPathWrongFalsely : Prop := fnDepthPathRow.holds Try.pinned (OpenSpec.ofChange fnDepthPathWrong)

/-- 'laws.FnForestTour': WHATEVER THE INPUT: true; the input reads as it did. -/
def fnForestTourSpec : ChangeSpec := { name := "fnForestTour", fn := fun _ => fun
  | [d] => { results := [.lit (.bool true)], args := [d] }
  | _ => none }
def fnForestTourRow : OpenClaim := { program := "ytagpdfbgimnljaa", sum := "a8c5977a1d5349ebc2954c2f8c82a6486fb119f333fa15442b4b0181784e2e38", func := "loop.example/dynamicbridges/laws.FnForestTour", spec := "fnForestTour", unfollowed := true, recurses := true, apart := false }
def FnForestTourSaid : Prop := fnForestTourRow.holds Try.pinned (OpenSpec.ofChange fnForestTourSpec)

/-- ITS FALSE NEIGHBOUR: 'it returns false'. Refute it at one input. -/
def fnForestTourWrong : ChangeSpec := { name := "fnForestTour", fn := fun _ => fun
  | [d] => { results := [.lit (.bool false)], args := [d] }
  | _ => none }
def FnForestTourWrongFalsely : Prop := fnForestTourRow.holds Try.pinned (OpenSpec.ofChange fnForestTourWrong)

/-- 'laws.FnRootForest': WHATEVER THE INPUT: true; the input reads as it did. -/
def fnRootForestSpec : ChangeSpec := { name := "fnRootForest", fn := fun _ => fun
  | [d] => { results := [.lit (.bool true)], args := [d] }
  | _ => none }
def fnRootForestRow : OpenClaim := { program := "ytagpdfbgimnljaa", sum := "a8c5977a1d5349ebc2954c2f8c82a6486fb119f333fa15442b4b0181784e2e38", func := "loop.example/dynamicbridges/laws.FnRootForest", spec := "fnRootForest", recurses := true, apart := false }
def FnRootForestSaid : Prop := fnRootForestRow.holds Try.pinned (OpenSpec.ofChange fnRootForestSpec)

/-- ITS FALSE NEIGHBOUR: 'it returns false'. Refute it at one input. -/
def fnRootForestWrong : ChangeSpec := { name := "fnRootForest", fn := fun _ => fun
  | [d] => { results := [.lit (.bool false)], args := [d] }
  | _ => none }
def FnRootForestWrongFalsely : Prop := fnRootForestRow.holds Try.pinned (OpenSpec.ofChange fnRootForestWrong)

/-- 'laws.FnExactRootForest': WHATEVER THE INPUT: true; the input reads as it did. -/
def fnExactRootForestSpec : ChangeSpec := { name := "fnExactRootForest", fn := fun _ => fun
  | [d] => { results := [.lit (.bool true)], args := [d] }
  | _ => none }
def fnExactRootForestRow : OpenClaim := { program := "ytagpdfbgimnljaa", sum := "a8c5977a1d5349ebc2954c2f8c82a6486fb119f333fa15442b4b0181784e2e38", func := "loop.example/dynamicbridges/laws.FnExactRootForest", spec := "fnExactRootForest", recurses := true, apart := false }
def FnExactRootForestSaid : Prop := fnExactRootForestRow.holds Try.pinned (OpenSpec.ofChange fnExactRootForestSpec)

/-- ITS FALSE NEIGHBOUR: 'it returns false'. Refute it at one input. -/
def fnExactRootForestWrong : ChangeSpec := { name := "fnExactRootForest", fn := fun _ => fun
  | [d] => { results := [.lit (.bool false)], args := [d] }
  | _ => none }
def FnExactRootForestWrongFalsely : Prop := fnExactRootForestRow.holds Try.pinned (OpenSpec.ofChange fnExactRootForestWrong)

/- THE SECOND FORM. 'bulk': how many values and letters a reading holds, each counted each time it is reached (what is shared counts as often as it is met; a slice's spare places count too). A statement '..UptoSaid' is the law's where the arguments, and the package variables that the reading takes, are together of bulk at most 1048576: NARROWER than '..Said'. Prove '..Said' where nothing that the law and all that it calls make is longer than what came in: it says more and counts as full. Else prove '..UptoSaid'. A law counts once. -/
mutual
def uptoBulk {H : Type} : DataW H → Nat
  | .lit (.string bytes) => bytes.length + 1
  | .lit _ => 1
  | .nil => 1
  | .ptr d => uptoBulk d + 1
  | .slice elems spare => uptoBulkAll elems + uptoBulkAll spare + 1
  | .agg parts => uptoBulkAll parts + 1
  | .iface _ d => uptoBulk d + 1
  | .map entries => uptoBulkEntries entries + 1
  | .held _ => 1
def uptoBulkAll {H : Type} : List (DataW H) → Nat
  | [] => 0
  | d :: r => uptoBulk d + uptoBulkAll r
def uptoBulkEntries {H : Type} : List (Lit × DataW H) → Nat
  | [] => 0
  | x :: r => uptoBulkEntry x + uptoBulkEntries r
def uptoBulkEntry {H : Type} : Lit × DataW H → Nat
  | (.string bytes, d) => bytes.length + uptoBulk d + 1
  | (_, d) => uptoBulk d + 1
 end
def uptoSmall : (H : Type) → List (DataW H) → Bool := fun _ ds => decide (uptoBulkAll ds ≤ 1048576)
def OpenSpec.upto (s : _root_.Go.ChangeSpec) : _root_.Go.OpenSpec := { _root_.Go.OpenSpec.ofChange s with cond := some uptoSmall }

/-- 'laws.FnAnswersAhead', WHERE WHAT IT READS IS OF BULK AT MOST 1048576: true; the input reads as it did. -/
def fnAnswersAheadUptoRow : OpenClaim := { program := "ytagpdfbgimnljaa", sum := "a8c5977a1d5349ebc2954c2f8c82a6486fb119f333fa15442b4b0181784e2e38", func := "loop.example/dynamicbridges/laws.FnAnswersAhead", spec := "fnAnswersAhead", inPlace := ["slices.overlaps[loop.example/dynamicbridges/impl.Edge]"], unfollowed := true, recurses := true, apart := false, narrowed := true }
def FnAnswersAheadUptoSaid : Prop := fnAnswersAheadUptoRow.holds Try.pinned (OpenSpec.upto fnAnswersAheadSpec)

/-- 'laws.FnExactAnswersAhead', WHERE WHAT IT READS IS OF BULK AT MOST 1048576: true; the input reads as it did. -/
def fnExactAnswersAheadUptoRow : OpenClaim := { program := "ytagpdfbgimnljaa", sum := "a8c5977a1d5349ebc2954c2f8c82a6486fb119f333fa15442b4b0181784e2e38", func := "loop.example/dynamicbridges/laws.FnExactAnswersAhead", spec := "fnExactAnswersAhead", inPlace := ["slices.overlaps[loop.example/dynamicbridges/impl.Edge]"], unfollowed := true, recurses := true, apart := false, narrowed := true }
def FnExactAnswersAheadUptoSaid : Prop := fnExactAnswersAheadUptoRow.holds Try.pinned (OpenSpec.upto fnExactAnswersAheadSpec)

/-- 'laws.FnOpsLeveled', WHERE WHAT IT READS IS OF BULK AT MOST 1048576: true; the input reads as it did. -/
def fnOpsLeveledUptoRow : OpenClaim := { program := "ytagpdfbgimnljaa", sum := "a8c5977a1d5349ebc2954c2f8c82a6486fb119f333fa15442b4b0181784e2e38", func := "loop.example/dynamicbridges/laws.FnOpsLeveled", spec := "fnOpsLeveled", inPlace := ["slices.overlaps[loop.example/dynamicbridges/impl.Edge]", "slices.overlaps[int]", "slices.overlaps[bool]"], unfollowed := true, recurses := true, apart := false, narrowed := true }
def FnOpsLeveledUptoSaid : Prop := fnOpsLeveledUptoRow.holds Try.pinned (OpenSpec.upto fnOpsLeveledSpec)

/-- 'laws.FnPutCutLevel', WHERE WHAT IT READS IS OF BULK AT MOST 1048576: true; the input reads as it did. -/
def fnPutCutLevelUptoRow : OpenClaim := { program := "ytagpdfbgimnljaa", sum := "a8c5977a1d5349ebc2954c2f8c82a6486fb119f333fa15442b4b0181784e2e38", func := "loop.example/dynamicbridges/laws.FnPutCutLevel", spec := "fnPutCutLevel", inPlace := ["slices.overlaps[loop.example/dynamicbridges/impl.Edge]", "slices.overlaps[int]", "slices.overlaps[bool]"], unfollowed := true, recurses := true, apart := false, narrowed := true }
def FnPutCutLevelUptoSaid : Prop := fnPutCutLevelUptoRow.holds Try.pinned (OpenSpec.upto fnPutCutLevelSpec)

/-- 'laws.FnExactTourOf', WHERE WHAT IT READS IS OF BULK AT MOST 1048576: true; the input reads as it did. -/
def fnExactTourOfUptoRow : OpenClaim := { program := "ytagpdfbgimnljaa", sum := "a8c5977a1d5349ebc2954c2f8c82a6486fb119f333fa15442b4b0181784e2e38", func := "loop.example/dynamicbridges/laws.FnExactTourOf", spec := "fnExactTourOf", recurses := true, apart := false, narrowed := true }
def FnExactTourOfUptoSaid : Prop := fnExactTourOfUptoRow.holds Try.pinned (OpenSpec.upto fnExactTourOfSpec)

/-- 'laws.FnTourGraph', WHERE WHAT IT READS IS OF BULK AT MOST 1048576: true; the input reads as it did. -/
def fnTourGraphUptoRow : OpenClaim := { program := "ytagpdfbgimnljaa", sum := "a8c5977a1d5349ebc2954c2f8c82a6486fb119f333fa15442b4b0181784e2e38", func := "loop.example/dynamicbridges/laws.FnTourGraph", spec := "fnTourGraph", unfollowed := true, recurses := true, apart := false, narrowed := true }
def FnTourGraphUptoSaid : Prop := fnTourGraphUptoRow.holds Try.pinned (OpenSpec.upto fnTourGraphSpec)

/-- 'laws.FnTourOf', WHERE WHAT IT READS IS OF BULK AT MOST 1048576: true; the input reads as it did. -/
def fnTourOfUptoRow : OpenClaim := { program := "ytagpdfbgimnljaa", sum := "a8c5977a1d5349ebc2954c2f8c82a6486fb119f333fa15442b4b0181784e2e38", func := "loop.example/dynamicbridges/laws.FnTourOf", spec := "fnTourOf", unfollowed := true, recurses := true, apart := false, narrowed := true }
def FnTourOfUptoSaid : Prop := fnTourOfUptoRow.holds Try.pinned (OpenSpec.upto fnTourOfSpec)

/-- 'laws.FnDepthPath', WHERE WHAT IT READS IS OF BULK AT MOST 1048576: true; the input reads as it did. -/
def fnDepthPathUptoRow : OpenClaim := { program := "ytagpdfbgimnljaa", sum := "a8c5977a1d5349ebc2954c2f8c82a6486fb119f333fa15442b4b0181784e2e38", func := "loop.example/dynamicbridges/laws.FnDepthPath", spec := "fnDepthPath", unfollowed := true, recurses := true, apart := false, narrowed := true }
def FnDepthPathUptoSaid : Prop := fnDepthPathUptoRow.holds Try.pinned (OpenSpec.upto fnDepthPathSpec)

/-- 'laws.FnForestTour', WHERE WHAT IT READS IS OF BULK AT MOST 1048576: true; the input reads as it did. -/
def fnForestTourUptoRow : OpenClaim := { program := "ytagpdfbgimnljaa", sum := "a8c5977a1d5349ebc2954c2f8c82a6486fb119f333fa15442b4b0181784e2e38", func := "loop.example/dynamicbridges/laws.FnForestTour", spec := "fnForestTour", unfollowed := true, recurses := true, apart := false, narrowed := true }
def FnForestTourUptoSaid : Prop := fnForestTourUptoRow.holds Try.pinned (OpenSpec.upto fnForestTourSpec)

/-- 'laws.FnRootForest', WHERE WHAT IT READS IS OF BULK AT MOST 1048576: true; the input reads as it did. -/
def fnRootForestUptoRow : OpenClaim := { program := "ytagpdfbgimnljaa", sum := "a8c5977a1d5349ebc2954c2f8c82a6486fb119f333fa15442b4b0181784e2e38", func := "loop.example/dynamicbridges/laws.FnRootForest", spec := "fnRootForest", recurses := true, apart := false, narrowed := true }
def FnRootForestUptoSaid : Prop := fnRootForestUptoRow.holds Try.pinned (OpenSpec.upto fnRootForestSpec)

/-- 'laws.FnExactRootForest', WHERE WHAT IT READS IS OF BULK AT MOST 1048576: true; the input reads as it did. -/
def fnExactRootForestUptoRow : OpenClaim := { program := "ytagpdfbgimnljaa", sum := "a8c5977a1d5349ebc2954c2f8c82a6486fb119f333fa15442b4b0181784e2e38", func := "loop.example/dynamicbridges/laws.FnExactRootForest", spec := "fnExactRootForest", recurses := true, apart := false, narrowed := true }
def FnExactRootForestUptoSaid : Prop := fnExactRootForestUptoRow.holds Try.pinned (OpenSpec.upto fnExactRootForestSpec)

end Rows
end Go.Proofs.Ytagpdfbgimnljaa
