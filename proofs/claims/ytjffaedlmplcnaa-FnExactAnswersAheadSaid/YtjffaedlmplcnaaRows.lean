/-
  No cell of these rows narrows 'for every input' (looked for: loops, veiled, ifaces, maps, wideKeys, modest, calm, conditions, laid).
  DERIVED. THE GIVEN ROWS OF THIS SEAT. 4 by the template 'for every input the law returns true; each argument reads behind the call as it read before'; 0 by the template 'total and deterministic' (their statements: YtjffaedlmplcnaaTotals.lean).
  GIVEN WITH THE SEED: the statements are not yours to turn. If you find one false, say at which input.
  Laid BY PROGRAM, IN A SANDBOX (cutbox-rows.mjs): the forced cells as the released guide's own fill.sh prints them over the translation 77a56216fde8baf3… (all of the seat's roots in one cut). By AI agents, Wed Nov 11 2026. No macro, syntax, notation, axiom, sorry.
-/
import Derived.Test.YtjffaedlmplcnaaChecked
import GoSem.Claim
import GoSem.ClaimJoined
import GoSem.ClaimMapViews
import Derived.JoinedTies
import Derived.KernelRfl
namespace Go.Proofs.Ytjffaedlmplcnaa
/- THE CELL 'sum', in the pinned program and in every row, IS THE sha256 OF THE DUMP (.gsa) THAT YtjffaedlmplcnaaProg.lean LOADS. Nothing in Lean hashes anything: it is a label: what it is worth is what the hold of that sum in a sandbox is worth. -/
noncomputable def Try.pinned : Pinned := { name := "ytjffaedlmplcnaa", sum := "77a56216fde8baf35601842f6750ce44db87131a5800553f58fbb4a735804c8e", checked := Try.checked }
namespace Rows
def none {H : Type} : Left H := { results := [], args := [] }

/-- 'laws.FnPutCutLevel': WHATEVER THE INPUT: true; the input reads as it did. -/
def fnPutCutLevelSpec : ChangeSpec := { name := "fnPutCutLevel", fn := fun _ => fun
  | [d] => { results := [.lit (.bool true)], args := [d] }
  | _ => none }
def fnPutCutLevelRow : OpenClaim := { program := "ytjffaedlmplcnaa", sum := "77a56216fde8baf35601842f6750ce44db87131a5800553f58fbb4a735804c8e", func := "loop.example/dynamicbridges/laws.FnPutCutLevel", spec := "fnPutCutLevel", inPlace := ["slices.overlaps[loop.example/dynamicbridges/impl.Edge]", "slices.overlaps[int]", "slices.overlaps[bool]"], unfollowed := true, recurses := true, apart := false }
def FnPutCutLevelSaid : Prop := fnPutCutLevelRow.holds Try.pinned (OpenSpec.ofChange fnPutCutLevelSpec)

/-- ITS FALSE NEIGHBOUR: 'it returns false'. Refute it at one input. -/
def fnPutCutLevelWrong : ChangeSpec := { name := "fnPutCutLevel", fn := fun _ => fun
  | [d] => { results := [.lit (.bool false)], args := [d] }
  | _ => none }
def FnPutCutLevelWrongFalsely : Prop := fnPutCutLevelRow.holds Try.pinned (OpenSpec.ofChange fnPutCutLevelWrong)

/-- 'laws.FnAnswersAhead': WHATEVER THE INPUT: true; the input reads as it did. -/
def fnAnswersAheadSpec : ChangeSpec := { name := "fnAnswersAhead", fn := fun _ => fun
  | [d] => { results := [.lit (.bool true)], args := [d] }
  | _ => none }
def fnAnswersAheadRow : OpenClaim := { program := "ytjffaedlmplcnaa", sum := "77a56216fde8baf35601842f6750ce44db87131a5800553f58fbb4a735804c8e", func := "loop.example/dynamicbridges/laws.FnAnswersAhead", spec := "fnAnswersAhead", inPlace := ["slices.overlaps[loop.example/dynamicbridges/impl.Edge]"], unfollowed := true, recurses := true, apart := false }
def FnAnswersAheadSaid : Prop := fnAnswersAheadRow.holds Try.pinned (OpenSpec.ofChange fnAnswersAheadSpec)

/-- ITS FALSE NEIGHBOUR: 'it returns false'. Refute it at one input. -/
def fnAnswersAheadWrong : ChangeSpec := { name := "fnAnswersAhead", fn := fun _ => fun
  | [d] => { results := [.lit (.bool false)], args := [d] }
  | _ => none }
def FnAnswersAheadWrongFalsely : Prop := fnAnswersAheadRow.holds Try.pinned (OpenSpec.ofChange fnAnswersAheadWrong)

/-- 'laws.FnExactAnswersAhead': WHATEVER THE INPUT: true; the input reads as it did. -/
def fnExactAnswersAheadSpec : ChangeSpec := { name := "fnExactAnswersAhead", fn := fun _ => fun
  | [d1, d2] => { results := [.lit (.bool true)], args := [d1, d2] }
  | _ => none }
def fnExactAnswersAheadRow : OpenClaim := { program := "ytjffaedlmplcnaa", sum := "77a56216fde8baf35601842f6750ce44db87131a5800553f58fbb4a735804c8e", func := "loop.example/dynamicbridges/laws.FnExactAnswersAhead", spec := "fnExactAnswersAhead", inPlace := ["slices.overlaps[loop.example/dynamicbridges/impl.Edge]"], unfollowed := true, recurses := true, apart := false }
def FnExactAnswersAheadSaid : Prop := fnExactAnswersAheadRow.holds Try.pinned (OpenSpec.ofChange fnExactAnswersAheadSpec)

/-- ITS FALSE NEIGHBOUR: 'it returns false'. Refute it at one input. -/
def fnExactAnswersAheadWrong : ChangeSpec := { name := "fnExactAnswersAhead", fn := fun _ => fun
  | [d1, d2] => { results := [.lit (.bool false)], args := [d1, d2] }
  | _ => none }
def FnExactAnswersAheadWrongFalsely : Prop := fnExactAnswersAheadRow.holds Try.pinned (OpenSpec.ofChange fnExactAnswersAheadWrong)

/-- 'laws.FnExactDisjointPaths': WHATEVER THE INPUT: true; the input reads as it did. -/
def fnExactDisjointPathsSpec : ChangeSpec := { name := "fnExactDisjointPaths", fn := fun _ => fun
  | [d1, d2, d3] => { results := [.lit (.bool true)], args := [d1, d2, d3] }
  | _ => none }
def fnExactDisjointPathsRow : OpenClaim := { program := "ytjffaedlmplcnaa", sum := "77a56216fde8baf35601842f6750ce44db87131a5800553f58fbb4a735804c8e", func := "loop.example/dynamicbridges/laws.FnExactDisjointPaths", spec := "fnExactDisjointPaths", unfollowed := true, recurses := true, apart := false }
def FnExactDisjointPathsSaid : Prop := fnExactDisjointPathsRow.holds Try.pinned (OpenSpec.ofChange fnExactDisjointPathsSpec)

/-- ITS FALSE NEIGHBOUR: 'it returns false'. Refute it at one input. -/
def fnExactDisjointPathsWrong : ChangeSpec := { name := "fnExactDisjointPaths", fn := fun _ => fun
  | [d1, d2, d3] => { results := [.lit (.bool false)], args := [d1, d2, d3] }
  | _ => none }
def FnExactDisjointPathsWrongFalsely : Prop := fnExactDisjointPathsRow.holds Try.pinned (OpenSpec.ofChange fnExactDisjointPathsWrong)

/- THE SECOND FORM. 'bulk': how many values and letters a reading holds, each counted each time it is reached (what is shared counts as often as it is met; a slice's spare places count too). A statement '..UptoSaid' is the law's where the arguments, and the package variables that the reading takes, are together of bulk at most 1048576: NARROWER than '..Said'. Prove '..Said' where nothing that the law and all that it calls make is longer than what came in: it says more and counts as full. Else prove '..UptoSaid'. A law counts once. -/
mutual
def uptoBulk {H : Type} : DataW H → Nat
  | .lit (.string bytes) => bytes.length + 1
  | .lit _ => 1
  | .nil => 1
  | .ptr d => uptoBulk d + 1
  | .slice elems spare => uptoBulkAll elems + uptoBulkAll spare + 1
  | .agg parts => uptoBulkAll parts + 1
  | .iface _ d => uptoBulk d + 1
  | .map entries => uptoBulkEntries entries + 1
  | .held _ => 1
def uptoBulkAll {H : Type} : List (DataW H) → Nat
  | [] => 0
  | d :: r => uptoBulk d + uptoBulkAll r
def uptoBulkEntries {H : Type} : List (Lit × DataW H) → Nat
  | [] => 0
  | x :: r => uptoBulkEntry x + uptoBulkEntries r
def uptoBulkEntry {H : Type} : Lit × DataW H → Nat
  | (.string bytes, d) => bytes.length + uptoBulk d + 1
  | (_, d) => uptoBulk d + 1
 end
def uptoSmall : (H : Type) → List (DataW H) → Bool := fun _ ds => decide (uptoBulkAll ds ≤ 1048576)
def OpenSpec.upto (s : _root_.Go.ChangeSpec) : _root_.Go.OpenSpec := { _root_.Go.OpenSpec.ofChange s with cond := some uptoSmall }

/-- 'laws.FnPutCutLevel', WHERE WHAT IT READS IS OF BULK AT MOST 1048576: true; the input reads as it did. -/
def fnPutCutLevelUptoRow : OpenClaim := { program := "ytjffaedlmplcnaa", sum := "77a56216fde8baf35601842f6750ce44db87131a5800553f58fbb4a735804c8e", func := "loop.example/dynamicbridges/laws.FnPutCutLevel", spec := "fnPutCutLevel", inPlace := ["slices.overlaps[loop.example/dynamicbridges/impl.Edge]", "slices.overlaps[int]", "slices.overlaps[bool]"], unfollowed := true, recurses := true, apart := false, narrowed := true }
def FnPutCutLevelUptoSaid : Prop := fnPutCutLevelUptoRow.holds Try.pinned (OpenSpec.upto fnPutCutLevelSpec)

/-- 'laws.FnAnswersAhead', WHERE WHAT IT READS IS OF BULK AT MOST 1048576: true; the input reads as it did. -/
def fnAnswersAheadUptoRow : OpenClaim := { program := "ytjffaedlmplcnaa", sum := "77a56216fde8baf35601842f6750ce44db87131a5800553f58fbb4a735804c8e", func := "loop.example/dynamicbridges/laws.FnAnswersAhead", spec := "fnAnswersAhead", inPlace := ["slices.overlaps[loop.example/dynamicbridges/impl.Edge]"], unfollowed := true, recurses := true, apart := false, narrowed := true }
def FnAnswersAheadUptoSaid : Prop := fnAnswersAheadUptoRow.holds Try.pinned (OpenSpec.upto fnAnswersAheadSpec)

/-- 'laws.FnExactAnswersAhead', WHERE WHAT IT READS IS OF BULK AT MOST 1048576: true; the input reads as it did. -/
def fnExactAnswersAheadUptoRow : OpenClaim := { program := "ytjffaedlmplcnaa", sum := "77a56216fde8baf35601842f6750ce44db87131a5800553f58fbb4a735804c8e", func := "loop.example/dynamicbridges/laws.FnExactAnswersAhead", spec := "fnExactAnswersAhead", inPlace := ["slices.overlaps[loop.example/dynamicbridges/impl.Edge]"], unfollowed := true, recurses := true, apart := false, narrowed := true }
def FnExactAnswersAheadUptoSaid : Prop := fnExactAnswersAheadUptoRow.holds Try.pinned (OpenSpec.upto fnExactAnswersAheadSpec)

/-- 'laws.FnExactDisjointPaths', WHERE WHAT IT READS IS OF BULK AT MOST 1048576: true; the input reads as it did. -/
def fnExactDisjointPathsUptoRow : OpenClaim := { program := "ytjffaedlmplcnaa", sum := "77a56216fde8baf35601842f6750ce44db87131a5800553f58fbb4a735804c8e", func := "loop.example/dynamicbridges/laws.FnExactDisjointPaths", spec := "fnExactDisjointPaths", unfollowed := true, recurses := true, apart := false, narrowed := true }
def FnExactDisjointPathsUptoSaid : Prop := fnExactDisjointPathsUptoRow.holds Try.pinned (OpenSpec.upto fnExactDisjointPathsSpec)

end Rows
end Go.Proofs.Ytjffaedlmplcnaa
