/-
  No cell of these rows narrows 'for every input' (looked for: loops, veiled, ifaces, maps, wideKeys, modest, calm, conditions, laid).
  DERIVED. THE GIVEN ROWS OF THIS SEAT. 2 by the template 'for every input the law returns true; each argument reads behind the call as it read before'; 0 by the template 'total and deterministic' (their statements: YtdlfdoicheakoaaTotals.lean).
  GIVEN WITH THE SEED: the statements are not yours to turn. If you find one false, say at which input.
  Laid BY PROGRAM, IN A SANDBOX (cutbox-rows.mjs): the forced cells as the released guide's own fill.sh prints them over the translation 4dea7c9fed5951d3… (all of the seat's roots in one cut). By AI agents, Wed Nov 11 2026. No macro, syntax, notation, axiom, sorry.
-/
import Derived.Test.YtdlfdoicheakoaaChecked
import GoSem.Claim
import GoSem.ClaimJoined
import GoSem.ClaimMapViews
import Derived.JoinedTies
import Derived.KernelRfl
namespace Go.Proofs.Ytdlfdoicheakoaa
/- THE CELL 'sum', in the pinned program and in every row, IS THE sha256 OF THE DUMP (.gsa) THAT YtdlfdoicheakoaaProg.lean LOADS. Nothing in Lean hashes anything: it is a label: what it is worth is what the hold of that sum in a sandbox is worth. -/
noncomputable def Try.pinned : Pinned := { name := "ytdlfdoicheakoaa", sum := "4dea7c9fed5951d35b66d91b38f3b018e8d00381274abe871bd891a9b343f632", checked := Try.checked }
namespace Rows
def none {H : Type} : Left H := { results := [], args := [] }

/-- 'laws.FnPutCutLevel': WHATEVER THE INPUT: true; the input reads as it did. -/
def fnPutCutLevelSpec : ChangeSpec := { name := "fnPutCutLevel", fn := fun _ => fun
  | [d] => { results := [.lit (.bool true)], args := [d] }
  | _ => none }
def fnPutCutLevelRow : OpenClaim := { program := "ytdlfdoicheakoaa", sum := "4dea7c9fed5951d35b66d91b38f3b018e8d00381274abe871bd891a9b343f632", func := "loop.example/dynamicbridges/laws.FnPutCutLevel", spec := "fnPutCutLevel", inPlace := ["slices.overlaps[loop.example/dynamicbridges/impl.Edge]", "slices.overlaps[int]", "slices.overlaps[bool]"], unfollowed := true, recurses := true, apart := false }
def FnPutCutLevelSaid : Prop := fnPutCutLevelRow.holds Try.pinned (OpenSpec.ofChange fnPutCutLevelSpec)

/-- ITS FALSE NEIGHBOUR: 'it returns false'. Refute it at one input. -/
def fnPutCutLevelWrong : ChangeSpec := { name := "fnPutCutLevel", fn := fun _ => fun
  | [d] => { results := [.lit (.bool false)], args := [d] }
  | _ => none }
def FnPutCutLevelWrongFalsely : Prop := fnPutCutLevelRow.holds Try.pinned (OpenSpec.ofChange fnPutCutLevelWrong)

/-- 'laws.FnExactDisjointPaths': WHATEVER THE INPUT: true; the input reads as it did. -/
def fnExactDisjointPathsSpec : ChangeSpec := { name := "fnExactDisjointPaths", fn := fun _ => fun
  | [d1, d2, d3] => { results := [.lit (.bool true)], args := [d1, d2, d3] }
  | _ => none }
def fnExactDisjointPathsRow : OpenClaim := { program := "ytdlfdoicheakoaa", sum := "4dea7c9fed5951d35b66d91b38f3b018e8d00381274abe871bd891a9b343f632", func := "loop.example/dynamicbridges/laws.FnExactDisjointPaths", spec := "fnExactDisjointPaths", unfollowed := true, recurses := true, apart := false }
def FnExactDisjointPathsSaid : Prop := fnExactDisjointPathsRow.holds Try.pinned (OpenSpec.ofChange fnExactDisjointPathsSpec)

/-- ITS FALSE NEIGHBOUR: 'it returns false'. Refute it at one input. -/
def fnExactDisjointPathsWrong : ChangeSpec := { name := "fnExactDisjointPaths", fn := fun _ => fun
  | [d1, d2, d3] => { results := [.lit (.bool false)], args := [d1, d2, d3] }
  | _ => none }
def FnExactDisjointPathsWrongFalsely : Prop := fnExactDisjointPathsRow.holds Try.pinned (OpenSpec.ofChange fnExactDisjointPathsWrong)

/- THE SECOND FORM. 'bulk': how many values and letters a reading holds, each counted each time it is reached (what is shared counts as often as it is met; a slice's spare places count too). A statement '..UptoSaid' is the law's where the arguments, and the package variables that the reading takes, are together of bulk at most 1048576: NARROWER than '..Said'. Prove '..Said' where nothing that the law and all that it calls make is longer than what came in: it says more and counts as full. Else prove '..UptoSaid'. A law counts once. -/
mutual
def uptoBulk {H : Type} : DataW H → Nat
  | .lit (.string bytes) => bytes.length + 1
  | .lit _ => 1
  | .nil => 1
  | .ptr d => uptoBulk d + 1
  | .slice elems spare => uptoBulkAll elems + uptoBulkAll spare + 1
  | .agg parts => uptoBulkAll parts + 1
  | .iface _ d => uptoBulk d + 1
  | .map entries => uptoBulkEntries entries + 1
  | .held _ => 1
def uptoBulkAll {H : Type} : List (DataW H) → Nat
  | [] => 0
  | d :: r => uptoBulk d + uptoBulkAll r
def uptoBulkEntries {H : Type} : List (Lit × DataW H) → Nat
  | [] => 0
  | x :: r => uptoBulkEntry x + uptoBulkEntries r
def uptoBulkEntry {H : Type} : Lit × DataW H → Nat
  | (.string bytes, d) => bytes.length + uptoBulk d + 1
  | (_, d) => uptoBulk d + 1
 end
def uptoSmall : (H : Type) → List (DataW H) → Bool := fun _ ds => decide (uptoBulkAll ds ≤ 1048576)
def OpenSpec.upto (s : _root_.Go.ChangeSpec) : _root_.Go.OpenSpec := { _root_.Go.OpenSpec.ofChange s with cond := some uptoSmall }

/-- 'laws.FnPutCutLevel', WHERE WHAT IT READS IS OF BULK AT MOST 1048576: true; the input reads as it did. -/
def fnPutCutLevelUptoRow : OpenClaim := { program := "ytdlfdoicheakoaa", sum := "4dea7c9fed5951d35b66d91b38f3b018e8d00381274abe871bd891a9b343f632", func := "loop.example/dynamicbridges/laws.FnPutCutLevel", spec := "fnPutCutLevel", inPlace := ["slices.overlaps[loop.example/dynamicbridges/impl.Edge]", "slices.overlaps[int]", "slices.overlaps[bool]"], unfollowed := true, recurses := true, apart := false, narrowed := true }
def FnPutCutLevelUptoSaid : Prop := fnPutCutLevelUptoRow.holds Try.pinned (OpenSpec.upto fnPutCutLevelSpec)

/-- 'laws.FnExactDisjointPaths', WHERE WHAT IT READS IS OF BULK AT MOST 1048576: true; the input reads as it did. -/
def fnExactDisjointPathsUptoRow : OpenClaim := { program := "ytdlfdoicheakoaa", sum := "4dea7c9fed5951d35b66d91b38f3b018e8d00381274abe871bd891a9b343f632", func := "loop.example/dynamicbridges/laws.FnExactDisjointPaths", spec := "fnExactDisjointPaths", unfollowed := true, recurses := true, apart := false, narrowed := true }
def FnExactDisjointPathsUptoSaid : Prop := fnExactDisjointPathsUptoRow.holds Try.pinned (OpenSpec.upto fnExactDisjointPathsSpec)

end Rows
end Go.Proofs.Ytdlfdoicheakoaa
