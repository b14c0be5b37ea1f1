/-
  No cell of these rows narrows 'for every input' (looked for: loops, veiled, ifaces, maps, wideKeys, modest, calm, conditions, laid).
  DERIVED. THE GIVEN ROWS OF THIS SEAT. 12 by the template 'for every input the law returns true; each argument reads behind the call as it read before'; 0 by the template 'total and deterministic' (their statements: YtflmjjfoeabnoaaTotals.lean).
  GIVEN WITH THE SEED: the statements are not yours to turn. If you find one false, say at which input.
  Laid BY PROGRAM, IN A SANDBOX (cutbox-rows.mjs): the forced cells as the released guide's own fill.sh prints them over the translation c0f7971de5a472b2… (all of the seat's roots in one cut). By AI agents, Wed Nov 11 2026. No macro, syntax, notation, axiom, sorry.
-/
import Derived.Test.YtflmjjfoeabnoaaChecked
import GoSem.Claim
import GoSem.ClaimJoined
import GoSem.ClaimMapViews
import Derived.JoinedTies
import Derived.KernelRfl
namespace Go.Proofs.Ytflmjjfoeabnoaa
/- THE CELL 'sum', in the pinned program and in every row, IS THE sha256 OF THE DUMP (.gsa) THAT YtflmjjfoeabnoaaProg.lean LOADS. Nothing in Lean hashes anything: it is a label: what it is worth is what the hold of that sum in a sandbox is worth. -/
noncomputable def Try.pinned : Pinned := { name := "ytflmjjfoeabnoaa", sum := "c0f7971de5a472b26daa0d5318f8ddca72f2244209bb32bbe74bbb4c26882c44", checked := Try.checked }
namespace Rows
def none {H : Type} : Left H := { results := [], args := [] }

/-- 'laws.FnCutSize': WHATEVER THE INPUT: true; the input reads as it did. -/
def fnCutSizeSpec : ChangeSpec := { name := "fnCutSize", fn := fun _ => fun
  | [d] => { results := [.lit (.bool true)], args := [d] }
  | _ => none }
def fnCutSizeRow : OpenClaim := { program := "ytflmjjfoeabnoaa", sum := "c0f7971de5a472b26daa0d5318f8ddca72f2244209bb32bbe74bbb4c26882c44", func := "loop.example/dynamicbridges/laws.FnCutSize", spec := "fnCutSize", unfollowed := true, recurses := true, apart := false }
def FnCutSizeSaid : Prop := fnCutSizeRow.holds Try.pinned (OpenSpec.ofChange fnCutSizeSpec)

/-- ITS FALSE NEIGHBOUR: 'it returns false'. Refute it at one input. -/
def fnCutSizeWrong : ChangeSpec := { name := "fnCutSize", fn := fun _ => fun
  | [d] => { results := [.lit (.bool false)], args := [d] }
  | _ => none }
def FnCutSizeWrongFalsely : Prop := fnCutSizeRow.holds Try.pinned (OpenSpec.ofChange fnCutSizeWrong)

/-- 'laws.FnFlowTriangle': WHATEVER THE INPUT: true; the input reads as it did. -/
def fnFlowTriangleSpec : ChangeSpec := { name := "fnFlowTriangle", fn := fun _ => fun
  | [d] => { results := [.lit (.bool true)], args := [d] }
  | _ => none }
def fnFlowTriangleRow : OpenClaim := { program := "ytflmjjfoeabnoaa", sum := "c0f7971de5a472b26daa0d5318f8ddca72f2244209bb32bbe74bbb4c26882c44", func := "loop.example/dynamicbridges/laws.FnFlowTriangle", spec := "fnFlowTriangle", unfollowed := true, recurses := true, apart := false }
def FnFlowTriangleSaid : Prop := fnFlowTriangleRow.holds Try.pinned (OpenSpec.ofChange fnFlowTriangleSpec)

/-- ITS FALSE NEIGHBOUR: 'it returns false'. Refute it at one input. -/
def fnFlowTriangleWrong : ChangeSpec := { name := "fnFlowTriangle", fn := fun _ => fun
  | [d] => { results := [.lit (.bool false)], args := [d] }
  | _ => none }
def FnFlowTriangleWrongFalsely : Prop := fnFlowTriangleRow.holds Try.pinned (OpenSpec.ofChange fnFlowTriangleWrong)

/-- 'laws.FnSafeFlow': WHATEVER THE INPUT: true; the input reads as it did. -/
def fnSafeFlowSpec : ChangeSpec := { name := "fnSafeFlow", fn := fun _ => fun
  | [d] => { results := [.lit (.bool true)], args := [d] }
  | _ => none }
def fnSafeFlowRow : OpenClaim := { program := "ytflmjjfoeabnoaa", sum := "c0f7971de5a472b26daa0d5318f8ddca72f2244209bb32bbe74bbb4c26882c44", func := "loop.example/dynamicbridges/laws.FnSafeFlow", spec := "fnSafeFlow", unfollowed := true, recurses := true, apart := false }
def FnSafeFlowSaid : Prop := fnSafeFlowRow.holds Try.pinned (OpenSpec.ofChange fnSafeFlowSpec)

/-- ITS FALSE NEIGHBOUR: 'it returns false'. Refute it at one input. -/
def fnSafeFlowWrong : ChangeSpec := { name := "fnSafeFlow", fn := fun _ => fun
  | [d] => { results := [.lit (.bool false)], args := [d] }
  | _ => none }
def FnSafeFlowWrongFalsely : Prop := fnSafeFlowRow.holds Try.pinned (OpenSpec.ofChange fnSafeFlowWrong)

/-- 'laws.FnWeakestCut': WHATEVER THE INPUT: true; the input reads as it did. -/
def fnWeakestCutSpec : ChangeSpec := { name := "fnWeakestCut", fn := fun _ => fun
  | [d] => { results := [.lit (.bool true)], args := [d] }
  | _ => none }
def fnWeakestCutRow : OpenClaim := { program := "ytflmjjfoeabnoaa", sum := "c0f7971de5a472b26daa0d5318f8ddca72f2244209bb32bbe74bbb4c26882c44", func := "loop.example/dynamicbridges/laws.FnWeakestCut", spec := "fnWeakestCut", unfollowed := true, recurses := true, apart := false }
def FnWeakestCutSaid : Prop := fnWeakestCutRow.holds Try.pinned (OpenSpec.ofChange fnWeakestCutSpec)

/-- ITS FALSE NEIGHBOUR: 'it returns false'. Refute it at one input. -/
def fnWeakestCutWrong : ChangeSpec := { name := "fnWeakestCut", fn := fun _ => fun
  | [d] => { results := [.lit (.bool false)], args := [d] }
  | _ => none }
def FnWeakestCutWrongFalsely : Prop := fnWeakestCutRow.holds Try.pinned (OpenSpec.ofChange fnWeakestCutWrong)

/-- 'laws.FnFlowBetween': WHATEVER THE INPUT: true; the input reads as it did. -/
def fnFlowBetweenSpec : ChangeSpec := { name := "fnFlowBetween", fn := fun _ => fun
  | [d] => { results := [.lit (.bool true)], args := [d] }
  | _ => none }
def fnFlowBetweenRow : OpenClaim := { program := "ytflmjjfoeabnoaa", sum := "c0f7971de5a472b26daa0d5318f8ddca72f2244209bb32bbe74bbb4c26882c44", func := "loop.example/dynamicbridges/laws.FnFlowBetween", spec := "fnFlowBetween", unfollowed := true, recurses := true, apart := false }
def FnFlowBetweenSaid : Prop := fnFlowBetweenRow.holds Try.pinned (OpenSpec.ofChange fnFlowBetweenSpec)

/-- ITS FALSE NEIGHBOUR: 'it returns false'. Refute it at one input. -/
def fnFlowBetweenWrong : ChangeSpec := { name := "fnFlowBetween", fn := fun _ => fun
  | [d] => { results := [.lit (.bool false)], args := [d] }
  | _ => none }
def FnFlowBetweenWrongFalsely : Prop := fnFlowBetweenRow.holds Try.pinned (OpenSpec.ofChange fnFlowBetweenWrong)

/-- 'laws.FnCutSideEdges': WHATEVER THE INPUT: true; the input reads as it did. -/
def fnCutSideEdgesSpec : ChangeSpec := { name := "fnCutSideEdges", fn := fun _ => fun
  | [d] => { results := [.lit (.bool true)], args := [d] }
  | _ => none }
def fnCutSideEdgesRow : OpenClaim := { program := "ytflmjjfoeabnoaa", sum := "c0f7971de5a472b26daa0d5318f8ddca72f2244209bb32bbe74bbb4c26882c44", func := "loop.example/dynamicbridges/laws.FnCutSideEdges", spec := "fnCutSideEdges", unfollowed := true, recurses := true, apart := false }
def FnCutSideEdgesSaid : Prop := fnCutSideEdgesRow.holds Try.pinned (OpenSpec.ofChange fnCutSideEdgesSpec)

/-- ITS FALSE NEIGHBOUR: 'it returns false'. Refute it at one input. -/
def fnCutSideEdgesWrong : ChangeSpec := { name := "fnCutSideEdges", fn := fun _ => fun
  | [d] => { results := [.lit (.bool false)], args := [d] }
  | _ => none }
def FnCutSideEdgesWrongFalsely : Prop := fnCutSideEdgesRow.holds Try.pinned (OpenSpec.ofChange fnCutSideEdgesWrong)

/-- 'laws.FnDisjointPaths': WHATEVER THE INPUT: true; the input reads as it did. -/
def fnDisjointPathsSpec : ChangeSpec := { name := "fnDisjointPaths", fn := fun _ => fun
  | [d] => { results := [.lit (.bool true)], args := [d] }
  | _ => none }
def fnDisjointPathsRow : OpenClaim := { program := "ytflmjjfoeabnoaa", sum := "c0f7971de5a472b26daa0d5318f8ddca72f2244209bb32bbe74bbb4c26882c44", func := "loop.example/dynamicbridges/laws.FnDisjointPaths", spec := "fnDisjointPaths", unfollowed := true, recurses := true, apart := false }
def FnDisjointPathsSaid : Prop := fnDisjointPathsRow.holds Try.pinned (OpenSpec.ofChange fnDisjointPathsSpec)

/-- ITS FALSE NEIGHBOUR: 'it returns false'. Refute it at one input. -/
def fnDisjointPathsWrong : ChangeSpec := { name := "fnDisjointPaths", fn := fun _ => fun
  | [d] => { results := [.lit (.bool false)], args := [d] }
  | _ => none }
def FnDisjointPathsWrongFalsely : Prop := fnDisjointPathsRow.holds Try.pinned (OpenSpec.ofChange fnDisjointPathsWrong)

/-- 'laws.FnFlowPut': WHATEVER THE INPUT: true; the input reads as it did. -/
def fnFlowPutSpec : ChangeSpec := { name := "fnFlowPut", fn := fun _ => fun
  | [d] => { results := [.lit (.bool true)], args := [d] }
  | _ => none }
def fnFlowPutRow : OpenClaim := { program := "ytflmjjfoeabnoaa", sum := "c0f7971de5a472b26daa0d5318f8ddca72f2244209bb32bbe74bbb4c26882c44", func := "loop.example/dynamicbridges/laws.FnFlowPut", spec := "fnFlowPut", inPlace := ["slices.overlaps[loop.example/dynamicbridges/impl.Edge]"], unfollowed := true, recurses := true, apart := false }
def FnFlowPutSaid : Prop := fnFlowPutRow.holds Try.pinned (OpenSpec.ofChange fnFlowPutSpec)

/-- ITS FALSE NEIGHBOUR: 'it returns false'. Refute it at one input. -/
def fnFlowPutWrong : ChangeSpec := { name := "fnFlowPut", fn := fun _ => fun
  | [d] => { results := [.lit (.bool false)], args := [d] }
  | _ => none }
def FnFlowPutWrongFalsely : Prop := fnFlowPutRow.holds Try.pinned (OpenSpec.ofChange fnFlowPutWrong)

/-- 'laws.FnExactFlowBetween': WHATEVER THE INPUT: true; the input reads as it did. -/
def fnExactFlowBetweenSpec : ChangeSpec := { name := "fnExactFlowBetween", fn := fun _ => fun
  | [d1, d2, d3] => { results := [.lit (.bool true)], args := [d1, d2, d3] }
  | _ => none }
def fnExactFlowBetweenRow : OpenClaim := { program := "ytflmjjfoeabnoaa", sum := "c0f7971de5a472b26daa0d5318f8ddca72f2244209bb32bbe74bbb4c26882c44", func := "loop.example/dynamicbridges/laws.FnExactFlowBetween", spec := "fnExactFlowBetween", unfollowed := true, recurses := true, apart := false }
def FnExactFlowBetweenSaid : Prop := fnExactFlowBetweenRow.holds Try.pinned (OpenSpec.ofChange fnExactFlowBetweenSpec)

/-- ITS FALSE NEIGHBOUR: 'it returns false'. Refute it at one input. -/
def fnExactFlowBetweenWrong : ChangeSpec := { name := "fnExactFlowBetween", fn := fun _ => fun
  | [d1, d2, d3] => { results := [.lit (.bool false)], args := [d1, d2, d3] }
  | _ => none }
def FnExactFlowBetweenWrongFalsely : Prop := fnExactFlowBetweenRow.holds Try.pinned (OpenSpec.ofChange fnExactFlowBetweenWrong)

/-- 'laws.FnExactCutSide': WHATEVER THE INPUT: true; the input reads as it did. -/
def fnExactCutSideSpec : ChangeSpec := { name := "fnExactCutSide", fn := fun _ => fun
  | [d1, d2, d3] => { results := [.lit (.bool true)], args := [d1, d2, d3] }
  | _ => none }
def fnExactCutSideRow : OpenClaim := { program := "ytflmjjfoeabnoaa", sum := "c0f7971de5a472b26daa0d5318f8ddca72f2244209bb32bbe74bbb4c26882c44", func := "loop.example/dynamicbridges/laws.FnExactCutSide", spec := "fnExactCutSide", unfollowed := true, recurses := true, apart := false }
def FnExactCutSideSaid : Prop := fnExactCutSideRow.holds Try.pinned (OpenSpec.ofChange fnExactCutSideSpec)

/-- ITS FALSE NEIGHBOUR: 'it returns false'. Refute it at one input. -/
def fnExactCutSideWrong : ChangeSpec := { name := "fnExactCutSide", fn := fun _ => fun
  | [d1, d2, d3] => { results := [.lit (.bool false)], args := [d1, d2, d3] }
  | _ => none }
def FnExactCutSideWrongFalsely : Prop := fnExactCutSideRow.holds Try.pinned (OpenSpec.ofChange fnExactCutSideWrong)

/-- 'laws.FnExactDisjointPaths': WHATEVER THE INPUT: true; the input reads as it did. -/
def fnExactDisjointPathsSpec : ChangeSpec := { name := "fnExactDisjointPaths", fn := fun _ => fun
  | [d1, d2, d3] => { results := [.lit (.bool true)], args := [d1, d2, d3] }
  | _ => none }
def fnExactDisjointPathsRow : OpenClaim := { program := "ytflmjjfoeabnoaa", sum := "c0f7971de5a472b26daa0d5318f8ddca72f2244209bb32bbe74bbb4c26882c44", func := "loop.example/dynamicbridges/laws.FnExactDisjointPaths", spec := "fnExactDisjointPaths", unfollowed := true, recurses := true, apart := false }
def FnExactDisjointPathsSaid : Prop := fnExactDisjointPathsRow.holds Try.pinned (OpenSpec.ofChange fnExactDisjointPathsSpec)

/-- ITS FALSE NEIGHBOUR: 'it returns false'. Refute it at one input. -/
def fnExactDisjointPathsWrong : ChangeSpec := { name := "fnExactDisjointPaths", fn := fun _ => fun
  | [d1, d2, d3] => { results := [.lit (.bool false)], args := [d1, d2, d3] }
  | _ => none }
def FnExactDisjointPathsWrongFalsely : Prop := fnExactDisjointPathsRow.holds Try.pinned (OpenSpec.ofChange fnExactDisjointPathsWrong)

/-- 'laws.FnCertificateOf': WHATEVER THE INPUT: true; the input reads as it did. -/
def fnCertificateOfSpec : ChangeSpec := { name := "fnCertificateOf", fn := fun _ => fun
  | [d] => { results := [.lit (.bool true)], args := [d] }
  | _ => none }
def fnCertificateOfRow : OpenClaim := { program := "ytflmjjfoeabnoaa", sum := "c0f7971de5a472b26daa0d5318f8ddca72f2244209bb32bbe74bbb4c26882c44", func := "loop.example/dynamicbridges/laws.FnCertificateOf", spec := "fnCertificateOf", unfollowed := true, recurses := true, apart := false }
def FnCertificateOfSaid : Prop := fnCertificateOfRow.holds Try.pinned (OpenSpec.ofChange fnCertificateOfSpec)

/-- ITS FALSE NEIGHBOUR: 'it returns false'. Refute it at one input. -/
def fnCertificateOfWrong : ChangeSpec := { name := "fnCertificateOf", fn := fun _ => fun
  | [d] => { results := [.lit (.bool false)], args := [d] }
  | _ => none }
def FnCertificateOfWrongFalsely : Prop := fnCertificateOfRow.holds Try.pinned (OpenSpec.ofChange fnCertificateOfWrong)

/- THE SECOND FORM. 'bulk': how many values and letters a reading holds, each counted each time it is reached (what is shared counts as often as it is met; a slice's spare places count too). A statement '..UptoSaid' is the law's where the arguments, and the package variables that the reading takes, are together of bulk at most 1048576: NARROWER than '..Said'. Prove '..Said' where nothing that the law and all that it calls make is longer than what came in: it says more and counts as full. Else prove '..UptoSaid'. A law counts once. -/
mutual
def uptoBulk {H : Type} : DataW H → Nat
  | .lit (.string bytes) => bytes.length + 1
  | .lit _ => 1
  | .nil => 1
  | .ptr d => uptoBulk d + 1
  | .slice elems spare => uptoBulkAll elems + uptoBulkAll spare + 1
  | .agg parts => uptoBulkAll parts + 1
  | .iface _ d => uptoBulk d + 1
  | .map entries => uptoBulkEntries entries + 1
  | .held _ => 1
def uptoBulkAll {H : Type} : List (DataW H) → Nat
  | [] => 0
  | d :: r => uptoBulk d + uptoBulkAll r
def uptoBulkEntries {H : Type} : List (Lit × DataW H) → Nat
  | [] => 0
  | x :: r => uptoBulkEntry x + uptoBulkEntries r
def uptoBulkEntry {H : Type} : Lit × DataW H → Nat
  | (.string bytes, d) => bytes.length + uptoBulk d + 1
  | (_, d) => uptoBulk d + 1
 end
def uptoSmall : (H : Type) → List (DataW H) → Bool := fun _ ds => decide (uptoBulkAll ds ≤ 1048576)
def OpenSpec.upto (s : _root_.Go.ChangeSpec) : _root_.Go.OpenSpec := { _root_.Go.OpenSpec.ofChange s with cond := some uptoSmall }

/-- 'laws.FnCutSize', WHERE WHAT IT READS IS OF BULK AT MOST 1048576: true; the input reads as it did. -/
def fnCutSizeUptoRow : OpenClaim := { program := "ytflmjjfoeabnoaa", sum := "c0f7971de5a472b26daa0d5318f8ddca72f2244209bb32bbe74bbb4c26882c44", func := "loop.example/dynamicbridges/laws.FnCutSize", spec := "fnCutSize", unfollowed := true, recurses := true, apart := false, narrowed := true }
def FnCutSizeUptoSaid : Prop := fnCutSizeUptoRow.holds Try.pinned (OpenSpec.upto fnCutSizeSpec)

/-- 'laws.FnFlowTriangle', WHERE WHAT IT READS IS OF BULK AT MOST 1048576: true; the input reads as it did. -/
def fnFlowTriangleUptoRow : OpenClaim := { program := "ytflmjjfoeabnoaa", sum := "c0f7971de5a472b26daa0d5318f8ddca72f2244209bb32bbe74bbb4c26882c44", func := "loop.example/dynamicbridges/laws.FnFlowTriangle", spec := "fnFlowTriangle", unfollowed := true, recurses := true, apart := false, narrowed := true }
def FnFlowTriangleUptoSaid : Prop := fnFlowTriangleUptoRow.holds Try.pinned (OpenSpec.upto fnFlowTriangleSpec)

/-- 'laws.FnSafeFlow', WHERE WHAT IT READS IS OF BULK AT MOST 1048576: true; the input reads as it did. -/
def fnSafeFlowUptoRow : OpenClaim := { program := "ytflmjjfoeabnoaa", sum := "c0f7971de5a472b26daa0d5318f8ddca72f2244209bb32bbe74bbb4c26882c44", func := "loop.example/dynamicbridges/laws.FnSafeFlow", spec := "fnSafeFlow", unfollowed := true, recurses := true, apart := false, narrowed := true }
def FnSafeFlowUptoSaid : Prop := fnSafeFlowUptoRow.holds Try.pinned (OpenSpec.upto fnSafeFlowSpec)

/-- 'laws.FnWeakestCut', WHERE WHAT IT READS IS OF BULK AT MOST 1048576: true; the input reads as it did. -/
def fnWeakestCutUptoRow : OpenClaim := { program := "ytflmjjfoeabnoaa", sum := "c0f7971de5a472b26daa0d5318f8ddca72f2244209bb32bbe74bbb4c26882c44", func := "loop.example/dynamicbridges/laws.FnWeakestCut", spec := "fnWeakestCut", unfollowed := true, recurses := true, apart := false, narrowed := true }
def FnWeakestCutUptoSaid : Prop := fnWeakestCutUptoRow.holds Try.pinned (OpenSpec.upto fnWeakestCutSpec)

/-- 'laws.FnFlowBetween', WHERE WHAT IT READS IS OF BULK AT MOST 1048576: true; the input reads as it did. -/
def fnFlowBetweenUptoRow : OpenClaim := { program := "ytflmjjfoeabnoaa", sum := "c0f7971de5a472b26daa0d5318f8ddca72f2244209bb32bbe74bbb4c26882c44", func := "loop.example/dynamicbridges/laws.FnFlowBetween", spec := "fnFlowBetween", unfollowed := true, recurses := true, apart := false, narrowed := true }
def FnFlowBetweenUptoSaid : Prop := fnFlowBetweenUptoRow.holds Try.pinned (OpenSpec.upto fnFlowBetweenSpec)

/-- 'laws.FnCutSideEdges', WHERE WHAT IT READS IS OF BULK AT MOST 1048576: true; the input reads as it did. -/
def fnCutSideEdgesUptoRow : OpenClaim := { program := "ytflmjjfoeabnoaa", sum := "c0f7971de5a472b26daa0d5318f8ddca72f2244209bb32bbe74bbb4c26882c44", func := "loop.example/dynamicbridges/laws.FnCutSideEdges", spec := "fnCutSideEdges", unfollowed := true, recurses := true, apart := false, narrowed := true }
def FnCutSideEdgesUptoSaid : Prop := fnCutSideEdgesUptoRow.holds Try.pinned (OpenSpec.upto fnCutSideEdgesSpec)

/-- 'laws.FnDisjointPaths', WHERE WHAT IT READS IS OF BULK AT MOST 1048576: true; the input reads as it did. -/
def fnDisjointPathsUptoRow : OpenClaim := { program := "ytflmjjfoeabnoaa", sum := "c0f7971de5a472b26daa0d5318f8ddca72f2244209bb32bbe74bbb4c26882c44", func := "loop.example/dynamicbridges/laws.FnDisjointPaths", spec := "fnDisjointPaths", unfollowed := true, recurses := true, apart := false, narrowed := true }
def FnDisjointPathsUptoSaid : Prop := fnDisjointPathsUptoRow.holds Try.pinned (OpenSpec.upto fnDisjointPathsSpec)

/-- 'laws.FnFlowPut', WHERE WHAT IT READS IS OF BULK AT MOST 1048576: true; the input reads as it did. -/
def fnFlowPutUptoRow : OpenClaim := { program := "ytflmjjfoeabnoaa", sum := "c0f7971de5a472b26daa0d5318f8ddca72f2244209bb32bbe74bbb4c26882c44", func := "loop.example/dynamicbridges/laws.FnFlowPut", spec := "fnFlowPut", inPlace := ["slices.overlaps[loop.example/dynamicbridges/impl.Edge]"], unfollowed := true, recurses := true, apart := false, narrowed := true }
def FnFlowPutUptoSaid : Prop := fnFlowPutUptoRow.holds Try.pinned (OpenSpec.upto fnFlowPutSpec)

/-- 'laws.FnExactFlowBetween', WHERE WHAT IT READS IS OF BULK AT MOST 1048576: true; the input reads as it did. -/
def fnExactFlowBetweenUptoRow : OpenClaim := { program := "ytflmjjfoeabnoaa", sum := "c0f7971de5a472b26daa0d5318f8ddca72f2244209bb32bbe74bbb4c26882c44", func := "loop.example/dynamicbridges/laws.FnExactFlowBetween", spec := "fnExactFlowBetween", unfollowed := true, recurses := true, apart := false, narrowed := true }
def FnExactFlowBetweenUptoSaid : Prop := fnExactFlowBetweenUptoRow.holds Try.pinned (OpenSpec.upto fnExactFlowBetweenSpec)

/-- 'laws.FnExactCutSide', WHERE WHAT IT READS IS OF BULK AT MOST 1048576: true; the input reads as it did. -/
def fnExactCutSideUptoRow : OpenClaim := { program := "ytflmjjfoeabnoaa", sum := "c0f7971de5a472b26daa0d5318f8ddca72f2244209bb32bbe74bbb4c26882c44", func := "loop.example/dynamicbridges/laws.FnExactCutSide", spec := "fnExactCutSide", unfollowed := true, recurses := true, apart := false, narrowed := true }
def FnExactCutSideUptoSaid : Prop := fnExactCutSideUptoRow.holds Try.pinned (OpenSpec.upto fnExactCutSideSpec)

/-- 'laws.FnExactDisjointPaths', WHERE WHAT IT READS IS OF BULK AT MOST 1048576: true; the input reads as it did. -/
def fnExactDisjointPathsUptoRow : OpenClaim := { program := "ytflmjjfoeabnoaa", sum := "c0f7971de5a472b26daa0d5318f8ddca72f2244209bb32bbe74bbb4c26882c44", func := "loop.example/dynamicbridges/laws.FnExactDisjointPaths", spec := "fnExactDisjointPaths", unfollowed := true, recurses := true, apart := false, narrowed := true }
def FnExactDisjointPathsUptoSaid : Prop := fnExactDisjointPathsUptoRow.holds Try.pinned (OpenSpec.upto fnExactDisjointPathsSpec)

/-- 'laws.FnCertificateOf', WHERE WHAT IT READS IS OF BULK AT MOST 1048576: true; the input reads as it did. -/
def fnCertificateOfUptoRow : OpenClaim := { program := "ytflmjjfoeabnoaa", sum := "c0f7971de5a472b26daa0d5318f8ddca72f2244209bb32bbe74bbb4c26882c44", func := "loop.example/dynamicbridges/laws.FnCertificateOf", spec := "fnCertificateOf", unfollowed := true, recurses := true, apart := false, narrowed := true }
def FnCertificateOfUptoSaid : Prop := fnCertificateOfUptoRow.holds Try.pinned (OpenSpec.upto fnCertificateOfSpec)

end Rows
end Go.Proofs.Ytflmjjfoeabnoaa
