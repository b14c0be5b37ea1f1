/- What functions compute: blocks as lists of edges, and their nodes. -/
import Derived.Test.YtbaholclcfpknaaC41
import Derived.Test.YtbaholclcfpknaaC45
set_option linter.unusedSimpArgs false
set_option linter.unusedVariables false
set_option maxHeartbeats 8000000
set_option maxRecDepth 100000
namespace Go.Proofs.Ytbaholclcfpknaa.X
open Go Go.Proofs

/-- Rows of rows of edges. -/
def encLE (b : List (Int × Int)) : List IV := [.lst (b.map encE)]
abbrev LLE (bs : List (List (Int × Int))) : PV := .i (.lst (bs.map encLE))
theorem getLE (ps : List (List (Int × Int))) (i : Nat) (h : i < ps.length) : (ps.map encLE)[i]? = some [.lst ((ps.getD i []).map encE)] := by simp [encLE, h]
theorem appLE (ps : List (List (Int × Int))) (p : List (Int × Int)) : ps.map encLE ++ [[.lst (p.map encE)]] = (ps ++ [p]).map encLE := by simp [encLE]
attribute [go_sem] getLE appLE
/-- The edges whose labels are a number. -/
def blkE (es : List (Int × Int)) (ls : List Int) (k : Int) : List (Int × Int) := (es.zip ls).filterMap fun q => if q.2 = k then some q.1 else none
/-- The blocks whose first edges lie ahead of a place. -/
noncomputable def blocksT (es : List (Int × Int)) (i : Int) : List (List (Int × Int)) := ((iota i).filter fun j => decide ((blkL es).getD j.toNat 0 = j)).map fun j => blkE es (blkL es) j
noncomputable def blocksL (es : List (Int × Int)) : List (List (Int × Int)) := blocksT es es.length
/-- The nodes of an edge's block. -/
noncomputable def bnL (n : Int) (es : List (Int × Int)) (e : Int × Int) : List Int := nodesL n (blkE es (blkL es) ((blkL es).getD (findE es e).toNat 0))
end Go.Proofs.Ytbaholclcfpknaa.X


