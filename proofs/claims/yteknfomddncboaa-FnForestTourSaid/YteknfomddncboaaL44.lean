/- The law: tours are of trees. -/
import Derived.Test.YteknfomddncboaaL43
import Derived.Test.YteknfomddncboaaC19
set_option linter.unusedSimpArgs false
set_option linter.unusedVariables false
set_option maxHeartbeats 8000000
set_option maxRecDepth 100000
namespace Go.Proofs.Yteknfomddncboaa.X
open Go Go.Proofs
/-- A list that is a tour: its edges are a tree with its first node. -/
theorem TV.to {l : List Int} (h : TV l) : TO 16 (csL l) (l.getD 0 0) := ⟨h.vg, h.at' (by have := h.l1; omega), h.tree⟩
end Go.Proofs.Yteknfomddncboaa.X
