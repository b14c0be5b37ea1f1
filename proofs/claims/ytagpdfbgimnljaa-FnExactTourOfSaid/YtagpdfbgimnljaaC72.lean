/- What functions compute: lists that may be tours. -/
import Derived.Test.YtagpdfbgimnljaaC20
import Derived.Test.YtagpdfbgimnljaaC21
import Derived.Test.YtagpdfbgimnljaaC45
import Derived.Test.YtagpdfbgimnljaaM25
set_option linter.unusedSimpArgs false
set_option linter.unusedVariables false
set_option maxHeartbeats 8000000
set_option maxRecDepth 100000
namespace Go.Proofs.Ytagpdfbgimnljaa.X
open Go Go.Proofs
/-- The place of a number, or -1. -/
def findI (xs : List Int) (x : Int) : Int := if x ∈ xs then (xs.idxOf x : Int) else -1
/-- Each step is an edge. -/
def stOk (l : List Int) : Prop := ∀ i, i + 1 < l.length → eOk (l.getD i 0) (l.getD (i + 1) 0)
noncomputable instance decStOk (l : List Int) : Decidable (stOk l) := Classical.propDecidable _
end Go.Proofs.Ytagpdfbgimnljaa.X
