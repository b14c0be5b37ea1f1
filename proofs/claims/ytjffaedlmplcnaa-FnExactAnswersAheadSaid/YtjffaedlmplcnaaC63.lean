/- What functions compute: whether a graph with levels is valid (the whole). -/
import Derived.Test.YtjffaedlmplcnaaC62
set_option linter.unusedSimpArgs false
set_option linter.unusedVariables false
set_option maxHeartbeats 8000000
set_option maxRecDepth 100000
namespace Go.Proofs.Ytjffaedlmplcnaa.X
open Go Go.Proofs
noncomputable instance decLV (n : Int) (ts : List Tl) : Decidable (LV n ts) := Classical.propDecidable _
end Go.Proofs.Ytjffaedlmplcnaa.X
