/- What functions compute: draws of graphs, and of a graph and an edge. -/
import Derived.Test.YtagpdfbgimnljaaKF
set_option linter.unusedSimpArgs false
set_option linter.unusedVariables false
set_option maxHeartbeats 8000000
namespace Go.Proofs.Ytagpdfbgimnljaa.X
open Go Go.Proofs
end Go.Proofs.Ytagpdfbgimnljaa.X
