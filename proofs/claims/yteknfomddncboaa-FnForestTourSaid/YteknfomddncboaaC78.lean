/- What functions compute: whether a list is a tour, as the reference sees it. -/
import Derived.Test.YteknfomddncboaaC74
set_option linter.unusedSimpArgs false
set_option linter.unusedVariables false
set_option maxHeartbeats 8000000
set_option maxRecDepth 100000
namespace Go.Proofs.Yteknfomddncboaa.X
open Go Go.Proofs
end Go.Proofs.Yteknfomddncboaa.X
