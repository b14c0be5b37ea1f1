/- What functions compute: lists that may be tours, as the reference sees them. -/
import Derived.Test.YteknfomddncboaaC72
set_option linter.unusedSimpArgs false
set_option linter.unusedVariables false
set_option maxHeartbeats 8000000
set_option maxRecDepth 100000
namespace Go.Proofs.Yteknfomddncboaa.X
open Go Go.Proofs
end Go.Proofs.Yteknfomddncboaa.X
