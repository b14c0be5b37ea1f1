/- Bridges and cut nodes on paths; cycles: plain law. -/
import Derived.Test.YteknfomddncboaaKF
set_option linter.unusedVariables false
namespace Go.Proofs.Yteknfomddncboaa.X
open Go
end Go.Proofs.Yteknfomddncboaa.X
