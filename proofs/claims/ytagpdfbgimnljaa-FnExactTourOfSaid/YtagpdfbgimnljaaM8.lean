/- Bridges and cut nodes on paths; cycles: plain law. -/
import Derived.Test.YtagpdfbgimnljaaKF
set_option linter.unusedVariables false
namespace Go.Proofs.Ytagpdfbgimnljaa.X
open Go
end Go.Proofs.Ytagpdfbgimnljaa.X
