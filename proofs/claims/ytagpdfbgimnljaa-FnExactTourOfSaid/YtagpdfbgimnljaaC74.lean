/- What functions compute: whether a list is a tour. -/
import Derived.Test.YtagpdfbgimnljaaC73
import Derived.Test.YtagpdfbgimnljaaC69
set_option linter.unusedSimpArgs false
set_option linter.unusedVariables false
set_option maxHeartbeats 8000000
set_option maxRecDepth 100000
namespace Go.Proofs.Ytagpdfbgimnljaa.X
open Go Go.Proofs
end Go.Proofs.Ytagpdfbgimnljaa.X
