/- What functions compute: lists without neighbours alike. -/
import Derived.Test.YtagpdfbgimnljaaC21
import Derived.Test.YtagpdfbgimnljaaM16
import Derived.Test.YtagpdfbgimnljaaM19
set_option linter.unusedSimpArgs false
set_option linter.unusedVariables false
set_option maxHeartbeats 8000000
namespace Go.Proofs.Ytagpdfbgimnljaa.X
open Go Go.Proofs
end Go.Proofs.Ytagpdfbgimnljaa.X
