/- What functions compute: draws of graphs with few edges. -/
import Derived.Test.YtbaholclcfpknaaKF
import Derived.Test.YtbaholclcfpknaaKE
set_option linter.unusedSimpArgs false
set_option linter.unusedVariables false
set_option maxHeartbeats 8000000
namespace Go.Proofs.Ytbaholclcfpknaa.X
open Go Go.Proofs

end Go.Proofs.Ytbaholclcfpknaa.X


