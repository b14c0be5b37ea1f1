/- What functions compute: searches and flows as the reference has them. -/
import Derived.Test.YtbaholclcfpknaaC24
import Derived.Test.YtbaholclcfpknaaM11
set_option linter.unusedSimpArgs false
set_option linter.unusedVariables false
set_option maxHeartbeats 8000000
namespace Go.Proofs.Ytbaholclcfpknaa.X
open Go Go.Proofs

end Go.Proofs.Ytbaholclcfpknaa.X


