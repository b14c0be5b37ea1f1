/- What functions compute: labels of blocks, as the reference has them. -/
import Derived.Test.YtbaholclcfpknaaC39
set_option linter.unusedSimpArgs false
set_option linter.unusedVariables false
set_option maxHeartbeats 8000000
namespace Go.Proofs.Ytbaholclcfpknaa.X
open Go Go.Proofs

end Go.Proofs.Ytbaholclcfpknaa.X


