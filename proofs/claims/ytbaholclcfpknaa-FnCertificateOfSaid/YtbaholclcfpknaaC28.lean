/- What functions compute: the reference's flows between nodes, sides and sizes of cuts. -/
import Derived.Test.YtbaholclcfpknaaC25
import Derived.Test.YtbaholclcfpknaaC26
import Derived.Test.YtbaholclcfpknaaC27
set_option linter.unusedSimpArgs false
set_option linter.unusedVariables false
set_option maxHeartbeats 8000000
namespace Go.Proofs.Ytbaholclcfpknaa.X
open Go Go.Proofs

end Go.Proofs.Ytbaholclcfpknaa.X
