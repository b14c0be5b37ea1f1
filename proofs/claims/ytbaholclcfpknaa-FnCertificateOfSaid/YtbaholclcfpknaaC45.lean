/- What functions compute: lists without neighbours alike. -/
import Derived.Test.YtbaholclcfpknaaC21
import Derived.Test.YtbaholclcfpknaaM16
import Derived.Test.YtbaholclcfpknaaM19
set_option linter.unusedSimpArgs false
set_option linter.unusedVariables false
set_option maxHeartbeats 8000000
namespace Go.Proofs.Ytbaholclcfpknaa.X
open Go Go.Proofs

end Go.Proofs.Ytbaholclcfpknaa.X


