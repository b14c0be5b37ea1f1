/- What functions compute: blocks, as the reference has them. -/
import Derived.Test.YtbaholclcfpknaaKF
import Derived.Test.YtbaholclcfpknaaM16
set_option linter.unusedSimpArgs false
set_option linter.unusedVariables false
set_option maxHeartbeats 8000000
namespace Go.Proofs.Ytbaholclcfpknaa.X
open Go Go.Proofs

/-- The other node of an edge. -/
def oth (e : Int × Int) (v : Int) : Int := if v = e.1 then e.2 else if v = e.2 then e.1 else -1
end Go.Proofs.Ytbaholclcfpknaa.X


