/- What functions compute: blocks. -/
import Derived.Test.YtbaholclcfpknaaKF
import Derived.Test.YtbaholclcfpknaaM16
set_option linter.unusedSimpArgs false
set_option linter.unusedVariables false
set_option maxHeartbeats 8000000
namespace Go.Proofs.Ytbaholclcfpknaa.X
open Go Go.Proofs

def comP : Option (Int × Int × Int) → PV
  | some (v, x, y) => .tup [I v, I x, I y, B true]
  | none => .tup [I 0, I 0, I 0, B false]

end Go.Proofs.Ytbaholclcfpknaa.X


