/- Bridges and cut nodes on paths; cycles: plain law. -/
import Derived.Test.YtbaholclcfpknaaKF
set_option linter.unusedVariables false
namespace Go.Proofs.Ytbaholclcfpknaa.X
open Go

/-! Without a node that is no cut node. -/
/-! Cycles. -/
end Go.Proofs.Ytbaholclcfpknaa.X

