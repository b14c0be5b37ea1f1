/- Bridges and cut nodes on paths; cycles: plain law. -/
import Derived.Test.YtjffaedlmplcnaaKF
set_option linter.unusedVariables false
namespace Go.Proofs.Ytjffaedlmplcnaa.X
open Go
end Go.Proofs.Ytjffaedlmplcnaa.X
