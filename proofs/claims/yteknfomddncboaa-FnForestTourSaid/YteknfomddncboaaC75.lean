/- What functions compute: draws of forests and of lists. -/
import Derived.Test.YteknfomddncboaaC71
set_option linter.unusedSimpArgs false
set_option linter.unusedVariables false
set_option maxHeartbeats 8000000
set_option maxRecDepth 100000
namespace Go.Proofs.Yteknfomddncboaa.X
open Go Go.Proofs
def l5T : List Int := [0, 1, 0, 2, 0]
end Go.Proofs.Yteknfomddncboaa.X
