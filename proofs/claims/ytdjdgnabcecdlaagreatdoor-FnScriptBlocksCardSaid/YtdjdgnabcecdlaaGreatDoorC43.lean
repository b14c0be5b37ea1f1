/- What functions compute: draws of two edges, all cases. -/
import Derived.Test.YtdjdgnabcecdlaaGreatDoorC42
set_option linter.unusedSimpArgs false
set_option linter.unusedVariables false
set_option maxHeartbeats 8000000
namespace Go.Proofs.YtdjdgnabcecdlaaGreatDoor.X
open Go Go.Proofs
end Go.Proofs.YtdjdgnabcecdlaaGreatDoor.X
