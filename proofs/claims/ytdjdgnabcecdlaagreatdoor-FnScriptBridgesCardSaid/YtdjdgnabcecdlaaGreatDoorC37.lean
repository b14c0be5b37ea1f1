/- What functions compute: searches in depth, as the reference has them. -/
import Derived.Test.YtdjdgnabcecdlaaGreatDoorC36
set_option linter.unusedSimpArgs false
set_option linter.unusedVariables false
set_option maxHeartbeats 8000000
namespace Go.Proofs.YtdjdgnabcecdlaaGreatDoor.X
open Go Go.Proofs
end Go.Proofs.YtdjdgnabcecdlaaGreatDoor.X
