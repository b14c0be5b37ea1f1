/- What functions compute: lists without neighbours alike. -/
import Derived.Test.YtdjdgnabcecdlaaGreatDoorKAH
import Derived.Test.YtdjdgnabcecdlaaGreatDoorM16
import Derived.Test.YtdjdgnabcecdlaaGreatDoorM19
set_option linter.unusedSimpArgs false
set_option linter.unusedVariables false
set_option maxHeartbeats 8000000
namespace Go.Proofs.YtdjdgnabcecdlaaGreatDoor.X
open Go Go.Proofs
end Go.Proofs.YtdjdgnabcecdlaaGreatDoor.X
