/- What functions compute: edges of one block. -/
import Derived.Test.YtdjdgnabcecdlaaGreatDoorKAN
import Derived.Test.YtdjdgnabcecdlaaGreatDoorC34
import Derived.Test.YtdjdgnabcecdlaaGreatDoorC35
import Derived.Test.YtdjdgnabcecdlaaGreatDoorC40
set_option linter.unusedSimpArgs false
set_option linter.unusedVariables false
set_option maxHeartbeats 8000000
namespace Go.Proofs.YtdjdgnabcecdlaaGreatDoor.X
open Go Go.Proofs
noncomputable instance decBlk (es : List (Int × Int)) (e f : Int × Int) : Decidable (Blk es e f) := Classical.propDecidable _
end Go.Proofs.YtdjdgnabcecdlaaGreatDoor.X
