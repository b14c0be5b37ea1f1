/- What functions compute: edges of one block. -/
import Derived.Test.YtbaholclcfpknaaC19
import Derived.Test.YtbaholclcfpknaaC34
import Derived.Test.YtbaholclcfpknaaC35
import Derived.Test.YtbaholclcfpknaaC40
set_option linter.unusedSimpArgs false
set_option linter.unusedVariables false
set_option maxHeartbeats 8000000
namespace Go.Proofs.Ytbaholclcfpknaa.X
open Go Go.Proofs

noncomputable instance decBlk (es : List (Int × Int)) (e f : Int × Int) : Decidable (Blk es e f) := Classical.propDecidable _
end Go.Proofs.Ytbaholclcfpknaa.X
