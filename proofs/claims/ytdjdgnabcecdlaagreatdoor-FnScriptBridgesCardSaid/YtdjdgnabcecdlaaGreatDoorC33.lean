/- What functions compute: searches in depth, handed out. -/
import Derived.Test.YtdjdgnabcecdlaaGreatDoorC38
import Derived.Test.YtdjdgnabcecdlaaGreatDoorKAG
import Derived.Test.YtdjdgnabcecdlaaGreatDoorC20
set_option linter.unusedSimpArgs false
set_option linter.unusedVariables false
set_option maxHeartbeats 8000000
namespace Go.Proofs.YtdjdgnabcecdlaaGreatDoor.X
open Go Go.Proofs
/-- A search as it is handed out. -/
abbrev SR (s : Sr) : PV := .agg [LI s.num, LI s.par, LI s.low]
end Go.Proofs.YtdjdgnabcecdlaaGreatDoor.X
