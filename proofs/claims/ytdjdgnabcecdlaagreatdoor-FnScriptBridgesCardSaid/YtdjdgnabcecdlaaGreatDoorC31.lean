/- What functions compute: searches in depth. -/
import Derived.Test.YtdjdgnabcecdlaaGreatDoorKAH
import Derived.Test.YtdjdgnabcecdlaaGreatDoorM13
set_option linter.unusedSimpArgs false
set_option linter.unusedVariables false
set_option maxHeartbeats 8000000
namespace Go.Proofs.YtdjdgnabcecdlaaGreatDoor.X
open Go Go.Proofs
/-- The arrays of a search. -/
abbrev boxS (n : Int) : Arr := .box 0 [.ref 1001 0 0 n.toNat, .ref 1002 0 0 n.toNat, .ref 1003 0 0 n.toNat]
abbrev arrS (l : List Int) : Arr := .arr 0 1 (l.map encI)
end Go.Proofs.YtdjdgnabcecdlaaGreatDoor.X
