/- Lists without neighbours alike; the nodes of edges: plain law. -/
import Derived.Test.YtdjdgnabcecdlaaGreatDoorM16
set_option linter.unusedVariables false
namespace Go.Proofs.YtdjdgnabcecdlaaGreatDoor.X
open Go
def ddStep (acc : List Int) (x : Int) : List Int := if acc.getLast? = some x then acc else acc ++ [x]
/-- Of neighbours alike one is kept. -/
def ddS (l : List Int) : List Int := l.foldl ddStep []
/-- The nodes of edges. -/
def endsL (es : List (Int × Int)) : List Int := es.flatMap fun e => [e.1, e.2]
def nodesL (n : Int) (es : List (Int × Int)) : List Int := (iota n).filter fun v => es.any fun e => decide (On v e)
end Go.Proofs.YtdjdgnabcecdlaaGreatDoor.X
