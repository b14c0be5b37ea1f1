/- What functions answer, and the plain laws behind it. -/
import Derived.Test.YtnaaceooknghjaaGreatDoorKAS
import Derived.Test.YtnaaceooknghjaaGreatDoorKAU
set_option linter.unusedSimpArgs false
set_option linter.unusedVariables false
set_option maxHeartbeats 8000000
namespace Go.Proofs.YtnaaceooknghjaaGreatDoor.X
open Go Go.Proofs Tryz
theorem law_ExactRunScript (T:List UInt8):KP 3 [S T] []=some (B true,[],[]):=by
 by_cases hbig:1048576<(T.length:Int)
 ·refine gc func3 ?_
  have Fz:=fz1 results3
  repeat(first|exact trivial|refine go1 ?_)
 have hi:=jfr T (by omega)
 have hs:=jjn T (by omega)
 generalize jca T=R at *
 refine gc func3 ?_
 have Fz:=fz3 results3 hi hs
 repeat(first|exact trivial|refine go1 ?_)
end Go.Proofs.YtnaaceooknghjaaGreatDoor.X
