/- What functions compute: lists that may be tours, as the reference sees them. -/
import Derived.Test.YtagpdfbgimnljaaC72
set_option linter.unusedSimpArgs false
set_option linter.unusedVariables false
set_option maxHeartbeats 8000000
set_option maxRecDepth 100000
namespace Go.Proofs.Ytagpdfbgimnljaa.X
open Go Go.Proofs
/-- What comes back of the edges of a list. -/
def ceP (l : List Int) : PV := if l.length ≤ 1 then .ref 2000 0 0 0 else LE (csL l)
def ceA (l : List Int) : List Arr := if l.length ≤ 1 then [.arr 0 2 []] else []
end Go.Proofs.Ytagpdfbgimnljaa.X
