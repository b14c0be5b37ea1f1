/- What functions compute: graphs with levels, whether they are valid. -/
import Derived.Test.YtjffaedlmplcnaaKD
import Derived.Test.YtjffaedlmplcnaaC22
import Derived.Test.YtjffaedlmplcnaaC46
import Derived.Test.YtjffaedlmplcnaaM23
set_option linter.unusedSimpArgs false
set_option linter.unusedVariables false
set_option maxHeartbeats 8000000
set_option maxRecDepth 100000
namespace Go.Proofs.Ytjffaedlmplcnaa.X
open Go Go.Proofs
def lvT (ts : List Tl) : List Int := ts.map (·.2.1)
def trT (ts : List Tl) : List Bool := ts.map (·.2.2)
abbrev LvP (n : Int) (ts : List Tl) : PV := .agg [I n, LE (esT ts), LI (lvT ts), LT (trT ts)]
abbrev dT : Tl := ((0, 0), 0, false)
end Go.Proofs.Ytjffaedlmplcnaa.X
