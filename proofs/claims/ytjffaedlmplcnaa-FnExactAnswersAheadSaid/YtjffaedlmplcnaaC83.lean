/- What functions compute: edges are raised, and an edge is looked for. -/
import Derived.Test.YtjffaedlmplcnaaC77
set_option linter.unusedSimpArgs false
set_option linter.unusedVariables false
set_option maxHeartbeats 16000000
set_option maxRecDepth 100000
namespace Go.Proofs.Ytjffaedlmplcnaa.X
open Go Go.Proofs
abbrev arrT (l : List Bool) : Arr := .arr 0 1 (l.map encT)
abbrev arrL (l : List Int) : Arr := .arr 0 1 (l.map encI)
abbrev boxL (n : Int) (es : List (Int × Int)) (k : Nat) : Arr := .box 0 [I n, LE es, .ref 1001 0 0 k, .ref 1002 0 0 k]
end Go.Proofs.Ytjffaedlmplcnaa.X
