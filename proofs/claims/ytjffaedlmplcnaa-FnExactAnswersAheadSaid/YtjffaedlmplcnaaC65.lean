/- What functions compute: rooted trees of a forest. -/
import Derived.Test.YtjffaedlmplcnaaKE
import Derived.Test.YtjffaedlmplcnaaC21
import Derived.Test.YtjffaedlmplcnaaM21
set_option linter.unusedSimpArgs false
set_option linter.unusedVariables false
set_option maxHeartbeats 8000000
set_option maxRecDepth 100000
namespace Go.Proofs.Ytjffaedlmplcnaa.X
open Go Go.Proofs
/-- The label of a node. -/
noncomputable def lbl (es : List (Int × Int)) (x : Int) : Int := (least es x.toNat : Nat)
/-- The node above a node. -/
noncomputable def upN (n : Int) (es : List (Int × Int)) (x : Int) : Int := if lbl es x = x then -1 else (pathL n (forestL es) x (lbl es x)).getD 1 0
noncomputable def wtN (es : List (Int × Int)) (x : Int) : Int := if lbl es x = x then 0 else 1
noncomputable def upsL (n : Int) (es : List (Int × Int)) (i : Int) : List Int := (iota i).map (upN n es)
noncomputable def wtsL (es : List (Int × Int)) (i : Int) : List Int := (iota i).map (wtN es)
abbrev RP (ps ws : List Int) : PV := .agg [LI ps, LI ws]
end Go.Proofs.Ytjffaedlmplcnaa.X
