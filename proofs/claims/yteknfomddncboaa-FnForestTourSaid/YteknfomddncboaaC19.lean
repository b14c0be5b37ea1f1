/- What functions compute: bridges and nodes between two nodes, and the reference's bridges. -/
import Derived.Test.YteknfomddncboaaKF
set_option linter.unusedSimpArgs false
set_option linter.unusedVariables false
set_option maxHeartbeats 2000000
namespace Go.Proofs.Yteknfomddncboaa.X
open Go Go.Proofs
/-- The nodes between two nodes. -/
noncomputable def cutsB (n x y : Int) (es : List (Int × Int)) : List Int := (iota n).filter fun v => decide (v ≠ x ∧ v ≠ y ∧ ¬ Conn (alone v es) x y)
/-- The bridges between two nodes. -/
noncomputable def brgsB (x y : Int) (es : List (Int × Int)) : List (Int × Int) := es.filter fun e => !decide (Conn (cutE e es) x y)
end Go.Proofs.Yteknfomddncboaa.X
