/- What functions compute: the nodes of a part. -/
import Derived.Test.YteknfomddncboaaKF
import Derived.Test.YteknfomddncboaaM23
set_option linter.unusedSimpArgs false
set_option linter.unusedVariables false
set_option maxHeartbeats 8000000
set_option maxRecDepth 100000
namespace Go.Proofs.Yteknfomddncboaa.X
open Go Go.Proofs
noncomputable def ptL (n : Int) (es : List (Int × Int)) (r : Int) : List Int := (iota n).filter fun v => decide (Conn es r v)
theorem mem_ptL {n : Int} {es : List (Int × Int)} {r v : Int} : v ∈ ptL n es r ↔ inN n v ∧ Conn es r v := by
  rw [ptL, List.mem_filter, mem_iota, decide_eq_true_eq]
theorem ptL_nodup (n : Int) (es : List (Int × Int)) (r : Int) : (ptL n es r).Nodup := (nodup_iota n).sublist List.filter_sublist
end Go.Proofs.Yteknfomddncboaa.X
