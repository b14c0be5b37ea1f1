/- What functions compute: the number of parts. -/
import Derived.Test.YtagpdfbgimnljaaC16
import Derived.Test.YtagpdfbgimnljaaM6
set_option linter.unusedSimpArgs false
set_option linter.unusedVariables false
set_option maxHeartbeats 2000000
namespace Go.Proofs.Ytagpdfbgimnljaa.X
open Go Go.Proofs

theorem cnt_step {es : List (Int × Int)} {i : Int} (h : 0 ≤ i) : (((List.range (i + 1).toNat).filter fun x => decide (least es x = x)).length : Int) = ((List.range i.toNat).filter fun x => decide (least es x = x)).length + if least es i.toNat = i.toNat then 1 else 0 := by
  rw [show (i + 1).toNat = i.toNat + 1 by omega, List.range_succ, List.filter_append, List.length_append]
  simp only [List.filter_cons, List.filter_nil, decide_eq_true_eq]
  split <;> simp

end Go.Proofs.Ytagpdfbgimnljaa.X