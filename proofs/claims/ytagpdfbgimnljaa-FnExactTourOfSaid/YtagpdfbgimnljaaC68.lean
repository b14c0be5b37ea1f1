/- Edges in order. -/
import Derived.Test.YtagpdfbgimnljaaKC
import Derived.Test.YtagpdfbgimnljaaKD
set_option linter.unusedSimpArgs false
set_option linter.unusedVariables false
set_option maxHeartbeats 8000000
namespace Go.Proofs.Ytagpdfbgimnljaa.X
open Go Go.Proofs
def sortEs (xs : List (Int × Int)) : List (Int × Int) := xs.mergeSort leE
theorem mem_sortEs {xs : List (Int × Int)} {e : Int × Int} : e ∈ sortEs xs ↔ e ∈ xs := List.mem_mergeSort
theorem leE_of {a b : Int × Int} (h : leE a b = true) (hn : a ≠ b) : lessE a b = true := by
  rw [lessE_iff]
  unfold leE at h
  rw [decide_eq_true_eq] at h
  have : ¬ (a.1 = b.1 ∧ a.2 = b.2) := fun e => hn (Prod.ext e.1 e.2)
  omega
end Go.Proofs.Ytagpdfbgimnljaa.X
