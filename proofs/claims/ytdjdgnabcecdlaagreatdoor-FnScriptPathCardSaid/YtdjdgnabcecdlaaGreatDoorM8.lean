/- Bridges and cut nodes on paths; cycles: plain law. -/
import Derived.Test.YtdjdgnabcecdlaaGreatDoorKF
set_option linter.unusedVariables false
namespace Go.Proofs.YtdjdgnabcecdlaaGreatDoor.X
open Go
theorem lab_congr {n : Int} {es fs : List (Int × Int)} (h : ∀ x y : Int, Conn es x y ↔ Conn fs x y) : lab n es = lab n fs := by
  unfold lab
  refine List.map_congr_left fun x _ => ?_
  have : least es x = least fs x := by
    obtain ⟨a1, a2, a3⟩ := least_spec es x
    obtain ⟨b1, b2, b3⟩ := least_spec fs x
    refine Nat.le_antisymm (Nat.le_of_not_lt fun hl => a3 _ hl ((h _ _).2 b2)) (Nat.le_of_not_lt fun hl => b3 _ hl ((h _ _).1 a2))
  rw [this]
end Go.Proofs.YtdjdgnabcecdlaaGreatDoor.X
