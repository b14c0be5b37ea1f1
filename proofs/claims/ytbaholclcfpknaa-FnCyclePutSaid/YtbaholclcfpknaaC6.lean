/- What functions compute: a graph and a node. -/
import Derived.Test.YtbaholclcfpknaaC5
set_option linter.unusedSimpArgs false
set_option linter.unusedVariables false
set_option maxHeartbeats 2000000
namespace Go.Proofs.Ytbaholclcfpknaa.X
open Go Go.Proofs

theorem take_len {α : Type} {l : List α} {n : Nat} (h : n = l.length) : l.take n = l := List.take_of_length_le (by omega)

end Go.Proofs.Ytbaholclcfpknaa.X