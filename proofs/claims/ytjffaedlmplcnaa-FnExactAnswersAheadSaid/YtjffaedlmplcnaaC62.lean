/- What functions compute: whether a graph with levels is valid. -/
import Derived.Test.YtjffaedlmplcnaaC61
import Derived.Test.YtjffaedlmplcnaaC65
set_option linter.unusedSimpArgs false
set_option linter.unusedVariables false
set_option maxHeartbeats 8000000
set_option maxRecDepth 100000
namespace Go.Proofs.Ytjffaedlmplcnaa.X
open Go Go.Proofs
/-- How many labels are a number. -/
def cntsL (n : Int) (ls : List Int) : List Int := (iota n).map fun x => ((ls.filter fun y => decide (y = x)).length : Int)
/-- What is valid at a level. -/
def szOk (n k : Int) (es : List (Int × Int)) : Prop := ∀ x, inN n x → 1 < szC n es x → szC n es x ≤ n / 2 ^ k.toNat
def lvAt (n : Int) (ts : List Tl) (k : Int) : Prop := Tree n (abT ts k true) ∧ lab n (abT ts k true) = lab n (abT ts k false) ∧ szOk n k (abT ts k false)
end Go.Proofs.Ytjffaedlmplcnaa.X
