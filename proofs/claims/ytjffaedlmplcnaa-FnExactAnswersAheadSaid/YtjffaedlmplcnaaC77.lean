/- What functions compute: an edge is looked for that takes the place of another one. -/
import Derived.Test.YtjffaedlmplcnaaC63
import Derived.Test.YtjffaedlmplcnaaC69
set_option linter.unusedSimpArgs false
set_option linter.unusedVariables false
set_option maxHeartbeats 16000000
set_option maxRecDepth 100000
namespace Go.Proofs.Ytjffaedlmplcnaa.X
open Go Go.Proofs
/-- How many labels are a number. -/
def cntI (ls : List Int) (x : Int) : Int := ((ls.filter fun y => decide (y = x)).length : Int)
def mxT (f : Tl → Tl) (ts : List Tl) (i : Nat) : List Tl := (ts.take i).map f ++ ts.drop i
section
variable {S : Int → Prop} [DecidablePred S] {k : Int}
end
theorem flatP_q {n : Nat} {xs : List (Int × Int)} : flatP n (qP xs) = true := by unfold qP; split <;> cases n <;> rfl
theorem flatA_q {xs : List (Int × Int)} : (qA xs).all flatA = true := by
  unfold qA
  split
  · rfl
  · simp [flatA, encE, flatIV]
attribute [go_sem] flatP_q flatA_q
end Go.Proofs.Ytjffaedlmplcnaa.X
