/- What functions compute: an edge is cut out of a graph with levels. -/
import Derived.Test.YtjffaedlmplcnaaC83
import Derived.Test.YtjffaedlmplcnaaC76
set_option linter.unusedSimpArgs false
set_option linter.unusedVariables false
set_option maxHeartbeats 16000000
set_option maxRecDepth 100000
namespace Go.Proofs.Ytjffaedlmplcnaa.X
open Go Go.Proofs
/-- What is left, how many edges were raised, whether one took the place. -/
noncomputable def ctR (n : Int) (ts : List Tl) (e : Int × Int) : List Tl × Int × Bool :=
  let k := (findE (esT ts) e).toNat
  let t := ts.getD k dT
  if t.2.2 = true then cutR n e.1 e.2 (t.2.1 + 1).toNat (ts.take k ++ ts.drop (k + 1)) else (ts.take k ++ ts.drop (k + 1), 0, false)
end Go.Proofs.Ytjffaedlmplcnaa.X
