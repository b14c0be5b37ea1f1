/- Rows of rows of numbers. -/
import Derived.Test.YteknfomddncboaaKE
set_option linter.unusedSimpArgs false
set_option linter.unusedVariables false
set_option maxHeartbeats 4000000
namespace Go.Proofs.Yteknfomddncboaa.X
open Go Go.Proofs
/-- Rows of rows of numbers. -/
def encL (p : List Int) : List IV := [.lst (p.map encI)]
abbrev LL (ps : List (List Int)) : PV := .i (.lst (ps.map encL))
theorem getLs (ps : List (List Int)) (i : Nat) (h : i < ps.length) : (ps.map encL)[i]? = some [.lst ((ps.getD i []).map encI)] := by simp [encL, h]
theorem appLs (ps : List (List Int)) (p : List Int) : ps.map encL ++ [[.lst (p.map encI)]] = (ps ++ [p]).map encL := by simp [encL]
attribute [go_sem] getLs appLs
end Go.Proofs.Yteknfomddncboaa.X
