/- What functions compute: cycles, forests. -/
import Derived.Test.YtjffaedlmplcnaaKF
import Derived.Test.YtjffaedlmplcnaaM8
set_option linter.unusedSimpArgs false
set_option linter.unusedVariables false
set_option maxHeartbeats 4000000
namespace Go.Proofs.Ytjffaedlmplcnaa.X
open Go Go.Proofs
theorem OKG.sub {n : Int} {es fs : List (Int × Int)} (h : OKG n es) (hs : fs.Sublist es) : OKG n fs := ⟨h.n0, h.n1, Nat.le_trans hs.length_le h.len, fun e he => h.ok e (hs.subset he)⟩
theorem VG.cut {n : Int} {es : List (Int × Int)} (h : VG n es) (e : Int × Int) : VG n (cutE e es) := h.sub List.filter_sublist
/-- A row of edges as it is while a function builds it: nothing, or an array. -/
def fP (d v : Nat) (xs : List (Int × Int)) : PV := if xs = [] then .i .emp else .ref d v 0 xs.length
/-- What a function hands back that builds a row of edges. -/
def qP (xs : List (Int × Int)) : PV := if xs = [] then .i .emp else .ref 2000 0 0 xs.length
def qA (xs : List (Int × Int)) : List Arr := if xs = [] then [] else [.arr 0 2 (xs.map encE)]
@[go_sem] theorem imm_q {xs : List (Int × Int)} {n : Nat} : imm (n + 1) (qA xs) (qP xs) = some (.i (qe xs)) := by
  unfold qA qP qe
  split
  · rfl
  · simp only [imm, imm1]
    simp [List.take_of_length_le]
end Go.Proofs.Ytjffaedlmplcnaa.X
