/- What functions compute: a graph is loaded by a line. -/
import Derived.Test.YtdjdgnabcecdlaaDoorKAF
import Derived.Test.YtdjdgnabcecdlaaDoorKAG
set_option linter.unusedSimpArgs false
set_option linter.unusedVariables false
set_option maxHeartbeats 8000000
set_option maxRecDepth 100000
namespace Go.Proofs.YtdjdgnabcecdlaaDoor.X
open Go Go.Proofs
/-- A list as it stands in a graph with levels: nothing, or a list. -/
structure LV3 (x y z : IV) (ts : List Tl) : Prop where
  fx : ∀ n, frz n (.i x) = .ret (.lst ((esT ts).map encE))
  fy : ∀ n, frz n (.i y) = .ret (.lst ((lvT ts).map encI))
  fz : ∀ n, frz n (.i z) = .ret (.lst ((trT ts).map encT))
  lx : x.flat = true
  ly : y.flat = true
  lz : z.flat = true
theorem LV3.emp : LV3 .emp .emp .emp [] := ⟨fun n => by cases n <;> rfl, fun n => by cases n <;> rfl, fun n => by cases n <;> rfl, rfl, rfl, rfl⟩
theorem LV3.lst (ts : List Tl) : LV3 (.lst ((esT ts).map encE)) (.lst ((lvT ts).map encI)) (.lst ((trT ts).map encT)) ts := ⟨fun n => by cases n <;> rfl, fun n => by cases n <;> rfl, fun n => by cases n <;> rfl, rfl, rfl, rfl⟩
/-- .. of the edges in order. -/
def exI (k : Nat) (ts : List Tl) : IV := if k = 0 then .emp else .lst ((esT ts).map encE)
def eyI (k : Nat) (ts : List Tl) : IV := if k = 0 then .emp else .lst ((lvT ts).map encI)
def ezI (k : Nat) (ts : List Tl) : IV := if k = 0 then .emp else .lst ((trT ts).map encT)
theorem c_ParseGraphL (n : Int) (es : List (Int × Int)) (hV : VG n es) : ∃ r own, KP 9 [S (fmtG n es)] [] = some (r, [], own) ∧ imm 2 own r = some (.tup [.agg [I n, .i (qe es)], B true]) := by
  refine ⟨_, _, c_ParseGraph n es hV, ?_⟩
  unfold qP qA qe
  split
  · rfl
  · have : List.take es.length (es.map encE) = es.map encE := List.take_of_length_le (by simp)
    simp [imm, imm1, mapO, this]
end Go.Proofs.YtdjdgnabcecdlaaDoor.X
