/- What functions compute: copies of rows of numbers and of truth values, what goes in and out. -/
import Derived.Test.YtjffaedlmplcnaaC22
import Derived.Test.YtjffaedlmplcnaaC46
set_option linter.unusedSimpArgs false
set_option linter.unusedVariables false
set_option maxHeartbeats 8000000
set_option maxRecDepth 100000
namespace Go.Proofs.Ytjffaedlmplcnaa.X
open Go Go.Proofs
theorem mapAppT {xs ys : List Bool} : xs.map encT ++ ys.map encT = (xs ++ ys).map encT := by simp
theorem dropT {xs : List Bool} {n : Nat} : (xs.map encT).drop n = (xs.drop n).map encT := by simp
theorem takeTB {xs : List Bool} {n : Nat} : (xs.map encT).take n = (xs.take n).map encT := by simp
theorem encT_map_inj {a b : List Bool} : a.map encT = b.map encT ↔ a = b := by
  refine ⟨fun h => ?_, fun h => by rw [h]⟩
  induction a generalizing b with
  | nil => cases b <;> simp_all
  | cons x a ih =>
    cases b with
    | nil => simp at h
    | cons y b =>
      simp only [List.map_cons, List.cons.injEq, encT, IV.v.injEq, Value.bool.injEq, and_true] at h
      rw [ih h.2, h.1]
theorem lenT_all {us : List Bool} : (us.map encT).all (fun e => e.length == 1) = true := by simp [encT]
attribute [go_sem] mapAppT dropT takeTB encT_map_inj lenT_all
end Go.Proofs.Ytjffaedlmplcnaa.X
