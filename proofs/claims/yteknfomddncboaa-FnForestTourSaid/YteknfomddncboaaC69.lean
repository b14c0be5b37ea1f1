/- What functions compute: copies of rows of numbers and of truth values, what goes in and out. -/
import Derived.Test.YteknfomddncboaaC22
import Derived.Test.YteknfomddncboaaC46
set_option linter.unusedSimpArgs false
set_option linter.unusedVariables false
set_option maxHeartbeats 8000000
set_option maxRecDepth 100000
namespace Go.Proofs.Yteknfomddncboaa.X
open Go Go.Proofs
theorem mapAppT {xs ys : List Bool} : xs.map encT ++ ys.map encT = (xs ++ ys).map encT := by simp
theorem dropT {xs : List Bool} {n : Nat} : (xs.map encT).drop n = (xs.drop n).map encT := by simp
theorem takeTB {xs : List Bool} {n : Nat} : (xs.map encT).take n = (xs.take n).map encT := by simp
theorem encT_map_inj {a b : List Bool} : a.map encT = b.map encT ↔ a = b := by
  refine ⟨fun h => ?_, fun h => by rw [h]⟩
  induction a generalizing b with
  | nil => cases b <;> simp_all
  | cons x a ih =>
    cases b with
    | nil => simp at h
    | cons y b =>
      simp only [List.map_cons, List.cons.injEq, encT, IV.v.injEq, Value.bool.injEq, and_true] at h
      rw [ih h.2, h.1]
theorem lenT_all {us : List Bool} : (us.map encT).all (fun e => e.length == 1) = true := by simp [encT]
attribute [go_sem] mapAppT dropT takeTB encT_map_inj lenT_all
theorem c_cloneI (xs : List Int) (h : xs ≠ []) (hl : xs.length ≤ 1048576) : KP 64 [LI xs] [] = some (.ref 2000 0 0 xs.length, [], [.arr 0 1 (xs.map encI)]) := by
  have hp : primC cfg 64 [LI xs] [] = none := by
    cases xs with
    | nil => exact absurd rfl h
    | cons e r => rfl
  have hm : xs.map encI ≠ [] := by simpa using h
  refine xw_call (fn := Try.f64) hp Try.func64 rfl ⟨Nat.le_of_ble_eq_true rfl, rfl, rfl⟩ ?_
  repeat' (first
    | refine xw_seq ?_
    | refine xw_block ?_
    | (refine ite_two ?_ ?_ <;> intro _ <;> first | (exfalso; omega) | skip)
    | refine ord_split (by kernel_rfl) ?_
    | (refine xw_ret ?_ <;> try simp only [sq, bl, LQ])
    | ((first | refine xw_reg ?_ | refine xw_regd ?_ | refine xw_if ?_ | refine xw_skip ?_ | refine xw_exit ?_ | refine xw_label ?_ | refine post_ret ?_ | refine post_normal ?_ | refine postE_ret ?_ | refine postE_normal ?_) <;> simp (config := { maxSteps := 3000000 }) (disch := first | assumption | omega | exact VG.okg (by assumption) | (simp only [List.length_set, List.length_append, List.length_cons, List.length_nil, List.length_replicate]; omega)) only [go_sem, ↓reduceIte, Int.reduceLE, Int.reduceLT, Int.reduceToNat, Int.reduceNeg, Int.reduceAdd, Int.reduceSub, Int.reduceMul, Int.reduceEq, Int.reduceNe, Nat.reduceEqDiff, Nat.reduceAdd, Nat.reduceSub, Nat.reduceMul, Nat.reduceLT, Nat.reduceLeDiff, Nat.reduceBEq, Nat.reduceBNe, Try.results64, hm])
    | (((first | refine at_region ?_ | refine at_out ?_ | refine at_cond ?_); split) <;> first | (exfalso; omega; done) | simp (config := { maxSteps := 3000000 }) (disch := first | assumption | omega | exact VG.okg (by assumption) | (simp only [List.length_set, List.length_append, List.length_cons, List.length_nil, List.length_replicate]; omega)) only [go_sem, ↓reduceIte, Int.reduceLE, Int.reduceLT, Int.reduceToNat, Int.reduceNeg, Int.reduceAdd, Int.reduceSub, Int.reduceMul, Int.reduceEq, Int.reduceNe, Nat.reduceEqDiff, Nat.reduceAdd, Nat.reduceSub, Nat.reduceMul, Nat.reduceLT, Nat.reduceLeDiff, Nat.reduceBEq, Nat.reduceBNe, Try.results64, hm] | skip))
end Go.Proofs.Yteknfomddncboaa.X
