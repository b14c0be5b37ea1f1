/- What functions compute: draws of operations, and of places among them. -/
import Derived.Test.YtjffaedlmplcnaaC89
set_option linter.unusedSimpArgs false
set_option linter.unusedVariables false
set_option maxHeartbeats 8000000
set_option maxRecDepth 100000
namespace Go.Proofs.Ytjffaedlmplcnaa.X
open Go Go.Proofs
theorem c_l8Case (bs : List Int) (hb : ∀ b ∈ bs, 0 ≤ b ∧ b < 256) (hl : bs.length ≤ 1000000000) :
    ∃ (n : Int) (ops : List Op3), 0 ≤ n ∧ n ≤ 17 ∧ ops.length ≤ 20 ∧ KP 69 [LB bs] [] = some (.tup [I n, LO ops], [], []) := by
  obtain ⟨cs, hcs, hopen⟩ := c_l14Open bs hb hl
  obtain ⟨n, ops, p, n2, n8, hlo, hp1, hp2, hdraw⟩ := c_l8Draw cs 0 hcs (by omega)
  obtain ⟨w, hw, _, hpw⟩ := c_pick cs p 24 hcs (by omega) (by omega)
  have hw' := hw (by omega)
  by_cases hw0 : w = 0
  · obtain ⟨v, hv, hnum⟩ := c_num cs (p + 1) [0, 17, 1] hcs (by omega) (by simp) (by simp)
    simp only [List.map_cons, List.map_nil, encI, List.length_cons, List.length_nil, Nat.reduceAdd] at hnum
    have hv' : 0 ≤ v ∧ v ≤ 17 := by simp at hv; omega
    refine ⟨v, ops, hv'.1, hv'.2, hlo, xw_call (fn := Try.f69) rfl Try.func69 rfl ⟨Nat.le_of_ble_eq_true rfl, rfl, rfl⟩ ?_⟩
    repeat' (first
      | refine xw_seq ?_
      | refine xw_block ?_
      | (refine ite_two ?_ ?_ <;> intro _ <;> first | (exfalso; omega) | skip)
      | refine ord_split (by kernel_rfl) ?_
      | (refine xw_ret ?_ <;> try simp only [sq, bl, LQ])
      | ((first | refine xw_reg ?_ | refine xw_regd ?_ | refine xw_if ?_ | refine xw_skip ?_ | refine xw_exit ?_ | refine xw_label ?_ | refine post_ret ?_ | refine post_normal ?_ | refine postE_ret ?_ | refine postE_normal ?_ | (((first | refine at_region ?_ | refine at_out ?_ | refine at_cond ?_); split) <;> first | (exfalso; omega; done) | skip)) <;> try simp (config := { maxSteps := 3000000 }) (disch := first | assumption | omega | exact VG.okg (by assumption) | (simp only [List.length_set, List.length_append, List.length_cons, List.length_nil, List.length_replicate]; omega)) only [go_sem, ↓reduceIte, Int.reduceLE, Int.reduceLT, Int.reduceToNat, Int.reduceNeg, Int.reduceAdd, Int.reduceSub, Int.reduceMul, Int.reduceEq, Int.reduceNe, Nat.reduceEqDiff, Nat.reduceAdd, Nat.reduceSub, Nat.reduceMul, Nat.reduceLT, Nat.reduceLeDiff, Nat.reduceBEq, Nat.reduceBNe, UInt8.reduceToNat, Try.results69, hopen, hdraw, hpw, hw0, hnum]))
  · refine ⟨n, ops, by omega, by omega, hlo, xw_call (fn := Try.f69) rfl Try.func69 rfl ⟨Nat.le_of_ble_eq_true rfl, rfl, rfl⟩ ?_⟩
    repeat' (first
      | refine xw_seq ?_
      | refine xw_block ?_
      | (refine ite_two ?_ ?_ <;> intro _ <;> first | (exfalso; omega) | skip)
      | refine ord_split (by kernel_rfl) ?_
      | (refine xw_ret ?_ <;> try simp only [sq, bl, LQ])
      | ((first | refine xw_reg ?_ | refine xw_regd ?_ | refine xw_if ?_ | refine xw_skip ?_ | refine xw_exit ?_ | refine xw_label ?_ | refine post_ret ?_ | refine post_normal ?_ | refine postE_ret ?_ | refine postE_normal ?_ | (((first | refine at_region ?_ | refine at_out ?_ | refine at_cond ?_); split) <;> first | (exfalso; omega; done) | skip)) <;> try simp (config := { maxSteps := 3000000 }) (disch := first | assumption | omega | exact VG.okg (by assumption) | (simp only [List.length_set, List.length_append, List.length_cons, List.length_nil, List.length_replicate]; omega)) only [go_sem, ↓reduceIte, Int.reduceLE, Int.reduceLT, Int.reduceToNat, Int.reduceNeg, Int.reduceAdd, Int.reduceSub, Int.reduceMul, Int.reduceEq, Int.reduceNe, Nat.reduceEqDiff, Nat.reduceAdd, Nat.reduceSub, Nat.reduceMul, Nat.reduceLT, Nat.reduceLeDiff, Nat.reduceBEq, Nat.reduceBNe, UInt8.reduceToNat, Try.results69, hopen, hdraw, hpw, hw0]))
end Go.Proofs.Ytjffaedlmplcnaa.X
