/- The law: AnswersAhead as the reference has it. -/
import Derived.Test.YtjffaedlmplcnaaC95
import Derived.Test.YtjffaedlmplcnaaC97
import Derived.Test.YtjffaedlmplcnaaC98
set_option linter.unusedSimpArgs false
set_option linter.unusedVariables false
set_option maxHeartbeats 16000000
set_option maxRecDepth 100000
namespace Go.Proofs.Ytjffaedlmplcnaa.X
open Go Go.Proofs
theorem law_ExactAnswersAhead (n : Int) (okn : okI n) (ops : List Op3) (okq : ∀ q ∈ ops, okI q.1 ∧ okI q.2.1 ∧ okI q.2.2) (okl : ops.length ≤ 9223372036854775807) : KP 5 [I n, LO ops] [] = some (B true, [], []) := by
  have hsz := c_szOpS ops okl
  by_cases hbig : 1048576 < (ops.length : Int)
  · rw [if_pos hbig] at hsz
    refine xw_call (fn := Try.f5) rfl Try.func5 rfl ⟨Nat.le_of_ble_eq_true rfl, rfl, rfl⟩ ?_
    repeat' (first
      | refine xw_seq ?_
      | refine xw_block ?_
      | (refine ite_two ?_ ?_ <;> intro _ <;> first | (exfalso; omega) | skip)
      | refine ord_split (by kernel_rfl) ?_
      | (refine xw_ret ?_ <;> try simp only [sq, bl, LQ])
      | ((first | refine xw_reg ?_ | refine xw_regd ?_ | refine xw_if ?_ | refine xw_skip ?_ | refine xw_exit ?_ | refine xw_label ?_ | refine post_ret ?_ | refine post_normal ?_ | refine postE_ret ?_ | refine postE_normal ?_ | (((first | refine at_region ?_ | refine at_out ?_ | refine at_cond ?_); split) <;> first | (exfalso; omega; done) | skip)) <;> try simp (config := { maxSteps := 3000000 }) (disch := first | assumption | omega | exact VG.okg (by assumption) | (simp only [List.length_set, List.length_append, List.length_cons, List.length_nil, List.length_replicate]; omega)) only [go_sem, ↓reduceIte, Int.reduceLE, Int.reduceLT, Int.reduceToNat, Int.reduceNeg, Int.reduceAdd, Int.reduceSub, Int.reduceMul, Int.reduceEq, Int.reduceNe, Nat.reduceEqDiff, Nat.reduceAdd, Nat.reduceSub, Nat.reduceMul, Nat.reduceLT, Nat.reduceLeDiff, Nat.reduceBEq, Nat.reduceBNe, UInt8.reduceToNat, Try.results5, hsz]))
  rw [if_neg hbig] at hsz
  have hp := c_AnswersAhead n ops (by omega)
  have hs := c_sAnswersAhead n ops (by omega)
  have htg := c_toOpS ops (by omega)
  have heq := c_eqOpS ops (by omega)
  obtain ⟨us, hul, hmg⟩ := c_markOpS ops (by omega)
  have htko : ops.take ops.length = ops := List.take_length
  by_cases hr : (roS n ops).isSome = true
  · rw [if_pos hr] at hp hs
    have hal := anR_len n ops ops.length
    generalize anR n ops ops.length = A at *
    generalize workS (livesS ops) 0 ops.length = W at *
    have he := c_eqBoolS A (by omega)
    have hmi := c_markBoolS A (by omega)
    have hh := c_heldBoolS A.length (by omega)
    have hml := mkB_len A.length
    have htk : (mkB A.length).take A.length = mkB A.length := List.take_of_length_le (by rw [hml]; omega)
    have hta : A.take A.length = A := List.take_length
    refine xw_call (fn := Try.f5) rfl Try.func5 rfl ⟨Nat.le_of_ble_eq_true rfl, rfl, rfl⟩ ?_
    repeat' (first
      | refine xw_seq ?_
      | refine xw_block ?_
      | (refine ite_two ?_ ?_ <;> intro _ <;> first | (exfalso; omega) | skip)
      | refine ord_split (by kernel_rfl) ?_
      | (refine xw_ret ?_ <;> try simp only [sq, bl, LQ])
      | ((first | refine xw_reg ?_ | refine xw_regd ?_ | refine xw_if ?_ | refine xw_skip ?_ | refine xw_exit ?_ | refine xw_label ?_ | refine post_ret ?_ | refine post_normal ?_ | refine postE_ret ?_ | refine postE_normal ?_ | (((first | refine at_region ?_ | refine at_out ?_ | refine at_cond ?_); split) <;> first | (exfalso; omega; done) | skip)) <;> try simp (config := { maxSteps := 3000000 }) (disch := first | assumption | omega | exact VG.okg (by assumption) | (simp only [List.length_set, List.length_append, List.length_cons, List.length_nil, List.length_replicate]; omega)) only [go_sem, ↓reduceIte, Int.reduceLE, Int.reduceLT, Int.reduceToNat, Int.reduceNeg, Int.reduceAdd, Int.reduceSub, Int.reduceMul, Int.reduceEq, Int.reduceNe, Nat.reduceEqDiff, Nat.reduceAdd, Nat.reduceSub, Nat.reduceMul, Nat.reduceLT, Nat.reduceLeDiff, Nat.reduceBEq, Nat.reduceBNe, UInt8.reduceToNat, Try.results5, hsz, hp, hs, htg, hmg, he, heq, hmi, hh, htk, hta, htko]))
  · rw [if_neg hr] at hp hs
    have he : KP 24 [.i (.lst []), .i (.lst [])] [] = some (B true, [], []) := c_eqBoolS [] (by simp)
    have hmi := c_markBoolS_nil
    have hh : KP 28 [.i (.lst []), I 1] [] = some (I 1, [], []) := c_heldBoolS 0 (by omega)
    refine xw_call (fn := Try.f5) rfl Try.func5 rfl ⟨Nat.le_of_ble_eq_true rfl, rfl, rfl⟩ ?_
    repeat' (first
      | refine xw_seq ?_
      | refine xw_block ?_
      | (refine ite_two ?_ ?_ <;> intro _ <;> first | (exfalso; omega) | skip)
      | refine ord_split (by kernel_rfl) ?_
      | (refine xw_ret ?_ <;> try simp only [sq, bl, LQ])
      | ((first | refine xw_reg ?_ | refine xw_regd ?_ | refine xw_if ?_ | refine xw_skip ?_ | refine xw_exit ?_ | refine xw_label ?_ | refine post_ret ?_ | refine post_normal ?_ | refine postE_ret ?_ | refine postE_normal ?_ | (((first | refine at_region ?_ | refine at_out ?_ | refine at_cond ?_); split) <;> first | (exfalso; omega; done) | skip)) <;> try simp (config := { maxSteps := 3000000 }) (disch := first | assumption | omega | exact VG.okg (by assumption) | (simp only [List.length_set, List.length_append, List.length_cons, List.length_nil, List.length_replicate]; omega)) only [go_sem, ↓reduceIte, Int.reduceLE, Int.reduceLT, Int.reduceToNat, Int.reduceNeg, Int.reduceAdd, Int.reduceSub, Int.reduceMul, Int.reduceEq, Int.reduceNe, Nat.reduceEqDiff, Nat.reduceAdd, Nat.reduceSub, Nat.reduceMul, Nat.reduceLT, Nat.reduceLeDiff, Nat.reduceBEq, Nat.reduceBNe, UInt8.reduceToNat, Try.results5, hsz, hp, hs, htg, hmg, he, heq, hmi, hh, htko]))
end Go.Proofs.Ytjffaedlmplcnaa.X
