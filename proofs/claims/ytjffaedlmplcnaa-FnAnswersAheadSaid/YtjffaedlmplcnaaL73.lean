/- The law: answers known ahead are the same. -/
import Derived.Test.YtjffaedlmplcnaaC95
import Derived.Test.YtjffaedlmplcnaaC97
import Derived.Test.YtjffaedlmplcnaaC90
import Derived.Test.YtjffaedlmplcnaaC99
set_option linter.unusedSimpArgs false
set_option linter.unusedVariables false
set_option maxHeartbeats 16000000
set_option maxRecDepth 100000
namespace Go.Proofs.Ytjffaedlmplcnaa.X
open Go Go.Proofs
theorem c_DrawAnswersAhead (bs : List Int) (hb : ∀ b ∈ bs, 0 ≤ b ∧ b < 256) (hl : bs.length ≤ 1000000000) :
    ∃ (n : Int) (ops : List Op3), 0 ≤ n ∧ n ≤ 17 ∧ ops.length ≤ 20 ∧ KP 15 [LB bs] [] = some (.tup [I n, LO ops], [], []) := by
  obtain ⟨n, ops, n0, n17, hlo, hcase⟩ := c_l8Case bs hb hl
  refine ⟨n, ops, n0, n17, hlo, xw_call (fn := Try.f15) rfl Try.func15 rfl ⟨Nat.le_of_ble_eq_true rfl, rfl, rfl⟩ ?_⟩
  repeat' (first
    | refine xw_seq ?_
    | refine xw_block ?_
    | (refine ite_two ?_ ?_ <;> intro _ <;> first | (exfalso; omega) | skip)
    | refine ord_split (by kernel_rfl) ?_
    | (refine xw_ret ?_ <;> try simp only [sq, bl, LQ])
    | ((first | refine xw_reg ?_ | refine xw_regd ?_ | refine xw_if ?_ | refine xw_skip ?_ | refine xw_exit ?_ | refine xw_label ?_ | refine post_ret ?_ | refine post_normal ?_ | refine postE_ret ?_ | refine postE_normal ?_ | (((first | refine at_region ?_ | refine at_out ?_ | refine at_cond ?_); split) <;> first | (exfalso; omega; done) | skip)) <;> try simp (config := { maxSteps := 3000000 }) (disch := first | assumption | omega | exact VG.okg (by assumption) | (simp only [List.length_set, List.length_append, List.length_cons, List.length_nil, List.length_replicate]; omega)) only [go_sem, ↓reduceIte, Int.reduceLE, Int.reduceLT, Int.reduceToNat, Int.reduceNeg, Int.reduceAdd, Int.reduceSub, Int.reduceMul, Int.reduceEq, Int.reduceNe, Nat.reduceEqDiff, Nat.reduceAdd, Nat.reduceSub, Nat.reduceMul, Nat.reduceLT, Nat.reduceLeDiff, Nat.reduceBEq, Nat.reduceBNe, UInt8.reduceToNat, Try.results15, hcase]))
theorem law_AnswersAhead (bs : List Int) (hb : ∀ b ∈ bs, 0 ≤ b ∧ b < 256) : KP 4 [LB bs] [] = some (B true, [], []) := by
  by_cases hbig : (1048576 : Int) < bs.length
  · refine xw_call (fn := Try.f4) rfl Try.func4 rfl ⟨Nat.le_of_ble_eq_true rfl, rfl, rfl⟩ ?_
    repeat' (first
      | refine xw_seq ?_
      | refine xw_block ?_
      | (refine ite_two ?_ ?_ <;> intro _ <;> first | (exfalso; omega) | skip)
      | refine ord_split (by kernel_rfl) ?_
      | (refine xw_ret ?_ <;> try simp only [sq, bl, LQ])
      | ((first | refine xw_reg ?_ | refine xw_regd ?_ | refine xw_if ?_ | refine xw_skip ?_ | refine xw_exit ?_ | refine xw_label ?_ | refine post_ret ?_ | refine post_normal ?_ | refine postE_ret ?_ | refine postE_normal ?_ | (((first | refine at_region ?_ | refine at_out ?_ | refine at_cond ?_); split) <;> first | (exfalso; omega; done) | skip)) <;> try simp (config := { maxSteps := 3000000 }) (disch := first | assumption | omega | exact VG.okg (by assumption) | (simp only [List.length_set, List.length_append, List.length_cons, List.length_nil, List.length_replicate]; omega)) only [go_sem, ↓reduceIte, Int.reduceLE, Int.reduceLT, Int.reduceToNat, Int.reduceNeg, Int.reduceAdd, Int.reduceSub, Int.reduceMul, Int.reduceEq, Int.reduceNe, Nat.reduceEqDiff, Nat.reduceAdd, Nat.reduceSub, Nat.reduceMul, Nat.reduceLT, Nat.reduceLeDiff, Nat.reduceBEq, Nat.reduceBNe, UInt8.reduceToNat, Try.results4]))
  obtain ⟨n, ops, n0, n17, hlo, hdraw⟩ := c_DrawAnswersAhead bs hb (by omega)
  have hp := c_AnswersAhead n ops (by omega)
  have hs := c_sAnswersAhead n ops (by omega)
  by_cases hr : (roS n ops).isSome = true
  rotate_left
  · rw [if_neg hr] at hp hs
    have hd : KP 18 [.i (.lst []), .i (.lst [])] [] = some (B true, [], []) := c_dyBools [] (by simp)
    refine xw_call (fn := Try.f4) rfl Try.func4 rfl ⟨Nat.le_of_ble_eq_true rfl, rfl, rfl⟩ ?_
    repeat' (first
      | refine xw_seq ?_
      | refine xw_block ?_
      | (refine ite_two ?_ ?_ <;> intro _ <;> first | (exfalso; omega) | skip)
      | refine ord_split (by kernel_rfl) ?_
      | (refine xw_ret ?_ <;> try simp only [sq, bl, LQ])
      | ((first | refine xw_reg ?_ | refine xw_regd ?_ | refine xw_if ?_ | refine xw_skip ?_ | refine xw_exit ?_ | refine xw_label ?_ | refine post_ret ?_ | refine post_normal ?_ | refine postE_ret ?_ | refine postE_normal ?_ | (((first | refine at_region ?_ | refine at_out ?_ | refine at_cond ?_); split) <;> first | (exfalso; omega; done) | skip)) <;> try simp (config := { maxSteps := 3000000 }) (disch := first | assumption | omega | exact VG.okg (by assumption) | (simp only [List.length_set, List.length_append, List.length_cons, List.length_nil, List.length_replicate]; omega)) only [go_sem, ↓reduceIte, Int.reduceLE, Int.reduceLT, Int.reduceToNat, Int.reduceNeg, Int.reduceAdd, Int.reduceSub, Int.reduceMul, Int.reduceEq, Int.reduceNe, Nat.reduceEqDiff, Nat.reduceAdd, Nat.reduceSub, Nat.reduceMul, Nat.reduceLT, Nat.reduceLeDiff, Nat.reduceBEq, Nat.reduceBNe, UInt8.reduceToNat, Try.results4, hdraw, hp, hs, hd]))
  rw [if_pos hr] at hp hs
  have hao := c_AnswersOf n ops (by omega)
  have hlv := c_LivesOf n ops (by omega)
  rw [if_pos hr] at hao hlv
  have hal := anR_len n ops ops.length
  have hll := livesS_len ops
  have hbd : ∀ l ∈ livesS ops, 0 ≤ l.2.1 ∧ l.2.1 < l.2.2 ∧ l.2.2 ≤ ops.length := fun l h => lives_bd h
  have hd := c_dyBools (anR n ops ops.length) (by omega)
  have hta : ((anR n ops ops.length).map encT).take (anR n ops ops.length).length = (anR n ops ops.length).map encT := List.take_of_length_le (by simp)
  generalize anR n ops ops.length = A at *
  generalize livesS ops = L at *
  refine xw_call (fn := Try.f4) rfl Try.func4 rfl ⟨Nat.le_of_ble_eq_true rfl, rfl, rfl⟩ ?_
  repeat' (first
    | refine xw_seq ?_
    | refine xw_block ?_
    | (refine ite_two ?_ ?_ <;> intro _ <;> first | (exfalso; omega) | skip)
    | refine ord_split (by kernel_rfl) ?_
    | (refine xw_ret ?_ <;> try simp only [sq, bl, LQ])
    | ((first | refine xw_reg ?_ | refine xw_regd ?_ | refine xw_if ?_ | refine xw_skip ?_ | refine xw_exit ?_ | refine xw_label ?_ | refine post_ret ?_ | refine post_normal ?_ | refine postE_ret ?_ | refine postE_normal ?_ | (((first | refine at_region ?_ | refine at_out ?_ | refine at_cond ?_); split) <;> first | (exfalso; omega; done) | skip)) <;> try simp (config := { maxSteps := 3000000 }) (disch := first | assumption | omega | exact VG.okg (by assumption) | (simp only [List.length_set, List.length_append, List.length_cons, List.length_nil, List.length_replicate]; omega)) only [go_sem, ↓reduceIte, Int.reduceLE, Int.reduceLT, Int.reduceToNat, Int.reduceNeg, Int.reduceAdd, Int.reduceSub, Int.reduceMul, Int.reduceEq, Int.reduceNe, Nat.reduceEqDiff, Nat.reduceAdd, Nat.reduceSub, Nat.reduceMul, Nat.reduceLT, Nat.reduceLeDiff, Nat.reduceBEq, Nat.reduceBNe, UInt8.reduceToNat, Try.results4, hdraw, hp, hs, hd, hta, hao, hlv]))
  refine xw_loopR (fun (i : Int) s => s.ρ 4 = LO ops ∧ s.ρ 5 = LT A ∧ s.ρ 6 = I (workS L 0 ops.length) ∧ s.ρ 11 = LT A ∧ s.ρ 12 = B true ∧ s.ρ 13 = LF L ∧ s.ρ 15 = I (workS (L.take i.toNat) 0 ops.length) ∧ s.ρ 16 = I i ∧ 0 ≤ i ∧ i ≤ L.length) (fun i => (L.length - i).toNat) 0 ?_ ?_
  · refine ⟨?_, ?_, ?_, ?_, ?_, ?_, ?_, ?_, by simp, by simp⟩
    all_goals first | rfl | (simp [upd]; done) | trace_state
  rintro i ⟨ρ, m⟩ ⟨e4, e5, e6, e11, e12, e13, e15, e16, g0, g1⟩
  simp only at e4 e5 e6 e11 e12 e13 e15 e16 g0 g1
  by_cases hi : i < L.length
  rotate_left
  · rw [take_all (by omega)] at e15
    repeat' (first
      | refine xw_seq ?_
      | refine xw_block ?_
      | (refine ite_two ?_ ?_ <;> intro _ <;> first | (exfalso; omega) | skip)
      | refine ord_split (by kernel_rfl) ?_
      | (refine xw_ret ?_ <;> try simp only [sq, bl, LQ])
      | ((first | refine xw_reg ?_ | refine xw_regd ?_ | refine xw_if ?_ | refine xw_skip ?_ | refine xw_exit ?_ | refine xw_label ?_ | refine post_ret ?_ | refine post_normal ?_ | refine postE_ret ?_ | refine postE_normal ?_ | (((first | refine at_region ?_ | refine at_out ?_ | refine at_cond ?_); split) <;> first | (exfalso; omega; done) | skip)) <;> try simp (config := { maxSteps := 3000000 }) (disch := first | assumption | omega | exact VG.okg (by assumption) | (simp only [List.length_set, List.length_append, List.length_cons, List.length_nil, List.length_replicate]; omega)) only [go_sem, ↓reduceIte, Int.reduceLE, Int.reduceLT, Int.reduceToNat, Int.reduceNeg, Int.reduceAdd, Int.reduceSub, Int.reduceMul, Int.reduceEq, Int.reduceNe, Nat.reduceEqDiff, Nat.reduceAdd, Nat.reduceSub, Nat.reduceMul, Nat.reduceLT, Nat.reduceLeDiff, Nat.reduceBEq, Nat.reduceBNe, UInt8.reduceToNat, Try.results4, e4, e5, e6, e11, e12, e13, e15, e16, hd]))
  have hgf := getF L i.toNat (by omega)
  have hb := hbd _ (getD_mem (d := dF) (show i.toNat < L.length by omega))
  have hws := workS_snoc (lo := 0) (hi := ops.length) g0 hi
  have hwb := workS_bd (lvs := L.take i.toNat) (lo := 0) (hi := ops.length) (by omega)
  have htl : (L.take i.toNat).length ≤ 64 := by rw [List.length_take]; omega
  have hwc : ((L.take i.toNat).length : Int) * ((ops.length : Int) - 0) ≤ 64 * 64 := Int.mul_le_mul (by omega) (by omega) (by omega) (by omega)
  have hsb := spanN_bd (f := ((ops.length : Int) - 0).toNat) (lo := 0) (hi := ops.length) (fr := (L.getD i.toNat dF).2.1) (to := (L.getD i.toNat dF).2.2) (by omega) (Nat.le_refl _)
  rw [show ((ops.length : Int) - 0).toNat = (ops.length : Int).toNat by simp] at hws hsb
  generalize workS (L.take i.toNat) 0 ops.length = W at *
  generalize L.getD i.toNat dF = l at *
  obtain ⟨⟨a, b⟩, fr, to⟩ := l
  simp only at hgf hb hws hsb
  have hsp := c_SpansOf ops.length fr to (by omega) (by omega) hb.1 hb.2.1 hb.2.2
  have hsl := spanL_len (ops.length : Int).toNat 0 ops.length fr to
  rw [← hsl] at hws hsb
  generalize spanL (ops.length : Int).toNat 0 ops.length fr to = S at *
  by_cases s0 : S = []
  · subst s0
    rw [if_pos rfl] at hsp
    repeat' (first
      | refine xw_seq ?_
      | refine xw_block ?_
      | (refine ite_two ?_ ?_ <;> intro _ <;> first | (exfalso; omega) | skip)
      | refine ord_split (by kernel_rfl) ?_
      | (refine xw_ret ?_ <;> try simp only [sq, bl, LQ])
      | ((first | refine xw_reg ?_ | refine xw_regd ?_ | refine xw_if ?_ | refine xw_skip ?_ | refine xw_exit ?_ | refine xw_label ?_ | refine post_ret ?_ | refine post_normal ?_ | refine postE_ret ?_ | refine postE_normal ?_ | (((first | refine at_region ?_ | refine at_out ?_ | refine at_cond ?_); split) <;> first | (exfalso; omega; done) | skip)) <;> try simp (config := { maxSteps := 3000000 }) (disch := first | assumption | omega | exact VG.okg (by assumption) | (simp only [List.length_set, List.length_append, List.length_cons, List.length_nil, List.length_replicate]; omega)) only [go_sem, ↓reduceIte, Int.reduceLE, Int.reduceLT, Int.reduceToNat, Int.reduceNeg, Int.reduceAdd, Int.reduceSub, Int.reduceMul, Int.reduceEq, Int.reduceNe, Nat.reduceEqDiff, Nat.reduceAdd, Nat.reduceSub, Nat.reduceMul, Nat.reduceLT, Nat.reduceLeDiff, Nat.reduceBEq, Nat.reduceBNe, UInt8.reduceToNat, Try.results4, e4, e5, e6, e11, e12, e13, e15, e16, hgf, hsp]))
    exact ⟨i + 1, by rw [hws]; rfl, rfl, by omega, by omega, by omega⟩
  · rw [if_neg s0] at hsp
    repeat' (first
      | refine xw_seq ?_
      | refine xw_block ?_
      | (refine ite_two ?_ ?_ <;> intro _ <;> first | (exfalso; omega) | skip)
      | refine ord_split (by kernel_rfl) ?_
      | (refine xw_ret ?_ <;> try simp only [sq, bl, LQ])
      | ((first | refine xw_reg ?_ | refine xw_regd ?_ | refine xw_if ?_ | refine xw_skip ?_ | refine xw_exit ?_ | refine xw_label ?_ | refine post_ret ?_ | refine post_normal ?_ | refine postE_ret ?_ | refine postE_normal ?_ | (((first | refine at_region ?_ | refine at_out ?_ | refine at_cond ?_); split) <;> first | (exfalso; omega; done) | skip)) <;> try simp (config := { maxSteps := 3000000 }) (disch := first | assumption | omega | exact VG.okg (by assumption) | (simp only [List.length_set, List.length_append, List.length_cons, List.length_nil, List.length_replicate]; omega)) only [go_sem, ↓reduceIte, Int.reduceLE, Int.reduceLT, Int.reduceToNat, Int.reduceNeg, Int.reduceAdd, Int.reduceSub, Int.reduceMul, Int.reduceEq, Int.reduceNe, Nat.reduceEqDiff, Nat.reduceAdd, Nat.reduceSub, Nat.reduceMul, Nat.reduceLT, Nat.reduceLeDiff, Nat.reduceBEq, Nat.reduceBNe, UInt8.reduceToNat, Try.results4, e4, e5, e6, e11, e12, e13, e15, e16, hgf, hsp]))
    exact ⟨i + 1, by rw [hws], rfl, by omega, by omega, by omega⟩
end Go.Proofs.Ytjffaedlmplcnaa.X
