/- What functions compute: the search in depth over the whole graph, as the reference has it. -/
import Derived.Test.YtbaholclcfpknaaC37
set_option linter.unusedSimpArgs false
set_option linter.unusedVariables false
set_option maxHeartbeats 8000000
namespace Go.Proofs.Ytbaholclcfpknaa.X
open Go Go.Proofs

theorem c_l4Run (n : Int) (es : List (Int × Int)) (hV : VG n es) : KP 186 [GL n es] [] = some (.agg [.ref 2000 0 0 (seek n es).num.length, .ref 2001 0 0 (seek n es).par.length, .ref 2002 0 0 (seek n es).low.length], [], [arrS (seek n es).num, arrS (seek n es).par, arrS (seek n es).low]) := by
  have ho := hV.okg.ok
  have hn16 := hV.2.1
  have hn1 := hV.1
  have hnd := hV.nodup
  refine xw_call (fn := Try.f186) rfl Try.func186 rfl ⟨Nat.le_of_ble_eq_true rfl, rfl, rfl⟩ ?_
  repeat' (first
    | refine xw_seq ?_
    | refine xw_block ?_
    | (refine ite_two ?_ ?_ <;> intro _ <;> first | (exfalso; omega) | skip)
    | refine ord_split (by kernel_rfl) ?_
    | (refine xw_ret ?_ <;> try simp only [sq, bl, LQ])
    | ((first | refine xw_reg ?_ | refine xw_regd ?_ | refine xw_if ?_ | refine xw_skip ?_ | refine xw_exit ?_ | refine xw_label ?_ | refine post_ret ?_ | refine post_normal ?_ | refine postE_ret ?_ | refine postE_normal ?_) <;> simp (config := { maxSteps := 3000000 }) (disch := first | assumption | omega | exact VG.okg (by assumption) | (simp only [List.length_set, List.length_append, List.length_cons, List.length_nil, List.length_replicate]; omega)) only [go_sem, ↓reduceIte, Int.reduceLE, Int.reduceLT, Int.reduceToNat, Int.reduceNeg, Int.reduceAdd, Int.reduceSub, Int.reduceMul, Int.reduceEq, Int.reduceNe, Nat.reduceEqDiff, Nat.reduceAdd, Nat.reduceSub, Nat.reduceMul, Nat.reduceLT, Nat.reduceLeDiff, Nat.reduceBEq, Nat.reduceBNe, Try.results186])
    | (((first | refine at_region ?_ | refine at_out ?_ | refine at_cond ?_); split) <;> first | (exfalso; omega; done) | simp (config := { maxSteps := 3000000 }) (disch := first | assumption | omega | exact VG.okg (by assumption) | (simp only [List.length_set, List.length_append, List.length_cons, List.length_nil, List.length_replicate]; omega)) only [go_sem, ↓reduceIte, Int.reduceLE, Int.reduceLT, Int.reduceToNat, Int.reduceNeg, Int.reduceAdd, Int.reduceSub, Int.reduceMul, Int.reduceEq, Int.reduceNe, Nat.reduceEqDiff, Nat.reduceAdd, Nat.reduceSub, Nat.reduceMul, Nat.reduceLT, Nat.reduceLeDiff, Nat.reduceBEq, Nat.reduceBNe, Try.results186] | skip))
  refine xw_loopR (fun (k : Nat) s => s.m 3 = some (.box 0 [.ref 8 0 0 n.toNat, .ref 11 0 0 n.toNat, .ref 14 0 0 n.toNat]) ∧ s.ρ 3 = .ptr 3 0 0 0 ∧ s.m 8 = some (arrS (seekS n es k).1.num) ∧ s.m 11 = some (arrS (seekS n es k).1.par) ∧ s.m 14 = some (arrS (seekS n es k).1.low) ∧ s.ρ 4 = I (seekS n es k).2 ∧ s.ρ 5 = I (k : Int) ∧ s.ρ 1 = .ptr 1 0 0 0 ∧ s.m 1 = some (.box 0 [I n, LE es]) ∧ s.ρ 2 = .ptr 2 0 0 0 ∧ s.m 2 = some (.box 0 [.i .emp, .i .emp, .i .emp]) ∧ (k : Int) ≤ n) (fun k => n.toNat - k) 0 ?_ ?_
  · refine ⟨?_, ?_, ?_, ?_, ?_, ?_, ?_, ?_, ?_, ?_, ?_, ?_⟩
    all_goals first | rfl | omega | (simp [upd, seekS, zI]; done) | (simp only; omega) | trace_state
  rintro k ⟨ρ, m⟩ ⟨m3, h3, m8, m11, m14, h4, h18, h1, m1, h2, m2, g0⟩
  simp only at m3 h3 m8 m11 m14 h4 h18 h1 m1 h2 m2 g0
  obtain ⟨hs, -, -⟩ := seek_inv ho hnd k g0
  have hln := hs.ln
  have hlp := hs.lp
  have hll := hs.ll
  have hcn := seek_cnt ho hnd (by omega) k g0
  by_cases hk : (k : Int) < n
  rotate_left
  · have hkn : k = n.toNat := by omega
    have hse : seek n es = (seekS n es k).1 := by rw [seek, hkn]
    rw [hse, hln, hlp, hll]
    repeat' (first
      | refine xw_seq ?_
      | refine xw_block ?_
      | (refine ite_two ?_ ?_ <;> intro _ <;> first | (exfalso; omega) | skip)
      | refine ord_split (by kernel_rfl) ?_
      | (refine xw_ret ?_ <;> try simp only [sq, bl, LQ])
      | ((first | refine xw_reg ?_ | refine xw_regd ?_ | refine xw_if ?_ | refine xw_skip ?_ | refine xw_exit ?_ | refine xw_label ?_ | refine post_ret ?_ | refine post_normal ?_ | refine postE_ret ?_ | refine postE_normal ?_) <;> simp (config := { maxSteps := 3000000 }) (disch := first | assumption | omega | exact VG.okg (by assumption) | (simp only [List.length_set, List.length_append, List.length_cons, List.length_nil, List.length_replicate]; omega)) only [go_sem, ↓reduceIte, Int.reduceLE, Int.reduceLT, Int.reduceToNat, Int.reduceNeg, Int.reduceAdd, Int.reduceSub, Int.reduceMul, Int.reduceEq, Int.reduceNe, Nat.reduceEqDiff, Nat.reduceAdd, Nat.reduceSub, Nat.reduceMul, Nat.reduceLT, Nat.reduceLeDiff, Nat.reduceBEq, Nat.reduceBNe, Try.results186, m3, h3, m8, m11, m14, h4, h18, h1, m1, h2, m2])
      | (((first | refine at_region ?_ | refine at_out ?_ | refine at_cond ?_); split) <;> first | (exfalso; omega; done) | simp (config := { maxSteps := 3000000 }) (disch := first | assumption | omega | exact VG.okg (by assumption) | (simp only [List.length_set, List.length_append, List.length_cons, List.length_nil, List.length_replicate]; omega)) only [go_sem, ↓reduceIte, Int.reduceLE, Int.reduceLT, Int.reduceToNat, Int.reduceNeg, Int.reduceAdd, Int.reduceSub, Int.reduceMul, Int.reduceEq, Int.reduceNe, Nat.reduceEqDiff, Nat.reduceAdd, Nat.reduceSub, Nat.reduceMul, Nat.reduceLT, Nat.reduceLeDiff, Nat.reduceBEq, Nat.reduceBNe, Try.results186, m3, h3, m8, m11, m14, h4, h18, h1, m1, h2, m2] | skip))
  have hnext : seekS n es (k + 1) = if gI (seekS n es k).1.num (k : Int) = 0 then visit es n.toNat (k : Int) (-1) (seekS n es k) else seekS n es k := rfl
  have e0 : ((k : Int)).toNat = k := by omega
  by_cases h0 : gI (seekS n es k).1.num (k : Int) = 0
  · rw [if_pos h0] at hnext
    have hz : zeros (seekS n es k).1.num ≤ n.toNat := by have := zeros_le (seekS n es k).1.num; omega
    have hf := c_l4Search n es hV n.toNat (k : Int) (-1) (seekS n es k) hs ⟨by omega, hk⟩ h0 (.inl rfl) hz hcn
    rw [← hnext] at hf
    unfold gI at h0
    rw [e0] at h0
    repeat' (first
      | refine xw_seq ?_
      | refine xw_block ?_
      | (refine ite_two ?_ ?_ <;> intro _ <;> first | (exfalso; omega) | skip)
      | refine ord_split (by kernel_rfl) ?_
      | (refine xw_ret ?_ <;> try simp only [sq, bl, LQ])
      | ((first | refine xw_reg ?_ | refine xw_regd ?_ | refine xw_if ?_ | refine xw_skip ?_ | refine xw_exit ?_ | refine xw_label ?_ | refine post_ret ?_ | refine post_normal ?_ | refine postE_ret ?_ | refine postE_normal ?_) <;> simp (config := { maxSteps := 3000000 }) (disch := first | assumption | omega | exact VG.okg (by assumption) | (simp only [List.length_set, List.length_append, List.length_cons, List.length_nil, List.length_replicate]; omega)) only [go_sem, ↓reduceIte, Int.reduceLE, Int.reduceLT, Int.reduceToNat, Int.reduceNeg, Int.reduceAdd, Int.reduceSub, Int.reduceMul, Int.reduceEq, Int.reduceNe, Nat.reduceEqDiff, Nat.reduceAdd, Nat.reduceSub, Nat.reduceMul, Nat.reduceLT, Nat.reduceLeDiff, Nat.reduceBEq, Nat.reduceBNe, Try.results186, m3, h3, m8, m11, m14, h4, h18, h1, m1, h2, m2, h0, hf])
      | (((first | refine at_region ?_ | refine at_out ?_ | refine at_cond ?_); split) <;> first | (exfalso; omega; done) | simp (config := { maxSteps := 3000000 }) (disch := first | assumption | omega | exact VG.okg (by assumption) | (simp only [List.length_set, List.length_append, List.length_cons, List.length_nil, List.length_replicate]; omega)) only [go_sem, ↓reduceIte, Int.reduceLE, Int.reduceLT, Int.reduceToNat, Int.reduceNeg, Int.reduceAdd, Int.reduceSub, Int.reduceMul, Int.reduceEq, Int.reduceNe, Nat.reduceEqDiff, Nat.reduceAdd, Nat.reduceSub, Nat.reduceMul, Nat.reduceLT, Nat.reduceLeDiff, Nat.reduceBEq, Nat.reduceBNe, Try.results186, m3, h3, m8, m11, m14, h4, h18, h1, m1, h2, m2, h0, hf] | skip))
    exact ⟨k + 1, rfl, rfl, rfl, rfl, by omega, by omega, by omega⟩
  · rw [if_neg h0] at hnext
    unfold gI at h0
    rw [e0] at h0
    repeat' (first
      | refine xw_seq ?_
      | refine xw_block ?_
      | (refine ite_two ?_ ?_ <;> intro _ <;> first | (exfalso; omega) | skip)
      | refine ord_split (by kernel_rfl) ?_
      | (refine xw_ret ?_ <;> try simp only [sq, bl, LQ])
      | ((first | refine xw_reg ?_ | refine xw_regd ?_ | refine xw_if ?_ | refine xw_skip ?_ | refine xw_exit ?_ | refine xw_label ?_ | refine post_ret ?_ | refine post_normal ?_ | refine postE_ret ?_ | refine postE_normal ?_) <;> simp (config := { maxSteps := 3000000 }) (disch := first | assumption | omega | exact VG.okg (by assumption) | (simp only [List.length_set, List.length_append, List.length_cons, List.length_nil, List.length_replicate]; omega)) only [go_sem, ↓reduceIte, Int.reduceLE, Int.reduceLT, Int.reduceToNat, Int.reduceNeg, Int.reduceAdd, Int.reduceSub, Int.reduceMul, Int.reduceEq, Int.reduceNe, Nat.reduceEqDiff, Nat.reduceAdd, Nat.reduceSub, Nat.reduceMul, Nat.reduceLT, Nat.reduceLeDiff, Nat.reduceBEq, Nat.reduceBNe, Try.results186, m3, h3, m8, m11, m14, h4, h18, h1, m1, h2, m2, h0])
      | (((first | refine at_region ?_ | refine at_out ?_ | refine at_cond ?_); split) <;> first | (exfalso; omega; done) | simp (config := { maxSteps := 3000000 }) (disch := first | assumption | omega | exact VG.okg (by assumption) | (simp only [List.length_set, List.length_append, List.length_cons, List.length_nil, List.length_replicate]; omega)) only [go_sem, ↓reduceIte, Int.reduceLE, Int.reduceLT, Int.reduceToNat, Int.reduceNeg, Int.reduceAdd, Int.reduceSub, Int.reduceMul, Int.reduceEq, Int.reduceNe, Nat.reduceEqDiff, Nat.reduceAdd, Nat.reduceSub, Nat.reduceMul, Nat.reduceLT, Nat.reduceLeDiff, Nat.reduceBEq, Nat.reduceBNe, Try.results186, m3, h3, m8, m11, m14, h4, h18, h1, m1, h2, m2, h0] | skip))
    exact ⟨k + 1, by rw [hnext], by rw [hnext], by rw [hnext], by rw [hnext], by omega, by omega, by omega⟩
end Go.Proofs.Ytbaholclcfpknaa.X


