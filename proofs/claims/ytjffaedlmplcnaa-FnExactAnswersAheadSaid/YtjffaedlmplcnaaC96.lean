/- What functions compute: lives of edges, answers known ahead, as the reference has them. -/
import Derived.Test.YtjffaedlmplcnaaC94
import Derived.Test.YtjffaedlmplcnaaC56
set_option linter.unusedSimpArgs false
set_option linter.unusedVariables false
set_option maxHeartbeats 16000000
set_option maxRecDepth 100000
namespace Go.Proofs.Ytjffaedlmplcnaa.X
open Go Go.Proofs
theorem c_l8Lives (ops : List Op3) (hl : ops.length ≤ 100000000) : KP 72 [LO ops] [] = some (.ref 2000 0 0 (livesS ops).length, [], [.arr 0 4 ((livesS ops).map encF)]) := by
  rw [← livesP_all]
  refine xw_call (fn := Try.f72) rfl Try.func72 rfl ⟨Nat.le_of_ble_eq_true rfl, rfl, rfl⟩ ?_
  repeat' (first
    | refine xw_seq ?_
    | refine xw_block ?_
    | (refine ite_two ?_ ?_ <;> intro _ <;> first | (exfalso; omega) | skip)
    | refine ord_split (by kernel_rfl) ?_
    | (refine xw_ret ?_ <;> try simp only [sq, bl, LQ])
    | ((first | refine xw_reg ?_ | refine xw_regd ?_ | refine xw_if ?_ | refine xw_skip ?_ | refine xw_exit ?_ | refine xw_label ?_ | refine post_ret ?_ | refine post_normal ?_ | refine postE_ret ?_ | refine postE_normal ?_ | (((first | refine at_region ?_ | refine at_out ?_ | refine at_cond ?_); split) <;> first | (exfalso; omega; done) | skip)) <;> try simp (config := { maxSteps := 3000000 }) (disch := first | assumption | omega | exact VG.okg (by assumption) | (simp only [List.length_set, List.length_append, List.length_cons, List.length_nil, List.length_replicate]; omega)) only [go_sem, ↓reduceIte, Int.reduceLE, Int.reduceLT, Int.reduceToNat, Int.reduceNeg, Int.reduceAdd, Int.reduceSub, Int.reduceMul, Int.reduceEq, Int.reduceNe, Nat.reduceEqDiff, Nat.reduceAdd, Nat.reduceSub, Nat.reduceMul, Nat.reduceLT, Nat.reduceLeDiff, Nat.reduceBEq, Nat.reduceBNe, UInt8.reduceToNat, Try.results72]))
  refine xw_loopR (fun (w : Int × Nat) s => s.ρ 0 = LO ops ∧ s.ρ 3 = .ref 7 w.2 0 (livesP ops w.1.toNat).length ∧ s.m 7 = some (.arr w.2 4 ((livesP ops w.1.toNat).map encF)) ∧ s.ρ 4 = I w.1 ∧ 0 ≤ w.1 ∧ w.1 ≤ ops.length) (fun w => (ops.length - w.1).toNat) (0, 0) ?_ ?_
  · refine ⟨?_, ?_, ?_, ?_, by simp, by simp⟩
    all_goals first | rfl | trace_state
  rintro ⟨i, v⟩ ⟨ρ, m⟩ ⟨e0, e3, m7, e4, g0, g1⟩
  simp only at e0 e3 m7 e4 g0 g1
  have hlp := livesP_len ops i.toNat
  by_cases hi : i < ops.length
  rotate_left
  · have hit : i.toNat = ops.length := by omega
    rw [hit] at e3 m7
    repeat' (first
      | refine xw_seq ?_
      | refine xw_block ?_
      | (refine ite_two ?_ ?_ <;> intro _ <;> first | (exfalso; omega) | skip)
      | refine ord_split (by kernel_rfl) ?_
      | (refine xw_ret ?_ <;> try simp only [sq, bl, LQ])
      | ((first | refine xw_reg ?_ | refine xw_regd ?_ | refine xw_if ?_ | refine xw_skip ?_ | refine xw_exit ?_ | refine xw_label ?_ | refine post_ret ?_ | refine post_normal ?_ | refine postE_ret ?_ | refine postE_normal ?_ | (((first | refine at_region ?_ | refine at_out ?_ | refine at_cond ?_); split) <;> first | (exfalso; omega; done) | skip)) <;> try simp (config := { maxSteps := 3000000 }) (disch := first | assumption | omega | exact VG.okg (by assumption) | (simp only [List.length_set, List.length_append, List.length_cons, List.length_nil, List.length_replicate]; omega)) only [go_sem, ↓reduceIte, Int.reduceLE, Int.reduceLT, Int.reduceToNat, Int.reduceNeg, Int.reduceAdd, Int.reduceSub, Int.reduceMul, Int.reduceEq, Int.reduceNe, Nat.reduceEqDiff, Nat.reduceAdd, Nat.reduceSub, Nat.reduceMul, Nat.reduceLT, Nat.reduceLeDiff, Nat.reduceBEq, Nat.reduceBNe, UInt8.reduceToNat, Try.results72, e0, e3, m7, e4]))
  have hgo := getO ops i.toNat (by omega)
  have hsn := livesP_snoc (ops := ops) (t := i.toNat) (by omega)
  have hi1 : i.toNat + 1 = (i + 1).toNat := by omega
  rw [hi1] at hsn
  have hee : endE ops i.toNat (ops.getD i.toNat (0, 0, 0)).2 = eF ops (i + 1).toNat (ops.getD i.toNat (0, 0, 0)).2 := by rw [eF_endE, hi1]
  generalize ops.getD i.toNat (0, 0, 0) = o at *
  obtain ⟨kd, a, b⟩ := o
  simp only at hgo hsn hee
  by_cases k1 : kd = 1
  rotate_left
  · rw [if_neg k1, List.append_nil] at hsn
    rw [← hsn] at e3 m7
    repeat' (first
      | refine xw_seq ?_
      | refine xw_block ?_
      | (refine ite_two ?_ ?_ <;> intro _ <;> first | (exfalso; omega) | skip)
      | refine ord_split (by kernel_rfl) ?_
      | (refine xw_ret ?_ <;> try simp only [sq, bl, LQ])
      | ((first | refine xw_reg ?_ | refine xw_regd ?_ | refine xw_if ?_ | refine xw_skip ?_ | refine xw_exit ?_ | refine xw_label ?_ | refine post_ret ?_ | refine post_normal ?_ | refine postE_ret ?_ | refine postE_normal ?_ | (((first | refine at_region ?_ | refine at_out ?_ | refine at_cond ?_); split) <;> first | (exfalso; omega; done) | skip)) <;> try simp (config := { maxSteps := 3000000 }) (disch := first | assumption | omega | exact VG.okg (by assumption) | (simp only [List.length_set, List.length_append, List.length_cons, List.length_nil, List.length_replicate]; omega)) only [go_sem, ↓reduceIte, Int.reduceLE, Int.reduceLT, Int.reduceToNat, Int.reduceNeg, Int.reduceAdd, Int.reduceSub, Int.reduceMul, Int.reduceEq, Int.reduceNe, Nat.reduceEqDiff, Nat.reduceAdd, Nat.reduceSub, Nat.reduceMul, Nat.reduceLT, Nat.reduceLeDiff, Nat.reduceBEq, Nat.reduceBNe, UInt8.reduceToNat, Try.results72, e0, e3, m7, e4, hgo, k1]))
    exact ⟨i + 1, rfl, rfl, rfl, by omega, by omega, by omega⟩
  subst k1
  rw [if_pos rfl] at hsn
  rw [hee, show ((i.toNat : Nat) : Int) = i by omega] at hsn
  have hsl := congrArg List.length hsn
  rw [List.length_append] at hsl
  generalize hA' : livesP ops (i + 1).toNat = A' at *
  generalize livesP ops i.toNat = A at *
  repeat' (first
    | refine xw_seq ?_
    | refine xw_block ?_
    | (refine ite_two ?_ ?_ <;> intro _ <;> first | (exfalso; omega) | skip)
    | refine ord_split (by kernel_rfl) ?_
    | (refine xw_ret ?_ <;> try simp only [sq, bl, LQ])
    | ((first | refine xw_reg ?_ | refine xw_regd ?_ | refine xw_if ?_ | refine xw_skip ?_ | refine xw_exit ?_ | refine xw_label ?_ | refine post_ret ?_ | refine post_normal ?_ | refine postE_ret ?_ | refine postE_normal ?_ | (((first | refine at_region ?_ | refine at_out ?_ | refine at_cond ?_); split) <;> first | (exfalso; omega; done) | skip)) <;> try simp (config := { maxSteps := 3000000 }) (disch := first | assumption | omega | exact VG.okg (by assumption) | (simp only [List.length_set, List.length_append, List.length_cons, List.length_nil, List.length_replicate]; omega)) only [go_sem, ↓reduceIte, Int.reduceLE, Int.reduceLT, Int.reduceToNat, Int.reduceNeg, Int.reduceAdd, Int.reduceSub, Int.reduceMul, Int.reduceEq, Int.reduceNe, Nat.reduceEqDiff, Nat.reduceAdd, Nat.reduceSub, Nat.reduceMul, Nat.reduceLT, Nat.reduceLeDiff, Nat.reduceBEq, Nat.reduceBNe, UInt8.reduceToNat, Try.results72, e0, e3, m7, e4, hgo]))
  refine xw_loopR (fun (k : Int) s => s.ρ 0 = LO ops ∧ s.ρ 3 = .ref 7 v 0 A.length ∧ s.m 7 = some (.arr v 4 (A.map encF)) ∧ s.ρ 4 = I i ∧ s.ρ 5 = I (eF ops (k + 1).toNat (a, b)) ∧ s.ρ 6 = I k ∧ i ≤ k ∧ k < ops.length) (fun k => k.toNat) (ops.length - 1) ?_ ?_
  · have he := eF_end (ops := ops) (k := ((ops.length : Int) - 1 + 1).toNat) (e := (a, b)) (by omega)
    have he2 : (((ops.length : Int) - 1 + 1).toNat : Int) = ops.length := by omega
    refine ⟨?_, ?_, ?_, ?_, ?_, ?_, by omega, by omega⟩
    all_goals first | rfl | assumption | (rw [he, he2]; rfl) | trace_state
  rintro k ⟨ρ', m'⟩ ⟨f0, f3, n7, f4, f5, f6, q0, q1⟩
  simp only at f0 f3 n7 f4 f5 f6 q0 q1
  by_cases hk : i < k
  rotate_left
  · have hki : k = i := by omega
    subst hki
    repeat' (first
      | refine xw_seq ?_
      | refine xw_block ?_
      | (refine ite_two ?_ ?_ <;> intro _ <;> first | (exfalso; omega) | skip)
      | refine ord_split (by kernel_rfl) ?_
      | (refine xw_ret ?_ <;> try simp only [sq, bl, LQ])
      | ((first | refine xw_reg ?_ | refine xw_regd ?_ | refine xw_if ?_ | refine xw_skip ?_ | refine xw_exit ?_ | refine xw_label ?_ | refine post_ret ?_ | refine post_normal ?_ | refine postE_ret ?_ | refine postE_normal ?_ | (((first | refine at_region ?_ | refine at_out ?_ | refine at_cond ?_); split) <;> first | (exfalso; omega; done) | skip)) <;> try simp (config := { maxSteps := 3000000 }) (disch := first | assumption | omega | exact VG.okg (by assumption) | (simp only [List.length_set, List.length_append, List.length_cons, List.length_nil, List.length_replicate]; omega)) only [go_sem, ↓reduceIte, Int.reduceLE, Int.reduceLT, Int.reduceToNat, Int.reduceNeg, Int.reduceAdd, Int.reduceSub, Int.reduceMul, Int.reduceEq, Int.reduceNe, Nat.reduceEqDiff, Nat.reduceAdd, Nat.reduceSub, Nat.reduceMul, Nat.reduceLT, Nat.reduceLeDiff, Nat.reduceBEq, Nat.reduceBNe, UInt8.reduceToNat, Try.results72, f0, f3, n7, f4, f5, f6, hgo]))
    exact ⟨k + 1, by rw [hA', hsn]; simp, by rw [hA', hsn], rfl, by omega, by omega, by omega⟩
  have hgk := getO ops k.toNat (by omega)
  have hk1 : (k - 1 + 1).toNat = k.toNat := by omega
  have hk2 : (k + 1).toNat = k.toNat + 1 := by omega
  have hhit := eF_hit (ops := ops) (k := k.toNat) (e := (a, b)) (by omega)
  have hmis := eF_miss (ops := ops) (k := k.toNat) (e := (a, b)) (by omega)
  rw [← hk2, ← hk1] at hmis
  rw [← hk1] at hhit
  rw [hk1] at hhit hmis
  generalize ops.getD k.toNat (0, 0, 0) = o at *
  obtain ⟨kk, c, d⟩ := o
  simp only at hgk
  by_cases c2 : kk = 2
  · by_cases ca : c = a
    · by_cases cb : d = b
      · subst c2; subst ca; subst cb
        have hh := hhit rfl
        repeat' (first
          | refine xw_seq ?_
          | refine xw_block ?_
          | (refine ite_two ?_ ?_ <;> intro _ <;> first | (exfalso; omega) | skip)
          | refine ord_split (by kernel_rfl) ?_
          | (refine xw_ret ?_ <;> try simp only [sq, bl, LQ])
          | ((first | refine xw_reg ?_ | refine xw_regd ?_ | refine xw_if ?_ | refine xw_skip ?_ | refine xw_exit ?_ | refine xw_label ?_ | refine post_ret ?_ | refine post_normal ?_ | refine postE_ret ?_ | refine postE_normal ?_ | (((first | refine at_region ?_ | refine at_out ?_ | refine at_cond ?_); split) <;> first | (exfalso; omega; done) | skip)) <;> try simp (config := { maxSteps := 3000000 }) (disch := first | assumption | omega | exact VG.okg (by assumption) | (simp only [List.length_set, List.length_append, List.length_cons, List.length_nil, List.length_replicate]; omega)) only [go_sem, ↓reduceIte, Int.reduceLE, Int.reduceLT, Int.reduceToNat, Int.reduceNeg, Int.reduceAdd, Int.reduceSub, Int.reduceMul, Int.reduceEq, Int.reduceNe, Nat.reduceEqDiff, Nat.reduceAdd, Nat.reduceSub, Nat.reduceMul, Nat.reduceLT, Nat.reduceLeDiff, Nat.reduceBEq, Nat.reduceBNe, UInt8.reduceToNat, Try.results72, f0, f3, n7, f4, f5, f6, hgk, hgo]))
        refine ⟨k - 1, ?_, rfl, by omega, by omega, by omega⟩
        rw [hk1]; omega
      · have hh := hmis (fun h => cb (by simp only [Prod.mk.injEq] at h; exact h.2.2))
        subst c2; subst ca
        repeat' (first
          | refine xw_seq ?_
          | refine xw_block ?_
          | (refine ite_two ?_ ?_ <;> intro _ <;> first | (exfalso; omega) | skip)
          | refine ord_split (by kernel_rfl) ?_
          | (refine xw_ret ?_ <;> try simp only [sq, bl, LQ])
          | ((first | refine xw_reg ?_ | refine xw_regd ?_ | refine xw_if ?_ | refine xw_skip ?_ | refine xw_exit ?_ | refine xw_label ?_ | refine post_ret ?_ | refine post_normal ?_ | refine postE_ret ?_ | refine postE_normal ?_ | (((first | refine at_region ?_ | refine at_out ?_ | refine at_cond ?_); split) <;> first | (exfalso; omega; done) | skip)) <;> try simp (config := { maxSteps := 3000000 }) (disch := first | assumption | omega | exact VG.okg (by assumption) | (simp only [List.length_set, List.length_append, List.length_cons, List.length_nil, List.length_replicate]; omega)) only [go_sem, ↓reduceIte, Int.reduceLE, Int.reduceLT, Int.reduceToNat, Int.reduceNeg, Int.reduceAdd, Int.reduceSub, Int.reduceMul, Int.reduceEq, Int.reduceNe, Nat.reduceEqDiff, Nat.reduceAdd, Nat.reduceSub, Nat.reduceMul, Nat.reduceLT, Nat.reduceLeDiff, Nat.reduceBEq, Nat.reduceBNe, UInt8.reduceToNat, Try.results72, f0, f3, n7, f4, f5, f6, hgk, hgo, cb]))
        refine ⟨k - 1, ?_, rfl, by omega, by omega, by omega⟩
        rw [hk1]; omega
    · have hh := hmis (fun h => ca (by simp only [Prod.mk.injEq] at h; exact h.2.1))
      subst c2
      repeat' (first
        | refine xw_seq ?_
        | refine xw_block ?_
        | (refine ite_two ?_ ?_ <;> intro _ <;> first | (exfalso; omega) | skip)
        | refine ord_split (by kernel_rfl) ?_
        | (refine xw_ret ?_ <;> try simp only [sq, bl, LQ])
        | ((first | refine xw_reg ?_ | refine xw_regd ?_ | refine xw_if ?_ | refine xw_skip ?_ | refine xw_exit ?_ | refine xw_label ?_ | refine post_ret ?_ | refine post_normal ?_ | refine postE_ret ?_ | refine postE_normal ?_ | (((first | refine at_region ?_ | refine at_out ?_ | refine at_cond ?_); split) <;> first | (exfalso; omega; done) | skip)) <;> try simp (config := { maxSteps := 3000000 }) (disch := first | assumption | omega | exact VG.okg (by assumption) | (simp only [List.length_set, List.length_append, List.length_cons, List.length_nil, List.length_replicate]; omega)) only [go_sem, ↓reduceIte, Int.reduceLE, Int.reduceLT, Int.reduceToNat, Int.reduceNeg, Int.reduceAdd, Int.reduceSub, Int.reduceMul, Int.reduceEq, Int.reduceNe, Nat.reduceEqDiff, Nat.reduceAdd, Nat.reduceSub, Nat.reduceMul, Nat.reduceLT, Nat.reduceLeDiff, Nat.reduceBEq, Nat.reduceBNe, UInt8.reduceToNat, Try.results72, f0, f3, n7, f4, f5, f6, hgk, hgo, ca]))
      refine ⟨k - 1, ?_, rfl, by omega, by omega, by omega⟩
      rw [hk1]; omega
  · have hh := hmis (fun h => c2 (by simp only [Prod.mk.injEq] at h; exact h.1))
    repeat' (first
      | refine xw_seq ?_
      | refine xw_block ?_
      | (refine ite_two ?_ ?_ <;> intro _ <;> first | (exfalso; omega) | skip)
      | refine ord_split (by kernel_rfl) ?_
      | (refine xw_ret ?_ <;> try simp only [sq, bl, LQ])
      | ((first | refine xw_reg ?_ | refine xw_regd ?_ | refine xw_if ?_ | refine xw_skip ?_ | refine xw_exit ?_ | refine xw_label ?_ | refine post_ret ?_ | refine post_normal ?_ | refine postE_ret ?_ | refine postE_normal ?_ | (((first | refine at_region ?_ | refine at_out ?_ | refine at_cond ?_); split) <;> first | (exfalso; omega; done) | skip)) <;> try simp (config := { maxSteps := 3000000 }) (disch := first | assumption | omega | exact VG.okg (by assumption) | (simp only [List.length_set, List.length_append, List.length_cons, List.length_nil, List.length_replicate]; omega)) only [go_sem, ↓reduceIte, Int.reduceLE, Int.reduceLT, Int.reduceToNat, Int.reduceNeg, Int.reduceAdd, Int.reduceSub, Int.reduceMul, Int.reduceEq, Int.reduceNe, Nat.reduceEqDiff, Nat.reduceAdd, Nat.reduceSub, Nat.reduceMul, Nat.reduceLT, Nat.reduceLeDiff, Nat.reduceBEq, Nat.reduceBNe, UInt8.reduceToNat, Try.results72, f0, f3, n7, f4, f5, f6, hgk, hgo, c2]))
    refine ⟨k - 1, ?_, rfl, by omega, by omega, by omega⟩
    rw [hk1]; omega
end Go.Proofs.Ytjffaedlmplcnaa.X
