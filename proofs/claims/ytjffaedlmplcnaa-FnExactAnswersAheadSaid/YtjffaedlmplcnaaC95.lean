/- What functions compute: lives of edges, spans, answers known ahead, as the program has them. -/
import Derived.Test.YtjffaedlmplcnaaC94
import Derived.Test.YtjffaedlmplcnaaC88
set_option linter.unusedSimpArgs false
set_option linter.unusedVariables false
set_option maxHeartbeats 16000000
set_option maxRecDepth 100000
namespace Go.Proofs.Ytjffaedlmplcnaa.X
open Go Go.Proofs
theorem c_LivesOf (n : Int) (ops : List Op3) (hl : ops.length ≤ 100000000) :
    KP 20 [I n, LO ops] [] = some (if (roS n ops).isSome = true then (.tup [.ref 2000 0 0 (livesS ops).length, B true], [], [.arr 0 4 ((livesS ops).map encF)]) else (.tup [.i .emp, B false], [], [])) := by
  have hov := c_OpsValid n ops hl
  by_cases hr : (roS n ops).isSome = true
  rotate_left
  · rw [if_neg hr]
    rw [Bool.not_eq_true] at hr
    rw [hr] at hov
    refine xw_call (fn := Try.f20) rfl Try.func20 rfl ⟨Nat.le_of_ble_eq_true rfl, rfl, rfl⟩ ?_
    repeat' (first
      | refine xw_seq ?_
      | refine xw_block ?_
      | (refine ite_two ?_ ?_ <;> intro _ <;> first | (exfalso; omega) | skip)
      | refine ord_split (by kernel_rfl) ?_
      | (refine xw_ret ?_ <;> try simp only [sq, bl, LQ])
      | ((first | refine xw_reg ?_ | refine xw_regd ?_ | refine xw_if ?_ | refine xw_skip ?_ | refine xw_exit ?_ | refine xw_label ?_ | refine post_ret ?_ | refine post_normal ?_ | refine postE_ret ?_ | refine postE_normal ?_ | (((first | refine at_region ?_ | refine at_out ?_ | refine at_cond ?_); split) <;> first | (exfalso; omega; done) | skip)) <;> try simp (config := { maxSteps := 3000000 }) (disch := first | assumption | omega | exact VG.okg (by assumption) | (simp only [List.length_set, List.length_append, List.length_cons, List.length_nil, List.length_replicate]; omega)) only [go_sem, ↓reduceIte, Int.reduceLE, Int.reduceLT, Int.reduceToNat, Int.reduceNeg, Int.reduceAdd, Int.reduceSub, Int.reduceMul, Int.reduceEq, Int.reduceNe, Nat.reduceEqDiff, Nat.reduceAdd, Nat.reduceSub, Nat.reduceMul, Nat.reduceLT, Nat.reduceLeDiff, Nat.reduceBEq, Nat.reduceBNe, UInt8.reduceToNat, Try.results20, hov]))
  rw [if_pos hr]
  rw [hr] at hov
  rw [← livesP_all]
  refine xw_call (fn := Try.f20) rfl Try.func20 rfl ⟨Nat.le_of_ble_eq_true rfl, rfl, rfl⟩ ?_
  repeat' (first
    | refine xw_seq ?_
    | refine xw_block ?_
    | (refine ite_two ?_ ?_ <;> intro _ <;> first | (exfalso; omega) | skip)
    | refine ord_split (by kernel_rfl) ?_
    | (refine xw_ret ?_ <;> try simp only [sq, bl, LQ])
    | ((first | refine xw_reg ?_ | refine xw_regd ?_ | refine xw_if ?_ | refine xw_skip ?_ | refine xw_exit ?_ | refine xw_label ?_ | refine post_ret ?_ | refine post_normal ?_ | refine postE_ret ?_ | refine postE_normal ?_ | (((first | refine at_region ?_ | refine at_out ?_ | refine at_cond ?_); split) <;> first | (exfalso; omega; done) | skip)) <;> try simp (config := { maxSteps := 3000000 }) (disch := first | assumption | omega | exact VG.okg (by assumption) | (simp only [List.length_set, List.length_append, List.length_cons, List.length_nil, List.length_replicate]; omega)) only [go_sem, ↓reduceIte, Int.reduceLE, Int.reduceLT, Int.reduceToNat, Int.reduceNeg, Int.reduceAdd, Int.reduceSub, Int.reduceMul, Int.reduceEq, Int.reduceNe, Nat.reduceEqDiff, Nat.reduceAdd, Nat.reduceSub, Nat.reduceMul, Nat.reduceLT, Nat.reduceLeDiff, Nat.reduceBEq, Nat.reduceBNe, UInt8.reduceToNat, Try.results20, hov]))
  refine xw_loopR (fun (w : Int × Nat) s => s.ρ 1 = LO ops ∧ s.ρ 6 = .ref 14 w.2 0 (livesP ops w.1.toNat).length ∧ s.m 14 = some (.arr w.2 4 ((livesP ops w.1.toNat).map encF)) ∧ s.ρ 15 = LO ops ∧ s.ρ 16 = I ops.length ∧ s.ρ 17 = I w.1 ∧ 0 ≤ w.1 ∧ w.1 ≤ ops.length) (fun w => (ops.length - w.1).toNat) (0, 0) ?_ ?_
  · refine ⟨?_, ?_, ?_, ?_, ?_, ?_, by simp, by simp⟩
    all_goals first | rfl | trace_state
  rintro ⟨i, v⟩ ⟨ρ, m⟩ ⟨e1, e6, m14, e15, e16, e17, g0, g1⟩
  simp only at e1 e6 m14 e15 e16 e17 g0 g1
  have hlp := livesP_len ops i.toNat
  by_cases hi : i < ops.length
  rotate_left
  · have hit : i.toNat = ops.length := by omega
    rw [hit] at e6 m14
    repeat' (first
      | refine xw_seq ?_
      | refine xw_block ?_
      | (refine ite_two ?_ ?_ <;> intro _ <;> first | (exfalso; omega) | skip)
      | refine ord_split (by kernel_rfl) ?_
      | (refine xw_ret ?_ <;> try simp only [sq, bl, LQ])
      | ((first | refine xw_reg ?_ | refine xw_regd ?_ | refine xw_if ?_ | refine xw_skip ?_ | refine xw_exit ?_ | refine xw_label ?_ | refine post_ret ?_ | refine post_normal ?_ | refine postE_ret ?_ | refine postE_normal ?_ | (((first | refine at_region ?_ | refine at_out ?_ | refine at_cond ?_); split) <;> first | (exfalso; omega; done) | skip)) <;> try simp (config := { maxSteps := 3000000 }) (disch := first | assumption | omega | exact VG.okg (by assumption) | (simp only [List.length_set, List.length_append, List.length_cons, List.length_nil, List.length_replicate]; omega)) only [go_sem, ↓reduceIte, Int.reduceLE, Int.reduceLT, Int.reduceToNat, Int.reduceNeg, Int.reduceAdd, Int.reduceSub, Int.reduceMul, Int.reduceEq, Int.reduceNe, Nat.reduceEqDiff, Nat.reduceAdd, Nat.reduceSub, Nat.reduceMul, Nat.reduceLT, Nat.reduceLeDiff, Nat.reduceBEq, Nat.reduceBNe, UInt8.reduceToNat, Try.results20, e1, e6, m14, e15, e16, e17]))
  have hgo := getO ops i.toNat (by omega)
  have hsn := livesP_snoc (ops := ops) (t := i.toNat) (by omega)
  have hi1 : i.toNat + 1 = (i + 1).toNat := by omega
  rw [hi1] at hsn
  have hee : endE ops i.toNat (ops.getD i.toNat (0, 0, 0)).2 = eF ops (i + 1).toNat (ops.getD i.toNat (0, 0, 0)).2 := by rw [eF_endE, hi1]
  generalize ops.getD i.toNat (0, 0, 0) = o at *
  obtain ⟨kd, a, b⟩ := o
  simp only at hgo hsn hee
  by_cases k1 : kd = 1
  rotate_left
  · rw [if_neg k1, List.append_nil] at hsn
    rw [← hsn] at e6 m14
    repeat' (first
      | refine xw_seq ?_
      | refine xw_block ?_
      | (refine ite_two ?_ ?_ <;> intro _ <;> first | (exfalso; omega) | skip)
      | refine ord_split (by kernel_rfl) ?_
      | (refine xw_ret ?_ <;> try simp only [sq, bl, LQ])
      | ((first | refine xw_reg ?_ | refine xw_regd ?_ | refine xw_if ?_ | refine xw_skip ?_ | refine xw_exit ?_ | refine xw_label ?_ | refine post_ret ?_ | refine post_normal ?_ | refine postE_ret ?_ | refine postE_normal ?_ | (((first | refine at_region ?_ | refine at_out ?_ | refine at_cond ?_); split) <;> first | (exfalso; omega; done) | skip)) <;> try simp (config := { maxSteps := 3000000 }) (disch := first | assumption | omega | exact VG.okg (by assumption) | (simp only [List.length_set, List.length_append, List.length_cons, List.length_nil, List.length_replicate]; omega)) only [go_sem, ↓reduceIte, Int.reduceLE, Int.reduceLT, Int.reduceToNat, Int.reduceNeg, Int.reduceAdd, Int.reduceSub, Int.reduceMul, Int.reduceEq, Int.reduceNe, Nat.reduceEqDiff, Nat.reduceAdd, Nat.reduceSub, Nat.reduceMul, Nat.reduceLT, Nat.reduceLeDiff, Nat.reduceBEq, Nat.reduceBNe, UInt8.reduceToNat, Try.results20, e1, e6, m14, e15, e16, e17, hgo, k1]))
    exact ⟨i + 1, rfl, rfl, rfl, by omega, by omega, by omega⟩
  subst k1
  rw [if_pos rfl] at hsn
  rw [hee, show ((i.toNat : Nat) : Int) = i by omega] at hsn
  have hsl := congrArg List.length hsn
  rw [List.length_append] at hsl
  generalize hA' : livesP ops (i + 1).toNat = A' at *
  generalize livesP ops i.toNat = A at *
  repeat' (first
    | refine xw_seq ?_
    | refine xw_block ?_
    | (refine ite_two ?_ ?_ <;> intro _ <;> first | (exfalso; omega) | skip)
    | refine ord_split (by kernel_rfl) ?_
    | (refine xw_ret ?_ <;> try simp only [sq, bl, LQ])
    | ((first | refine xw_reg ?_ | refine xw_regd ?_ | refine xw_if ?_ | refine xw_skip ?_ | refine xw_exit ?_ | refine xw_label ?_ | refine post_ret ?_ | refine post_normal ?_ | refine postE_ret ?_ | refine postE_normal ?_ | (((first | refine at_region ?_ | refine at_out ?_ | refine at_cond ?_); split) <;> first | (exfalso; omega; done) | skip)) <;> try simp (config := { maxSteps := 3000000 }) (disch := first | assumption | omega | exact VG.okg (by assumption) | (simp only [List.length_set, List.length_append, List.length_cons, List.length_nil, List.length_replicate]; omega)) only [go_sem, ↓reduceIte, Int.reduceLE, Int.reduceLT, Int.reduceToNat, Int.reduceNeg, Int.reduceAdd, Int.reduceSub, Int.reduceMul, Int.reduceEq, Int.reduceNe, Nat.reduceEqDiff, Nat.reduceAdd, Nat.reduceSub, Nat.reduceMul, Nat.reduceLT, Nat.reduceLeDiff, Nat.reduceBEq, Nat.reduceBNe, UInt8.reduceToNat, Try.results20, e1, e6, m14, e15, e16, e17, hgo]))
  generalize nv (m 8) = V
  refine xw_loopR (fun (t : Int) s => s.ρ 1 = LO ops ∧ s.ρ 6 = .ref 14 v 0 A.length ∧ s.m 14 = some (.arr v 4 (A.map encF)) ∧ s.ρ 15 = LO ops ∧ s.ρ 16 = I ops.length ∧ s.ρ 17 = I i ∧ s.ρ 7 = I i ∧ s.ρ 8 = .ptr 8 V 0 0 ∧ s.m 8 = some (.box V [I 1, I a, I b]) ∧ s.ρ 9 = I t ∧ i + 1 ≤ t ∧ t ≤ ops.length ∧ eF ops t.toNat (a, b) = eF ops (i + 1).toNat (a, b)) (fun t => (ops.length - t).toNat) (i + 1) ?_ ?_
  · refine ⟨?_, ?_, ?_, ?_, ?_, ?_, ?_, ?_, ?_, ?_, by omega, by omega, rfl⟩
    all_goals first | rfl | assumption | (simp [upd]; done) | trace_state
  rintro t ⟨ρ', m'⟩ ⟨f1, f6, n14, f15, f16, f17, f7, f8, n8, f9, q0, q1, q2⟩
  simp only at f1 f6 n14 f15 f16 f17 f7 f8 n8 f9 q0 q1 q2
  by_cases ht : t < ops.length
  rotate_left
  · have hte : (eF ops (i + 1).toNat (a, b) : Int) = t := by rw [← q2, eF_end (by omega)]; omega
    repeat' (first
      | refine xw_seq ?_
      | refine xw_block ?_
      | (refine ite_two ?_ ?_ <;> intro _ <;> first | (exfalso; omega) | skip)
      | refine ord_split (by kernel_rfl) ?_
      | (refine xw_ret ?_ <;> try simp only [sq, bl, LQ])
      | ((first | refine xw_reg ?_ | refine xw_regd ?_ | refine xw_if ?_ | refine xw_skip ?_ | refine xw_exit ?_ | refine xw_label ?_ | refine post_ret ?_ | refine post_normal ?_ | refine postE_ret ?_ | refine postE_normal ?_ | (((first | refine at_region ?_ | refine at_out ?_ | refine at_cond ?_); split) <;> first | (exfalso; omega; done) | skip)) <;> try simp (config := { maxSteps := 3000000 }) (disch := first | assumption | omega | exact VG.okg (by assumption) | (simp only [List.length_set, List.length_append, List.length_cons, List.length_nil, List.length_replicate]; omega)) only [go_sem, ↓reduceIte, Int.reduceLE, Int.reduceLT, Int.reduceToNat, Int.reduceNeg, Int.reduceAdd, Int.reduceSub, Int.reduceMul, Int.reduceEq, Int.reduceNe, Nat.reduceEqDiff, Nat.reduceAdd, Nat.reduceSub, Nat.reduceMul, Nat.reduceLT, Nat.reduceLeDiff, Nat.reduceBEq, Nat.reduceBNe, UInt8.reduceToNat, Try.results20, f1, f6, n14, f15, f16, f17, f7, f8, n8, f9]))
    exact ⟨i + 1, by rw [hA', hsn]; simp, by rw [hA', hsn, hte], rfl, by omega, by omega, by omega⟩
  have hgt := getO ops t.toNat (by omega)
  have hhit := eF_hit (ops := ops) (k := t.toNat) (e := (a, b)) (by omega)
  have hmis := eF_miss (ops := ops) (k := t.toNat) (e := (a, b)) (by omega)
  have ht1 : (t + 1).toNat = t.toNat + 1 := by omega
  rw [← ht1] at hmis
  generalize ops.getD t.toNat (0, 0, 0) = o at *
  obtain ⟨kk, c, d⟩ := o
  simp only at hgt
  by_cases c2 : kk = 2
  · by_cases ca : c = a
    · by_cases cb : d = b
      · subst c2; subst ca; subst cb
        have hte : (eF ops (i + 1).toNat (c, d) : Int) = t := by rw [← q2, hhit rfl]; omega
        repeat' (first
          | refine xw_seq ?_
          | refine xw_block ?_
          | (refine ite_two ?_ ?_ <;> intro _ <;> first | (exfalso; omega) | skip)
          | refine ord_split (by kernel_rfl) ?_
          | (refine xw_ret ?_ <;> try simp only [sq, bl, LQ])
          | ((first | refine xw_reg ?_ | refine xw_regd ?_ | refine xw_if ?_ | refine xw_skip ?_ | refine xw_exit ?_ | refine xw_label ?_ | refine post_ret ?_ | refine post_normal ?_ | refine postE_ret ?_ | refine postE_normal ?_ | (((first | refine at_region ?_ | refine at_out ?_ | refine at_cond ?_); split) <;> first | (exfalso; omega; done) | skip)) <;> try simp (config := { maxSteps := 3000000 }) (disch := first | assumption | omega | exact VG.okg (by assumption) | (simp only [List.length_set, List.length_append, List.length_cons, List.length_nil, List.length_replicate]; omega)) only [go_sem, ↓reduceIte, Int.reduceLE, Int.reduceLT, Int.reduceToNat, Int.reduceNeg, Int.reduceAdd, Int.reduceSub, Int.reduceMul, Int.reduceEq, Int.reduceNe, Nat.reduceEqDiff, Nat.reduceAdd, Nat.reduceSub, Nat.reduceMul, Nat.reduceLT, Nat.reduceLeDiff, Nat.reduceBEq, Nat.reduceBNe, UInt8.reduceToNat, Try.results20, f1, f6, n14, f15, f16, f17, f7, f8, n8, f9, hgt]))
        exact ⟨i + 1, by rw [hA', hsn]; simp, by rw [hA', hsn, hte], rfl, by omega, by omega, by omega⟩
      · have hh := hmis (fun h => cb (by simp only [Prod.mk.injEq] at h; exact h.2.2))
        subst c2; subst ca
        repeat' (first
          | refine xw_seq ?_
          | refine xw_block ?_
          | (refine ite_two ?_ ?_ <;> intro _ <;> first | (exfalso; omega) | skip)
          | refine ord_split (by kernel_rfl) ?_
          | (refine xw_ret ?_ <;> try simp only [sq, bl, LQ])
          | ((first | refine xw_reg ?_ | refine xw_regd ?_ | refine xw_if ?_ | refine xw_skip ?_ | refine xw_exit ?_ | refine xw_label ?_ | refine post_ret ?_ | refine post_normal ?_ | refine postE_ret ?_ | refine postE_normal ?_ | (((first | refine at_region ?_ | refine at_out ?_ | refine at_cond ?_); split) <;> first | (exfalso; omega; done) | skip)) <;> try simp (config := { maxSteps := 3000000 }) (disch := first | assumption | omega | exact VG.okg (by assumption) | (simp only [List.length_set, List.length_append, List.length_cons, List.length_nil, List.length_replicate]; omega)) only [go_sem, ↓reduceIte, Int.reduceLE, Int.reduceLT, Int.reduceToNat, Int.reduceNeg, Int.reduceAdd, Int.reduceSub, Int.reduceMul, Int.reduceEq, Int.reduceNe, Nat.reduceEqDiff, Nat.reduceAdd, Nat.reduceSub, Nat.reduceMul, Nat.reduceLT, Nat.reduceLeDiff, Nat.reduceBEq, Nat.reduceBNe, UInt8.reduceToNat, Try.results20, f1, f6, n14, f15, f16, f17, f7, f8, n8, f9, hgt, cb]))
        exact ⟨by omega, by omega, by rw [← hh]; exact q2, by omega⟩
    · have hh := hmis (fun h => ca (by simp only [Prod.mk.injEq] at h; exact h.2.1))
      subst c2
      repeat' (first
        | refine xw_seq ?_
        | refine xw_block ?_
        | (refine ite_two ?_ ?_ <;> intro _ <;> first | (exfalso; omega) | skip)
        | refine ord_split (by kernel_rfl) ?_
        | (refine xw_ret ?_ <;> try simp only [sq, bl, LQ])
        | ((first | refine xw_reg ?_ | refine xw_regd ?_ | refine xw_if ?_ | refine xw_skip ?_ | refine xw_exit ?_ | refine xw_label ?_ | refine post_ret ?_ | refine post_normal ?_ | refine postE_ret ?_ | refine postE_normal ?_ | (((first | refine at_region ?_ | refine at_out ?_ | refine at_cond ?_); split) <;> first | (exfalso; omega; done) | skip)) <;> try simp (config := { maxSteps := 3000000 }) (disch := first | assumption | omega | exact VG.okg (by assumption) | (simp only [List.length_set, List.length_append, List.length_cons, List.length_nil, List.length_replicate]; omega)) only [go_sem, ↓reduceIte, Int.reduceLE, Int.reduceLT, Int.reduceToNat, Int.reduceNeg, Int.reduceAdd, Int.reduceSub, Int.reduceMul, Int.reduceEq, Int.reduceNe, Nat.reduceEqDiff, Nat.reduceAdd, Nat.reduceSub, Nat.reduceMul, Nat.reduceLT, Nat.reduceLeDiff, Nat.reduceBEq, Nat.reduceBNe, UInt8.reduceToNat, Try.results20, f1, f6, n14, f15, f16, f17, f7, f8, n8, f9, hgt, ca]))
      exact ⟨by omega, by omega, by rw [← hh]; exact q2, by omega⟩
  · have hh := hmis (fun h => c2 (by simp only [Prod.mk.injEq] at h; exact h.1))
    repeat' (first
      | refine xw_seq ?_
      | refine xw_block ?_
      | (refine ite_two ?_ ?_ <;> intro _ <;> first | (exfalso; omega) | skip)
      | refine ord_split (by kernel_rfl) ?_
      | (refine xw_ret ?_ <;> try simp only [sq, bl, LQ])
      | ((first | refine xw_reg ?_ | refine xw_regd ?_ | refine xw_if ?_ | refine xw_skip ?_ | refine xw_exit ?_ | refine xw_label ?_ | refine post_ret ?_ | refine post_normal ?_ | refine postE_ret ?_ | refine postE_normal ?_ | (((first | refine at_region ?_ | refine at_out ?_ | refine at_cond ?_); split) <;> first | (exfalso; omega; done) | skip)) <;> try simp (config := { maxSteps := 3000000 }) (disch := first | assumption | omega | exact VG.okg (by assumption) | (simp only [List.length_set, List.length_append, List.length_cons, List.length_nil, List.length_replicate]; omega)) only [go_sem, ↓reduceIte, Int.reduceLE, Int.reduceLT, Int.reduceToNat, Int.reduceNeg, Int.reduceAdd, Int.reduceSub, Int.reduceMul, Int.reduceEq, Int.reduceNe, Nat.reduceEqDiff, Nat.reduceAdd, Nat.reduceSub, Nat.reduceMul, Nat.reduceLT, Nat.reduceLeDiff, Nat.reduceBEq, Nat.reduceBNe, UInt8.reduceToNat, Try.results20, f1, f6, n14, f15, f16, f17, f7, f8, n8, f9, hgt, c2]))
    exact ⟨by omega, by omega, by rw [← hh]; exact q2, by omega⟩
theorem c_spans : ∀ (f : Nat) (lo hi fr to : Int), 0 ≤ lo → lo < hi → hi ≤ 1000 → -1 ≤ fr → fr < to → to ≤ 1000 → (hi - lo).toNat ≤ f →
    KP 76 [I lo, I hi, I fr, I to] [] = some (if spanL f lo hi fr to = [] then (.i .emp, [], []) else (.ref 2000 0 0 (spanL f lo hi fr to).length, [], [.arr 0 4 ((spanL f lo hi fr to).map encF)]))
  | 0, lo, hi, fr, to, h0, h1, h2, h3, h4, h5, h6 => by omega
  | f + 1, lo, hi, fr, to, h0, h1, h2, h3, h4, h5, h6 => by
    by_cases c : fr ≤ lo ∧ hi ≤ to
    · have hS : spanL (f + 1) lo hi fr to = [((0, 0), lo, hi)] := by unfold spanL; rw [if_pos c]
      rw [hS, if_neg (by simp)]
      obtain ⟨c0, c1⟩ := c
      refine xw_call (fn := Try.f76) rfl Try.func76 rfl ⟨Nat.le_of_ble_eq_true rfl, rfl, rfl⟩ ?_
      repeat' (first
        | refine xw_seq ?_
        | refine xw_block ?_
        | (refine ite_two ?_ ?_ <;> intro _ <;> first | (exfalso; omega) | skip)
        | refine ord_split (by kernel_rfl) ?_
        | (refine xw_ret ?_ <;> try simp only [sq, bl, LQ])
        | ((first | refine xw_reg ?_ | refine xw_regd ?_ | refine xw_if ?_ | refine xw_skip ?_ | refine xw_exit ?_ | refine xw_label ?_ | refine post_ret ?_ | refine post_normal ?_ | refine postE_ret ?_ | refine postE_normal ?_ | (((first | refine at_region ?_ | refine at_out ?_ | refine at_cond ?_); split) <;> first | (exfalso; omega; done) | skip)) <;> try simp (config := { maxSteps := 3000000 }) (disch := first | assumption | omega | exact VG.okg (by assumption) | (simp only [List.length_set, List.length_append, List.length_cons, List.length_nil, List.length_replicate]; omega)) only [go_sem, ↓reduceIte, Int.reduceLE, Int.reduceLT, Int.reduceToNat, Int.reduceNeg, Int.reduceAdd, Int.reduceSub, Int.reduceMul, Int.reduceEq, Int.reduceNe, Nat.reduceEqDiff, Nat.reduceAdd, Nat.reduceSub, Nat.reduceMul, Nat.reduceLT, Nat.reduceLeDiff, Nat.reduceBEq, Nat.reduceBNe, UInt8.reduceToNat, Try.results76, c0, c1]))
      all_goals rfl
    by_cases d : hi ≤ fr ∨ to ≤ lo
    · have hS : spanL (f + 1) lo hi fr to = [] := by unfold spanL; rw [if_neg c, if_pos d]
      rw [hS, if_pos rfl]
      refine xw_call (fn := Try.f76) rfl Try.func76 rfl ⟨Nat.le_of_ble_eq_true rfl, rfl, rfl⟩ ?_
      by_cases c0 : fr ≤ lo
      · have c1 : ¬ hi ≤ to := fun h => c ⟨c0, h⟩
        have d0 : ¬ hi ≤ fr := by omega
        have d1 : to ≤ lo := by omega
        repeat' (first
          | refine xw_seq ?_
          | refine xw_block ?_
          | (refine ite_two ?_ ?_ <;> intro _ <;> first | (exfalso; omega) | skip)
          | refine ord_split (by kernel_rfl) ?_
          | (refine xw_ret ?_ <;> try simp only [sq, bl, LQ])
          | ((first | refine xw_reg ?_ | refine xw_regd ?_ | refine xw_if ?_ | refine xw_skip ?_ | refine xw_exit ?_ | refine xw_label ?_ | refine post_ret ?_ | refine post_normal ?_ | refine postE_ret ?_ | refine postE_normal ?_ | (((first | refine at_region ?_ | refine at_out ?_ | refine at_cond ?_); split) <;> first | (exfalso; omega; done) | skip)) <;> try simp (config := { maxSteps := 3000000 }) (disch := first | assumption | omega | exact VG.okg (by assumption) | (simp only [List.length_set, List.length_append, List.length_cons, List.length_nil, List.length_replicate]; omega)) only [go_sem, ↓reduceIte, Int.reduceLE, Int.reduceLT, Int.reduceToNat, Int.reduceNeg, Int.reduceAdd, Int.reduceSub, Int.reduceMul, Int.reduceEq, Int.reduceNe, Nat.reduceEqDiff, Nat.reduceAdd, Nat.reduceSub, Nat.reduceMul, Nat.reduceLT, Nat.reduceLeDiff, Nat.reduceBEq, Nat.reduceBNe, UInt8.reduceToNat, Try.results76, c0, c1, d0, d1]))
      · by_cases d0 : hi ≤ fr
        · repeat' (first
            | refine xw_seq ?_
            | refine xw_block ?_
            | (refine ite_two ?_ ?_ <;> intro _ <;> first | (exfalso; omega) | skip)
            | refine ord_split (by kernel_rfl) ?_
            | (refine xw_ret ?_ <;> try simp only [sq, bl, LQ])
            | ((first | refine xw_reg ?_ | refine xw_regd ?_ | refine xw_if ?_ | refine xw_skip ?_ | refine xw_exit ?_ | refine xw_label ?_ | refine post_ret ?_ | refine post_normal ?_ | refine postE_ret ?_ | refine postE_normal ?_ | (((first | refine at_region ?_ | refine at_out ?_ | refine at_cond ?_); split) <;> first | (exfalso; omega; done) | skip)) <;> try simp (config := { maxSteps := 3000000 }) (disch := first | assumption | omega | exact VG.okg (by assumption) | (simp only [List.length_set, List.length_append, List.length_cons, List.length_nil, List.length_replicate]; omega)) only [go_sem, ↓reduceIte, Int.reduceLE, Int.reduceLT, Int.reduceToNat, Int.reduceNeg, Int.reduceAdd, Int.reduceSub, Int.reduceMul, Int.reduceEq, Int.reduceNe, Nat.reduceEqDiff, Nat.reduceAdd, Nat.reduceSub, Nat.reduceMul, Nat.reduceLT, Nat.reduceLeDiff, Nat.reduceBEq, Nat.reduceBNe, UInt8.reduceToNat, Try.results76, c0, d0]))
        · exfalso; omega
    have hS : spanL (f + 1) lo hi fr to = spanL f lo ((lo + hi) / 2) fr to ++ spanL f ((lo + hi) / 2) hi fr to := by
      have : ∀ g, spanL (g + 1) lo hi fr to = if fr ≤ lo ∧ hi ≤ to then [((0, 0), lo, hi)] else if hi ≤ fr ∨ to ≤ lo then [] else spanL g lo ((lo + hi) / 2) fr to ++ spanL g ((lo + hi) / 2) hi fr to := fun _ => rfl
      rw [this, if_neg c, if_neg d]
    rw [hS]
    have i1 := c_spans f lo ((lo + hi) / 2) fr to h0 (by omega) (by omega) h3 h4 h5 (by omega)
    have i2 := c_spans f ((lo + hi) / 2) hi fr to (by omega) (by omega) (by omega) h3 h4 h5 (by omega)
    have hbA := spanL_bd (f := f) (lo := lo) (hi := (lo + hi) / 2) (fr := fr) (to := to) (by omega) (by omega)
    have hbB := spanL_bd (f := f) (lo := (lo + hi) / 2) (hi := hi) (fr := fr) (to := to) (by omega) (by omega)
    generalize hA : spanL f lo ((lo + hi) / 2) fr to = A at *
    generalize hB : spanL f ((lo + hi) / 2) hi fr to = B at *
    have hmid : (lo + hi).tdiv 2 = (lo + hi) / 2 := Int.tdiv_eq_ediv_of_nonneg (by omega)
    have d0 : ¬ hi ≤ fr := fun h => d (.inl h)
    have d1 : ¬ to ≤ lo := fun h => d (.inr h)
    by_cases a0 : A = []
    · subst a0
      rw [if_pos rfl] at i1
      by_cases b0 : B = []
      · subst b0
        rw [if_pos rfl] at i2
        rw [if_pos (by rfl)]
        refine xw_call (fn := Try.f76) rfl Try.func76 rfl ⟨Nat.le_of_ble_eq_true rfl, rfl, rfl⟩ ?_
        by_cases c0 : fr ≤ lo
        · have c1 : ¬ hi ≤ to := fun h => c ⟨c0, h⟩
          repeat' (first
            | refine xw_seq ?_
            | refine xw_block ?_
            | (refine ite_two ?_ ?_ <;> intro _ <;> first | (exfalso; omega) | skip)
            | refine ord_split (by kernel_rfl) ?_
            | (refine xw_ret ?_ <;> try simp only [sq, bl, LQ])
            | ((first | refine xw_reg ?_ | refine xw_regd ?_ | refine xw_if ?_ | refine xw_skip ?_ | refine xw_exit ?_ | refine xw_label ?_ | refine post_ret ?_ | refine post_normal ?_ | refine postE_ret ?_ | refine postE_normal ?_ | (((first | refine at_region ?_ | refine at_out ?_ | refine at_cond ?_); split) <;> first | (exfalso; omega; done) | skip)) <;> try simp (config := { maxSteps := 3000000 }) (disch := first | assumption | omega | exact VG.okg (by assumption) | (simp only [List.length_set, List.length_append, List.length_cons, List.length_nil, List.length_replicate]; omega)) only [go_sem, ↓reduceIte, Int.reduceLE, Int.reduceLT, Int.reduceToNat, Int.reduceNeg, Int.reduceAdd, Int.reduceSub, Int.reduceMul, Int.reduceEq, Int.reduceNe, Nat.reduceEqDiff, Nat.reduceAdd, Nat.reduceSub, Nat.reduceMul, Nat.reduceLT, Nat.reduceLeDiff, Nat.reduceBEq, Nat.reduceBNe, UInt8.reduceToNat, Try.results76, c0, c1, d0, d1, hmid, i1, i2]))
        · repeat' (first
            | refine xw_seq ?_
            | refine xw_block ?_
            | (refine ite_two ?_ ?_ <;> intro _ <;> first | (exfalso; omega) | skip)
            | refine ord_split (by kernel_rfl) ?_
            | (refine xw_ret ?_ <;> try simp only [sq, bl, LQ])
            | ((first | refine xw_reg ?_ | refine xw_regd ?_ | refine xw_if ?_ | refine xw_skip ?_ | refine xw_exit ?_ | refine xw_label ?_ | refine post_ret ?_ | refine post_normal ?_ | refine postE_ret ?_ | refine postE_normal ?_ | (((first | refine at_region ?_ | refine at_out ?_ | refine at_cond ?_); split) <;> first | (exfalso; omega; done) | skip)) <;> try simp (config := { maxSteps := 3000000 }) (disch := first | assumption | omega | exact VG.okg (by assumption) | (simp only [List.length_set, List.length_append, List.length_cons, List.length_nil, List.length_replicate]; omega)) only [go_sem, ↓reduceIte, Int.reduceLE, Int.reduceLT, Int.reduceToNat, Int.reduceNeg, Int.reduceAdd, Int.reduceSub, Int.reduceMul, Int.reduceEq, Int.reduceNe, Nat.reduceEqDiff, Nat.reduceAdd, Nat.reduceSub, Nat.reduceMul, Nat.reduceLT, Nat.reduceLeDiff, Nat.reduceBEq, Nat.reduceBNe, UInt8.reduceToNat, Try.results76, c0, d0, d1, hmid, i1, i2]))
      · obtain ⟨⟨⟨ya, yb⟩, yc, yd⟩, r, rfl⟩ := List.exists_cons_of_ne_nil b0
        rw [if_neg b0] at i2
        rw [List.nil_append, if_neg b0]
        rw [List.length_cons, List.map_cons] at i2 ⊢
        rw [List.length_cons] at hbB
        refine xw_call (fn := Try.f76) rfl Try.func76 rfl ⟨Nat.le_of_ble_eq_true rfl, rfl, rfl⟩ ?_
        by_cases c0 : fr ≤ lo
        · have c1 : ¬ hi ≤ to := fun h => c ⟨c0, h⟩
          repeat' (first
            | refine xw_seq ?_
            | refine xw_block ?_
            | (refine ite_two ?_ ?_ <;> intro _ <;> first | (exfalso; omega) | skip)
            | refine ord_split (by kernel_rfl) ?_
            | (refine xw_ret ?_ <;> try simp only [sq, bl, LQ])
            | ((first | refine xw_reg ?_ | refine xw_regd ?_ | refine xw_if ?_ | refine xw_skip ?_ | refine xw_exit ?_ | refine xw_label ?_ | refine post_ret ?_ | refine post_normal ?_ | refine postE_ret ?_ | refine postE_normal ?_ | (((first | refine at_region ?_ | refine at_out ?_ | refine at_cond ?_); split) <;> first | (exfalso; omega; done) | skip)) <;> try simp (config := { maxSteps := 3000000 }) (disch := first | assumption | omega | exact VG.okg (by assumption) | (simp only [List.length_set, List.length_append, List.length_cons, List.length_nil, List.length_replicate]; omega)) only [go_sem, ↓reduceIte, Int.reduceLE, Int.reduceLT, Int.reduceToNat, Int.reduceNeg, Int.reduceAdd, Int.reduceSub, Int.reduceMul, Int.reduceEq, Int.reduceNe, Nat.reduceEqDiff, Nat.reduceAdd, Nat.reduceSub, Nat.reduceMul, Nat.reduceLT, Nat.reduceLeDiff, Nat.reduceBEq, Nat.reduceBNe, UInt8.reduceToNat, Try.results76, c0, c1, d0, d1, hmid, i1, i2]))
        · repeat' (first
            | refine xw_seq ?_
            | refine xw_block ?_
            | (refine ite_two ?_ ?_ <;> intro _ <;> first | (exfalso; omega) | skip)
            | refine ord_split (by kernel_rfl) ?_
            | (refine xw_ret ?_ <;> try simp only [sq, bl, LQ])
            | ((first | refine xw_reg ?_ | refine xw_regd ?_ | refine xw_if ?_ | refine xw_skip ?_ | refine xw_exit ?_ | refine xw_label ?_ | refine post_ret ?_ | refine post_normal ?_ | refine postE_ret ?_ | refine postE_normal ?_ | (((first | refine at_region ?_ | refine at_out ?_ | refine at_cond ?_); split) <;> first | (exfalso; omega; done) | skip)) <;> try simp (config := { maxSteps := 3000000 }) (disch := first | assumption | omega | exact VG.okg (by assumption) | (simp only [List.length_set, List.length_append, List.length_cons, List.length_nil, List.length_replicate]; omega)) only [go_sem, ↓reduceIte, Int.reduceLE, Int.reduceLT, Int.reduceToNat, Int.reduceNeg, Int.reduceAdd, Int.reduceSub, Int.reduceMul, Int.reduceEq, Int.reduceNe, Nat.reduceEqDiff, Nat.reduceAdd, Nat.reduceSub, Nat.reduceMul, Nat.reduceLT, Nat.reduceLeDiff, Nat.reduceBEq, Nat.reduceBNe, UInt8.reduceToNat, Try.results76, c0, d0, d1, hmid, i1, i2]))
    · rw [if_neg a0] at i1
      rw [if_neg (show A ++ B ≠ [] from fun h => a0 (List.append_eq_nil_iff.1 h).1)]
      by_cases b0 : B = []
      · subst b0
        rw [if_pos rfl] at i2
        rw [List.append_nil]
        refine xw_call (fn := Try.f76) rfl Try.func76 rfl ⟨Nat.le_of_ble_eq_true rfl, rfl, rfl⟩ ?_
        by_cases c0 : fr ≤ lo
        · have c1 : ¬ hi ≤ to := fun h => c ⟨c0, h⟩
          repeat' (first
            | refine xw_seq ?_
            | refine xw_block ?_
            | (refine ite_two ?_ ?_ <;> intro _ <;> first | (exfalso; omega) | skip)
            | refine ord_split (by kernel_rfl) ?_
            | (refine xw_ret ?_ <;> try simp only [sq, bl, LQ])
            | ((first | refine xw_reg ?_ | refine xw_regd ?_ | refine xw_if ?_ | refine xw_skip ?_ | refine xw_exit ?_ | refine xw_label ?_ | refine post_ret ?_ | refine post_normal ?_ | refine postE_ret ?_ | refine postE_normal ?_ | (((first | refine at_region ?_ | refine at_out ?_ | refine at_cond ?_); split) <;> first | (exfalso; omega; done) | skip)) <;> try simp (config := { maxSteps := 3000000 }) (disch := first | assumption | omega | exact VG.okg (by assumption) | (simp only [List.length_set, List.length_append, List.length_cons, List.length_nil, List.length_replicate]; omega)) only [go_sem, ↓reduceIte, Int.reduceLE, Int.reduceLT, Int.reduceToNat, Int.reduceNeg, Int.reduceAdd, Int.reduceSub, Int.reduceMul, Int.reduceEq, Int.reduceNe, Nat.reduceEqDiff, Nat.reduceAdd, Nat.reduceSub, Nat.reduceMul, Nat.reduceLT, Nat.reduceLeDiff, Nat.reduceBEq, Nat.reduceBNe, UInt8.reduceToNat, Try.results76, c0, c1, d0, d1, hmid, i1, i2]))
        · repeat' (first
            | refine xw_seq ?_
            | refine xw_block ?_
            | (refine ite_two ?_ ?_ <;> intro _ <;> first | (exfalso; omega) | skip)
            | refine ord_split (by kernel_rfl) ?_
            | (refine xw_ret ?_ <;> try simp only [sq, bl, LQ])
            | ((first | refine xw_reg ?_ | refine xw_regd ?_ | refine xw_if ?_ | refine xw_skip ?_ | refine xw_exit ?_ | refine xw_label ?_ | refine post_ret ?_ | refine post_normal ?_ | refine postE_ret ?_ | refine postE_normal ?_ | (((first | refine at_region ?_ | refine at_out ?_ | refine at_cond ?_); split) <;> first | (exfalso; omega; done) | skip)) <;> try simp (config := { maxSteps := 3000000 }) (disch := first | assumption | omega | exact VG.okg (by assumption) | (simp only [List.length_set, List.length_append, List.length_cons, List.length_nil, List.length_replicate]; omega)) only [go_sem, ↓reduceIte, Int.reduceLE, Int.reduceLT, Int.reduceToNat, Int.reduceNeg, Int.reduceAdd, Int.reduceSub, Int.reduceMul, Int.reduceEq, Int.reduceNe, Nat.reduceEqDiff, Nat.reduceAdd, Nat.reduceSub, Nat.reduceMul, Nat.reduceLT, Nat.reduceLeDiff, Nat.reduceBEq, Nat.reduceBNe, UInt8.reduceToNat, Try.results76, c0, d0, d1, hmid, i1, i2]))
      · rw [if_neg b0] at i2
        refine xw_call (fn := Try.f76) rfl Try.func76 rfl ⟨Nat.le_of_ble_eq_true rfl, rfl, rfl⟩ ?_
        by_cases c0 : fr ≤ lo
        · have c1 : ¬ hi ≤ to := fun h => c ⟨c0, h⟩
          repeat' (first
            | refine xw_seq ?_
            | refine xw_block ?_
            | (refine ite_two ?_ ?_ <;> intro _ <;> first | (exfalso; omega) | skip)
            | refine ord_split (by kernel_rfl) ?_
            | (refine xw_ret ?_ <;> try simp only [sq, bl, LQ])
            | ((first | refine xw_reg ?_ | refine xw_regd ?_ | refine xw_if ?_ | refine xw_skip ?_ | refine xw_exit ?_ | refine xw_label ?_ | refine post_ret ?_ | refine post_normal ?_ | refine postE_ret ?_ | refine postE_normal ?_ | (((first | refine at_region ?_ | refine at_out ?_ | refine at_cond ?_); split) <;> first | (exfalso; omega; done) | skip)) <;> try simp (config := { maxSteps := 3000000 }) (disch := first | assumption | omega | exact VG.okg (by assumption) | (simp only [List.length_set, List.length_append, List.length_cons, List.length_nil, List.length_replicate]; omega)) only [go_sem, ↓reduceIte, Int.reduceLE, Int.reduceLT, Int.reduceToNat, Int.reduceNeg, Int.reduceAdd, Int.reduceSub, Int.reduceMul, Int.reduceEq, Int.reduceNe, Nat.reduceEqDiff, Nat.reduceAdd, Nat.reduceSub, Nat.reduceMul, Nat.reduceLT, Nat.reduceLeDiff, Nat.reduceBEq, Nat.reduceBNe, UInt8.reduceToNat, Try.results76, c0, c1, d0, d1, hmid, i1, i2]))
        · repeat' (first
            | refine xw_seq ?_
            | refine xw_block ?_
            | (refine ite_two ?_ ?_ <;> intro _ <;> first | (exfalso; omega) | skip)
            | refine ord_split (by kernel_rfl) ?_
            | (refine xw_ret ?_ <;> try simp only [sq, bl, LQ])
            | ((first | refine xw_reg ?_ | refine xw_regd ?_ | refine xw_if ?_ | refine xw_skip ?_ | refine xw_exit ?_ | refine xw_label ?_ | refine post_ret ?_ | refine post_normal ?_ | refine postE_ret ?_ | refine postE_normal ?_ | (((first | refine at_region ?_ | refine at_out ?_ | refine at_cond ?_); split) <;> first | (exfalso; omega; done) | skip)) <;> try simp (config := { maxSteps := 3000000 }) (disch := first | assumption | omega | exact VG.okg (by assumption) | (simp only [List.length_set, List.length_append, List.length_cons, List.length_nil, List.length_replicate]; omega)) only [go_sem, ↓reduceIte, Int.reduceLE, Int.reduceLT, Int.reduceToNat, Int.reduceNeg, Int.reduceAdd, Int.reduceSub, Int.reduceMul, Int.reduceEq, Int.reduceNe, Nat.reduceEqDiff, Nat.reduceAdd, Nat.reduceSub, Nat.reduceMul, Nat.reduceLT, Nat.reduceLeDiff, Nat.reduceBEq, Nat.reduceBNe, UInt8.reduceToNat, Try.results76, c0, d0, d1, hmid, i1, i2]))
theorem c_AnswersOf (n : Int) (ops : List Op3) (hl : ops.length ≤ 100000000) :
    KP 19 [I n, LO ops] [] = some (if (roS n ops).isSome = true then (.tup [.ref 2000 0 0 (anR n ops ops.length).length, B true], [], [.arr 0 1 ((anR n ops ops.length).map encT)]) else (.tup [.i .emp, B false], [], [])) := by
  obtain ⟨res, hres, hg⟩ := c_run n ops hl
  have hal := anR_len n ops ops.length
  cases hr : roS n ops with
  | none =>
    rw [hr] at hres
    simp only at hres
    subst hres
    rw [if_neg (by simp)]
    refine xw_call (fn := Try.f19) rfl Try.func19 rfl ⟨Nat.le_of_ble_eq_true rfl, rfl, rfl⟩ ?_
    repeat' (first
      | refine xw_seq ?_
      | refine xw_block ?_
      | (refine ite_two ?_ ?_ <;> intro _ <;> first | (exfalso; omega) | skip)
      | refine ord_split (by kernel_rfl) ?_
      | (refine xw_ret ?_ <;> try simp only [sq, bl, LQ])
      | ((first | refine xw_reg ?_ | refine xw_regd ?_ | refine xw_if ?_ | refine xw_skip ?_ | refine xw_exit ?_ | refine xw_label ?_ | refine post_ret ?_ | refine post_normal ?_ | refine postE_ret ?_ | refine postE_normal ?_ | (((first | refine at_region ?_ | refine at_out ?_ | refine at_cond ?_); split) <;> first | (exfalso; omega; done) | skip)) <;> try simp (config := { maxSteps := 3000000 }) (disch := first | assumption | omega | exact VG.okg (by assumption) | (simp only [List.length_set, List.length_append, List.length_cons, List.length_nil, List.length_replicate]; omega)) only [go_sem, ↓reduceIte, Int.reduceLE, Int.reduceLT, Int.reduceToNat, Int.reduceNeg, Int.reduceAdd, Int.reduceSub, Int.reduceMul, Int.reduceEq, Int.reduceNe, Nat.reduceEqDiff, Nat.reduceAdd, Nat.reduceSub, Nat.reduceMul, Nat.reduceLT, Nat.reduceLeDiff, Nat.reduceBEq, Nat.reduceBNe, UInt8.reduceToNat, Try.results19, hg]))
  | some es =>
    rw [hr] at hres
    obtain ⟨x, hx, rfl⟩ := hres
    rw [if_pos (by simp)]
    have hxl := hx.fl
    generalize anR n ops ops.length = A at *
    refine xw_call (fn := Try.f19) rfl Try.func19 rfl ⟨Nat.le_of_ble_eq_true rfl, rfl, rfl⟩ ?_
    repeat' (first
      | refine xw_seq ?_
      | refine xw_block ?_
      | (refine ite_two ?_ ?_ <;> intro _ <;> first | (exfalso; omega) | skip)
      | refine ord_split (by kernel_rfl) ?_
      | (refine xw_ret ?_ <;> try simp only [sq, bl, LQ])
      | ((first | refine xw_reg ?_ | refine xw_regd ?_ | refine xw_if ?_ | refine xw_skip ?_ | refine xw_exit ?_ | refine xw_label ?_ | refine post_ret ?_ | refine post_normal ?_ | refine postE_ret ?_ | refine postE_normal ?_ | (((first | refine at_region ?_ | refine at_out ?_ | refine at_cond ?_); split) <;> first | (exfalso; omega; done) | skip)) <;> try simp (config := { maxSteps := 3000000 }) (disch := first | assumption | omega | exact VG.okg (by assumption) | (simp only [List.length_set, List.length_append, List.length_cons, List.length_nil, List.length_replicate]; omega)) only [go_sem, ↓reduceIte, Int.reduceLE, Int.reduceLT, Int.reduceToNat, Int.reduceNeg, Int.reduceAdd, Int.reduceSub, Int.reduceMul, Int.reduceEq, Int.reduceNe, Nat.reduceEqDiff, Nat.reduceAdd, Nat.reduceSub, Nat.reduceMul, Nat.reduceLT, Nat.reduceLeDiff, Nat.reduceBEq, Nat.reduceBNe, UInt8.reduceToNat, Try.results19, hg, hxl]))
theorem c_SpansOf (size fr to : Int) (h0 : 1 ≤ size) (h1 : size ≤ 64) (h2 : 0 ≤ fr) (h3 : fr < to) (h4 : to ≤ size) :
    KP 21 [I size, I fr, I to] [] = some (.tup [.i (if spanL size.toNat 0 size fr to = [] then .emp else .lst ((spanL size.toNat 0 size fr to).map encF)), B true], [], []) := by
  have hs := c_spans size.toNat 0 size fr to (by omega) (by omega) (by omega) (by omega) h3 (by omega) (by omega)
  generalize spanL size.toNat 0 size fr to = A at *
  by_cases a0 : A = []
  · rw [if_pos a0] at hs ⊢
    refine xw_call (fn := Try.f21) rfl Try.func21 rfl ⟨Nat.le_of_ble_eq_true rfl, rfl, rfl⟩ ?_
    repeat' (first
      | refine xw_seq ?_
      | refine xw_block ?_
      | (refine ite_two ?_ ?_ <;> intro _ <;> first | (exfalso; omega) | skip)
      | refine ord_split (by kernel_rfl) ?_
      | (refine xw_ret ?_ <;> try simp only [sq, bl, LQ])
      | ((first | refine xw_reg ?_ | refine xw_regd ?_ | refine xw_if ?_ | refine xw_skip ?_ | refine xw_exit ?_ | refine xw_label ?_ | refine post_ret ?_ | refine post_normal ?_ | refine postE_ret ?_ | refine postE_normal ?_ | (((first | refine at_region ?_ | refine at_out ?_ | refine at_cond ?_); split) <;> first | (exfalso; omega; done) | skip)) <;> try simp (config := { maxSteps := 3000000 }) (disch := first | assumption | omega | exact VG.okg (by assumption) | (simp only [List.length_set, List.length_append, List.length_cons, List.length_nil, List.length_replicate]; omega)) only [go_sem, ↓reduceIte, Int.reduceLE, Int.reduceLT, Int.reduceToNat, Int.reduceNeg, Int.reduceAdd, Int.reduceSub, Int.reduceMul, Int.reduceEq, Int.reduceNe, Nat.reduceEqDiff, Nat.reduceAdd, Nat.reduceSub, Nat.reduceMul, Nat.reduceLT, Nat.reduceLeDiff, Nat.reduceBEq, Nat.reduceBNe, UInt8.reduceToNat, Try.results21, hs]))
  · rw [if_neg a0] at hs ⊢
    refine xw_call (fn := Try.f21) rfl Try.func21 rfl ⟨Nat.le_of_ble_eq_true rfl, rfl, rfl⟩ ?_
    repeat' (first
      | refine xw_seq ?_
      | refine xw_block ?_
      | (refine ite_two ?_ ?_ <;> intro _ <;> first | (exfalso; omega) | skip)
      | refine ord_split (by kernel_rfl) ?_
      | (refine xw_ret ?_ <;> try simp only [sq, bl, LQ])
      | ((first | refine xw_reg ?_ | refine xw_regd ?_ | refine xw_if ?_ | refine xw_skip ?_ | refine xw_exit ?_ | refine xw_label ?_ | refine post_ret ?_ | refine post_normal ?_ | refine postE_ret ?_ | refine postE_normal ?_ | (((first | refine at_region ?_ | refine at_out ?_ | refine at_cond ?_); split) <;> first | (exfalso; omega; done) | skip)) <;> try simp (config := { maxSteps := 3000000 }) (disch := first | assumption | omega | exact VG.okg (by assumption) | (simp only [List.length_set, List.length_append, List.length_cons, List.length_nil, List.length_replicate]; omega)) only [go_sem, ↓reduceIte, Int.reduceLE, Int.reduceLT, Int.reduceToNat, Int.reduceNeg, Int.reduceAdd, Int.reduceSub, Int.reduceMul, Int.reduceEq, Int.reduceNe, Nat.reduceEqDiff, Nat.reduceAdd, Nat.reduceSub, Nat.reduceMul, Nat.reduceLT, Nat.reduceLeDiff, Nat.reduceBEq, Nat.reduceBNe, UInt8.reduceToNat, Try.results21, hs]))
theorem workS_snoc {lvs : List Lf} {i lo hi : Int} (h0 : 0 ≤ i) (h1 : i < lvs.length) : workS (lvs.take (i + 1).toNat) lo hi = workS (lvs.take i.toNat) lo hi + spanN (hi - lo).toNat lo hi (lvs.getD i.toNat dF).2.1 (lvs.getD i.toNat dF).2.2 := by
  rw [take_int dF h0 h1, workS_app, workS_cons, workS_nil]; omega
theorem c_AnswersAhead (n : Int) (ops : List Op3) (hl : ops.length ≤ 100000000) :
    KP 16 [I n, LO ops] [] = some (if (roS n ops).isSome = true then (.tup [.ref 2000 0 0 (anR n ops ops.length).length, I (workS (livesS ops) 0 ops.length), B true], [], [.arr 0 1 ((anR n ops ops.length).map encT)]) else (.tup [.i .emp, I 0, B false], [], [])) := by
  have hlo := c_LivesOf n ops hl
  have hao := c_AnswersOf n ops hl
  by_cases hr : (roS n ops).isSome = true
  rotate_left
  · rw [if_neg hr] at hlo hao ⊢
    refine xw_call (fn := Try.f16) rfl Try.func16 rfl ⟨Nat.le_of_ble_eq_true rfl, rfl, rfl⟩ ?_
    repeat' (first
      | refine xw_seq ?_
      | refine xw_block ?_
      | (refine ite_two ?_ ?_ <;> intro _ <;> first | (exfalso; omega) | skip)
      | refine ord_split (by kernel_rfl) ?_
      | (refine xw_ret ?_ <;> try simp only [sq, bl, LQ])
      | ((first | refine xw_reg ?_ | refine xw_regd ?_ | refine xw_if ?_ | refine xw_skip ?_ | refine xw_exit ?_ | refine xw_label ?_ | refine post_ret ?_ | refine post_normal ?_ | refine postE_ret ?_ | refine postE_normal ?_ | (((first | refine at_region ?_ | refine at_out ?_ | refine at_cond ?_); split) <;> first | (exfalso; omega; done) | skip)) <;> try simp (config := { maxSteps := 3000000 }) (disch := first | assumption | omega | exact VG.okg (by assumption) | (simp only [List.length_set, List.length_append, List.length_cons, List.length_nil, List.length_replicate]; omega)) only [go_sem, ↓reduceIte, Int.reduceLE, Int.reduceLT, Int.reduceToNat, Int.reduceNeg, Int.reduceAdd, Int.reduceSub, Int.reduceMul, Int.reduceEq, Int.reduceNe, Nat.reduceEqDiff, Nat.reduceAdd, Nat.reduceSub, Nat.reduceMul, Nat.reduceLT, Nat.reduceLeDiff, Nat.reduceBEq, Nat.reduceBNe, UInt8.reduceToNat, Try.results16, hlo, hao]))
  rw [if_pos hr] at hlo hao ⊢
  have h3 : 1 ≤ n ∧ n ≤ 16 ∧ ops.length ≤ 64 := by
    unfold roS at hr
    split at hr
    · assumption
    · cases hr
  have hal := anR_len n ops ops.length
  have hll := livesS_len ops
  have hbd : ∀ l ∈ livesS ops, 0 ≤ l.2.1 ∧ l.2.1 < l.2.2 ∧ l.2.2 ≤ ops.length := fun l h => lives_bd h
  generalize anR n ops ops.length = A at *
  generalize livesS ops = L at *
  refine xw_call (fn := Try.f16) rfl Try.func16 rfl ⟨Nat.le_of_ble_eq_true rfl, rfl, rfl⟩ ?_
  repeat' (first
    | refine xw_seq ?_
    | refine xw_block ?_
    | (refine ite_two ?_ ?_ <;> intro _ <;> first | (exfalso; omega) | skip)
    | refine ord_split (by kernel_rfl) ?_
    | (refine xw_ret ?_ <;> try simp only [sq, bl, LQ])
    | ((first | refine xw_reg ?_ | refine xw_regd ?_ | refine xw_if ?_ | refine xw_skip ?_ | refine xw_exit ?_ | refine xw_label ?_ | refine post_ret ?_ | refine post_normal ?_ | refine postE_ret ?_ | refine postE_normal ?_ | (((first | refine at_region ?_ | refine at_out ?_ | refine at_cond ?_); split) <;> first | (exfalso; omega; done) | skip)) <;> try simp (config := { maxSteps := 3000000 }) (disch := first | assumption | omega | exact VG.okg (by assumption) | (simp only [List.length_set, List.length_append, List.length_cons, List.length_nil, List.length_replicate]; omega)) only [go_sem, ↓reduceIte, Int.reduceLE, Int.reduceLT, Int.reduceToNat, Int.reduceNeg, Int.reduceAdd, Int.reduceSub, Int.reduceMul, Int.reduceEq, Int.reduceNe, Nat.reduceEqDiff, Nat.reduceAdd, Nat.reduceSub, Nat.reduceMul, Nat.reduceLT, Nat.reduceLeDiff, Nat.reduceBEq, Nat.reduceBNe, UInt8.reduceToNat, Try.results16, hlo, hao]))
  refine xw_loopR (fun (i : Int) s => s.ρ 1 = LO ops ∧ s.ρ 9 = .ref 3216 0 0 A.length ∧ s.m 3216 = some (.arr 0 1 (A.map encT)) ∧ s.ρ 11 = I (workS (L.take i.toNat) 0 ops.length) ∧ s.ρ 30 = LF L ∧ s.ρ 31 = I L.length ∧ s.ρ 32 = I i ∧ 0 ≤ i ∧ i ≤ L.length) (fun i => (L.length - i).toNat) 0 ?_ ?_
  · refine ⟨?_, ?_, ?_, ?_, ?_, ?_, ?_, by simp, by simp⟩
    all_goals first | rfl | (simp [upd]; done) | trace_state
  rintro i ⟨ρ, m⟩ ⟨e1, e9, m9, e11, e30, e31, e32, g0, g1⟩
  simp only at e1 e9 m9 e11 e30 e31 e32 g0 g1
  by_cases hi : i < L.length
  rotate_left
  · rw [take_all (by omega)] at e11
    repeat' (first
      | refine xw_seq ?_
      | refine xw_block ?_
      | (refine ite_two ?_ ?_ <;> intro _ <;> first | (exfalso; omega) | skip)
      | refine ord_split (by kernel_rfl) ?_
      | (refine xw_ret ?_ <;> try simp only [sq, bl, LQ])
      | ((first | refine xw_reg ?_ | refine xw_regd ?_ | refine xw_if ?_ | refine xw_skip ?_ | refine xw_exit ?_ | refine xw_label ?_ | refine post_ret ?_ | refine post_normal ?_ | refine postE_ret ?_ | refine postE_normal ?_ | (((first | refine at_region ?_ | refine at_out ?_ | refine at_cond ?_); split) <;> first | (exfalso; omega; done) | skip)) <;> try simp (config := { maxSteps := 3000000 }) (disch := first | assumption | omega | exact VG.okg (by assumption) | (simp only [List.length_set, List.length_append, List.length_cons, List.length_nil, List.length_replicate]; omega)) only [go_sem, ↓reduceIte, Int.reduceLE, Int.reduceLT, Int.reduceToNat, Int.reduceNeg, Int.reduceAdd, Int.reduceSub, Int.reduceMul, Int.reduceEq, Int.reduceNe, Nat.reduceEqDiff, Nat.reduceAdd, Nat.reduceSub, Nat.reduceMul, Nat.reduceLT, Nat.reduceLeDiff, Nat.reduceBEq, Nat.reduceBNe, UInt8.reduceToNat, Try.results16, e1, e9, m9, e11, e30, e31, e32]))
  have hgf := getF L i.toNat (by omega)
  have hb := hbd _ (getD_mem (d := dF) (show i.toNat < L.length by omega))
  have hws := workS_snoc (lo := 0) (hi := ops.length) g0 hi
  have hwb := workS_bd (lvs := L.take i.toNat) (lo := 0) (hi := ops.length) (by omega)
  have htl : (L.take i.toNat).length ≤ 64 := by rw [List.length_take]; omega
  have hwc : ((L.take i.toNat).length : Int) * ((ops.length : Int) - 0) ≤ 64 * 64 := Int.mul_le_mul (by omega) (by omega) (by omega) (by omega)
  have hsb := spanN_bd (f := ((ops.length : Int) - 0).toNat) (lo := 0) (hi := ops.length) (fr := (L.getD i.toNat dF).2.1) (to := (L.getD i.toNat dF).2.2) (by omega) (Nat.le_refl _)
  rw [show ((ops.length : Int) - 0).toNat = (ops.length : Int).toNat by simp] at hws hsb
  generalize workS (L.take i.toNat) 0 ops.length = W at *
  generalize L.getD i.toNat dF = l at *
  obtain ⟨⟨a, b⟩, fr, to⟩ := l
  simp only at hgf hb hws hsb
  have hsp := c_SpansOf ops.length fr to (by omega) (by omega) hb.1 hb.2.1 hb.2.2
  have hsl := spanL_len (ops.length : Int).toNat 0 ops.length fr to
  rw [← hsl] at hws hsb
  generalize spanL (ops.length : Int).toNat 0 ops.length fr to = S at *
  by_cases s0 : S = []
  · subst s0
    rw [if_pos rfl] at hsp
    repeat' (first
      | refine xw_seq ?_
      | refine xw_block ?_
      | (refine ite_two ?_ ?_ <;> intro _ <;> first | (exfalso; omega) | skip)
      | refine ord_split (by kernel_rfl) ?_
      | (refine xw_ret ?_ <;> try simp only [sq, bl, LQ])
      | ((first | refine xw_reg ?_ | refine xw_regd ?_ | refine xw_if ?_ | refine xw_skip ?_ | refine xw_exit ?_ | refine xw_label ?_ | refine post_ret ?_ | refine post_normal ?_ | refine postE_ret ?_ | refine postE_normal ?_ | (((first | refine at_region ?_ | refine at_out ?_ | refine at_cond ?_); split) <;> first | (exfalso; omega; done) | skip)) <;> try simp (config := { maxSteps := 3000000 }) (disch := first | assumption | omega | exact VG.okg (by assumption) | (simp only [List.length_set, List.length_append, List.length_cons, List.length_nil, List.length_replicate]; omega)) only [go_sem, ↓reduceIte, Int.reduceLE, Int.reduceLT, Int.reduceToNat, Int.reduceNeg, Int.reduceAdd, Int.reduceSub, Int.reduceMul, Int.reduceEq, Int.reduceNe, Nat.reduceEqDiff, Nat.reduceAdd, Nat.reduceSub, Nat.reduceMul, Nat.reduceLT, Nat.reduceLeDiff, Nat.reduceBEq, Nat.reduceBNe, UInt8.reduceToNat, Try.results16, e1, e9, m9, e11, e30, e31, e32, hgf, hsp]))
    exact ⟨i + 1, by rw [hws]; rfl, rfl, by omega, by omega, by omega⟩
  · rw [if_neg s0] at hsp
    repeat' (first
      | refine xw_seq ?_
      | refine xw_block ?_
      | (refine ite_two ?_ ?_ <;> intro _ <;> first | (exfalso; omega) | skip)
      | refine ord_split (by kernel_rfl) ?_
      | (refine xw_ret ?_ <;> try simp only [sq, bl, LQ])
      | ((first | refine xw_reg ?_ | refine xw_regd ?_ | refine xw_if ?_ | refine xw_skip ?_ | refine xw_exit ?_ | refine xw_label ?_ | refine post_ret ?_ | refine post_normal ?_ | refine postE_ret ?_ | refine postE_normal ?_ | (((first | refine at_region ?_ | refine at_out ?_ | refine at_cond ?_); split) <;> first | (exfalso; omega; done) | skip)) <;> try simp (config := { maxSteps := 3000000 }) (disch := first | assumption | omega | exact VG.okg (by assumption) | (simp only [List.length_set, List.length_append, List.length_cons, List.length_nil, List.length_replicate]; omega)) only [go_sem, ↓reduceIte, Int.reduceLE, Int.reduceLT, Int.reduceToNat, Int.reduceNeg, Int.reduceAdd, Int.reduceSub, Int.reduceMul, Int.reduceEq, Int.reduceNe, Nat.reduceEqDiff, Nat.reduceAdd, Nat.reduceSub, Nat.reduceMul, Nat.reduceLT, Nat.reduceLeDiff, Nat.reduceBEq, Nat.reduceBNe, UInt8.reduceToNat, Try.results16, e1, e9, m9, e11, e30, e31, e32, hgf, hsp]))
    exact ⟨i + 1, by rw [hws], rfl, by omega, by omega, by omega⟩
end Go.Proofs.Ytjffaedlmplcnaa.X
