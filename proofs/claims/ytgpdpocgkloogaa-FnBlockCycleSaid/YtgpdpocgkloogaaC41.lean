/- What functions compute: edges of one block. -/
import Derived.Test.YtgpdpocgkloogaaC19
import Derived.Test.YtgpdpocgkloogaaC34
import Derived.Test.YtgpdpocgkloogaaC35
import Derived.Test.YtgpdpocgkloogaaC40
set_option linter.unusedSimpArgs false
set_option linter.unusedVariables false
set_option maxHeartbeats 8000000
namespace Go.Proofs.Ytgpdpocgkloogaa.X
open Go Go.Proofs

noncomputable instance decBlk (es : List (Int × Int)) (e f : Int × Int) : Decidable (Blk es e f) := Classical.propDecidable _
theorem findE_lt {es : List (Int × Int)} {e : Int × Int} (h : e ∈ es) : 0 ≤ findE es e ∧ findE es e < es.length ∧ eAt es (findE es e) = e := by
  obtain ⟨i, hi, he⟩ := List.mem_iff_getElem.1 h
  have hx : es.idxOf e < es.length := List.idxOf_lt_length_of_mem h
  have hf : findE es e = (es.idxOf e : Int) := by unfold findE; rw [if_pos h]
  rw [hf]
  refine ⟨by omega, by omega, ?_⟩
  unfold eAt
  rw [Int.toNat_natCast]
  simp [hx]
theorem blk_beq {es : List (Int × Int)} (hnd : es.Nodup) {e f : Int × Int} (he : e ∈ es) (hf : f ∈ es) : decide ((blkL es).getD (findE es e).toNat 0 = (blkL es).getD (findE es f).toNat 0) = decide (Blk es e f) := by
  obtain ⟨e0, e1, e2⟩ := findE_lt he
  obtain ⟨f0, f1, f2⟩ := findE_lt hf
  refine decide_eq_decide.2 ⟨fun h => ⟨_, _, ⟨e0, e1⟩, ⟨f0, f1⟩, e2, f2, (blk_iff ⟨e0, e1⟩ ⟨f0, f1⟩).1 h⟩, ?_⟩
  rintro ⟨i, k, h1, h2, h3, h4, h5⟩
  have a1 := eAt_inj hnd ⟨e0, e1⟩ h1 (e2.trans h3.symm)
  have a2 := eAt_inj hnd ⟨f0, f1⟩ h2 (f2.trans h4.symm)
  rw [a1, a2]
  exact (blk_iff h1 h2).2 h5

theorem c_SameBlock (n : Int) (es : List (Int × Int)) (e f : Int × Int) (hl : es.length ≤ 1048576) : KP 47 [GL n es, PE e.1 e.2, PE f.1 f.2] [] = some (B (decide (VG n es ∧ e ∈ es ∧ f ∈ es ∧ Blk es e f)), [], []) := by
  have he : KP 49 [GL n es, PE e.1 e.2] [] = some (B (decide (VG n es ∧ e ∈ es)), [], []) := c_HasEdge n es e.1 e.2 hl
  have hf : KP 49 [GL n es, PE f.1 f.2] [] = some (B (decide (VG n es ∧ f ∈ es)), [], []) := c_HasEdge n es f.1 f.2 hl
  by_cases h1 : VG n es ∧ e ∈ es
  rotate_left
  · rw [decide_eq_false h1] at he
    rw [decide_eq_false (fun q : VG n es ∧ e ∈ es ∧ f ∈ es ∧ Blk es e f => h1 ⟨q.1, q.2.1⟩)]
    refine xw_call (fn := Try.f47) rfl Try.func47 rfl ⟨Nat.le_of_ble_eq_true rfl, rfl, rfl⟩ ?_
    repeat' (first
      | refine xw_seq ?_
      | refine xw_block ?_
      | (refine ite_two ?_ ?_ <;> intro _ <;> first | (exfalso; omega) | skip)
      | refine ord_split (by kernel_rfl) ?_
      | (refine xw_ret ?_ <;> try simp only [sq, bl, LQ])
      | ((first | refine xw_reg ?_ | refine xw_regd ?_ | refine xw_if ?_ | refine xw_skip ?_ | refine xw_exit ?_ | refine xw_label ?_ | refine post_ret ?_ | refine post_normal ?_ | refine postE_ret ?_ | refine postE_normal ?_) <;> simp (config := { maxSteps := 3000000 }) (disch := first | assumption | omega | exact VG.okg (by assumption) | (simp only [List.length_set, List.length_append, List.length_cons, List.length_nil, List.length_replicate]; omega)) only [go_sem, ↓reduceIte, Int.reduceLE, Int.reduceLT, Int.reduceToNat, Int.reduceNeg, Int.reduceAdd, Int.reduceSub, Int.reduceMul, Int.reduceEq, Int.reduceNe, Nat.reduceEqDiff, Nat.reduceAdd, Nat.reduceSub, Nat.reduceMul, Nat.reduceLT, Nat.reduceLeDiff, Nat.reduceBEq, Nat.reduceBNe, Try.results47, he, hf])
      | (((first | refine at_region ?_ | refine at_out ?_ | refine at_cond ?_); split) <;> first | (exfalso; omega; done) | simp (config := { maxSteps := 3000000 }) (disch := first | assumption | omega | exact VG.okg (by assumption) | (simp only [List.length_set, List.length_append, List.length_cons, List.length_nil, List.length_replicate]; omega)) only [go_sem, ↓reduceIte, Int.reduceLE, Int.reduceLT, Int.reduceToNat, Int.reduceNeg, Int.reduceAdd, Int.reduceSub, Int.reduceMul, Int.reduceEq, Int.reduceNe, Nat.reduceEqDiff, Nat.reduceAdd, Nat.reduceSub, Nat.reduceMul, Nat.reduceLT, Nat.reduceLeDiff, Nat.reduceBEq, Nat.reduceBNe, Try.results47, he, hf] | skip))
  by_cases h2 : VG n es ∧ f ∈ es
  rotate_left
  · rw [decide_eq_false h2] at hf
    rw [decide_eq_true h1] at he
    rw [decide_eq_false (fun q : VG n es ∧ e ∈ es ∧ f ∈ es ∧ Blk es e f => h2 ⟨q.1, q.2.2.1⟩)]
    refine xw_call (fn := Try.f47) rfl Try.func47 rfl ⟨Nat.le_of_ble_eq_true rfl, rfl, rfl⟩ ?_
    repeat' (first
      | refine xw_seq ?_
      | refine xw_block ?_
      | (refine ite_two ?_ ?_ <;> intro _ <;> first | (exfalso; omega) | skip)
      | refine ord_split (by kernel_rfl) ?_
      | (refine xw_ret ?_ <;> try simp only [sq, bl, LQ])
      | ((first | refine xw_reg ?_ | refine xw_regd ?_ | refine xw_if ?_ | refine xw_skip ?_ | refine xw_exit ?_ | refine xw_label ?_ | refine post_ret ?_ | refine post_normal ?_ | refine postE_ret ?_ | refine postE_normal ?_) <;> simp (config := { maxSteps := 3000000 }) (disch := first | assumption | omega | exact VG.okg (by assumption) | (simp only [List.length_set, List.length_append, List.length_cons, List.length_nil, List.length_replicate]; omega)) only [go_sem, ↓reduceIte, Int.reduceLE, Int.reduceLT, Int.reduceToNat, Int.reduceNeg, Int.reduceAdd, Int.reduceSub, Int.reduceMul, Int.reduceEq, Int.reduceNe, Nat.reduceEqDiff, Nat.reduceAdd, Nat.reduceSub, Nat.reduceMul, Nat.reduceLT, Nat.reduceLeDiff, Nat.reduceBEq, Nat.reduceBNe, Try.results47, he, hf])
      | (((first | refine at_region ?_ | refine at_out ?_ | refine at_cond ?_); split) <;> first | (exfalso; omega; done) | simp (config := { maxSteps := 3000000 }) (disch := first | assumption | omega | exact VG.okg (by assumption) | (simp only [List.length_set, List.length_append, List.length_cons, List.length_nil, List.length_replicate]; omega)) only [go_sem, ↓reduceIte, Int.reduceLE, Int.reduceLT, Int.reduceToNat, Int.reduceNeg, Int.reduceAdd, Int.reduceSub, Int.reduceMul, Int.reduceEq, Int.reduceNe, Nat.reduceEqDiff, Nat.reduceAdd, Nat.reduceSub, Nat.reduceMul, Nat.reduceLT, Nat.reduceLeDiff, Nat.reduceBEq, Nat.reduceBNe, Try.results47, he, hf] | skip))
  rw [decide_eq_true h1] at he
  rw [decide_eq_true h2] at hf
  have hb := c_blocks n es h1.1.okg h1.1.nodup
  have hbl := blkL_length es
  have hbq := blk_beq h1.1.nodup h1.2 h2.2
  obtain ⟨e0, e1, -⟩ := findE_lt h1.2
  obtain ⟨f0, f1, -⟩ := findE_lt h2.2
  have hee : ((e.1, e.2) : Int × Int) = e := rfl
  have hff : ((f.1, f.2) : Int × Int) = f := rfl
  have hR : decide (VG n es ∧ e ∈ es ∧ f ∈ es ∧ Blk es e f) = decide (Blk es e f) := decide_eq_decide.2 ⟨fun q => q.2.2.2, fun q => ⟨h1.1, h1.2, h2.2, q⟩⟩
  rw [hR, ← hbq]
  generalize blkL es = L at hb hbl
  refine xw_call (fn := Try.f47) rfl Try.func47 rfl ⟨Nat.le_of_ble_eq_true rfl, rfl, rfl⟩ ?_
  repeat' (first
    | refine xw_seq ?_
    | refine xw_block ?_
    | (refine ite_two ?_ ?_ <;> intro _ <;> first | (exfalso; omega) | skip)
    | refine ord_split (by kernel_rfl) ?_
    | (refine xw_ret ?_ <;> try simp only [sq, bl, LQ])
    | ((first | refine xw_reg ?_ | refine xw_regd ?_ | refine xw_if ?_ | refine xw_skip ?_ | refine xw_exit ?_ | refine xw_label ?_ | refine post_ret ?_ | refine post_normal ?_ | refine postE_ret ?_ | refine postE_normal ?_) <;> simp (config := { maxSteps := 3000000 }) (disch := first | assumption | omega | exact VG.okg (by assumption) | (simp only [List.length_set, List.length_append, List.length_cons, List.length_nil, List.length_replicate]; omega)) only [go_sem, ↓reduceIte, Int.reduceLE, Int.reduceLT, Int.reduceToNat, Int.reduceNeg, Int.reduceAdd, Int.reduceSub, Int.reduceMul, Int.reduceEq, Int.reduceNe, Nat.reduceEqDiff, Nat.reduceAdd, Nat.reduceSub, Nat.reduceMul, Nat.reduceLT, Nat.reduceLeDiff, Nat.reduceBEq, Nat.reduceBNe, Try.results47, he, hf, hb, hee, hff])
    | (((first | refine at_region ?_ | refine at_out ?_ | refine at_cond ?_); split) <;> first | (exfalso; omega; done) | simp (config := { maxSteps := 3000000 }) (disch := first | assumption | omega | exact VG.okg (by assumption) | (simp only [List.length_set, List.length_append, List.length_cons, List.length_nil, List.length_replicate]; omega)) only [go_sem, ↓reduceIte, Int.reduceLE, Int.reduceLT, Int.reduceToNat, Int.reduceNeg, Int.reduceAdd, Int.reduceSub, Int.reduceMul, Int.reduceEq, Int.reduceNe, Nat.reduceEqDiff, Nat.reduceAdd, Nat.reduceSub, Nat.reduceMul, Nat.reduceLT, Nat.reduceLeDiff, Nat.reduceBEq, Nat.reduceBNe, Try.results47, he, hf, hb, hee, hff] | skip))
  all_goals trace_state
  all_goals sorry

theorem c_sSameBlock (n : Int) (es : List (Int × Int)) (e f : Int × Int) (hl : es.length ≤ 1048576) : KP 48 [GL n es, PE e.1 e.2, PE f.1 f.2] [] = some (B (decide (VG n es ∧ e ∈ es ∧ f ∈ es ∧ Blk es e f)), [], []) := by
  have he : KP 79 [GL n es, PE e.1 e.2] [] = some (B (decide (VG n es ∧ e ∈ es)), [], []) := c_sHasEdge n e.1 e.2 es hl
  have hf : KP 79 [GL n es, PE f.1 f.2] [] = some (B (decide (VG n es ∧ f ∈ es)), [], []) := c_sHasEdge n f.1 f.2 es hl
  by_cases h1 : VG n es ∧ e ∈ es
  rotate_left
  · rw [decide_eq_false h1] at he
    rw [decide_eq_false (fun q : VG n es ∧ e ∈ es ∧ f ∈ es ∧ Blk es e f => h1 ⟨q.1, q.2.1⟩)]
    refine xw_call (fn := Try.f48) rfl Try.func48 rfl ⟨Nat.le_of_ble_eq_true rfl, rfl, rfl⟩ ?_
    repeat' (first
      | refine xw_seq ?_
      | refine xw_block ?_
      | (refine ite_two ?_ ?_ <;> intro _ <;> first | (exfalso; omega) | skip)
      | refine ord_split (by kernel_rfl) ?_
      | (refine xw_ret ?_ <;> try simp only [sq, bl, LQ])
      | ((first | refine xw_reg ?_ | refine xw_regd ?_ | refine xw_if ?_ | refine xw_skip ?_ | refine xw_exit ?_ | refine xw_label ?_ | refine post_ret ?_ | refine post_normal ?_ | refine postE_ret ?_ | refine postE_normal ?_) <;> simp (config := { maxSteps := 3000000 }) (disch := first | assumption | omega | exact VG.okg (by assumption) | (simp only [List.length_set, List.length_append, List.length_cons, List.length_nil, List.length_replicate]; omega)) only [go_sem, ↓reduceIte, Int.reduceLE, Int.reduceLT, Int.reduceToNat, Int.reduceNeg, Int.reduceAdd, Int.reduceSub, Int.reduceMul, Int.reduceEq, Int.reduceNe, Nat.reduceEqDiff, Nat.reduceAdd, Nat.reduceSub, Nat.reduceMul, Nat.reduceLT, Nat.reduceLeDiff, Nat.reduceBEq, Nat.reduceBNe, Try.results48, he, hf])
      | (((first | refine at_region ?_ | refine at_out ?_ | refine at_cond ?_); split) <;> first | (exfalso; omega; done) | simp (config := { maxSteps := 3000000 }) (disch := first | assumption | omega | exact VG.okg (by assumption) | (simp only [List.length_set, List.length_append, List.length_cons, List.length_nil, List.length_replicate]; omega)) only [go_sem, ↓reduceIte, Int.reduceLE, Int.reduceLT, Int.reduceToNat, Int.reduceNeg, Int.reduceAdd, Int.reduceSub, Int.reduceMul, Int.reduceEq, Int.reduceNe, Nat.reduceEqDiff, Nat.reduceAdd, Nat.reduceSub, Nat.reduceMul, Nat.reduceLT, Nat.reduceLeDiff, Nat.reduceBEq, Nat.reduceBNe, Try.results48, he, hf] | skip))
  by_cases h2 : VG n es ∧ f ∈ es
  rotate_left
  · rw [decide_eq_false h2] at hf
    rw [decide_eq_true h1] at he
    rw [decide_eq_false (fun q : VG n es ∧ e ∈ es ∧ f ∈ es ∧ Blk es e f => h2 ⟨q.1, q.2.2.1⟩)]
    refine xw_call (fn := Try.f48) rfl Try.func48 rfl ⟨Nat.le_of_ble_eq_true rfl, rfl, rfl⟩ ?_
    repeat' (first
      | refine xw_seq ?_
      | refine xw_block ?_
      | (refine ite_two ?_ ?_ <;> intro _ <;> first | (exfalso; omega) | skip)
      | refine ord_split (by kernel_rfl) ?_
      | (refine xw_ret ?_ <;> try simp only [sq, bl, LQ])
      | ((first | refine xw_reg ?_ | refine xw_regd ?_ | refine xw_if ?_ | refine xw_skip ?_ | refine xw_exit ?_ | refine xw_label ?_ | refine post_ret ?_ | refine post_normal ?_ | refine postE_ret ?_ | refine postE_normal ?_) <;> simp (config := { maxSteps := 3000000 }) (disch := first | assumption | omega | exact VG.okg (by assumption) | (simp only [List.length_set, List.length_append, List.length_cons, List.length_nil, List.length_replicate]; omega)) only [go_sem, ↓reduceIte, Int.reduceLE, Int.reduceLT, Int.reduceToNat, Int.reduceNeg, Int.reduceAdd, Int.reduceSub, Int.reduceMul, Int.reduceEq, Int.reduceNe, Nat.reduceEqDiff, Nat.reduceAdd, Nat.reduceSub, Nat.reduceMul, Nat.reduceLT, Nat.reduceLeDiff, Nat.reduceBEq, Nat.reduceBNe, Try.results48, he, hf])
      | (((first | refine at_region ?_ | refine at_out ?_ | refine at_cond ?_); split) <;> first | (exfalso; omega; done) | simp (config := { maxSteps := 3000000 }) (disch := first | assumption | omega | exact VG.okg (by assumption) | (simp only [List.length_set, List.length_append, List.length_cons, List.length_nil, List.length_replicate]; omega)) only [go_sem, ↓reduceIte, Int.reduceLE, Int.reduceLT, Int.reduceToNat, Int.reduceNeg, Int.reduceAdd, Int.reduceSub, Int.reduceMul, Int.reduceEq, Int.reduceNe, Nat.reduceEqDiff, Nat.reduceAdd, Nat.reduceSub, Nat.reduceMul, Nat.reduceLT, Nat.reduceLeDiff, Nat.reduceBEq, Nat.reduceBNe, Try.results48, he, hf] | skip))
  rw [decide_eq_true h1] at he
  rw [decide_eq_true h2] at hf
  have hb := c_l5Labels n es h1.1.okg h1.1.nodup
  have hbl := blkL_length es
  have hbq := blk_beq h1.1.nodup h1.2 h2.2
  obtain ⟨e0, e1, -⟩ := findE_lt h1.2
  obtain ⟨f0, f1, -⟩ := findE_lt h2.2
  have hee : ((e.1, e.2) : Int × Int) = e := rfl
  have hff : ((f.1, f.2) : Int × Int) = f := rfl
  have hR : decide (VG n es ∧ e ∈ es ∧ f ∈ es ∧ Blk es e f) = decide (Blk es e f) := decide_eq_decide.2 ⟨fun q => q.2.2.2, fun q => ⟨h1.1, h1.2, h2.2, q⟩⟩
  rw [hR, ← hbq]
  generalize blkL es = L at hb hbl
  refine xw_call (fn := Try.f48) rfl Try.func48 rfl ⟨Nat.le_of_ble_eq_true rfl, rfl, rfl⟩ ?_
  repeat' (first
    | refine xw_seq ?_
    | refine xw_block ?_
    | (refine ite_two ?_ ?_ <;> intro _ <;> first | (exfalso; omega) | skip)
    | refine ord_split (by kernel_rfl) ?_
    | (refine xw_ret ?_ <;> try simp only [sq, bl, LQ])
    | ((first | refine xw_reg ?_ | refine xw_regd ?_ | refine xw_if ?_ | refine xw_skip ?_ | refine xw_exit ?_ | refine xw_label ?_ | refine post_ret ?_ | refine post_normal ?_ | refine postE_ret ?_ | refine postE_normal ?_) <;> simp (config := { maxSteps := 3000000 }) (disch := first | assumption | omega | exact VG.okg (by assumption) | (simp only [List.length_set, List.length_append, List.length_cons, List.length_nil, List.length_replicate]; omega)) only [go_sem, ↓reduceIte, Int.reduceLE, Int.reduceLT, Int.reduceToNat, Int.reduceNeg, Int.reduceAdd, Int.reduceSub, Int.reduceMul, Int.reduceEq, Int.reduceNe, Nat.reduceEqDiff, Nat.reduceAdd, Nat.reduceSub, Nat.reduceMul, Nat.reduceLT, Nat.reduceLeDiff, Nat.reduceBEq, Nat.reduceBNe, Try.results48, he, hf, hb, hee, hff])
    | (((first | refine at_region ?_ | refine at_out ?_ | refine at_cond ?_); split) <;> first | (exfalso; omega; done) | simp (config := { maxSteps := 3000000 }) (disch := first | assumption | omega | exact VG.okg (by assumption) | (simp only [List.length_set, List.length_append, List.length_cons, List.length_nil, List.length_replicate]; omega)) only [go_sem, ↓reduceIte, Int.reduceLE, Int.reduceLT, Int.reduceToNat, Int.reduceNeg, Int.reduceAdd, Int.reduceSub, Int.reduceMul, Int.reduceEq, Int.reduceNe, Nat.reduceEqDiff, Nat.reduceAdd, Nat.reduceSub, Nat.reduceMul, Nat.reduceLT, Nat.reduceLeDiff, Nat.reduceBEq, Nat.reduceBNe, Try.results48, he, hf, hb, hee, hff] | skip))
  all_goals trace_state
  all_goals sorry
end Go.Proofs.Ytgpdpocgkloogaa.X

