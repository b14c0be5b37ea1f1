/- The law: cycles lead back. -/
import Derived.Test.YtlahjdgcgfgifaaC17
import Derived.Test.YtlahjdgcgfgifaaC19
import Derived.Test.YtlahjdgcgfgifaaC20
import Derived.Test.YtlahjdgcgfgifaaC21
set_option linter.unusedSimpArgs false
set_option linter.unusedVariables false
set_option maxHeartbeats 4000000
namespace Go.Proofs.Ytlahjdgcgfgifaa.X
open Go Go.Proofs

theorem law_CycleThrough (bs : List Int) (hb : ∀ b ∈ bs, 0 ≤ b ∧ b < 256) : KP 10 [LB bs] [] = some (B true, [], []) := by
  by_cases hbig : (1048576 : Int) < bs.length
  · refine xw_call (fn := Try.f10) rfl Try.func10 rfl ⟨Nat.le_of_ble_eq_true rfl, rfl, rfl⟩ ?_
    repeat' (first
      | refine xw_seq ?_
      | refine xw_block ?_
      | (refine ite_two ?_ ?_ <;> intro _ <;> first | (exfalso; omega) | skip)
      | refine ord_split (by kernel_rfl) ?_
      | (refine xw_ret ?_ <;> try simp only [sq, bl, LQ])
      | ((first | refine xw_reg ?_ | refine xw_regd ?_ | refine xw_if ?_ | refine xw_skip ?_ | refine xw_exit ?_ | refine xw_label ?_ | refine post_ret ?_ | refine post_normal ?_ | refine postE_ret ?_ | refine postE_normal ?_) <;> simp (config := { maxSteps := 3000000 }) (disch := first | assumption | omega | exact VG.okg (by assumption) | (simp only [List.length_set, List.length_append, List.length_cons, List.length_nil, List.length_replicate]; omega)) only [go_sem, ↓reduceIte, Int.reduceLE, Int.reduceLT, Int.reduceToNat, Int.reduceNeg, Int.reduceAdd, Int.reduceSub, Int.reduceMul, Int.reduceEq, Int.reduceNe, Nat.reduceEqDiff, Nat.reduceAdd, Nat.reduceSub, Nat.reduceMul, Nat.reduceLT, Nat.reduceLeDiff, Nat.reduceBEq, Nat.reduceBNe, Try.results10])
      | (((first | refine at_region ?_ | refine at_out ?_ | refine at_cond ?_); split) <;> first | (exfalso; omega; done) | simp (config := { maxSteps := 3000000 }) (disch := first | assumption | omega | exact VG.okg (by assumption) | (simp only [List.length_set, List.length_append, List.length_cons, List.length_nil, List.length_replicate]; omega)) only [go_sem, ↓reduceIte, Int.reduceLE, Int.reduceLT, Int.reduceToNat, Int.reduceNeg, Int.reduceAdd, Int.reduceSub, Int.reduceMul, Int.reduceEq, Int.reduceNe, Nat.reduceEqDiff, Nat.reduceAdd, Nat.reduceSub, Nat.reduceMul, Nat.reduceLT, Nat.reduceLeDiff, Nat.reduceBEq, Nat.reduceBNe, Try.results10] | skip))
  obtain ⟨n, x, es, a, b, n0, n1, hl, hx, hdraw⟩ := c_DrawCycleThrough bs hb (by omega)
  have hf := hx.f
  have hfl := hx.fl
  have hp := c_CycleThrough n a b es (by omega)
  have hs := c_sCycleThrough n a b es (by omega)
  have hcl := cutE_len (a, b) es
  by_cases hV : VG n es ∧ (a, b) ∈ es ∧ Conn (cutE (a, b) es) a b
  rotate_left
  · rw [if_neg hV] at hp hs
    have hd := c_dyInts_nil
    refine xw_call (fn := Try.f10) rfl Try.func10 rfl ⟨Nat.le_of_ble_eq_true rfl, rfl, rfl⟩ ?_
    repeat' (first
      | refine xw_seq ?_
      | refine xw_block ?_
      | (refine ite_two ?_ ?_ <;> intro _ <;> first | (exfalso; omega) | skip)
      | refine ord_split (by kernel_rfl) ?_
      | (refine xw_ret ?_ <;> try simp only [sq, bl, LQ])
      | ((first | refine xw_reg ?_ | refine xw_regd ?_ | refine xw_if ?_ | refine xw_skip ?_ | refine xw_exit ?_ | refine xw_label ?_ | refine post_ret ?_ | refine post_normal ?_ | refine postE_ret ?_ | refine postE_normal ?_) <;> simp (config := { maxSteps := 3000000 }) (disch := first | assumption | omega | exact VG.okg (by assumption) | (simp only [List.length_set, List.length_append, List.length_cons, List.length_nil, List.length_replicate]; omega)) only [go_sem, ↓reduceIte, Int.reduceLE, Int.reduceLT, Int.reduceToNat, Int.reduceNeg, Int.reduceAdd, Int.reduceSub, Int.reduceMul, Int.reduceEq, Int.reduceNe, Nat.reduceEqDiff, Nat.reduceAdd, Nat.reduceSub, Nat.reduceMul, Nat.reduceLT, Nat.reduceLeDiff, Nat.reduceBEq, Nat.reduceBNe, Try.results10, hdraw, hf, hfl, hp, hs, hd, List.map_nil])
      | (((first | refine at_region ?_ | refine at_out ?_ | refine at_cond ?_); split) <;> first | (exfalso; omega; done) | simp (config := { maxSteps := 3000000 }) (disch := first | assumption | omega | exact VG.okg (by assumption) | (simp only [List.length_set, List.length_append, List.length_cons, List.length_nil, List.length_replicate]; omega)) only [go_sem, ↓reduceIte, Int.reduceLE, Int.reduceLT, Int.reduceToNat, Int.reduceNeg, Int.reduceAdd, Int.reduceSub, Int.reduceMul, Int.reduceEq, Int.reduceNe, Nat.reduceEqDiff, Nat.reduceAdd, Nat.reduceSub, Nat.reduceMul, Nat.reduceLT, Nat.reduceLeDiff, Nat.reduceBEq, Nat.reduceBNe, Try.results10, hdraw, hf, hfl, hp, hs, hd, List.map_nil] | skip))
  rw [if_pos hV] at hp hs
  obtain ⟨hG, hme, hc⟩ := hV
  have ho := hG.okg.ok
  have ho' : ∀ f ∈ cutE (a, b) es, okE n f := fun f hf => ho f (cutE_mem.1 hf).1
  have hoe := ho _ hme
  unfold okE at hoe; simp only at hoe
  have hn16 := hG.2.1
  have hle := dst_le (t := b) (x := a) ho' (show 0 ≤ n by omega)
  have hlen : (pathL n (cutE (a, b) es) a b).length = (dst n (cutE (a, b) es) b a).toNat + 1 := pathL_len
  have hz : (pathL n (cutE (a, b) es) a b).getD 0 0 = a := pathL_zero
  have hla := pathL_last ho' (show 0 ≤ n by omega) hc (i := ((pathL n (cutE (a, b) es) a b).length - 1)) (by omega)
  have hw := pathL_walk ho' (show 0 ≤ n by omega) hc
  generalize pathL n (cutE (a, b) es) a b = p at *
  have hstep : ∀ i, i + 1 < p.length → p.getD i 0 ≠ p.getD (i + 1) 0 ∧ edgeOf (p.getD i 0) (p.getD (i + 1) 0) ∈ es ∧ edgeOf (p.getD i 0) (p.getD (i + 1) 0) ≠ (a, b) := fun i hi => by
    obtain ⟨h1, h2⟩ := (adj_edge ho').1 (hw i hi)
    exact ⟨h1, cutE_mem.1 h2⟩
  have h3 : 3 ≤ p.length := by
    refine Classical.byContradiction fun hlt => ?_
    by_cases h1 : p.length = 1
    · rw [show p.length - 1 = 0 by omega, hz] at hla; omega
    · have h2 : p.length = 2 := by omega
      have h4 := (hstep 0 (by omega)).2.2
      rw [hz, show (0 : Nat) + 1 = p.length - 1 by omega, hla] at h4
      exact h4 (edgeOf_of (e := (a, b)) (ho _ hme)).1
  have hd := c_dyInts p p (by omega)
  refine xw_call (fn := Try.f10) rfl Try.func10 rfl ⟨Nat.le_of_ble_eq_true rfl, rfl, rfl⟩ ?_
  repeat' (first
    | refine xw_seq ?_
    | refine xw_block ?_
    | (refine ite_two ?_ ?_ <;> intro _ <;> first | (exfalso; omega) | skip)
    | refine ord_split (by kernel_rfl) ?_
    | (refine xw_ret ?_ <;> try simp only [sq, bl, LQ])
    | ((first | refine xw_reg ?_ | refine xw_regd ?_ | refine xw_if ?_ | refine xw_skip ?_ | refine xw_exit ?_ | refine xw_label ?_ | refine post_ret ?_ | refine post_normal ?_ | refine postE_ret ?_ | refine postE_normal ?_) <;> simp (config := { maxSteps := 3000000 }) (disch := first | assumption | omega | exact VG.okg (by assumption) | (simp only [List.length_set, List.length_append, List.length_cons, List.length_nil, List.length_replicate]; omega)) only [go_sem, ↓reduceIte, Int.reduceLE, Int.reduceLT, Int.reduceToNat, Int.reduceNeg, Int.reduceAdd, Int.reduceSub, Int.reduceMul, Int.reduceEq, Int.reduceNe, Nat.reduceEqDiff, Nat.reduceAdd, Nat.reduceSub, Nat.reduceMul, Nat.reduceLT, Nat.reduceLeDiff, Nat.reduceBEq, Nat.reduceBNe, Try.results10, hdraw, hf, hfl, hp, hs, hd, decide_true])
    | (((first | refine at_region ?_ | refine at_out ?_ | refine at_cond ?_); split) <;> first | (exfalso; omega; done) | simp (config := { maxSteps := 3000000 }) (disch := first | assumption | omega | exact VG.okg (by assumption) | (simp only [List.length_set, List.length_append, List.length_cons, List.length_nil, List.length_replicate]; omega)) only [go_sem, ↓reduceIte, Int.reduceLE, Int.reduceLT, Int.reduceToNat, Int.reduceNeg, Int.reduceAdd, Int.reduceSub, Int.reduceMul, Int.reduceEq, Int.reduceNe, Nat.reduceEqDiff, Nat.reduceAdd, Nat.reduceSub, Nat.reduceMul, Nat.reduceLT, Nat.reduceLeDiff, Nat.reduceBEq, Nat.reduceBNe, Try.results10, hdraw, hf, hfl, hp, hs, hd, decide_true] | skip))
  refine xw_loopR (fun (i : Int) s => s.m 3 = some (.box 0 [I n, .i x]) ∧ s.ρ 3 = .ptr 3 0 0 0 ∧ s.m 4 = some (.box 0 [I a, I b]) ∧ s.ρ 4 = .ptr 4 0 0 0 ∧ s.ρ 5 = LI p ∧ s.ρ 9 = I i ∧ 1 ≤ i ∧ i ≤ p.length) (fun i => (p.length - i).toNat) 1 (by refine ⟨?_, ?_, ?_, ?_, ?_, ?_, by omega, by omega⟩ <;> simp [upd]) ?_
  rintro i ⟨ρ, m⟩ ⟨m3, h3', m4, h4, h5, h9, g0, g1⟩
  simp only at m3 h3' m4 h4 h5 h9 g0 g1
  by_cases hi : i < p.length
  · obtain ⟨k1, k2, k3⟩ := hstep (i - 1).toNat (by omega)
    rw [show (i - 1).toNat + 1 = i.toNat by omega] at k1 k2 k3
    have hok1 := (hw (i - 1).toNat (by omega)).ok ho'
    rw [show (i - 1).toNat + 1 = i.toNat by omega] at hok1
    have hok : eOk (p.getD (i - 1).toNat 0) (p.getD i.toNat 0) := by unfold eOk; omega
    have k4 : ¬ ((edgeOf (p.getD (i - 1).toNat 0) (p.getD i.toNat 0)).1 = a ∧ (edgeOf (p.getD (i - 1).toNat 0) (p.getD i.toNat 0)).2 = b) := fun h => k3 (Prod.ext h.1 h.2)
    repeat' (first
      | refine xw_seq ?_
      | refine xw_block ?_
      | (refine ite_two ?_ ?_ <;> intro _ <;> first | (exfalso; omega) | skip)
      | refine ord_split (by kernel_rfl) ?_
      | (refine xw_ret ?_ <;> try simp only [sq, bl, LQ])
      | ((first | refine xw_reg ?_ | refine xw_regd ?_ | refine xw_if ?_ | refine xw_skip ?_ | refine xw_exit ?_ | refine xw_label ?_ | refine post_ret ?_ | refine post_normal ?_ | refine postE_ret ?_ | refine postE_normal ?_) <;> simp (config := { maxSteps := 3000000 }) (disch := first | assumption | omega | exact VG.okg (by assumption) | (simp only [List.length_set, List.length_append, List.length_cons, List.length_nil, List.length_replicate]; omega)) only [go_sem, ↓reduceIte, Int.reduceLE, Int.reduceLT, Int.reduceToNat, Int.reduceNeg, Int.reduceAdd, Int.reduceSub, Int.reduceMul, Int.reduceEq, Int.reduceNe, Nat.reduceEqDiff, Nat.reduceAdd, Nat.reduceSub, Nat.reduceMul, Nat.reduceLT, Nat.reduceLeDiff, Nat.reduceBEq, Nat.reduceBNe, Try.results10, m3, h3', m4, h4, h5, h9, hf, hfl])
      | (((first | refine at_region ?_ | refine at_out ?_ | refine at_cond ?_); split) <;> first | (exfalso; omega; done) | simp (config := { maxSteps := 3000000 }) (disch := first | assumption | omega | exact VG.okg (by assumption) | (simp only [List.length_set, List.length_append, List.length_cons, List.length_nil, List.length_replicate]; omega)) only [go_sem, ↓reduceIte, Int.reduceLE, Int.reduceLT, Int.reduceToNat, Int.reduceNeg, Int.reduceAdd, Int.reduceSub, Int.reduceMul, Int.reduceEq, Int.reduceNe, Nat.reduceEqDiff, Nat.reduceAdd, Nat.reduceSub, Nat.reduceMul, Nat.reduceLT, Nat.reduceLeDiff, Nat.reduceBEq, Nat.reduceBNe, Try.results10, m3, h3', m4, h4, h5, h9, hf, hfl] | skip))
    all_goals first | omega | (exfalso; exact k4 (by assumption)) | (exfalso; exact k4 ⟨by assumption, by assumption⟩)
  · have e1 : ((p.length : Int) - 1).toNat = p.length - 1 := by omega
    repeat' (first
      | refine xw_seq ?_
      | refine xw_block ?_
      | (refine ite_two ?_ ?_ <;> intro _ <;> first | (exfalso; omega) | skip)
      | refine ord_split (by kernel_rfl) ?_
      | (refine xw_ret ?_ <;> try simp only [sq, bl, LQ])
      | ((first | refine xw_reg ?_ | refine xw_regd ?_ | refine xw_if ?_ | refine xw_skip ?_ | refine xw_exit ?_ | refine xw_label ?_ | refine post_ret ?_ | refine post_normal ?_ | refine postE_ret ?_ | refine postE_normal ?_) <;> simp (config := { maxSteps := 3000000 }) (disch := first | assumption | omega | exact VG.okg (by assumption) | (simp only [List.length_set, List.length_append, List.length_cons, List.length_nil, List.length_replicate]; omega)) only [go_sem, ↓reduceIte, Int.reduceLE, Int.reduceLT, Int.reduceToNat, Int.reduceNeg, Int.reduceAdd, Int.reduceSub, Int.reduceMul, Int.reduceEq, Int.reduceNe, Nat.reduceEqDiff, Nat.reduceAdd, Nat.reduceSub, Nat.reduceMul, Nat.reduceLT, Nat.reduceLeDiff, Nat.reduceBEq, Nat.reduceBNe, Try.results10, m3, h3', m4, h4, h5, h9, hz, e1, hla])
      | (((first | refine at_region ?_ | refine at_out ?_ | refine at_cond ?_); split) <;> first | (exfalso; omega; done) | simp (config := { maxSteps := 3000000 }) (disch := first | assumption | omega | exact VG.okg (by assumption) | (simp only [List.length_set, List.length_append, List.length_cons, List.length_nil, List.length_replicate]; omega)) only [go_sem, ↓reduceIte, Int.reduceLE, Int.reduceLT, Int.reduceToNat, Int.reduceNeg, Int.reduceAdd, Int.reduceSub, Int.reduceMul, Int.reduceEq, Int.reduceNe, Nat.reduceEqDiff, Nat.reduceAdd, Nat.reduceSub, Nat.reduceMul, Nat.reduceLT, Nat.reduceLeDiff, Nat.reduceBEq, Nat.reduceBNe, Try.results10, m3, h3', m4, h4, h5, h9, hz, e1, hla] | skip))
    all_goals omega
end Go.Proofs.Ytlahjdgcgfgifaa.X

