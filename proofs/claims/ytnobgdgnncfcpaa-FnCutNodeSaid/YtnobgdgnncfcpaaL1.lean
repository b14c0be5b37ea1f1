/- The law: nodes are cut off. -/
import Derived.Test.YtnobgdgnncfcpaaM2
set_option linter.unusedSimpArgs false
set_option linter.unusedVariables false
set_option maxHeartbeats 2000000
namespace Go.Proofs.Ytnobgdgnncfcpaa.X
open Go Go.Proofs

theorem iaR_alone {v : Int} {es : List (Int × Int)} {el : TypeId} {n : Int} (h0 : 0 ≤ n) (h : n < (alone v es).length) :
    iaR Try.prog (some (.slice el)) (some n) (.i (delE (fun e => decide (e.1 = v ∨ e.2 = v)) es)) = iaR Try.prog (some (.slice el)) (some n) (.i (.lst ((alone v es).map encE))) := by
  rw [← alone_del] at h ⊢
  exact iaR_del h0 h

theorem law_CutNode (bs : List Int) (hb : ∀ b ∈ bs, 0 ≤ b ∧ b < 256) : KP 4 [LB bs] [] = some (B true, [], []) := by
  by_cases hbig : (1048576 : Int) < bs.length
  · refine xw_call (fn := Try.f4) rfl Try.func4 rfl ⟨Nat.le_of_ble_eq_true rfl, rfl, rfl⟩ ?_
    repeat' (first
      | refine xw_seq ?_
      | refine xw_block ?_
      | (refine ite_two ?_ ?_ <;> intro _ <;> first | (exfalso; omega) | skip)
      | refine ord_split (by kernel_rfl) ?_
      | (refine xw_ret ?_ <;> try simp only [sq, bl, LQ])
      | ((first | refine xw_reg ?_ | refine xw_regd ?_ | refine xw_if ?_ | refine xw_skip ?_ | refine xw_exit ?_ | refine xw_label ?_ | refine post_ret ?_ | refine post_normal ?_ | refine postE_ret ?_ | refine postE_normal ?_) <;> simp (disch := first | assumption | omega | exact VG.okg (by assumption) | (simp only [List.length_set, List.length_append, List.length_cons, List.length_nil]; omega)) only [go_sem, ↓reduceIte, Int.reduceLE, Int.reduceLT, Int.reduceToNat, Int.reduceNeg, Int.reduceAdd, Int.reduceSub, Int.reduceMul, Int.reduceEq, Int.reduceNe, Nat.reduceEqDiff, Nat.reduceAdd, Nat.reduceSub, Nat.reduceMul, Nat.reduceLT, Nat.reduceLeDiff, Nat.reduceBEq, Nat.reduceBNe, Try.results4, List.length_map])
      | (((first | refine at_region ?_ | refine at_out ?_ | refine at_cond ?_); split) <;> first | (exfalso; omega; done) | simp (disch := first | assumption | omega | exact VG.okg (by assumption) | (simp only [List.length_set, List.length_append, List.length_cons, List.length_nil]; omega)) only [go_sem, ↓reduceIte, Int.reduceLE, Int.reduceLT, Int.reduceToNat, Int.reduceNeg, Int.reduceAdd, Int.reduceSub, Int.reduceMul, Int.reduceEq, Int.reduceNe, Nat.reduceEqDiff, Nat.reduceAdd, Nat.reduceSub, Nat.reduceMul, Nat.reduceLT, Nat.reduceLeDiff, Nat.reduceBEq, Nat.reduceBNe, Try.results4, List.length_map] | skip))
  obtain ⟨n, es, v, n0, n1, hl, v0, v1, hdraw⟩ := c_DrawCutNode bs hb (by omega)
  have hal : (alone v es).length ≤ es.length := List.length_filter_le _ _
  have hc := c_CutNode n v es (by omega)
  have hs := c_sCutNode n v es (by omega)
  have hn := c_NeighborsOf n v es (by omega)
  have hn' := c_NeighborsOf n v (alone v es) (by omega)
  refine xw_call (fn := Try.f4) rfl Try.func4 rfl ⟨Nat.le_of_ble_eq_true rfl, rfl, rfl⟩ ?_
  repeat' (first
    | refine xw_seq ?_
    | refine xw_block ?_
    | (refine ite_two ?_ ?_ <;> intro _ <;> first | (exfalso; omega) | skip)
    | refine ord_split (by kernel_rfl) ?_
    | (refine xw_ret ?_ <;> try simp only [sq, bl, LQ])
    | ((first | refine xw_reg ?_ | refine xw_regd ?_ | refine xw_if ?_ | refine xw_skip ?_ | refine xw_exit ?_ | refine xw_label ?_ | refine post_ret ?_ | refine post_normal ?_ | refine postE_ret ?_ | refine postE_normal ?_) <;> simp (disch := first | assumption | omega | exact VG.okg (by assumption) | (simp only [List.length_set, List.length_append, List.length_cons, List.length_nil]; omega)) only [go_sem, ↓reduceIte, Int.reduceLE, Int.reduceLT, Int.reduceToNat, Int.reduceNeg, Int.reduceAdd, Int.reduceSub, Int.reduceMul, Int.reduceEq, Int.reduceNe, Nat.reduceEqDiff, Nat.reduceAdd, Nat.reduceSub, Nat.reduceMul, Nat.reduceLT, Nat.reduceLeDiff, Nat.reduceBEq, Nat.reduceBNe, Try.results4, hdraw, hc, hs, hn, hn', alone_del])
    | (((first | refine at_region ?_ | refine at_out ?_ | refine at_cond ?_); split) <;> first | (exfalso; omega; done) | simp (disch := first | assumption | omega | exact VG.okg (by assumption) | (simp only [List.length_set, List.length_append, List.length_cons, List.length_nil]; omega)) only [go_sem, ↓reduceIte, Int.reduceLE, Int.reduceLT, Int.reduceToNat, Int.reduceNeg, Int.reduceAdd, Int.reduceSub, Int.reduceMul, Int.reduceEq, Int.reduceNe, Nat.reduceEqDiff, Nat.reduceAdd, Nat.reduceSub, Nat.reduceMul, Nat.reduceLT, Nat.reduceLeDiff, Nat.reduceBEq, Nat.reduceBNe, Try.results4, hdraw, hc, hs, hn, hn', alone_del] | skip))
  have hA : VG n (alone v es) := VG.alone (by assumption)
  have hm : ∀ k : Nat, k < (alone v es).length → (alone v es).getD k (0, 0) ∈ es := fun k hk => (List.mem_filter.1 (getD_mem hk)).1
  have hz : (nbS v (alone v es)).length = 0 := by rw [nbS_length, nbL_alone]; rfl
  have hlen := alone_length v es
  refine xw_loopR (fun (i : Int) s => s.m 3 = some (.box 0 [I n, LE es]) ∧ s.m 5 = some (.box 0 [I n, .i (delE (fun e => decide (e.1 = v ∨ e.2 = v)) es)]) ∧ s.ρ 3 = .ptr 3 0 0 0 ∧ s.ρ 5 = .ptr 5 0 0 0 ∧ s.ρ 4 = I v ∧ s.ρ 9 = I (nbS v es).length ∧ s.ρ 10 = I i ∧
    0 ≤ i ∧ i ≤ (alone v es).length) (fun i => ((alone v es).length - i).toNat) 0 (by simp [upd]) ?_
  rintro i ⟨ρ, m⟩ ⟨m3, m5, h3, h5, h4, h9, h10, g0, g1⟩
  simp only at m3 m5 h3 h5 h4 h9 h10 g0 g1
  repeat' (first
    | refine xw_seq ?_
    | refine xw_block ?_
    | (refine ite_two ?_ ?_ <;> intro _ <;> first | (exfalso; omega) | skip)
    | refine ord_split (by kernel_rfl) ?_
    | (refine xw_ret ?_ <;> try simp only [sq, bl, LQ])
    | ((first | refine xw_reg ?_ | refine xw_regd ?_ | refine xw_if ?_ | refine xw_skip ?_ | refine xw_exit ?_ | refine xw_label ?_ | refine post_ret ?_ | refine post_normal ?_ | refine postE_ret ?_ | refine postE_normal ?_) <;> simp (disch := first | assumption | omega | exact VG.okg (by assumption) | (simp only [List.length_set, List.length_append, List.length_cons, List.length_nil]; omega)) only [go_sem, ↓reduceIte, Int.reduceLE, Int.reduceLT, Int.reduceToNat, Int.reduceNeg, Int.reduceAdd, Int.reduceSub, Int.reduceMul, Int.reduceEq, Int.reduceNe, Nat.reduceEqDiff, Nat.reduceAdd, Nat.reduceSub, Nat.reduceMul, Nat.reduceLT, Nat.reduceLeDiff, Nat.reduceBEq, Nat.reduceBNe, Try.results4, m3, m5, h3, h5, h4, h9, h10, hn, hn', alone_del, iaR_alone, hm, hz])
    | (((first | refine at_region ?_ | refine at_out ?_ | refine at_cond ?_); split) <;> first | (exfalso; omega; done) | simp (disch := first | assumption | omega | exact VG.okg (by assumption) | (simp only [List.length_set, List.length_append, List.length_cons, List.length_nil]; omega)) only [go_sem, ↓reduceIte, Int.reduceLE, Int.reduceLT, Int.reduceToNat, Int.reduceNeg, Int.reduceAdd, Int.reduceSub, Int.reduceMul, Int.reduceEq, Int.reduceNe, Nat.reduceEqDiff, Nat.reduceAdd, Nat.reduceSub, Nat.reduceMul, Nat.reduceLT, Nat.reduceLeDiff, Nat.reduceBEq, Nat.reduceBNe, Try.results4, m3, m5, h3, h5, h4, h9, h10, hn, hn', alone_del, iaR_alone, hm, hz] | skip))
  · exact ⟨by omega, by omega, by omega⟩
  · omega
end Go.Proofs.Ytnobgdgnncfcpaa.X
