/- The law: cutting off is cutting edges. -/
import Derived.Test.YtnobgdgnncfcpaaC13
set_option linter.unusedSimpArgs false
set_option linter.unusedVariables false
set_option maxHeartbeats 2000000
namespace Go.Proofs.Ytnobgdgnncfcpaa.X
open Go Go.Proofs

theorem edgeOf_inj {v x y : Int} (h : edgeOf v x = edgeOf v y) : x = y := by
  unfold edgeOf at h
  split at h <;> split at h <;> simp only [Prod.mk.injEq] at h <;> omega
theorem mem_edgeOf' {n : Int} {es : List (Int × Int)} (ho : ∀ e ∈ es, okE n e) {x v : Int} (h : Adj es v x) : edgeOf v x ∈ es := by
  unfold edgeOf
  have := h.ok ho
  rcases h with h | h
  · have := ho _ h; unfold okE at this; simp only at this
    rw [if_pos (by omega)]; exact h
  · have := ho _ h; unfold okE at this; simp only at this
    rw [if_neg (by omega)]; exact h
theorem VG.filter {n : Int} {es : List (Int × Int)} (h : VG n es) (p : Int × Int → Bool) : VG n (es.filter p) := by
  obtain ⟨h1, h2, h3, h4, h5⟩ := h
  have hl : (es.filter p).length ≤ es.length := List.length_filter_le _ _
  exact ⟨h1, h2, by omega, fun e he => h4 e (List.mem_filter.1 he).1, h5.filter _⟩
theorem alone_alone (v : Int) (es : List (Int × Int)) : alone v (alone v es) = alone v es := by
  unfold alone
  rw [List.filter_filter]
  congr 1
  funext e
  simp
theorem getD_not_take {xs : List Int} (hn : xs.Nodup) {i : Nat} (h : i < xs.length) : xs.getD i 0 ∉ xs.take i := by
  intro hm
  rw [List.mem_take_iff_getElem] at hm
  obtain ⟨j, hj, he⟩ := hm
  have h1 : xs.getD i 0 = xs[i] := by simp [h]
  rw [h1] at he
  have := (List.getElem_inj hn).1 he
  omega

theorem law_CutNodeTwice (bs : List Int) (hb : ∀ b ∈ bs, 0 ≤ b ∧ b < 256) : KP 8 [LB bs] [] = some (B true, [], []) := by
  by_cases hbig : (1048576 : Int) < bs.length
  · refine xw_call (fn := Try.f8) rfl Try.func8 rfl ⟨Nat.le_of_ble_eq_true rfl, rfl, rfl⟩ ?_
    repeat' (first
      | refine xw_seq ?_
      | refine xw_block ?_
      | (refine ite_two ?_ ?_ <;> intro _ <;> first | (exfalso; omega) | skip)
      | refine ord_split (by kernel_rfl) ?_
      | (refine xw_ret ?_ <;> try simp only [sq, bl, LQ])
      | ((first | refine xw_reg ?_ | refine xw_regd ?_ | refine xw_if ?_ | refine xw_skip ?_ | refine xw_exit ?_ | refine xw_label ?_ | refine post_ret ?_ | refine post_normal ?_ | refine postE_ret ?_ | refine postE_normal ?_) <;> simp (disch := first | assumption | omega | exact VG.okg (by assumption) | (simp only [List.length_set, List.length_append, List.length_cons, List.length_nil]; omega)) only [go_sem, ↓reduceIte, Int.reduceLE, Int.reduceLT, Int.reduceToNat, Int.reduceNeg, Int.reduceAdd, Int.reduceSub, Int.reduceMul, Int.reduceEq, Int.reduceNe, Nat.reduceEqDiff, Nat.reduceAdd, Nat.reduceSub, Nat.reduceMul, Nat.reduceLT, Nat.reduceLeDiff, Nat.reduceBEq, Nat.reduceBNe, Try.results8])
      | (((first | refine at_region ?_ | refine at_out ?_ | refine at_cond ?_); split) <;> first | (exfalso; omega; done) | simp (disch := first | assumption | omega | exact VG.okg (by assumption) | (simp only [List.length_set, List.length_append, List.length_cons, List.length_nil]; omega)) only [go_sem, ↓reduceIte, Int.reduceLE, Int.reduceLT, Int.reduceToNat, Int.reduceNeg, Int.reduceAdd, Int.reduceSub, Int.reduceMul, Int.reduceEq, Int.reduceNe, Nat.reduceEqDiff, Nat.reduceAdd, Nat.reduceSub, Nat.reduceMul, Nat.reduceLT, Nat.reduceLeDiff, Nat.reduceBEq, Nat.reduceBNe, Try.results8] | skip))
  obtain ⟨n, es, v, n0, n1, hl, v0, v1, hdraw⟩ := c_DrawCutNode bs hb (by omega)
  have hal : (alone v es).length ≤ es.length := List.length_filter_le _ _
  have hnb := alone_length v es
  have hc := c_CutNode n v es (by omega)
  have hs := c_sCutNode n v es (by omega)
  have hc' := c_CutNode n v (alone v es) (by omega)
  have hn := c_NeighborsOf n v es (by omega)
  by_cases hv : VG n es ∧ 0 ≤ v ∧ v < n
  rotate_left
  · rw [if_neg hv] at hc hs
    refine xw_call (fn := Try.f8) rfl Try.func8 rfl ⟨Nat.le_of_ble_eq_true rfl, rfl, rfl⟩ ?_
    repeat' (first
      | refine xw_seq ?_
      | refine xw_block ?_
      | (refine ite_two ?_ ?_ <;> intro _ <;> first | (exfalso; omega) | skip)
      | refine ord_split (by kernel_rfl) ?_
      | (refine xw_ret ?_ <;> try simp only [sq, bl, LQ])
      | ((first | refine xw_reg ?_ | refine xw_regd ?_ | refine xw_if ?_ | refine xw_skip ?_ | refine xw_exit ?_ | refine xw_label ?_ | refine post_ret ?_ | refine post_normal ?_ | refine postE_ret ?_ | refine postE_normal ?_) <;> simp (disch := first | assumption | omega | exact VG.okg (by assumption) | (simp only [List.length_set, List.length_append, List.length_cons, List.length_nil]; omega)) only [go_sem, ↓reduceIte, Int.reduceLE, Int.reduceLT, Int.reduceToNat, Int.reduceNeg, Int.reduceAdd, Int.reduceSub, Int.reduceMul, Int.reduceEq, Int.reduceNe, Nat.reduceEqDiff, Nat.reduceAdd, Nat.reduceSub, Nat.reduceMul, Nat.reduceLT, Nat.reduceLeDiff, Nat.reduceBEq, Nat.reduceBNe, Try.results8, hdraw, hc, hs])
      | (((first | refine at_region ?_ | refine at_out ?_ | refine at_cond ?_); split) <;> first | (exfalso; omega; done) | simp (disch := first | assumption | omega | exact VG.okg (by assumption) | (simp only [List.length_set, List.length_append, List.length_cons, List.length_nil]; omega)) only [go_sem, ↓reduceIte, Int.reduceLE, Int.reduceLT, Int.reduceToNat, Int.reduceNeg, Int.reduceAdd, Int.reduceSub, Int.reduceMul, Int.reduceEq, Int.reduceNe, Nat.reduceEqDiff, Nat.reduceAdd, Nat.reduceSub, Nat.reduceMul, Nat.reduceLT, Nat.reduceLeDiff, Nat.reduceBEq, Nat.reduceBNe, Try.results8, hdraw, hc, hs] | skip))
  obtain ⟨hV, hv0, hv1⟩ := hv
  have hA : VG n (alone v es) := hV.alone
  have ho := hV.okg.ok
  have hns := sorted_nbS ho hV.nodup v
  have hnd : (nbS v es).Nodup := List.Pairwise.imp (fun {a b} h e => by omega) hns
  have hx0 : ∀ x ∈ nbS v es, 0 ≤ x ∧ x < n ∧ x ≠ v := fun x hx => by
    have := ((mem_nbS ho).1 hx).ok ho
    omega
  refine xw_call (fn := Try.f8) rfl Try.func8 rfl ⟨Nat.le_of_ble_eq_true rfl, rfl, rfl⟩ ?_
  repeat' (first
    | refine xw_seq ?_
    | refine xw_block ?_
    | (refine ite_two ?_ ?_ <;> intro _ <;> first | (exfalso; omega) | skip)
    | refine ord_split (by kernel_rfl) ?_
    | (refine xw_ret ?_ <;> try simp only [sq, bl, LQ])
    | ((first | refine xw_reg ?_ | refine xw_regd ?_ | refine xw_if ?_ | refine xw_skip ?_ | refine xw_exit ?_ | refine xw_label ?_ | refine post_ret ?_ | refine post_normal ?_ | refine postE_ret ?_ | refine postE_normal ?_) <;> simp (disch := first | assumption | omega | exact VG.okg (by assumption) | (simp only [List.length_set, List.length_append, List.length_cons, List.length_nil]; omega)) only [go_sem, ↓reduceIte, Int.reduceLE, Int.reduceLT, Int.reduceToNat, Int.reduceNeg, Int.reduceAdd, Int.reduceSub, Int.reduceMul, Int.reduceEq, Int.reduceNe, Nat.reduceEqDiff, Nat.reduceAdd, Nat.reduceSub, Nat.reduceMul, Nat.reduceLT, Nat.reduceLeDiff, Nat.reduceBEq, Nat.reduceBNe, Try.results8, hdraw, hc, hs, hn, hc', alone_del])
    | (((first | refine at_region ?_ | refine at_out ?_ | refine at_cond ?_); split) <;> first | (exfalso; omega; done) | simp (disch := first | assumption | omega | exact VG.okg (by assumption) | (simp only [List.length_set, List.length_append, List.length_cons, List.length_nil]; omega)) only [go_sem, ↓reduceIte, Int.reduceLE, Int.reduceLT, Int.reduceToNat, Int.reduceNeg, Int.reduceAdd, Int.reduceSub, Int.reduceMul, Int.reduceEq, Int.reduceNe, Nat.reduceEqDiff, Nat.reduceAdd, Nat.reduceSub, Nat.reduceMul, Nat.reduceLT, Nat.reduceLeDiff, Nat.reduceBEq, Nat.reduceBNe, Try.results8, hdraw, hc, hs, hn, hc', alone_del] | skip))
  refine xw_loopR (fun (x : Int × IV × List (Int × Int)) s => s.m 11 = some (.box 0 [I n, .i x.2.1]) ∧ s.ρ 11 = .ptr 11 0 0 0 ∧ s.ρ 12 = LI (nbS v es) ∧ s.ρ 13 = I x.1 ∧ s.ρ 4 = I v ∧ s.ρ 5 = .ptr 5 0 0 0 ∧ s.m 5 = some (.box 0 [I n, .i (delE (fun e => decide (e.1 = v ∨ e.2 = v)) es)]) ∧
    s.ρ 9 = .ptr 9 0 0 0 ∧ s.m 9 = some (.box 0 [I n, .i (delE (fun e => decide (e.1 = v ∨ e.2 = v)) (alone v es))]) ∧ s.ρ 10 = B true ∧
    EL x.2.1 x.2.2 ∧ 0 ≤ x.1 ∧ x.1 ≤ (nbS v es).length ∧ x.2.2 = es.filter (fun e => decide (∀ x' ∈ (nbS v es).take x.1.toNat, e ≠ edgeOf v x'))) (fun x => ((nbS v es).length - x.1).toNat)
    (0, .lst (es.map encE), es) (by refine ⟨rfl, rfl, rfl, rfl, rfl, rfl, rfl, rfl, rfl, rfl, EL.lst es, by simp, by simp, by simp only; exact (List.filter_eq_self.2 (by simp)).symm⟩) ?_
  rintro ⟨i, x, ys⟩ ⟨ρ, m⟩ ⟨m11, h11, h12, h13, h4, h5, m5, h9, m9, h10, hx, g0, g1, g2⟩
  simp only at m11 h11 h12 h13 h4 h5 m5 h9 m9 h10 hx g0 g1 g2
  have hf := hx.f
  have hfl := hx.fl
  have hVy : VG n ys := by rw [g2]; exact hV.filter _
  have hyl := hVy.okg.len
  by_cases hj : i < (nbS v es).length
  · have hq := getD_mem (d := 0) (show i.toNat < (nbS v es).length by omega)
    have hq' := hx0 _ hq
    have hnt := getD_not_take hnd (show i.toNat < (nbS v es).length by omega)
    have htk := take_int 0 g0 hj
    have hok : eOk v ((nbS v es).getD i.toNat 0) := by unfold eOk; have := hV.2.1; omega
    have hme : edgeOf v ((nbS v es).getD i.toNat 0) ∈ ys := by
      rw [g2, List.mem_filter, decide_eq_true_eq]
      exact ⟨mem_edgeOf' ho ((mem_nbS ho).1 hq), fun x' hx' e => hnt (by rw [edgeOf_inj e]; exact hx')⟩
    repeat' (first
      | refine xw_seq ?_
      | refine xw_block ?_
      | (refine ite_two ?_ ?_ <;> intro _ <;> first | (exfalso; omega) | skip)
      | refine ord_split (by kernel_rfl) ?_
      | (refine xw_ret ?_ <;> try simp only [sq, bl, LQ])
      | ((first | refine xw_reg ?_ | refine xw_regd ?_ | refine xw_if ?_ | refine xw_skip ?_ | refine xw_exit ?_ | refine xw_label ?_ | refine post_ret ?_ | refine post_normal ?_ | refine postE_ret ?_ | refine postE_normal ?_) <;> simp (disch := first | assumption | omega | exact VG.okg (by assumption) | (simp only [List.length_set, List.length_append, List.length_cons, List.length_nil]; omega)) only [go_sem, ↓reduceIte, Int.reduceLE, Int.reduceLT, Int.reduceToNat, Int.reduceNeg, Int.reduceAdd, Int.reduceSub, Int.reduceMul, Int.reduceEq, Int.reduceNe, Nat.reduceEqDiff, Nat.reduceAdd, Nat.reduceSub, Nat.reduceMul, Nat.reduceLT, Nat.reduceLeDiff, Nat.reduceBEq, Nat.reduceBNe, Try.results8, m11, h11, h12, h13, h4, h5, m5, h9, m9, h10, hf, hfl])
      | (((first | refine at_region ?_ | refine at_out ?_ | refine at_cond ?_); split) <;> first | (exfalso; omega; done) | simp (disch := first | assumption | omega | exact VG.okg (by assumption) | (simp only [List.length_set, List.length_append, List.length_cons, List.length_nil]; omega)) only [go_sem, ↓reduceIte, Int.reduceLE, Int.reduceLT, Int.reduceToNat, Int.reduceNeg, Int.reduceAdd, Int.reduceSub, Int.reduceMul, Int.reduceEq, Int.reduceNe, Nat.reduceEqDiff, Nat.reduceAdd, Nat.reduceSub, Nat.reduceMul, Nat.reduceLT, Nat.reduceLeDiff, Nat.reduceBEq, Nat.reduceBNe, Try.results8, m11, h11, h12, h13, h4, h5, m5, h9, m9, h10, hf, hfl] | skip))
    refine ⟨i + 1, _, rfl, rfl, _, EL.del _ ys, by omega, by omega, ?_, by omega⟩
    rw [cut_del, g2, htk, cutE, List.filter_filter]
    congr 1
    funext e
    rw [Bool.eq_iff_iff]
    simp only [Bool.and_eq_true, decide_eq_true_eq, List.mem_append, List.mem_singleton, Prod.eta]
    constructor
    · rintro ⟨h1, h2⟩ x' (hx' | rfl)
      · exact h2 x' hx'
      · exact h1
    · exact fun h => ⟨h _ (.inr rfl), fun x' hx' => h x' (.inl hx')⟩
  · rw [take_all (by omega), cutE_alone (v := v) ho] at g2
    subst g2
    repeat' (first
      | refine xw_seq ?_
      | refine xw_block ?_
      | (refine ite_two ?_ ?_ <;> intro _ <;> first | (exfalso; omega) | skip)
      | refine ord_split (by kernel_rfl) ?_
      | (refine xw_ret ?_ <;> try simp only [sq, bl, LQ])
      | ((first | refine xw_reg ?_ | refine xw_regd ?_ | refine xw_if ?_ | refine xw_skip ?_ | refine xw_exit ?_ | refine xw_label ?_ | refine post_ret ?_ | refine post_normal ?_ | refine postE_ret ?_ | refine postE_normal ?_) <;> simp (disch := first | assumption | omega | exact VG.okg (by assumption) | (simp only [List.length_set, List.length_append, List.length_cons, List.length_nil]; omega)) only [go_sem, ↓reduceIte, Int.reduceLE, Int.reduceLT, Int.reduceToNat, Int.reduceNeg, Int.reduceAdd, Int.reduceSub, Int.reduceMul, Int.reduceEq, Int.reduceNe, Nat.reduceEqDiff, Nat.reduceAdd, Nat.reduceSub, Nat.reduceMul, Nat.reduceLT, Nat.reduceLeDiff, Nat.reduceBEq, Nat.reduceBNe, Try.results8, m11, h11, h12, h13, h4, h5, m5, h9, m9, h10, hf, hfl, alone_del, alone_alone])
      | (((first | refine at_region ?_ | refine at_out ?_ | refine at_cond ?_); split) <;> first | (exfalso; omega; done) | simp (disch := first | assumption | omega | exact VG.okg (by assumption) | (simp only [List.length_set, List.length_append, List.length_cons, List.length_nil]; omega)) only [go_sem, ↓reduceIte, Int.reduceLE, Int.reduceLT, Int.reduceToNat, Int.reduceNeg, Int.reduceAdd, Int.reduceSub, Int.reduceMul, Int.reduceEq, Int.reduceNe, Nat.reduceEqDiff, Nat.reduceAdd, Nat.reduceSub, Nat.reduceMul, Nat.reduceLT, Nat.reduceLeDiff, Nat.reduceBEq, Nat.reduceBNe, Try.results8, m11, h11, h12, h13, h4, h5, m5, h9, m9, h10, hf, hfl, alone_del, alone_alone] | skip))
end Go.Proofs.Ytnobgdgnncfcpaa.X
