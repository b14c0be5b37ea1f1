/- The law: an edge that is put between connected nodes makes a cycle. -/
import Derived.Test.YtbaholclcfpknaaC16
import Derived.Test.YtbaholclcfpknaaC20
import Derived.Test.YtbaholclcfpknaaC21
import Derived.Test.YtbaholclcfpknaaC46
set_option linter.unusedSimpArgs false
set_option linter.unusedVariables false
set_option maxHeartbeats 8000000
namespace Go.Proofs.Ytbaholclcfpknaa.X
open Go Go.Proofs

theorem cut_put {e : Int × Int} {es : List (Int × Int)} (h : e ∉ es) : cutE e (putE e es) = es := by
  unfold cutE
  induction es with
  | nil => simp [putE]
  | cons x r ih =>
    simp only [List.mem_cons, not_or] at h
    have hx : decide (x ≠ e) = true := decide_eq_true fun q => h.1 q.symm
    have hr : r.filter (fun f => decide (f ≠ e)) = r := List.filter_eq_self.2 fun f hf => decide_eq_true fun q => h.2 (q ▸ hf)
    unfold putE
    split
    · rw [List.filter_cons, if_neg (by simp), List.filter_cons, if_pos hx, hr]
    · rw [List.filter_cons, if_pos hx, ih h.2]

theorem law_CyclePut (bs : List Int) (hb : ∀ b ∈ bs, 0 ≤ b ∧ b < 256) : KP 10 [LB bs] [] = some (B true, [], []) := by
  by_cases hbig : (1048576 : Int) < bs.length
  · refine xw_call (fn := Try.f10) rfl Try.func10 rfl ⟨Nat.le_of_ble_eq_true rfl, rfl, rfl⟩ ?_
    repeat' (first
      | refine xw_seq ?_
      | refine xw_block ?_
      | (refine ite_two ?_ ?_ <;> intro _ <;> first | (exfalso; omega) | skip)
      | refine ord_split (by kernel_rfl) ?_
      | (refine xw_ret ?_ <;> try simp only [sq, bl, LQ])
      | ((first | refine xw_reg ?_ | refine xw_regd ?_ | refine xw_if ?_ | refine xw_skip ?_ | refine xw_exit ?_ | refine xw_label ?_ | refine post_ret ?_ | refine post_normal ?_ | refine postE_ret ?_ | refine postE_normal ?_) <;> simp (config := { maxSteps := 3000000 }) (disch := first | assumption | omega | exact VG.okg (by assumption) | (simp only [List.length_set, List.length_append, List.length_cons, List.length_nil, List.length_replicate]; omega)) only [go_sem, ↓reduceIte, Int.reduceLE, Int.reduceLT, Int.reduceToNat, Int.reduceNeg, Int.reduceAdd, Int.reduceSub, Int.reduceMul, Int.reduceEq, Int.reduceNe, Nat.reduceEqDiff, Nat.reduceAdd, Nat.reduceSub, Nat.reduceMul, Nat.reduceLT, Nat.reduceLeDiff, Nat.reduceBEq, Nat.reduceBNe, Try.results10])
      | (((first | refine at_region ?_ | refine at_out ?_ | refine at_cond ?_); split) <;> first | (exfalso; omega; done) | simp (config := { maxSteps := 3000000 }) (disch := first | assumption | omega | exact VG.okg (by assumption) | (simp only [List.length_set, List.length_append, List.length_cons, List.length_nil, List.length_replicate]; omega)) only [go_sem, ↓reduceIte, Int.reduceLE, Int.reduceLT, Int.reduceToNat, Int.reduceNeg, Int.reduceAdd, Int.reduceSub, Int.reduceMul, Int.reduceEq, Int.reduceNe, Nat.reduceEqDiff, Nat.reduceAdd, Nat.reduceSub, Nat.reduceMul, Nat.reduceLT, Nat.reduceLeDiff, Nat.reduceBEq, Nat.reduceBNe, Try.results10] | skip))
  obtain ⟨n, x, es, a, b, n0, n1, hl, hx, hdraw⟩ := c_DrawPutEdge bs hb (by omega)
  have hf := hx.f
  have hfl := hx.fl
  have hs := c_sPutEdge n a b es (by omega)
  by_cases hP : PutOK n es (a, b)
  rotate_left
  · have hp := c_PutEdge n a b es (by omega)
    rw [if_neg hP] at hp hs
    have hg := c_GraphSame0 0 0
    rw [decide_eq_true rfl] at hg
    refine xw_call (fn := Try.f10) rfl Try.func10 rfl ⟨Nat.le_of_ble_eq_true rfl, rfl, rfl⟩ ?_
    repeat' (first
      | refine xw_seq ?_
      | refine xw_block ?_
      | (refine ite_two ?_ ?_ <;> intro _ <;> first | (exfalso; omega) | skip)
      | refine ord_split (by kernel_rfl) ?_
      | (refine xw_ret ?_ <;> try simp only [sq, bl, LQ])
      | ((first | refine xw_reg ?_ | refine xw_regd ?_ | refine xw_if ?_ | refine xw_skip ?_ | refine xw_exit ?_ | refine xw_label ?_ | refine post_ret ?_ | refine post_normal ?_ | refine postE_ret ?_ | refine postE_normal ?_) <;> simp (config := { maxSteps := 3000000 }) (disch := first | assumption | omega | exact VG.okg (by assumption) | (simp only [List.length_set, List.length_append, List.length_cons, List.length_nil, List.length_replicate]; omega)) only [go_sem, ↓reduceIte, Int.reduceLE, Int.reduceLT, Int.reduceToNat, Int.reduceNeg, Int.reduceAdd, Int.reduceSub, Int.reduceMul, Int.reduceEq, Int.reduceNe, Nat.reduceEqDiff, Nat.reduceAdd, Nat.reduceSub, Nat.reduceMul, Nat.reduceLT, Nat.reduceLeDiff, Nat.reduceBEq, Nat.reduceBNe, Try.results10, hdraw, hf, hfl, hp, hs, hg])
      | (((first | refine at_region ?_ | refine at_out ?_ | refine at_cond ?_); split) <;> first | (exfalso; omega; done) | simp (config := { maxSteps := 3000000 }) (disch := first | assumption | omega | exact VG.okg (by assumption) | (simp only [List.length_set, List.length_append, List.length_cons, List.length_nil, List.length_replicate]; omega)) only [go_sem, ↓reduceIte, Int.reduceLE, Int.reduceLT, Int.reduceToNat, Int.reduceNeg, Int.reduceAdd, Int.reduceSub, Int.reduceMul, Int.reduceEq, Int.reduceNe, Nat.reduceEqDiff, Nat.reduceAdd, Nat.reduceSub, Nat.reduceMul, Nat.reduceLT, Nat.reduceLeDiff, Nat.reduceBEq, Nat.reduceBNe, Try.results10, hdraw, hf, hfl, hp, hs, hg] | skip))
  rw [if_pos hP] at hs
  obtain ⟨r, ow, hp, him⟩ := c_PutEdgeL n a b es hP (by omega)
  obtain ⟨hG, hm, hQ⟩ := hP
  have hpl := putE_length (a, b) es
  have hg := c_GraphSame n n (putE (a, b) es) (putE (a, b) es) (by omega)
  rw [decide_eq_true ⟨rfl, rfl⟩] at hg
  have hin : (a, b) ∈ putE (a, b) es := mem_putE.2 (.inl rfl)
  have hok := hQ.okg.ok _ hin
  unfold okE at hok; simp only at hok
  have hcy := c_CycleThrough n a b (putE (a, b) es) (by omega)
  rw [cut_put hm] at hcy
  have hpb := c_PathBetween n a b es (by omega)
  have hco := c_Connected n a b es (by omega)
  by_cases hc : Conn es a b
  · rw [if_pos ⟨hQ, hin, hc⟩] at hcy
    rw [if_pos ⟨hG, hok.1, by omega, by omega, hok.2.2, hc⟩] at hpb
    rw [decide_eq_true ⟨hG, hok.1, by omega, by omega, hok.2.2, hc⟩] at hco
    have hlen : (pathL n es a b).length = (dst n es b a).toNat + 1 := pathL_len
    have hle := dst_le (t := b) (x := a) hG.okg.ok (show 0 ≤ n by omega)
    have hd := c_dyInts (pathL n es a b) (pathL n es a b) (by omega)
    rw [decide_eq_true rfl] at hd
    refine xw_call (fn := Try.f10) rfl Try.func10 rfl ⟨Nat.le_of_ble_eq_true rfl, rfl, rfl⟩ ?_
    repeat' (first
      | refine xw_seq ?_
      | refine xw_block ?_
      | (refine ite_two ?_ ?_ <;> intro _ <;> first | (exfalso; omega) | skip)
      | refine ord_split (by kernel_rfl) ?_
      | (refine xw_ret ?_ <;> try simp only [sq, bl, LQ])
      | ((first | refine xw_reg ?_ | refine xw_regd ?_ | refine xw_if ?_ | refine xw_skip ?_ | refine xw_exit ?_ | refine xw_label ?_ | refine post_ret ?_ | refine post_normal ?_ | refine postE_ret ?_ | refine postE_normal ?_) <;> simp (config := { maxSteps := 3000000 }) (disch := first | assumption | omega | exact VG.okg (by assumption) | (simp only [List.length_set, List.length_append, List.length_cons, List.length_nil, List.length_replicate]; omega)) only [go_sem, ↓reduceIte, Int.reduceLE, Int.reduceLT, Int.reduceToNat, Int.reduceNeg, Int.reduceAdd, Int.reduceSub, Int.reduceMul, Int.reduceEq, Int.reduceNe, Nat.reduceEqDiff, Nat.reduceAdd, Nat.reduceSub, Nat.reduceMul, Nat.reduceLT, Nat.reduceLeDiff, Nat.reduceBEq, Nat.reduceBNe, Try.results10, hdraw, hf, hfl, hp, hs, hg, hcy, hpb, hco, hd, him])
      | (((first | refine at_region ?_ | refine at_out ?_ | refine at_cond ?_); split) <;> first | (exfalso; omega; done) | simp (config := { maxSteps := 3000000 }) (disch := first | assumption | omega | exact VG.okg (by assumption) | (simp only [List.length_set, List.length_append, List.length_cons, List.length_nil, List.length_replicate]; omega)) only [go_sem, ↓reduceIte, Int.reduceLE, Int.reduceLT, Int.reduceToNat, Int.reduceNeg, Int.reduceAdd, Int.reduceSub, Int.reduceMul, Int.reduceEq, Int.reduceNe, Nat.reduceEqDiff, Nat.reduceAdd, Nat.reduceSub, Nat.reduceMul, Nat.reduceLT, Nat.reduceLeDiff, Nat.reduceBEq, Nat.reduceBNe, Try.results10, hdraw, hf, hfl, hp, hs, hg, hcy, hpb, hco, hd, him] | skip))
  · rw [if_neg (fun q => hc q.2.2)] at hcy
    rw [if_neg (fun q => hc q.2.2.2.2.2)] at hpb
    rw [decide_eq_false (fun q => hc q.2.2.2.2.2)] at hco
    have hd := c_dyInts_nil
    refine xw_call (fn := Try.f10) rfl Try.func10 rfl ⟨Nat.le_of_ble_eq_true rfl, rfl, rfl⟩ ?_
    repeat' (first
      | refine xw_seq ?_
      | refine xw_block ?_
      | (refine ite_two ?_ ?_ <;> intro _ <;> first | (exfalso; omega) | skip)
      | refine ord_split (by kernel_rfl) ?_
      | (refine xw_ret ?_ <;> try simp only [sq, bl, LQ])
      | ((first | refine xw_reg ?_ | refine xw_regd ?_ | refine xw_if ?_ | refine xw_skip ?_ | refine xw_exit ?_ | refine xw_label ?_ | refine post_ret ?_ | refine post_normal ?_ | refine postE_ret ?_ | refine postE_normal ?_) <;> simp (config := { maxSteps := 3000000 }) (disch := first | assumption | omega | exact VG.okg (by assumption) | (simp only [List.length_set, List.length_append, List.length_cons, List.length_nil, List.length_replicate]; omega)) only [go_sem, ↓reduceIte, Int.reduceLE, Int.reduceLT, Int.reduceToNat, Int.reduceNeg, Int.reduceAdd, Int.reduceSub, Int.reduceMul, Int.reduceEq, Int.reduceNe, Nat.reduceEqDiff, Nat.reduceAdd, Nat.reduceSub, Nat.reduceMul, Nat.reduceLT, Nat.reduceLeDiff, Nat.reduceBEq, Nat.reduceBNe, Try.results10, hdraw, hf, hfl, hp, hs, hg, hcy, hpb, hco, hd, him])
      | (((first | refine at_region ?_ | refine at_out ?_ | refine at_cond ?_); split) <;> first | (exfalso; omega; done) | simp (config := { maxSteps := 3000000 }) (disch := first | assumption | omega | exact VG.okg (by assumption) | (simp only [List.length_set, List.length_append, List.length_cons, List.length_nil, List.length_replicate]; omega)) only [go_sem, ↓reduceIte, Int.reduceLE, Int.reduceLT, Int.reduceToNat, Int.reduceNeg, Int.reduceAdd, Int.reduceSub, Int.reduceMul, Int.reduceEq, Int.reduceNe, Nat.reduceEqDiff, Nat.reduceAdd, Nat.reduceSub, Nat.reduceMul, Nat.reduceLT, Nat.reduceLeDiff, Nat.reduceBEq, Nat.reduceBNe, Try.results10, hdraw, hf, hfl, hp, hs, hg, hcy, hpb, hco, hd, him] | skip))
end Go.Proofs.Ytbaholclcfpknaa.X

