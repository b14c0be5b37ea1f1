/- The law: paths and cuts are equal. -/
import Derived.Test.YtflmjjfoeabnoaaC17
import Derived.Test.YtflmjjfoeabnoaaC19
import Derived.Test.YtflmjjfoeabnoaaC28
set_option linter.unusedSimpArgs false
set_option linter.unusedVariables false
set_option maxHeartbeats 4000000
namespace Go.Proofs.Ytflmjjfoeabnoaa.X
open Go Go.Proofs

theorem law_FlowBetween (bs : List Int) (hb : ∀ b ∈ bs, 0 ≤ b ∧ b < 256) : KP 7 [LB bs] [] = some (B true, [], []) := by
  by_cases hbig : (1048576 : Int) < bs.length
  · refine xw_call (fn := Try.f7) rfl Try.func7 rfl ⟨Nat.le_of_ble_eq_true rfl, rfl, rfl⟩ ?_
    repeat' (first
      | refine xw_seq ?_
      | refine xw_block ?_
      | (refine ite_two ?_ ?_ <;> intro _ <;> first | (exfalso; omega) | skip)
      | refine ord_split (by kernel_rfl) ?_
      | (refine xw_ret ?_ <;> try simp only [sq, bl, LQ])
      | ((first | refine xw_reg ?_ | refine xw_regd ?_ | refine xw_if ?_ | refine xw_skip ?_ | refine xw_exit ?_ | refine xw_label ?_ | refine post_ret ?_ | refine post_normal ?_ | refine postE_ret ?_ | refine postE_normal ?_) <;> simp (config := { maxSteps := 3000000 }) (disch := first | assumption | omega | exact VG.okg (by assumption) | (simp only [List.length_set, List.length_append, List.length_cons, List.length_nil, List.length_replicate]; omega)) only [go_sem, ↓reduceIte, Int.reduceLE, Int.reduceLT, Int.reduceToNat, Int.reduceNeg, Int.reduceAdd, Int.reduceSub, Int.reduceMul, Int.reduceEq, Int.reduceNe, Nat.reduceEqDiff, Nat.reduceAdd, Nat.reduceSub, Nat.reduceMul, Nat.reduceLT, Nat.reduceLeDiff, Nat.reduceBEq, Nat.reduceBNe, Try.results7])
      | (((first | refine at_region ?_ | refine at_out ?_ | refine at_cond ?_); split) <;> first | (exfalso; omega; done) | simp (config := { maxSteps := 3000000 }) (disch := first | assumption | omega | exact VG.okg (by assumption) | (simp only [List.length_set, List.length_append, List.length_cons, List.length_nil, List.length_replicate]; omega)) only [go_sem, ↓reduceIte, Int.reduceLE, Int.reduceLT, Int.reduceToNat, Int.reduceNeg, Int.reduceAdd, Int.reduceSub, Int.reduceMul, Int.reduceEq, Int.reduceNe, Nat.reduceEqDiff, Nat.reduceAdd, Nat.reduceSub, Nat.reduceMul, Nat.reduceLT, Nat.reduceLeDiff, Nat.reduceBEq, Nat.reduceBNe, Try.results7] | skip))
  obtain ⟨n, xv, es, x, y, n0, n1, hl, hx, a0, a1, b0, b1, hdraw⟩ := c_DrawFlowBetween bs hb (by omega)
  have hf := hx.f
  have hfl := hx.fl
  have hp := c_FlowBetween n x y es (by omega)
  have hs := c_sFlowBetween n x y es (by omega)
  by_cases h : Pr n x y es
  rotate_left
  · rw [if_neg h] at hp hs
    refine xw_call (fn := Try.f7) rfl Try.func7 rfl ⟨Nat.le_of_ble_eq_true rfl, rfl, rfl⟩ ?_
    repeat' (first
      | refine xw_seq ?_
      | refine xw_block ?_
      | (refine ite_two ?_ ?_ <;> intro _ <;> first | (exfalso; omega) | skip)
      | refine ord_split (by kernel_rfl) ?_
      | (refine xw_ret ?_ <;> try simp only [sq, bl, LQ])
      | ((first | refine xw_reg ?_ | refine xw_regd ?_ | refine xw_if ?_ | refine xw_skip ?_ | refine xw_exit ?_ | refine xw_label ?_ | refine post_ret ?_ | refine post_normal ?_ | refine postE_ret ?_ | refine postE_normal ?_) <;> simp (config := { maxSteps := 3000000 }) (disch := first | assumption | omega | exact VG.okg (by assumption) | (simp only [List.length_set, List.length_append, List.length_cons, List.length_nil, List.length_replicate]; omega)) only [go_sem, ↓reduceIte, Int.reduceLE, Int.reduceLT, Int.reduceToNat, Int.reduceNeg, Int.reduceAdd, Int.reduceSub, Int.reduceMul, Int.reduceEq, Int.reduceNe, Nat.reduceEqDiff, Nat.reduceAdd, Nat.reduceSub, Nat.reduceMul, Nat.reduceLT, Nat.reduceLeDiff, Nat.reduceBEq, Nat.reduceBNe, Try.results7, hdraw, hp, hs, hf, hfl])
      | (((first | refine at_region ?_ | refine at_out ?_ | refine at_cond ?_); split) <;> first | (exfalso; omega; done) | simp (config := { maxSteps := 3000000 }) (disch := first | assumption | omega | exact VG.okg (by assumption) | (simp only [List.length_set, List.length_append, List.length_cons, List.length_nil, List.length_replicate]; omega)) only [go_sem, ↓reduceIte, Int.reduceLE, Int.reduceLT, Int.reduceToNat, Int.reduceNeg, Int.reduceAdd, Int.reduceSub, Int.reduceMul, Int.reduceEq, Int.reduceNe, Nat.reduceEqDiff, Nat.reduceAdd, Nat.reduceSub, Nat.reduceMul, Nat.reduceLT, Nat.reduceLeDiff, Nat.reduceBEq, Nat.reduceBNe, Try.results7, hdraw, hp, hs, hf, hfl] | skip))
  obtain ⟨hV, hxn, hyn, hxy⟩ := id h
  have ho := hV.okg.ok
  have hnd := hV.nodup
  have hcs := c_CutSide n x y es (by omega)
  have hb2 := c_FlowBetween n y x es (by omega)
  have hcn := c_Connected n x y es (by omega)
  rw [if_pos ⟨hV, hyn, hxn, fun k => hxy k.symm⟩] at hb2
  rw [if_pos h] at hp hs hcs
  rw [flow_symm ho hnd hyn hxn (fun k => hxy k.symm)] at hb2
  have hsl : (sideL n es x y).length ≤ 16 := by
    have h1 : (sideL n es x y).length ≤ (iota n).length := List.length_filter_le _ _
    have h2 := hV.2.1
    rw [iota_length] at h1
    omega
  have hsz := c_CutSize n es (sideL n es x y) (by omega) (by omega)
  have hnds : Nds n (sideL n es x y) := ⟨fun v hv => mem_iota.1 (List.mem_filter.1 hv).1, ((sorted_iota n).sublist List.filter_sublist).imp fun h => by omega⟩
  have hcut : cutsz (inS (sideL n es x y)) es = flN n es x y := by
    rw [← flow_cut (y := y) ho hnd hxn hxy]
    unfold cutsz
    congr 1
    refine List.filter_congr fun e he => ?_
    have := ho e he
    unfold okE at this
    have h1 : e.1 ∈ iota n := mem_iota.2 (by omega)
    have h2 : e.2 ∈ iota n := mem_iota.2 (by omega)
    simp [inS, sideL, h1, h2]
  rw [if_pos ⟨hV, hnds⟩, hcut] at hsz
  have hd1 := c_dyIn (sideL n es x y) x (by omega)
  have hd2 := c_dyIn (sideL n es x y) y (by omega)
  have hm1 : x ∈ sideL n es x y := List.mem_filter.2 ⟨mem_iota.2 hxn, decide_eq_true (side_x ho hxn)⟩
  have hm2 : y ∉ sideL n es x y := fun k => side_y ho hnd hxn hxy (of_decide_eq_true (List.mem_filter.1 k).2)
  rw [decide_eq_true hm1] at hd1
  rw [decide_eq_false hm2] at hd2
  have hfp := flow_pos ho hnd hxn hxy
  by_cases hc : Conn es x y
  · rw [decide_eq_true ⟨hV, hxn.1, hxn.2, hyn.1, hyn.2, hc⟩] at hcn
    have := hfp.2 hc
    refine xw_call (fn := Try.f7) rfl Try.func7 rfl ⟨Nat.le_of_ble_eq_true rfl, rfl, rfl⟩ ?_
    repeat' (first
      | refine xw_seq ?_
      | refine xw_block ?_
      | (refine ite_two ?_ ?_ <;> intro _ <;> first | (exfalso; omega) | skip)
      | refine ord_split (by kernel_rfl) ?_
      | (refine xw_ret ?_ <;> try simp only [sq, bl, LQ])
      | ((first | refine xw_reg ?_ | refine xw_regd ?_ | refine xw_if ?_ | refine xw_skip ?_ | refine xw_exit ?_ | refine xw_label ?_ | refine post_ret ?_ | refine post_normal ?_ | refine postE_ret ?_ | refine postE_normal ?_) <;> simp (config := { maxSteps := 3000000 }) (disch := first | assumption | omega | exact VG.okg (by assumption) | (simp only [List.length_set, List.length_append, List.length_cons, List.length_nil, List.length_replicate]; omega)) only [go_sem, ↓reduceIte, Int.reduceLE, Int.reduceLT, Int.reduceToNat, Int.reduceNeg, Int.reduceAdd, Int.reduceSub, Int.reduceMul, Int.reduceEq, Int.reduceNe, Nat.reduceEqDiff, Nat.reduceAdd, Nat.reduceSub, Nat.reduceMul, Nat.reduceLT, Nat.reduceLeDiff, Nat.reduceBEq, Nat.reduceBNe, Try.results7, hdraw, hp, hs, hf, hfl, hcs, hsz, hb2, hd1, hd2, hcn])
      | (((first | refine at_region ?_ | refine at_out ?_ | refine at_cond ?_); split) <;> first | (exfalso; omega; done) | simp (config := { maxSteps := 3000000 }) (disch := first | assumption | omega | exact VG.okg (by assumption) | (simp only [List.length_set, List.length_append, List.length_cons, List.length_nil, List.length_replicate]; omega)) only [go_sem, ↓reduceIte, Int.reduceLE, Int.reduceLT, Int.reduceToNat, Int.reduceNeg, Int.reduceAdd, Int.reduceSub, Int.reduceMul, Int.reduceEq, Int.reduceNe, Nat.reduceEqDiff, Nat.reduceAdd, Nat.reduceSub, Nat.reduceMul, Nat.reduceLT, Nat.reduceLeDiff, Nat.reduceBEq, Nat.reduceBNe, Try.results7, hdraw, hp, hs, hf, hfl, hcs, hsz, hb2, hd1, hd2, hcn] | skip))
    omega
  · rw [decide_eq_false (fun k => hc k.2.2.2.2.2)] at hcn
    have : ¬ 0 < flN n es x y := fun k => hc (hfp.1 k)
    refine xw_call (fn := Try.f7) rfl Try.func7 rfl ⟨Nat.le_of_ble_eq_true rfl, rfl, rfl⟩ ?_
    repeat' (first
      | refine xw_seq ?_
      | refine xw_block ?_
      | (refine ite_two ?_ ?_ <;> intro _ <;> first | (exfalso; omega) | skip)
      | refine ord_split (by kernel_rfl) ?_
      | (refine xw_ret ?_ <;> try simp only [sq, bl, LQ])
      | ((first | refine xw_reg ?_ | refine xw_regd ?_ | refine xw_if ?_ | refine xw_skip ?_ | refine xw_exit ?_ | refine xw_label ?_ | refine post_ret ?_ | refine post_normal ?_ | refine postE_ret ?_ | refine postE_normal ?_) <;> simp (config := { maxSteps := 3000000 }) (disch := first | assumption | omega | exact VG.okg (by assumption) | (simp only [List.length_set, List.length_append, List.length_cons, List.length_nil, List.length_replicate]; omega)) only [go_sem, ↓reduceIte, Int.reduceLE, Int.reduceLT, Int.reduceToNat, Int.reduceNeg, Int.reduceAdd, Int.reduceSub, Int.reduceMul, Int.reduceEq, Int.reduceNe, Nat.reduceEqDiff, Nat.reduceAdd, Nat.reduceSub, Nat.reduceMul, Nat.reduceLT, Nat.reduceLeDiff, Nat.reduceBEq, Nat.reduceBNe, Try.results7, hdraw, hp, hs, hf, hfl, hcs, hsz, hb2, hd1, hd2, hcn])
      | (((first | refine at_region ?_ | refine at_out ?_ | refine at_cond ?_); split) <;> first | (exfalso; omega; done) | simp (config := { maxSteps := 3000000 }) (disch := first | assumption | omega | exact VG.okg (by assumption) | (simp only [List.length_set, List.length_append, List.length_cons, List.length_nil, List.length_replicate]; omega)) only [go_sem, ↓reduceIte, Int.reduceLE, Int.reduceLT, Int.reduceToNat, Int.reduceNeg, Int.reduceAdd, Int.reduceSub, Int.reduceMul, Int.reduceEq, Int.reduceNe, Nat.reduceEqDiff, Nat.reduceAdd, Nat.reduceSub, Nat.reduceMul, Nat.reduceLT, Nat.reduceLeDiff, Nat.reduceBEq, Nat.reduceBNe, Try.results7, hdraw, hp, hs, hf, hfl, hcs, hsz, hb2, hd1, hd2, hcn] | skip))
    omega
end Go.Proofs.Ytflmjjfoeabnoaa.X

