/- The law: bridges are on paths. -/
import Derived.Test.YtlahjdgcgfgifaaC17
import Derived.Test.YtlahjdgcgfgifaaC19
import Derived.Test.YtlahjdgcgfgifaaC20
import Derived.Test.YtlahjdgcgfgifaaM8
set_option linter.unusedSimpArgs false
set_option linter.unusedVariables false
set_option maxHeartbeats 4000000
namespace Go.Proofs.Ytlahjdgcgfgifaa.X
open Go Go.Proofs

theorem law_BridgesBetween (bs : List Int) (hb : ∀ b ∈ bs, 0 ≤ b ∧ b < 256) : KP 6 [LB bs] [] = some (B true, [], []) := by
  by_cases hbig : (1048576 : Int) < bs.length
  · refine xw_call (fn := Try.f6) rfl Try.func6 rfl ⟨Nat.le_of_ble_eq_true rfl, rfl, rfl⟩ ?_
    repeat' (first
      | refine xw_seq ?_
      | refine xw_block ?_
      | (refine ite_two ?_ ?_ <;> intro _ <;> first | (exfalso; omega) | skip)
      | refine ord_split (by kernel_rfl) ?_
      | (refine xw_ret ?_ <;> try simp only [sq, bl, LQ])
      | ((first | refine xw_reg ?_ | refine xw_regd ?_ | refine xw_if ?_ | refine xw_skip ?_ | refine xw_exit ?_ | refine xw_label ?_ | refine post_ret ?_ | refine post_normal ?_ | refine postE_ret ?_ | refine postE_normal ?_) <;> simp (config := { maxSteps := 3000000 }) (disch := first | assumption | omega | exact VG.okg (by assumption) | (simp only [List.length_set, List.length_append, List.length_cons, List.length_nil, List.length_replicate]; omega)) only [go_sem, ↓reduceIte, Int.reduceLE, Int.reduceLT, Int.reduceToNat, Int.reduceNeg, Int.reduceAdd, Int.reduceSub, Int.reduceMul, Int.reduceEq, Int.reduceNe, Nat.reduceEqDiff, Nat.reduceAdd, Nat.reduceSub, Nat.reduceMul, Nat.reduceLT, Nat.reduceLeDiff, Nat.reduceBEq, Nat.reduceBNe, Try.results6])
      | (((first | refine at_region ?_ | refine at_out ?_ | refine at_cond ?_); split) <;> first | (exfalso; omega; done) | simp (config := { maxSteps := 3000000 }) (disch := first | assumption | omega | exact VG.okg (by assumption) | (simp only [List.length_set, List.length_append, List.length_cons, List.length_nil, List.length_replicate]; omega)) only [go_sem, ↓reduceIte, Int.reduceLE, Int.reduceLT, Int.reduceToNat, Int.reduceNeg, Int.reduceAdd, Int.reduceSub, Int.reduceMul, Int.reduceEq, Int.reduceNe, Nat.reduceEqDiff, Nat.reduceAdd, Nat.reduceSub, Nat.reduceMul, Nat.reduceLT, Nat.reduceLeDiff, Nat.reduceBEq, Nat.reduceBNe, Try.results6] | skip))
  obtain ⟨n, es, x, y, n0, n1, hl, hx0, hx1, hy0, hy1, hdraw⟩ := c_DrawBridgesBetween bs hb (by omega)
  have hp := c_BridgesBetween n x y es (by omega)
  have hs := c_sBridgesBetween n x y es (by omega)
  have hpath := c_PathBetween n x y es (by omega)
  by_cases hV : VG n es ∧ 0 ≤ x ∧ x < n ∧ 0 ≤ y ∧ y < n ∧ Conn es x y
  rotate_left
  · rw [if_neg hV] at hp hs
    have hd := c_dyEdges_nil
    refine xw_call (fn := Try.f6) rfl Try.func6 rfl ⟨Nat.le_of_ble_eq_true rfl, rfl, rfl⟩ ?_
    repeat' (first
      | refine xw_seq ?_
      | refine xw_block ?_
      | (refine ite_two ?_ ?_ <;> intro _ <;> first | (exfalso; omega) | skip)
      | refine ord_split (by kernel_rfl) ?_
      | (refine xw_ret ?_ <;> try simp only [sq, bl, LQ])
      | ((first | refine xw_reg ?_ | refine xw_regd ?_ | refine xw_if ?_ | refine xw_skip ?_ | refine xw_exit ?_ | refine xw_label ?_ | refine post_ret ?_ | refine post_normal ?_ | refine postE_ret ?_ | refine postE_normal ?_) <;> simp (config := { maxSteps := 3000000 }) (disch := first | assumption | omega | exact VG.okg (by assumption) | (simp only [List.length_set, List.length_append, List.length_cons, List.length_nil, List.length_replicate]; omega)) only [go_sem, ↓reduceIte, Int.reduceLE, Int.reduceLT, Int.reduceToNat, Int.reduceNeg, Int.reduceAdd, Int.reduceSub, Int.reduceMul, Int.reduceEq, Int.reduceNe, Nat.reduceEqDiff, Nat.reduceAdd, Nat.reduceSub, Nat.reduceMul, Nat.reduceLT, Nat.reduceLeDiff, Nat.reduceBEq, Nat.reduceBNe, Try.results6, hdraw, hp, hs, hd, List.map_nil])
      | (((first | refine at_region ?_ | refine at_out ?_ | refine at_cond ?_); split) <;> first | (exfalso; omega; done) | simp (config := { maxSteps := 3000000 }) (disch := first | assumption | omega | exact VG.okg (by assumption) | (simp only [List.length_set, List.length_append, List.length_cons, List.length_nil, List.length_replicate]; omega)) only [go_sem, ↓reduceIte, Int.reduceLE, Int.reduceLT, Int.reduceToNat, Int.reduceNeg, Int.reduceAdd, Int.reduceSub, Int.reduceMul, Int.reduceEq, Int.reduceNe, Nat.reduceEqDiff, Nat.reduceAdd, Nat.reduceSub, Nat.reduceMul, Nat.reduceLT, Nat.reduceLeDiff, Nat.reduceBEq, Nat.reduceBNe, Try.results6, hdraw, hp, hs, hd, List.map_nil] | skip))
  rw [if_pos hV] at hp hs hpath
  obtain ⟨hG, x0, x1, y0, y1, hc⟩ := hV
  unfold brgsB at hs
  have ho := hG.okg.ok
  have hle := dst_le (t := y) (x := x) ho (show 0 ≤ n by omega)
  have hlen : (pathL n es x y).length = (dst n es y x).toNat + 1 := pathL_len
  have hfl : (es.filter fun e => !decide (Conn (cutE e es) x y)).length ≤ es.length := List.length_filter_le _ _
  have hlt := between_len ho (show 0 ≤ n by omega) hG.nodup hc
  have hd := c_dyEdges (es.filter fun e => !decide (Conn (cutE e es) x y)) (es.filter fun e => !decide (Conn (cutE e es) x y)) (by omega)
  refine xw_call (fn := Try.f6) rfl Try.func6 rfl ⟨Nat.le_of_ble_eq_true rfl, rfl, rfl⟩ ?_
  repeat' (first
    | refine xw_seq ?_
    | refine xw_block ?_
    | (refine ite_two ?_ ?_ <;> intro _ <;> first | (exfalso; omega) | skip)
    | refine ord_split (by kernel_rfl) ?_
    | (refine xw_ret ?_ <;> try simp only [sq, bl, LQ])
    | ((first | refine xw_reg ?_ | refine xw_regd ?_ | refine xw_if ?_ | refine xw_skip ?_ | refine xw_exit ?_ | refine xw_label ?_ | refine post_ret ?_ | refine post_normal ?_ | refine postE_ret ?_ | refine postE_normal ?_) <;> simp (config := { maxSteps := 3000000 }) (disch := first | assumption | omega | exact VG.okg (by assumption) | (simp only [List.length_set, List.length_append, List.length_cons, List.length_nil, List.length_replicate]; omega)) only [go_sem, ↓reduceIte, Int.reduceLE, Int.reduceLT, Int.reduceToNat, Int.reduceNeg, Int.reduceAdd, Int.reduceSub, Int.reduceMul, Int.reduceEq, Int.reduceNe, Nat.reduceEqDiff, Nat.reduceAdd, Nat.reduceSub, Nat.reduceMul, Nat.reduceLT, Nat.reduceLeDiff, Nat.reduceBEq, Nat.reduceBNe, Try.results6, hdraw, hp, hs, hd, decide_true, hpath])
    | (((first | refine at_region ?_ | refine at_out ?_ | refine at_cond ?_); split) <;> first | (exfalso; omega; done) | simp (config := { maxSteps := 3000000 }) (disch := first | assumption | omega | exact VG.okg (by assumption) | (simp only [List.length_set, List.length_append, List.length_cons, List.length_nil, List.length_replicate]; omega)) only [go_sem, ↓reduceIte, Int.reduceLE, Int.reduceLT, Int.reduceToNat, Int.reduceNeg, Int.reduceAdd, Int.reduceSub, Int.reduceMul, Int.reduceEq, Int.reduceNe, Nat.reduceEqDiff, Nat.reduceAdd, Nat.reduceSub, Nat.reduceMul, Nat.reduceLT, Nat.reduceLeDiff, Nat.reduceBEq, Nat.reduceBNe, Try.results6, hdraw, hp, hs, hd, decide_true, hpath] | skip))
  refine xw_loopR (fun (i : Int) s => s.m 3 = some (.box 0 [I n, LE es]) ∧ s.ρ 3 = .ptr 3 0 0 0 ∧ s.ρ 6 = .i (delF (fun e => !decide (Conn (cutE e es) x y)) es) ∧ s.ρ 10 = LI (pathL n es x y) ∧ s.ρ 11 = B true ∧ s.ρ 12 = I i ∧ 0 ≤ i ∧ i ≤ (es.filter fun e => !decide (Conn (cutE e es) x y)).length)
    (fun i => ((es.filter fun e => !decide (Conn (cutE e es) x y)).length - i).toNat) 0 (by refine ⟨?_, ?_, ?_, ?_, ?_, ?_, by omega, by omega⟩ <;> simp [upd]) ?_
  rintro i ⟨ρ, m⟩ ⟨m3, h3, h6, h10, h11, h12, g0, g1⟩
  simp only at m3 h3 h6 h10 h11 h12 g0 g1
  by_cases hi : i < (es.filter fun e => !decide (Conn (cutE e es) x y)).length
  · have hm := getD_mem (d := (0, 0)) (show i.toNat < (es.filter fun e => !decide (Conn (cutE e es) x y)).length by omega)
    generalize hq : (es.filter fun e => !decide (Conn (cutE e es) x y)).getD i.toNat (0, 0) = e at hm
    obtain ⟨hm1, hm2⟩ := List.mem_filter.1 hm
    simp only [Bool.not_eq_true', decide_eq_false_iff_not] at hm2
    have hbr := between_brg hc hm2
    obtain ⟨k, hk, he, he1, he2⟩ := between_path ho (show 0 ≤ n by omega) hm1 hc hm2
    have hib := c_IsBridge n e.1 e.2 es (by omega)
    rw [decide_eq_true ⟨hG, hm1, hbr⟩] at hib
    have hi1 := c_dyIn (pathL n es x y) e.1 (by omega)
    have hi2 := c_dyIn (pathL n es x y) e.2 (by omega)
    rw [decide_eq_true he1] at hi1
    rw [decide_eq_true he2] at hi2
    repeat' (first
      | refine xw_seq ?_
      | refine xw_block ?_
      | (refine ite_two ?_ ?_ <;> intro _ <;> first | (exfalso; omega) | skip)
      | refine ord_split (by kernel_rfl) ?_
      | (refine xw_ret ?_ <;> try simp only [sq, bl, LQ])
      | ((first | refine xw_reg ?_ | refine xw_regd ?_ | refine xw_if ?_ | refine xw_skip ?_ | refine xw_exit ?_ | refine xw_label ?_ | refine post_ret ?_ | refine post_normal ?_ | refine postE_ret ?_ | refine postE_normal ?_) <;> simp (config := { maxSteps := 3000000 }) (disch := first | assumption | omega | exact VG.okg (by assumption) | (simp only [List.length_set, List.length_append, List.length_cons, List.length_nil, List.length_replicate]; omega)) only [go_sem, ↓reduceIte, Int.reduceLE, Int.reduceLT, Int.reduceToNat, Int.reduceNeg, Int.reduceAdd, Int.reduceSub, Int.reduceMul, Int.reduceEq, Int.reduceNe, Nat.reduceEqDiff, Nat.reduceAdd, Nat.reduceSub, Nat.reduceMul, Nat.reduceLT, Nat.reduceLeDiff, Nat.reduceBEq, Nat.reduceBNe, Try.results6, m3, h3, h6, h10, h11, h12, hq, hib, hi1, hi2])
      | (((first | refine at_region ?_ | refine at_out ?_ | refine at_cond ?_); split) <;> first | (exfalso; omega; done) | simp (config := { maxSteps := 3000000 }) (disch := first | assumption | omega | exact VG.okg (by assumption) | (simp only [List.length_set, List.length_append, List.length_cons, List.length_nil, List.length_replicate]; omega)) only [go_sem, ↓reduceIte, Int.reduceLE, Int.reduceLT, Int.reduceToNat, Int.reduceNeg, Int.reduceAdd, Int.reduceSub, Int.reduceMul, Int.reduceEq, Int.reduceNe, Nat.reduceEqDiff, Nat.reduceAdd, Nat.reduceSub, Nat.reduceMul, Nat.reduceLT, Nat.reduceLeDiff, Nat.reduceBEq, Nat.reduceBNe, Try.results6, m3, h3, h6, h10, h11, h12, hq, hib, hi1, hi2] | skip))
    all_goals omega
  · repeat' (first
      | refine xw_seq ?_
      | refine xw_block ?_
      | (refine ite_two ?_ ?_ <;> intro _ <;> first | (exfalso; omega) | skip)
      | refine ord_split (by kernel_rfl) ?_
      | (refine xw_ret ?_ <;> try simp only [sq, bl, LQ])
      | ((first | refine xw_reg ?_ | refine xw_regd ?_ | refine xw_if ?_ | refine xw_skip ?_ | refine xw_exit ?_ | refine xw_label ?_ | refine post_ret ?_ | refine post_normal ?_ | refine postE_ret ?_ | refine postE_normal ?_) <;> simp (config := { maxSteps := 3000000 }) (disch := first | assumption | omega | exact VG.okg (by assumption) | (simp only [List.length_set, List.length_append, List.length_cons, List.length_nil, List.length_replicate]; omega)) only [go_sem, ↓reduceIte, Int.reduceLE, Int.reduceLT, Int.reduceToNat, Int.reduceNeg, Int.reduceAdd, Int.reduceSub, Int.reduceMul, Int.reduceEq, Int.reduceNe, Nat.reduceEqDiff, Nat.reduceAdd, Nat.reduceSub, Nat.reduceMul, Nat.reduceLT, Nat.reduceLeDiff, Nat.reduceBEq, Nat.reduceBNe, Try.results6, m3, h3, h6, h10, h11, h12])
      | (((first | refine at_region ?_ | refine at_out ?_ | refine at_cond ?_); split) <;> first | (exfalso; omega; done) | simp (config := { maxSteps := 3000000 }) (disch := first | assumption | omega | exact VG.okg (by assumption) | (simp only [List.length_set, List.length_append, List.length_cons, List.length_nil, List.length_replicate]; omega)) only [go_sem, ↓reduceIte, Int.reduceLE, Int.reduceLT, Int.reduceToNat, Int.reduceNeg, Int.reduceAdd, Int.reduceSub, Int.reduceMul, Int.reduceEq, Int.reduceNe, Nat.reduceEqDiff, Nat.reduceAdd, Nat.reduceSub, Nat.reduceMul, Nat.reduceLT, Nat.reduceLeDiff, Nat.reduceBEq, Nat.reduceBNe, Try.results6, m3, h3, h6, h10, h11, h12] | skip))
    all_goals omega
end Go.Proofs.Ytlahjdgcgfgifaa.X

