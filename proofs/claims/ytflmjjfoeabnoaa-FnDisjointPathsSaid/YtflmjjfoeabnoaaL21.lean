/- The law: paths are disjoint. -/
import Derived.Test.YtflmjjfoeabnoaaC29
set_option linter.unusedSimpArgs false
set_option linter.unusedVariables false
set_option maxHeartbeats 8000000
namespace Go.Proofs.Ytflmjjfoeabnoaa.X
open Go Go.Proofs

/-- The edges of the first steps of a row. -/
def stpL (p : List Int) (k : Nat) : List (Int × Int) := (List.range k).map fun t => edgeOf (p.getD t 0) (p.getD (t + 1) 0)
theorem stpL_len (p : List Int) (k : Nat) : (stpL p k).length = k := by simp [stpL]
theorem stpL_snoc (p : List Int) (k : Nat) : stpL p (k + 1) = stpL p k ++ [edgeOf (p.getD k 0) (p.getD (k + 1) 0)] := by simp [stpL, List.range_succ]

theorem law_DisjointPaths (bs : List Int) (hb : ∀ b ∈ bs, 0 ≤ b ∧ b < 256) : KP 9 [LB bs] [] = some (B true, [], []) := by
  by_cases hbig : (1048576 : Int) < bs.length
  · refine xw_call (fn := Try.f9) rfl Try.func9 rfl ⟨Nat.le_of_ble_eq_true rfl, rfl, rfl⟩ ?_
    repeat' (first
      | refine xw_seq ?_
      | refine xw_block ?_
      | (refine ite_two ?_ ?_ <;> intro _ <;> first | (exfalso; omega) | skip)
      | refine ord_split (by kernel_rfl) ?_
      | (refine xw_ret ?_ <;> try simp only [sq, bl, LQ])
      | ((first | refine xw_reg ?_ | refine xw_regd ?_ | refine xw_if ?_ | refine xw_skip ?_ | refine xw_exit ?_ | refine xw_label ?_ | refine post_ret ?_ | refine post_normal ?_ | refine postE_ret ?_ | refine postE_normal ?_) <;> simp (config := { maxSteps := 3000000 }) (disch := first | assumption | omega | exact VG.okg (by assumption) | (simp only [List.length_set, List.length_append, List.length_cons, List.length_nil, List.length_replicate]; omega)) only [go_sem, ↓reduceIte, Int.reduceLE, Int.reduceLT, Int.reduceToNat, Int.reduceNeg, Int.reduceAdd, Int.reduceSub, Int.reduceMul, Int.reduceEq, Int.reduceNe, Nat.reduceEqDiff, Nat.reduceAdd, Nat.reduceSub, Nat.reduceMul, Nat.reduceLT, Nat.reduceLeDiff, Nat.reduceBEq, Nat.reduceBNe, Try.results9])
      | (((first | refine at_region ?_ | refine at_out ?_ | refine at_cond ?_); split) <;> first | (exfalso; omega; done) | simp (config := { maxSteps := 3000000 }) (disch := first | assumption | omega | exact VG.okg (by assumption) | (simp only [List.length_set, List.length_append, List.length_cons, List.length_nil, List.length_replicate]; omega)) only [go_sem, ↓reduceIte, Int.reduceLE, Int.reduceLT, Int.reduceToNat, Int.reduceNeg, Int.reduceAdd, Int.reduceSub, Int.reduceMul, Int.reduceEq, Int.reduceNe, Nat.reduceEqDiff, Nat.reduceAdd, Nat.reduceSub, Nat.reduceMul, Nat.reduceLT, Nat.reduceLeDiff, Nat.reduceBEq, Nat.reduceBNe, Try.results9] | skip))
  obtain ⟨n, xv, es, x, y, n0, n1, hl, hx, a0, a1, b0, b1, hdraw⟩ := c_DrawDisjointPaths bs hb (by omega)
  have hf := hx.f
  have hfl := hx.fl
  have hp := c_DisjointPaths n x y es (by omega)
  have hs := c_sDisjointPaths n x y es (by omega)
  by_cases h : Pr n x y es
  rotate_left
  · rw [if_neg h] at hp hs
    have hd := c_dyLists_nil
    refine xw_call (fn := Try.f9) rfl Try.func9 rfl ⟨Nat.le_of_ble_eq_true rfl, rfl, rfl⟩ ?_
    repeat' (first
      | refine xw_seq ?_
      | refine xw_block ?_
      | (refine ite_two ?_ ?_ <;> intro _ <;> first | (exfalso; omega) | skip)
      | refine ord_split (by kernel_rfl) ?_
      | (refine xw_ret ?_ <;> try simp only [sq, bl, LQ])
      | ((first | refine xw_reg ?_ | refine xw_regd ?_ | refine xw_if ?_ | refine xw_skip ?_ | refine xw_exit ?_ | refine xw_label ?_ | refine post_ret ?_ | refine post_normal ?_ | refine postE_ret ?_ | refine postE_normal ?_) <;> simp (config := { maxSteps := 3000000 }) (disch := first | assumption | omega | exact VG.okg (by assumption) | (simp only [List.length_set, List.length_append, List.length_cons, List.length_nil, List.length_replicate]; omega)) only [go_sem, ↓reduceIte, Int.reduceLE, Int.reduceLT, Int.reduceToNat, Int.reduceNeg, Int.reduceAdd, Int.reduceSub, Int.reduceMul, Int.reduceEq, Int.reduceNe, Nat.reduceEqDiff, Nat.reduceAdd, Nat.reduceSub, Nat.reduceMul, Nat.reduceLT, Nat.reduceLeDiff, Nat.reduceBEq, Nat.reduceBNe, Try.results9, hdraw, hp, hs, hf, hfl, hd, List.map_nil])
      | (((first | refine at_region ?_ | refine at_out ?_ | refine at_cond ?_); split) <;> first | (exfalso; omega; done) | simp (config := { maxSteps := 3000000 }) (disch := first | assumption | omega | exact VG.okg (by assumption) | (simp only [List.length_set, List.length_append, List.length_cons, List.length_nil, List.length_replicate]; omega)) only [go_sem, ↓reduceIte, Int.reduceLE, Int.reduceLT, Int.reduceToNat, Int.reduceNeg, Int.reduceAdd, Int.reduceSub, Int.reduceMul, Int.reduceEq, Int.reduceNe, Nat.reduceEqDiff, Nat.reduceAdd, Nat.reduceSub, Nat.reduceMul, Nat.reduceLT, Nat.reduceLeDiff, Nat.reduceBEq, Nat.reduceBNe, Try.results9, hdraw, hp, hs, hf, hfl, hd, List.map_nil] | skip))
  obtain ⟨hV, hxn, hyn, hxy⟩ := id h
  have ho := hV.okg.ok
  have hnd := hV.nodup
  have hn16 := hV.2.1
  have hk40 : flN n es x y ≤ 40 := by
    have h1 := (flow_deg ho hnd hxn hyn hxy).1
    have h2 := alone_length x es
    omega
  have hfb := c_FlowBetween n x y es (by omega)
  rw [if_pos h] at hp hs hfb
  have hpsl := dpPs_len n es x y (flN n es x y)
  have hget : ∀ i, i < flN n es x y → (dpPs n es x y (flN n es x y)).getD i [] = dpP n es x y i := fun i hi => by simp [dpPs, hi]
  have hmem : ∀ p ∈ dpPs n es x y (flN n es x y), p.length ≤ 16 := fun p hp => by
    obtain ⟨i, hi, rfl⟩ := List.mem_map.1 hp
    exact way_len ho (dp_way ho hnd hxn hyn hxy (List.mem_range.1 hi)) hyn hn16
  have hd := c_dyLists (dpPs n es x y (flN n es x y)) (dpPs n es x y (flN n es x y)) (by omega) (fun p hp => by have := hmem p hp; omega)
  generalize dpPs n es x y (flN n es x y) = ps at *
  refine xw_call (fn := Try.f9) rfl Try.func9 rfl ⟨Nat.le_of_ble_eq_true rfl, rfl, rfl⟩ ?_
  repeat' (first
    | refine xw_seq ?_
    | refine xw_block ?_
    | (refine ite_two ?_ ?_ <;> intro _ <;> first | (exfalso; omega) | skip)
    | refine ord_split (by kernel_rfl) ?_
    | (refine xw_ret ?_ <;> try simp only [sq, bl, LQ])
    | ((first | refine xw_reg ?_ | refine xw_regd ?_ | refine xw_if ?_ | refine xw_skip ?_ | refine xw_exit ?_ | refine xw_label ?_ | refine post_ret ?_ | refine post_normal ?_ | refine postE_ret ?_ | refine postE_normal ?_) <;> simp (config := { maxSteps := 3000000 }) (disch := first | assumption | omega | exact VG.okg (by assumption) | (simp only [List.length_set, List.length_append, List.length_cons, List.length_nil, List.length_replicate]; omega)) only [go_sem, ↓reduceIte, Int.reduceLE, Int.reduceLT, Int.reduceToNat, Int.reduceNeg, Int.reduceAdd, Int.reduceSub, Int.reduceMul, Int.reduceEq, Int.reduceNe, Nat.reduceEqDiff, Nat.reduceAdd, Nat.reduceSub, Nat.reduceMul, Nat.reduceLT, Nat.reduceLeDiff, Nat.reduceBEq, Nat.reduceBNe, Try.results9, hdraw, hp, hs, hf, hfl, hd, decide_true])
    | (((first | refine at_region ?_ | refine at_out ?_ | refine at_cond ?_); split) <;> first | (exfalso; omega; done) | simp (config := { maxSteps := 3000000 }) (disch := first | assumption | omega | exact VG.okg (by assumption) | (simp only [List.length_set, List.length_append, List.length_cons, List.length_nil, List.length_replicate]; omega)) only [go_sem, ↓reduceIte, Int.reduceLE, Int.reduceLT, Int.reduceToNat, Int.reduceNeg, Int.reduceAdd, Int.reduceSub, Int.reduceMul, Int.reduceEq, Int.reduceNe, Nat.reduceEqDiff, Nat.reduceAdd, Nat.reduceSub, Nat.reduceMul, Nat.reduceLT, Nat.reduceLeDiff, Nat.reduceBEq, Nat.reduceBNe, Try.results9, hdraw, hp, hs, hf, hfl, hd, decide_true] | skip))
  refine xw_loopR (fun (u : Nat × Nat × List (Int × Int)) s => s.m 62 = some (.arr u.2.1 2 (u.2.2.map encE)) ∧ s.ρ 10 = .ref 62 u.2.1 0 u.2.2.length ∧ s.m 3 = some (.box 0 [I n, .i xv]) ∧ s.ρ 3 = .ptr 3 0 0 0 ∧ s.ρ 4 = I x ∧ s.ρ 5 = I y ∧ s.ρ 6 = LL ps ∧ s.ρ 11 = I (u.1 : Int) ∧
    u.1 ≤ flN n es x y ∧ (∀ e ∈ u.2.2, Free (dpF n es x y u.1) e) ∧ u.2.2.length ≤ 20 * u.1) (fun u => flN n es x y - u.1) (0, 0, []) ?_ ?_
  · refine ⟨by simp [upd], by simp [upd], by simp [upd], by simp [upd], by simp [upd], by simp [upd], by simp [upd], by simp [upd], Nat.zero_le _, by simp, by simp⟩
  rintro ⟨i, v, us⟩ ⟨ρ, m⟩ ⟨m62, h10, m3, h3, h4, h5, h6, h11, g0, g1, g2⟩
  simp only at m62 h10 m3 h3 h4 h5 h6 h11 g0 g1 g2
  by_cases hi : i < flN n es x y
  rotate_left
  · repeat' (first
      | refine xw_seq ?_
      | refine xw_block ?_
      | (refine ite_two ?_ ?_ <;> intro _ <;> first | (exfalso; omega) | skip)
      | refine ord_split (by kernel_rfl) ?_
      | (refine xw_ret ?_ <;> try simp only [sq, bl, LQ])
      | ((first | refine xw_reg ?_ | refine xw_regd ?_ | refine xw_if ?_ | refine xw_skip ?_ | refine xw_exit ?_ | refine xw_label ?_ | refine post_ret ?_ | refine post_normal ?_ | refine postE_ret ?_ | refine postE_normal ?_) <;> simp (config := { maxSteps := 3000000 }) (disch := first | assumption | omega | exact VG.okg (by assumption) | (simp only [List.length_set, List.length_append, List.length_cons, List.length_nil, List.length_replicate]; omega)) only [go_sem, ↓reduceIte, Int.reduceLE, Int.reduceLT, Int.reduceToNat, Int.reduceNeg, Int.reduceAdd, Int.reduceSub, Int.reduceMul, Int.reduceEq, Int.reduceNe, Nat.reduceEqDiff, Nat.reduceAdd, Nat.reduceSub, Nat.reduceMul, Nat.reduceLT, Nat.reduceLeDiff, Nat.reduceBEq, Nat.reduceBNe, Try.results9, m62, h10, m3, h3, h4, h5, h6, h11, hf, hfl, hfb, hpsl])
      | (((first | refine at_region ?_ | refine at_out ?_ | refine at_cond ?_); split) <;> first | (exfalso; omega; done) | simp (config := { maxSteps := 3000000 }) (disch := first | assumption | omega | exact VG.okg (by assumption) | (simp only [List.length_set, List.length_append, List.length_cons, List.length_nil, List.length_replicate]; omega)) only [go_sem, ↓reduceIte, Int.reduceLE, Int.reduceLT, Int.reduceToNat, Int.reduceNeg, Int.reduceAdd, Int.reduceSub, Int.reduceMul, Int.reduceEq, Int.reduceNe, Nat.reduceEqDiff, Nat.reduceAdd, Nat.reduceSub, Nat.reduceMul, Nat.reduceLT, Nat.reduceLeDiff, Nat.reduceBEq, Nat.reduceBNe, Try.results9, m62, h10, m3, h3, h4, h5, h6, h11, hf, hfl, hfb, hpsl] | skip))
  have hw := dp_way ho hnd hxn hyn hxy hi
  have hO := (dp_inv ho hnd hxn hyn hxy i (by omega)).1
  have hgi := hget i hi
  have hnx : dpF n es x y (i + 1) = dropP (dpF n es x y i) (dpP n es x y i) := rfl
  have hpl := way_len ho hw hyn hn16
  have hpin := way_in ho hw hyn
  have hpp := hw.pos
  generalize hpq : dpP n es x y i = p at *
  have hhd := hw.hd
  have hla := hw.la
  rw [show p.length - 1 = ((p.length : Int) - 1).toNat by omega] at hla
  repeat' (first
    | refine xw_seq ?_
    | refine xw_block ?_
    | (refine ite_two ?_ ?_ <;> intro _ <;> first | (exfalso; omega) | skip)
    | refine ord_split (by kernel_rfl) ?_
    | (refine xw_ret ?_ <;> try simp only [sq, bl, LQ])
    | ((first | refine xw_reg ?_ | refine xw_regd ?_ | refine xw_if ?_ | refine xw_skip ?_ | refine xw_exit ?_ | refine xw_label ?_ | refine post_ret ?_ | refine post_normal ?_ | refine postE_ret ?_ | refine postE_normal ?_) <;> simp (config := { maxSteps := 3000000 }) (disch := first | assumption | omega | exact VG.okg (by assumption) | (simp only [List.length_set, List.length_append, List.length_cons, List.length_nil, List.length_replicate]; omega)) only [go_sem, ↓reduceIte, Int.reduceLE, Int.reduceLT, Int.reduceToNat, Int.reduceNeg, Int.reduceAdd, Int.reduceSub, Int.reduceMul, Int.reduceEq, Int.reduceNe, Nat.reduceEqDiff, Nat.reduceAdd, Nat.reduceSub, Nat.reduceMul, Nat.reduceLT, Nat.reduceLeDiff, Nat.reduceBEq, Nat.reduceBNe, Try.results9, m62, h10, m3, h3, h4, h5, h6, h11, hgi, hhd, hla])
    | (((first | refine at_region ?_ | refine at_out ?_ | refine at_cond ?_); split) <;> first | (exfalso; omega; done) | simp (config := { maxSteps := 3000000 }) (disch := first | assumption | omega | exact VG.okg (by assumption) | (simp only [List.length_set, List.length_append, List.length_cons, List.length_nil, List.length_replicate]; omega)) only [go_sem, ↓reduceIte, Int.reduceLE, Int.reduceLT, Int.reduceToNat, Int.reduceNeg, Int.reduceAdd, Int.reduceSub, Int.reduceMul, Int.reduceEq, Int.reduceNe, Nat.reduceEqDiff, Nat.reduceAdd, Nat.reduceSub, Nat.reduceMul, Nat.reduceLT, Nat.reduceLeDiff, Nat.reduceBEq, Nat.reduceBNe, Try.results9, m62, h10, m3, h3, h4, h5, h6, h11, hgi, hhd, hla] | skip))
  refine xw_loopR (fun (u : Nat × Nat) s => s.m 62 = some (.arr u.2 2 ((us ++ stpL p u.1).map encE)) ∧ s.ρ 10 = .ref 62 u.2 0 (us ++ stpL p u.1).length ∧ s.m 3 = some (.box 0 [I n, .i xv]) ∧ s.ρ 3 = .ptr 3 0 0 0 ∧ s.ρ 4 = I x ∧ s.ρ 5 = I y ∧ s.ρ 6 = LL ps ∧ s.ρ 11 = I (i : Int) ∧ s.ρ 12 = LI p ∧ s.ρ 13 = I ((u.1 : Int) + 1) ∧
    u.1 + 1 ≤ p.length) (fun u => p.length - u.1) (0, v) ?_ ?_
  · refine ⟨by simp [upd, m62, stpL], by simp [upd, h10, stpL], by simp [upd, m3], by simp [upd, h3], by simp [upd, h4], by simp [upd, h5], by simp [upd, h6], by simp [upd, h11], by simp [upd], by simp [upd], by simp only; omega⟩
  rintro ⟨k, w⟩ ⟨ρ, m⟩ ⟨m62, h10, m3, h3, h4, h5, h6, h11, h12, h13, f0⟩
  simp only at m62 h10 m3 h3 h4 h5 h6 h11 h12 h13 f0
  have hsl := stpL_len p k
  by_cases hk : k + 1 < p.length
  rotate_left
  · have hfree : ∀ e ∈ us ++ stpL p k, Free (dpF n es x y (i + 1)) e := fun e he => by
      rw [hnx]
      rcases List.mem_append.1 he with he | he
      · exact (g1 e he).drop
      · obtain ⟨t, ht, rfl⟩ := List.mem_map.1 he
        exact (way_used hO hw (by have := List.mem_range.1 ht; omega)).2
    have hul : (us ++ stpL p k).length ≤ 20 * (i + 1) := by rw [List.length_append, hsl]; omega
    generalize us ++ stpL p k = us' at *
    repeat' (first
      | refine xw_seq ?_
      | refine xw_block ?_
      | (refine ite_two ?_ ?_ <;> intro _ <;> first | (exfalso; omega) | skip)
      | refine ord_split (by kernel_rfl) ?_
      | (refine xw_ret ?_ <;> try simp only [sq, bl, LQ])
      | ((first | refine xw_reg ?_ | refine xw_regd ?_ | refine xw_if ?_ | refine xw_skip ?_ | refine xw_exit ?_ | refine xw_label ?_ | refine post_ret ?_ | refine post_normal ?_ | refine postE_ret ?_ | refine postE_normal ?_) <;> simp (config := { maxSteps := 3000000 }) (disch := first | assumption | omega | exact VG.okg (by assumption) | (simp only [List.length_set, List.length_append, List.length_cons, List.length_nil, List.length_replicate]; omega)) only [go_sem, ↓reduceIte, Int.reduceLE, Int.reduceLT, Int.reduceToNat, Int.reduceNeg, Int.reduceAdd, Int.reduceSub, Int.reduceMul, Int.reduceEq, Int.reduceNe, Nat.reduceEqDiff, Nat.reduceAdd, Nat.reduceSub, Nat.reduceMul, Nat.reduceLT, Nat.reduceLeDiff, Nat.reduceBEq, Nat.reduceBNe, Try.results9, m62, h10, m3, h3, h4, h5, h6, h11, h12, h13])
      | (((first | refine at_region ?_ | refine at_out ?_ | refine at_cond ?_); split) <;> first | (exfalso; omega; done) | simp (config := { maxSteps := 3000000 }) (disch := first | assumption | omega | exact VG.okg (by assumption) | (simp only [List.length_set, List.length_append, List.length_cons, List.length_nil, List.length_replicate]; omega)) only [go_sem, ↓reduceIte, Int.reduceLE, Int.reduceLT, Int.reduceToNat, Int.reduceNeg, Int.reduceAdd, Int.reduceSub, Int.reduceMul, Int.reduceEq, Int.reduceNe, Nat.reduceEqDiff, Nat.reduceAdd, Nat.reduceSub, Nat.reduceMul, Nat.reduceLT, Nat.reduceLeDiff, Nat.reduceBEq, Nat.reduceBNe, Try.results9, m62, h10, m3, h3, h4, h5, h6, h11, h12, h13] | skip))
    exact ⟨i + 1, by omega, by omega, hfree, hul, by omega⟩
  have ha := hpin k (by omega)
  have hb := hpin (k + 1) hk
  have hst := hw.st k hk
  have hadj := (adj_edge ho).1 hst.1
  have heo := c_EdgeOf (p.getD k 0) (p.getD (k + 1) 0)
  rw [if_pos (by unfold eOk; omega)] at heo
  have hhe := c_HasEdge n es (edgeOf (p.getD k 0) (p.getD (k + 1) 0)).1 (edgeOf (p.getD k 0) (p.getD (k + 1) 0)).2 (by omega)
  rw [decide_eq_true ⟨hV, hadj.2⟩] at hhe
  have hnot : edgeOf (p.getD k 0) (p.getD (k + 1) 0) ∉ us ++ stpL p k := fun he => by
    rcases List.mem_append.1 he with he | he
    · exact (way_used hO hw hk).1 (g1 _ he)
    · obtain ⟨t, ht, hte⟩ := List.mem_map.1 he
      exact way_steps hw.nd (List.mem_range.1 ht) hk hte
  have hlen' : (us ++ stpL p k).length = us.length + k := by rw [List.length_append, hsl]
  have hul : (us ++ stpL p k).length ≤ 1000 := by rw [List.length_append, hsl]; omega
  have hdh := c_dyHas (us ++ stpL p k) (edgeOf (p.getD k 0) (p.getD (k + 1) 0)).1 (edgeOf (p.getD k 0) (p.getD (k + 1) 0)).2 (by omega)
  rw [decide_eq_false hnot] at hdh
  have hss := stpL_snoc p k
  have hss' : us ++ stpL p (k + 1) = (us ++ stpL p k) ++ [((edgeOf (p.getD k 0) (p.getD (k + 1) 0)).1, (edgeOf (p.getD k 0) (p.getD (k + 1) 0)).2)] := by rw [hss, List.append_assoc]
  have e1 : ((k : Int) + 1 - 1).toNat = k := by omega
  have e2 : ((k : Int) + 1).toNat = k + 1 := by omega
  generalize us ++ stpL p k = us' at *
  repeat' (first
    | refine xw_seq ?_
    | refine xw_block ?_
    | (refine ite_two ?_ ?_ <;> intro _ <;> first | (exfalso; omega) | skip)
    | refine ord_split (by kernel_rfl) ?_
    | (refine xw_ret ?_ <;> try simp only [sq, bl, LQ])
    | ((first | refine xw_reg ?_ | refine xw_regd ?_ | refine xw_if ?_ | refine xw_skip ?_ | refine xw_exit ?_ | refine xw_label ?_ | refine post_ret ?_ | refine post_normal ?_ | refine postE_ret ?_ | refine postE_normal ?_) <;> simp (config := { maxSteps := 3000000 }) (disch := first | assumption | omega | exact VG.okg (by assumption) | (simp only [List.length_set, List.length_append, List.length_cons, List.length_nil, List.length_replicate]; omega)) only [go_sem, ↓reduceIte, Int.reduceLE, Int.reduceLT, Int.reduceToNat, Int.reduceNeg, Int.reduceAdd, Int.reduceSub, Int.reduceMul, Int.reduceEq, Int.reduceNe, Nat.reduceEqDiff, Nat.reduceAdd, Nat.reduceSub, Nat.reduceMul, Nat.reduceLT, Nat.reduceLeDiff, Nat.reduceBEq, Nat.reduceBNe, Try.results9, m62, h10, m3, h3, h4, h5, h6, h11, h12, h13, hf, hfl, e1, e2, heo, hhe, hdh])
    | (((first | refine at_region ?_ | refine at_out ?_ | refine at_cond ?_); split) <;> first | (exfalso; omega; done) | simp (config := { maxSteps := 3000000 }) (disch := first | assumption | omega | exact VG.okg (by assumption) | (simp only [List.length_set, List.length_append, List.length_cons, List.length_nil, List.length_replicate]; omega)) only [go_sem, ↓reduceIte, Int.reduceLE, Int.reduceLT, Int.reduceToNat, Int.reduceNeg, Int.reduceAdd, Int.reduceSub, Int.reduceMul, Int.reduceEq, Int.reduceNe, Nat.reduceEqDiff, Nat.reduceAdd, Nat.reduceSub, Nat.reduceMul, Nat.reduceLT, Nat.reduceLeDiff, Nat.reduceBEq, Nat.reduceBNe, Try.results9, m62, h10, m3, h3, h4, h5, h6, h11, h12, h13, hf, hfl, e1, e2, heo, hhe, hdh] | skip))
  exact ⟨k + 1, hss'.symm, by rw [stpL_len]; omega, by omega, by omega, by omega⟩
end Go.Proofs.Ytflmjjfoeabnoaa.X

