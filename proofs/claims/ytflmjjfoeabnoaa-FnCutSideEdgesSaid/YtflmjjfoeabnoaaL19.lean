/- The law: cuts are cuts. -/
import Derived.Test.YtflmjjfoeabnoaaC17
import Derived.Test.YtflmjjfoeabnoaaC19
import Derived.Test.YtflmjjfoeabnoaaC28
set_option linter.unusedSimpArgs false
set_option linter.unusedVariables false
set_option maxHeartbeats 4000000
namespace Go.Proofs.Ytflmjjfoeabnoaa.X
open Go Go.Proofs

theorem EQ.del (p : Int × Int → Bool) (es : List (Int × Int)) : EQ (delE p es) (es.filter fun e => !p e) := ⟨EL.del p es, lenP_del, fun el i h0 h1 => iaR_del h0 h1⟩
theorem EQ.cut (a b : Int) (es : List (Int × Int)) : EQ (delE (fun e => decide (e.1 = a ∧ e.2 = b)) es) (cutE (a, b) es) := by
  have := EQ.del (fun e => decide (e.1 = a ∧ e.2 = b)) es
  rwa [cut_del] at this
/-- The edges of a cut among the first ones are gone. -/
def goneS (S : Int → Bool) (es : List (Int × Int)) (i : Nat) : List (Int × Int) := es.filter fun e => !decide (e ∈ (es.take i).filter fun e => S e.1 != S e.2)
theorem gone_mem {S : Int → Bool} {es : List (Int × Int)} {i : Nat} {e : Int × Int} : e ∈ goneS S es i ↔ e ∈ es ∧ ¬ (e ∈ es.take i ∧ S e.1 ≠ S e.2) := by
  simp only [goneS, List.mem_filter, Bool.not_eq_true', decide_eq_false_iff_not, bne_iff_ne]
theorem gone_zero {S : Int → Bool} {es : List (Int × Int)} : goneS S es 0 = es := by simp [goneS]
theorem gone_skip {S : Int → Bool} {es : List (Int × Int)} {i : Int} (h0 : 0 ≤ i) (h1 : i < es.length) (h : S (es.getD i.toNat (0, 0)).1 = S (es.getD i.toNat (0, 0)).2) : goneS S es (i + 1).toNat = goneS S es i.toNat := by
  unfold goneS
  rw [take_int (0, 0) h0 h1, List.filter_append]
  generalize es.getD i.toNat (0, 0) = q at h
  have : ([q].filter fun e => S e.1 != S e.2) = [] := by simp [h]
  rw [this, List.append_nil]
theorem gone_cut {S : Int → Bool} {es : List (Int × Int)} {i : Int} (h0 : 0 ≤ i) (h1 : i < es.length) (h : S (es.getD i.toNat (0, 0)).1 ≠ S (es.getD i.toNat (0, 0)).2) : goneS S es (i + 1).toNat = cutE (es.getD i.toNat (0, 0)) (goneS S es i.toNat) := by
  unfold goneS cutE
  rw [take_int (0, 0) h0 h1, List.filter_append, List.filter_filter]
  refine List.filter_congr fun e he => ?_
  generalize es.getD i.toNat (0, 0) = q at h
  have : ([q].filter fun e => S e.1 != S e.2) = [q] := by simp [h]
  rw [this]
  by_cases h2 : e = q <;> simp [h2]
theorem gone_all {S : Int → Bool} {es : List (Int × Int)} : goneS S es es.length = keepS S es := by
  unfold goneS keepS
  refine List.filter_congr fun e he => ?_
  rw [List.take_length]
  cases h1 : S e.1 <;> cases h2 : S e.2 <;> simp [h1, h2, he]
theorem gone_here {S : Int → Bool} {es : List (Int × Int)} (hn : es.Nodup) {i : Nat} (h1 : i < es.length) : es.getD i (0, 0) ∈ goneS S es i := by
  refine gone_mem.2 ⟨getD_mem h1, fun h => ?_⟩
  obtain ⟨j, hj, he⟩ := List.mem_iff_getElem.1 h.1
  have hj' : j < min i es.length := by simpa using hj
  have : es.getD i (0, 0) = es[i] := by simp [h1]
  rw [this, List.getElem_take] at he
  have := (List.getElem_inj hn).1 he
  omega
theorem VG.gone {S : Int → Bool} {n : Int} {es : List (Int × Int)} (h : VG n es) (i : Nat) : VG n (goneS S es i) := h.sub List.filter_sublist

theorem law_CutSideEdges (bs : List Int) (hb : ∀ b ∈ bs, 0 ≤ b ∧ b < 256) : KP 8 [LB bs] [] = some (B true, [], []) := by
  by_cases hbig : (1048576 : Int) < bs.length
  · refine xw_call (fn := Try.f8) rfl Try.func8 rfl ⟨Nat.le_of_ble_eq_true rfl, rfl, rfl⟩ ?_
    repeat' (first
      | refine xw_seq ?_
      | refine xw_block ?_
      | (refine ite_two ?_ ?_ <;> intro _ <;> first | (exfalso; omega) | skip)
      | refine ord_split (by kernel_rfl) ?_
      | (refine xw_ret ?_ <;> try simp only [sq, bl, LQ])
      | ((first | refine xw_reg ?_ | refine xw_regd ?_ | refine xw_if ?_ | refine xw_skip ?_ | refine xw_exit ?_ | refine xw_label ?_ | refine post_ret ?_ | refine post_normal ?_ | refine postE_ret ?_ | refine postE_normal ?_) <;> simp (config := { maxSteps := 3000000 }) (disch := first | assumption | omega | exact VG.okg (by assumption) | (simp only [List.length_set, List.length_append, List.length_cons, List.length_nil, List.length_replicate]; omega)) only [go_sem, ↓reduceIte, Int.reduceLE, Int.reduceLT, Int.reduceToNat, Int.reduceNeg, Int.reduceAdd, Int.reduceSub, Int.reduceMul, Int.reduceEq, Int.reduceNe, Nat.reduceEqDiff, Nat.reduceAdd, Nat.reduceSub, Nat.reduceMul, Nat.reduceLT, Nat.reduceLeDiff, Nat.reduceBEq, Nat.reduceBNe, Try.results8])
      | (((first | refine at_region ?_ | refine at_out ?_ | refine at_cond ?_); split) <;> first | (exfalso; omega; done) | simp (config := { maxSteps := 3000000 }) (disch := first | assumption | omega | exact VG.okg (by assumption) | (simp only [List.length_set, List.length_append, List.length_cons, List.length_nil, List.length_replicate]; omega)) only [go_sem, ↓reduceIte, Int.reduceLE, Int.reduceLT, Int.reduceToNat, Int.reduceNeg, Int.reduceAdd, Int.reduceSub, Int.reduceMul, Int.reduceEq, Int.reduceNe, Nat.reduceEqDiff, Nat.reduceAdd, Nat.reduceSub, Nat.reduceMul, Nat.reduceLT, Nat.reduceLeDiff, Nat.reduceBEq, Nat.reduceBNe, Try.results8] | skip))
  obtain ⟨n, xv, es, x, y, n0, n1, hl, hx, a0, a1, b0, b1, hdraw⟩ := c_DrawCutSide bs hb (by omega)
  have hf := hx.f
  have hfl := hx.fl
  have hp := c_CutSide n x y es (by omega)
  have hs := c_sCutSide n x y es (by omega)
  by_cases h : Pr n x y es
  rotate_left
  · rw [if_neg h] at hp hs
    have hd := c_dyInts_nil
    refine xw_call (fn := Try.f8) rfl Try.func8 rfl ⟨Nat.le_of_ble_eq_true rfl, rfl, rfl⟩ ?_
    repeat' (first
      | refine xw_seq ?_
      | refine xw_block ?_
      | (refine ite_two ?_ ?_ <;> intro _ <;> first | (exfalso; omega) | skip)
      | refine ord_split (by kernel_rfl) ?_
      | (refine xw_ret ?_ <;> try simp only [sq, bl, LQ])
      | ((first | refine xw_reg ?_ | refine xw_regd ?_ | refine xw_if ?_ | refine xw_skip ?_ | refine xw_exit ?_ | refine xw_label ?_ | refine post_ret ?_ | refine post_normal ?_ | refine postE_ret ?_ | refine postE_normal ?_) <;> simp (config := { maxSteps := 3000000 }) (disch := first | assumption | omega | exact VG.okg (by assumption) | (simp only [List.length_set, List.length_append, List.length_cons, List.length_nil, List.length_replicate]; omega)) only [go_sem, ↓reduceIte, Int.reduceLE, Int.reduceLT, Int.reduceToNat, Int.reduceNeg, Int.reduceAdd, Int.reduceSub, Int.reduceMul, Int.reduceEq, Int.reduceNe, Nat.reduceEqDiff, Nat.reduceAdd, Nat.reduceSub, Nat.reduceMul, Nat.reduceLT, Nat.reduceLeDiff, Nat.reduceBEq, Nat.reduceBNe, Try.results8, hdraw, hp, hs, hf, hfl, hd, List.map_nil])
      | (((first | refine at_region ?_ | refine at_out ?_ | refine at_cond ?_); split) <;> first | (exfalso; omega; done) | simp (config := { maxSteps := 3000000 }) (disch := first | assumption | omega | exact VG.okg (by assumption) | (simp only [List.length_set, List.length_append, List.length_cons, List.length_nil, List.length_replicate]; omega)) only [go_sem, ↓reduceIte, Int.reduceLE, Int.reduceLT, Int.reduceToNat, Int.reduceNeg, Int.reduceAdd, Int.reduceSub, Int.reduceMul, Int.reduceEq, Int.reduceNe, Nat.reduceEqDiff, Nat.reduceAdd, Nat.reduceSub, Nat.reduceMul, Nat.reduceLT, Nat.reduceLeDiff, Nat.reduceBEq, Nat.reduceBNe, Try.results8, hdraw, hp, hs, hf, hfl, hd, List.map_nil] | skip))
  obtain ⟨hV, hxn, hyn, hxy⟩ := id h
  have ho := hV.okg.ok
  have hnd := hV.nodup
  have hfb := c_FlowBetween n x y es (by omega)
  rw [if_pos h] at hp hs hfb
  have hsl : (sideL n es x y).length ≤ 16 := by
    have h1 : (sideL n es x y).length ≤ (iota n).length := List.length_filter_le _ _
    have h2 := hV.2.1
    rw [iota_length] at h1
    omega
  have hd := c_dyInts (sideL n es x y) (sideL n es x y) (by omega)
  have hll := hx.len
  have hia := hx.ia
  generalize hS : sideL n es x y = sd at *
  have hin : ∀ v : Int, 0 ≤ v → v < n → (decide (v ∈ sd) = decide (v ∈ sideO n es x y)) := fun v v0 v1 => by
    rw [← hS]
    have := mem_iota.2 ⟨v0, v1⟩
    simp [sideL, this]
  have hcut : cutsz (inS sd) es = flN n es x y := by
    rw [← flow_cut (y := y) ho hnd hxn hxy]
    unfold cutsz
    congr 1
    refine List.filter_congr fun e he => ?_
    have := ho e he
    unfold okE at this
    show (decide (e.1 ∈ sd) != decide (e.2 ∈ sd)) = _
    rw [hin e.1 (by omega) (by omega), hin e.2 (by omega) (by omega)]
  refine xw_call (fn := Try.f8) rfl Try.func8 rfl ⟨Nat.le_of_ble_eq_true rfl, rfl, rfl⟩ ?_
  repeat' (first
    | refine xw_seq ?_
    | refine xw_block ?_
    | (refine ite_two ?_ ?_ <;> intro _ <;> first | (exfalso; omega) | skip)
    | refine ord_split (by kernel_rfl) ?_
    | (refine xw_ret ?_ <;> try simp only [sq, bl, LQ])
    | ((first | refine xw_reg ?_ | refine xw_regd ?_ | refine xw_if ?_ | refine xw_skip ?_ | refine xw_exit ?_ | refine xw_label ?_ | refine post_ret ?_ | refine post_normal ?_ | refine postE_ret ?_ | refine postE_normal ?_) <;> simp (config := { maxSteps := 3000000 }) (disch := first | assumption | omega | exact VG.okg (by assumption) | (simp only [List.length_set, List.length_append, List.length_cons, List.length_nil, List.length_replicate]; omega)) only [go_sem, ↓reduceIte, Int.reduceLE, Int.reduceLT, Int.reduceToNat, Int.reduceNeg, Int.reduceAdd, Int.reduceSub, Int.reduceMul, Int.reduceEq, Int.reduceNe, Nat.reduceEqDiff, Nat.reduceAdd, Nat.reduceSub, Nat.reduceMul, Nat.reduceLT, Nat.reduceLeDiff, Nat.reduceBEq, Nat.reduceBNe, Try.results8, hdraw, hp, hs, hf, hfl, hd, decide_true])
    | (((first | refine at_region ?_ | refine at_out ?_ | refine at_cond ?_); split) <;> first | (exfalso; omega; done) | simp (config := { maxSteps := 3000000 }) (disch := first | assumption | omega | exact VG.okg (by assumption) | (simp only [List.length_set, List.length_append, List.length_cons, List.length_nil, List.length_replicate]; omega)) only [go_sem, ↓reduceIte, Int.reduceLE, Int.reduceLT, Int.reduceToNat, Int.reduceNeg, Int.reduceAdd, Int.reduceSub, Int.reduceMul, Int.reduceEq, Int.reduceNe, Nat.reduceEqDiff, Nat.reduceAdd, Nat.reduceSub, Nat.reduceMul, Nat.reduceLT, Nat.reduceLeDiff, Nat.reduceBEq, Nat.reduceBNe, Try.results8, hdraw, hp, hs, hf, hfl, hd, decide_true] | skip))
  refine xw_loopR (fun (u : Int × IV × List (Int × Int)) s => s.m 3 = some (.box 0 [I n, .i xv]) ∧ s.ρ 3 = .ptr 3 0 0 0 ∧ s.ρ 4 = I x ∧ s.ρ 5 = I y ∧ s.ρ 6 = LI sd ∧ s.m 10 = some (.box 0 [I n, .i u.2.1]) ∧ s.ρ 10 = .ptr 10 0 0 0 ∧ s.ρ 11 = I u.1 ∧
    EQ u.2.1 u.2.2 ∧ 0 ≤ u.1 ∧ u.1 ≤ es.length ∧ u.2.2 = goneS (inS sd) es u.1.toNat) (fun u => (es.length - u.1).toNat) (0, xv, es) ?_ ?_
  · refine ⟨by simp [upd], by simp [upd], by simp [upd], by simp [upd], by simp [upd], by simp [upd], by simp [upd], by simp [upd], hx, by simp, by simp, gone_zero.symm⟩
  rintro ⟨i, hv, gs⟩ ⟨ρ, m⟩ ⟨m3, h3, h4, h5, h6, m10, h10, h11, hq, g0, g1, g2⟩
  simp only at m3 h3 h4 h5 h6 m10 h10 h11 hq g0 g1 g2
  have hqf := hq.f
  have hqfl := hq.fl
  have hqll := hq.len
  have hgl : gs.length ≤ es.length := by rw [g2]; exact List.length_filter_le _ _
  by_cases hi : i < es.length
  rotate_left
  · have hie : i.toNat = es.length := by omega
    rw [hie, gone_all] at g2
    subst g2
    have hk := keep_len (S := inS sd) (es := es)
    have hnc : ¬ Conn (keepS (inS sd) es) x y := fun hc => by
      have h1 := keep_conn hc
      have h2 : inS sd x = true := by
        show decide (x ∈ sd) = true
        rw [hin x hxn.1 hxn.2]; exact decide_eq_true (side_x ho hxn)
      have h3 : inS sd y = false := by
        show decide (y ∈ sd) = false
        rw [hin y hyn.1 hyn.2]; exact decide_eq_false (side_y ho hnd hxn hxy)
      rw [h2, h3] at h1; cases h1
    have hcn := c_Connected n x y (keepS (inS sd) es) (by omega)
    rw [decide_eq_false (fun k => hnc k.2.2.2.2.2)] at hcn
    repeat' (first
      | refine xw_seq ?_
      | refine xw_block ?_
      | (refine ite_two ?_ ?_ <;> intro _ <;> first | (exfalso; omega) | skip)
      | refine ord_split (by kernel_rfl) ?_
      | (refine xw_ret ?_ <;> try simp only [sq, bl, LQ])
      | ((first | refine xw_reg ?_ | refine xw_regd ?_ | refine xw_if ?_ | refine xw_skip ?_ | refine xw_exit ?_ | refine xw_label ?_ | refine post_ret ?_ | refine post_normal ?_ | refine postE_ret ?_ | refine postE_normal ?_) <;> simp (config := { maxSteps := 3000000 }) (disch := first | assumption | omega | exact VG.okg (by assumption) | (simp only [List.length_set, List.length_append, List.length_cons, List.length_nil, List.length_replicate]; omega)) only [go_sem, ↓reduceIte, Int.reduceLE, Int.reduceLT, Int.reduceToNat, Int.reduceNeg, Int.reduceAdd, Int.reduceSub, Int.reduceMul, Int.reduceEq, Int.reduceNe, Nat.reduceEqDiff, Nat.reduceAdd, Nat.reduceSub, Nat.reduceMul, Nat.reduceLT, Nat.reduceLeDiff, Nat.reduceBEq, Nat.reduceBNe, Try.results8, m3, h3, h4, h5, h6, m10, h10, h11, hf, hfl, hll, hqf, hqfl, hqll, hfb, hcn])
      | (((first | refine at_region ?_ | refine at_out ?_ | refine at_cond ?_); split) <;> first | (exfalso; omega; done) | simp (config := { maxSteps := 3000000 }) (disch := first | assumption | omega | exact VG.okg (by assumption) | (simp only [List.length_set, List.length_append, List.length_cons, List.length_nil, List.length_replicate]; omega)) only [go_sem, ↓reduceIte, Int.reduceLE, Int.reduceLT, Int.reduceToNat, Int.reduceNeg, Int.reduceAdd, Int.reduceSub, Int.reduceMul, Int.reduceEq, Int.reduceNe, Nat.reduceEqDiff, Nat.reduceAdd, Nat.reduceSub, Nat.reduceMul, Nat.reduceLT, Nat.reduceLeDiff, Nat.reduceBEq, Nat.reduceBNe, Try.results8, m3, h3, h4, h5, h6, m10, h10, h11, hf, hfl, hll, hqf, hqfl, hqll, hfb, hcn] | skip))
    omega
  have hm := getD_mem (d := (0, 0)) (show i.toNat < es.length by omega)
  have hgh := gone_here (S := inS sd) hnd (show i.toNat < es.length by omega)
  by_cases hc : inS sd (es.getD i.toNat (0, 0)).1 = inS sd (es.getD i.toNat (0, 0)).2
  · have hgs := gone_skip g0 hi hc
    unfold inS at hc
    generalize hqe : es.getD i.toNat (0, 0) = q at hm hgh hc hgs
    repeat' (first
      | refine xw_seq ?_
      | refine xw_block ?_
      | (refine ite_two ?_ ?_ <;> intro _ <;> first | (exfalso; omega) | skip)
      | refine ord_split (by kernel_rfl) ?_
      | (refine xw_ret ?_ <;> try simp only [sq, bl, LQ])
      | ((first | refine xw_reg ?_ | refine xw_regd ?_ | refine xw_if ?_ | refine xw_skip ?_ | refine xw_exit ?_ | refine xw_label ?_ | refine post_ret ?_ | refine post_normal ?_ | refine postE_ret ?_ | refine postE_normal ?_) <;> simp (config := { maxSteps := 3000000 }) (disch := first | assumption | omega | exact VG.okg (by assumption) | (simp only [List.length_set, List.length_append, List.length_cons, List.length_nil, List.length_replicate]; omega)) only [go_sem, ↓reduceIte, Int.reduceLE, Int.reduceLT, Int.reduceToNat, Int.reduceNeg, Int.reduceAdd, Int.reduceSub, Int.reduceMul, Int.reduceEq, Int.reduceNe, Nat.reduceEqDiff, Nat.reduceAdd, Nat.reduceSub, Nat.reduceMul, Nat.reduceLT, Nat.reduceLeDiff, Nat.reduceBEq, Nat.reduceBNe, Try.results8, m3, h3, h4, h5, h6, m10, h10, h11, hf, hfl, hll, hia, hqf, hqfl, hqll, hqe, hc])
      | (((first | refine at_region ?_ | refine at_out ?_ | refine at_cond ?_); split) <;> first | (exfalso; omega; done) | simp (config := { maxSteps := 3000000 }) (disch := first | assumption | omega | exact VG.okg (by assumption) | (simp only [List.length_set, List.length_append, List.length_cons, List.length_nil, List.length_replicate]; omega)) only [go_sem, ↓reduceIte, Int.reduceLE, Int.reduceLT, Int.reduceToNat, Int.reduceNeg, Int.reduceAdd, Int.reduceSub, Int.reduceMul, Int.reduceEq, Int.reduceNe, Nat.reduceEqDiff, Nat.reduceAdd, Nat.reduceSub, Nat.reduceMul, Nat.reduceLT, Nat.reduceLeDiff, Nat.reduceBEq, Nat.reduceBNe, Try.results8, m3, h3, h4, h5, h6, m10, h10, h11, hf, hfl, hll, hia, hqf, hqfl, hqll, hqe, hc] | skip))
    exact ⟨i + 1, hv, rfl, rfl, gs, hq, by omega, by omega, by rw [hgs]; exact g2, by omega⟩
  · have hgs := gone_cut g0 hi hc
    unfold inS at hc
    rw [← g2] at hgh hgs
    have hVg : VG n gs := by rw [g2]; exact hV.gone _
    have hce := c_CutEdge n (es.getD i.toNat (0, 0)).1 (es.getD i.toNat (0, 0)).2 gs (by omega)
    rw [if_pos ⟨hVg, hgh⟩] at hce
    generalize hqe : es.getD i.toNat (0, 0) = q at hm hgh hc hgs hce
    repeat' (first
      | refine xw_seq ?_
      | refine xw_block ?_
      | (refine ite_two ?_ ?_ <;> intro _ <;> first | (exfalso; omega) | skip)
      | refine ord_split (by kernel_rfl) ?_
      | (refine xw_ret ?_ <;> try simp only [sq, bl, LQ])
      | ((first | refine xw_reg ?_ | refine xw_regd ?_ | refine xw_if ?_ | refine xw_skip ?_ | refine xw_exit ?_ | refine xw_label ?_ | refine post_ret ?_ | refine post_normal ?_ | refine postE_ret ?_ | refine postE_normal ?_) <;> simp (config := { maxSteps := 3000000 }) (disch := first | assumption | omega | exact VG.okg (by assumption) | (simp only [List.length_set, List.length_append, List.length_cons, List.length_nil, List.length_replicate]; omega)) only [go_sem, ↓reduceIte, Int.reduceLE, Int.reduceLT, Int.reduceToNat, Int.reduceNeg, Int.reduceAdd, Int.reduceSub, Int.reduceMul, Int.reduceEq, Int.reduceNe, Nat.reduceEqDiff, Nat.reduceAdd, Nat.reduceSub, Nat.reduceMul, Nat.reduceLT, Nat.reduceLeDiff, Nat.reduceBEq, Nat.reduceBNe, Try.results8, m3, h3, h4, h5, h6, m10, h10, h11, hf, hfl, hll, hia, hqf, hqfl, hqll, hqe, hc, hce])
      | (((first | refine at_region ?_ | refine at_out ?_ | refine at_cond ?_); split) <;> first | (exfalso; omega; done) | simp (config := { maxSteps := 3000000 }) (disch := first | assumption | omega | exact VG.okg (by assumption) | (simp only [List.length_set, List.length_append, List.length_cons, List.length_nil, List.length_replicate]; omega)) only [go_sem, ↓reduceIte, Int.reduceLE, Int.reduceLT, Int.reduceToNat, Int.reduceNeg, Int.reduceAdd, Int.reduceSub, Int.reduceMul, Int.reduceEq, Int.reduceNe, Nat.reduceEqDiff, Nat.reduceAdd, Nat.reduceSub, Nat.reduceMul, Nat.reduceLT, Nat.reduceLeDiff, Nat.reduceBEq, Nat.reduceBNe, Try.results8, m3, h3, h4, h5, h6, m10, h10, h11, hf, hfl, hll, hia, hqf, hqfl, hqll, hqe, hc, hce] | skip))
    all_goals first
      | exact ⟨i + 1, _, rfl, rfl, _, EQ.cut q.1 q.2 gs, by omega, by omega, hgs.symm, by omega⟩
      | (exfalso; simp_all)
end Go.Proofs.Ytflmjjfoeabnoaa.X

