/- The law: blocks meet in cut nodes. -/
import Derived.Test.YtbaholclcfpknaaC49
set_option linter.unusedSimpArgs false
set_option linter.unusedVariables false
set_option maxHeartbeats 8000000
set_option maxRecDepth 100000
namespace Go.Proofs.Ytbaholclcfpknaa.X
open Go Go.Proofs

/-- What the nodes of a block have in common. -/
theorem mem_bnB {n : Int} {es : List (Int × Int)} (hG : VG n es) {e : Int × Int} (he : e ∈ es) {v : Int} (hv : v ∈ bnL n es e) : (0 ≤ v ∧ v < n) ∧ ∃ f, f ∈ es ∧ Blk es e f ∧ On v f := by
  unfold bnL at hv
  rw [mem_nodesL] at hv
  obtain ⟨h1, f, hf, h2⟩ := hv
  have hfe : f ∈ es := by
    rw [mem_blkE] at hf
    obtain ⟨i, hi, _⟩ := hf
    exact List.mem_of_getElem? hi
  refine ⟨h1, f, hfe, ?_, h2⟩
  have h3 := (mem_blk hG.nodup hfe).1 hf
  have h4 := blk_beq hG.nodup he hfe
  rw [h3] at h4
  simpa using h4
/-- How many of the first numbers are in a list. -/
def comN (ys xs : List Int) (i : Int) : Nat := ((xs.take i.toNat).filter fun v => decide (v ∈ ys)).length
theorem comN_snoc {ys xs : List Int} {i : Int} (h0 : 0 ≤ i) (h1 : i < xs.length) : comN ys xs (i + 1) = comN ys xs i + if xs.getD i.toNat 0 ∈ ys then 1 else 0 := by
  unfold comN
  rw [take_int 0 h0 h1, List.filter_append, List.length_append]
  congr 1
  by_cases c : xs.getD i.toNat 0 ∈ ys
  · rw [if_pos c, List.filter_cons, if_pos (decide_eq_true c)]; rfl
  · rw [if_neg c, List.filter_cons, if_neg (by simpa using c)]; rfl
theorem comN_one {ys xs : List Int} {i : Int} (hn : xs.Nodup) (h : ∀ u v, u ∈ xs → v ∈ xs → u ∈ ys → v ∈ ys → u = v) : comN ys xs i ≤ 1 := by
  unfold comN
  have h1 : ((xs.take i.toNat).filter fun v => decide (v ∈ ys)).Nodup := (hn.sublist (List.take_sublist _ _)).filter _
  have h2 : ∀ u v, u ∈ ((xs.take i.toNat).filter fun v => decide (v ∈ ys)) → v ∈ ((xs.take i.toNat).filter fun v => decide (v ∈ ys)) → u = v := fun u v hu hv => by
    rw [List.mem_filter, decide_eq_true_eq] at hu hv
    exact h u v (List.mem_of_mem_take hu.1) (List.mem_of_mem_take hv.1) hu.2 hv.2
  match hq : (xs.take i.toNat).filter (fun v => decide (v ∈ ys)) with
  | [] => simp
  | [a] => simp
  | a :: b :: l =>
    rw [hq] at h1 h2
    exact absurd (h2 a b (by simp) (by simp)) (fun e => by simp [e] at h1)
def sumB (bs : List (List (Int × Int))) (i : Int) : Nat := ((bs.take i.toNat).map List.length).sum
theorem sumB_snoc {bs : List (List (Int × Int))} {i : Int} (h0 : 0 ≤ i) (h1 : i < bs.length) : sumB bs (i + 1) = sumB bs i + (bs.getD i.toNat []).length := by
  unfold sumB
  rw [take_int [] h0 h1, List.map_append, List.sum_append]; simp
theorem sumB_le {bs : List (List (Int × Int))} {i : Int} : sumB bs i ≤ (bs.map List.length).sum := by
  unfold sumB
  have := List.sum_append (l₁ := (bs.take i.toNat).map List.length) (l₂ := (bs.drop i.toNat).map List.length)
  rw [← List.map_append, List.take_append_drop] at this
  omega

theorem law_BlocksOf (bs : List Int) (hb : ∀ b ∈ bs, 0 ≤ b ∧ b < 256) : KP 6 [LB bs] [] = some (B true, [], []) := by
  by_cases hbig : (1048576 : Int) < bs.length
  · refine xw_call (fn := Try.f6) rfl Try.func6 rfl ⟨Nat.le_of_ble_eq_true rfl, rfl, rfl⟩ ?_
    repeat' (first
      | refine xw_seq ?_
      | refine xw_block ?_
      | (refine ite_two ?_ ?_ <;> intro _ <;> first | (exfalso; omega) | skip)
      | refine ord_split (by kernel_rfl) ?_
      | (refine xw_ret ?_ <;> try simp only [sq, bl, LQ])
      | ((first | refine xw_reg ?_ | refine xw_regd ?_ | refine xw_if ?_ | refine xw_skip ?_ | refine xw_exit ?_ | refine xw_label ?_ | refine post_ret ?_ | refine post_normal ?_ | refine postE_ret ?_ | refine postE_normal ?_) <;> simp (config := { maxSteps := 3000000 }) (disch := first | assumption | omega | exact VG.okg (by assumption) | (simp only [List.length_set, List.length_append, List.length_cons, List.length_nil, List.length_replicate]; omega)) only [go_sem, ↓reduceIte, Int.reduceLE, Int.reduceLT, Int.reduceToNat, Int.reduceNeg, Int.reduceAdd, Int.reduceSub, Int.reduceMul, Int.reduceEq, Int.reduceNe, Nat.reduceEqDiff, Nat.reduceAdd, Nat.reduceSub, Nat.reduceMul, Nat.reduceLT, Nat.reduceLeDiff, Nat.reduceBEq, Nat.reduceBNe, Try.results6])
      | (((first | refine at_region ?_ | refine at_out ?_ | refine at_cond ?_); split) <;> first | (exfalso; omega; done) | simp (config := { maxSteps := 3000000 }) (disch := first | assumption | omega | exact VG.okg (by assumption) | (simp only [List.length_set, List.length_append, List.length_cons, List.length_nil, List.length_replicate]; omega)) only [go_sem, ↓reduceIte, Int.reduceLE, Int.reduceLT, Int.reduceToNat, Int.reduceNeg, Int.reduceAdd, Int.reduceSub, Int.reduceMul, Int.reduceEq, Int.reduceNe, Nat.reduceEqDiff, Nat.reduceAdd, Nat.reduceSub, Nat.reduceMul, Nat.reduceLT, Nat.reduceLeDiff, Nat.reduceBEq, Nat.reduceBNe, Try.results6] | skip))
  obtain ⟨n, es, n0, n1, hl, hdraw⟩ := c_DrawBlocksOf bs hb (by omega)
  have hp := c_BlocksOf n es (by omega)
  have hs := c_sBlocksOf n es (by omega)
  by_cases hV : VG n es
  rotate_left
  · rw [if_neg hV] at hp hs
    have hd : KP 34 [.i (.lst []), .i (.lst [])] [] = some (B true, [], []) := c_dyBlocks [] (by simp) (by simp)
    have hg := decide_eq_false hV
    refine xw_call (fn := Try.f6) rfl Try.func6 rfl ⟨Nat.le_of_ble_eq_true rfl, rfl, rfl⟩ ?_
    repeat' (first
      | refine xw_seq ?_
      | refine xw_block ?_
      | (refine ite_two ?_ ?_ <;> intro _ <;> first | (exfalso; omega) | skip)
      | refine ord_split (by kernel_rfl) ?_
      | (refine xw_ret ?_ <;> try simp only [sq, bl, LQ])
      | ((first | refine xw_reg ?_ | refine xw_regd ?_ | refine xw_if ?_ | refine xw_skip ?_ | refine xw_exit ?_ | refine xw_label ?_ | refine post_ret ?_ | refine post_normal ?_ | refine postE_ret ?_ | refine postE_normal ?_) <;> simp (config := { maxSteps := 3000000 }) (disch := first | assumption | omega | exact VG.okg (by assumption) | (simp only [List.length_set, List.length_append, List.length_cons, List.length_nil, List.length_replicate]; omega)) only [go_sem, ↓reduceIte, Int.reduceLE, Int.reduceLT, Int.reduceToNat, Int.reduceNeg, Int.reduceAdd, Int.reduceSub, Int.reduceMul, Int.reduceEq, Int.reduceNe, Nat.reduceEqDiff, Nat.reduceAdd, Nat.reduceSub, Nat.reduceMul, Nat.reduceLT, Nat.reduceLeDiff, Nat.reduceBEq, Nat.reduceBNe, Try.results6, hdraw, hp, hs, hd, hg])
      | (((first | refine at_region ?_ | refine at_out ?_ | refine at_cond ?_); split) <;> first | (exfalso; omega; done) | simp (config := { maxSteps := 3000000 }) (disch := first | assumption | omega | exact VG.okg (by assumption) | (simp only [List.length_set, List.length_append, List.length_cons, List.length_nil, List.length_replicate]; omega)) only [go_sem, ↓reduceIte, Int.reduceLE, Int.reduceLT, Int.reduceToNat, Int.reduceNeg, Int.reduceAdd, Int.reduceSub, Int.reduceMul, Int.reduceEq, Int.reduceNe, Nat.reduceEqDiff, Nat.reduceAdd, Nat.reduceSub, Nat.reduceMul, Nat.reduceLT, Nat.reduceLeDiff, Nat.reduceBEq, Nat.reduceBNe, Try.results6, hdraw, hp, hs, hd, hg] | skip))
  rw [if_pos hV] at hp hs
  have hg := decide_eq_true hV
  have ho := hV.okg.ok
  have hnd := hV.nodup
  have hn16 := hV.2.1
  have hn1 := hV.1
  have hbl := blocks_len (es := es)
  have hbo := fun b hb => blocks_ok (b := b) ho hb
  have htot := blocks_total es
  have hd := c_dyBlocks (blocksL es) (by omega) (fun p hp => by have := (hbo p hp).2; omega)
  have hfst : ∀ i : Nat, i < (blocksL es).length → 0 < ((blocksL es).getD i []).length ∧ ((blocksL es).getD i []).getD 0 (0, 0) ∈ (blocksL es).getD i [] ∧ ((blocksL es).getD i []).getD 0 (0, 0) ∈ es := fun i hi => by
    obtain ⟨k, k1, k2, k3⟩ := mem_blocks.1 (getD_mem (d := []) hi)
    have hin : eAt es k ∈ (blocksL es).getD i [] := by
      rw [k3]
      refine (mem_blk hnd (eAt_mem k1)).2 ?_
      obtain ⟨f0, f1, f2⟩ := findE_lt (eAt_mem k1)
      rw [eAt_inj hnd ⟨f0, f1⟩ k1 f2, k2]
    have hpos : 0 < ((blocksL es).getD i []).length := List.length_pos_of_mem hin
    have hm : ((blocksL es).getD i []).getD 0 (0, 0) ∈ (blocksL es).getD i [] := getD_mem hpos
    refine ⟨hpos, hm, ?_⟩
    rw [k3] at hm ⊢
    obtain ⟨q, hq, _⟩ := mem_blkE.1 hm
    exact List.mem_of_getElem? hq
  refine xw_call (fn := Try.f6) rfl Try.func6 rfl ⟨Nat.le_of_ble_eq_true rfl, rfl, rfl⟩ ?_
  repeat' (first
    | refine xw_seq ?_
    | refine xw_block ?_
    | (refine ite_two ?_ ?_ <;> intro _ <;> first | (exfalso; omega) | skip)
    | refine ord_split (by kernel_rfl) ?_
    | (refine xw_ret ?_ <;> try simp only [sq, bl, LQ])
    | ((first | refine xw_reg ?_ | refine xw_regd ?_ | refine xw_if ?_ | refine xw_skip ?_ | refine xw_exit ?_ | refine xw_label ?_ | refine post_ret ?_ | refine post_normal ?_ | refine postE_ret ?_ | refine postE_normal ?_) <;> simp (config := { maxSteps := 3000000 }) (disch := first | assumption | omega | exact VG.okg (by assumption) | (simp only [List.length_set, List.length_append, List.length_cons, List.length_nil, List.length_replicate]; omega)) only [go_sem, ↓reduceIte, Int.reduceLE, Int.reduceLT, Int.reduceToNat, Int.reduceNeg, Int.reduceAdd, Int.reduceSub, Int.reduceMul, Int.reduceEq, Int.reduceNe, Nat.reduceEqDiff, Nat.reduceAdd, Nat.reduceSub, Nat.reduceMul, Nat.reduceLT, Nat.reduceLeDiff, Nat.reduceBEq, Nat.reduceBNe, Try.results6, hdraw, hp, hs, hd, hg])
    | (((first | refine at_region ?_ | refine at_out ?_ | refine at_cond ?_); split) <;> first | (exfalso; omega; done) | simp (config := { maxSteps := 3000000 }) (disch := first | assumption | omega | exact VG.okg (by assumption) | (simp only [List.length_set, List.length_append, List.length_cons, List.length_nil, List.length_replicate]; omega)) only [go_sem, ↓reduceIte, Int.reduceLE, Int.reduceLT, Int.reduceToNat, Int.reduceNeg, Int.reduceAdd, Int.reduceSub, Int.reduceMul, Int.reduceEq, Int.reduceNe, Nat.reduceEqDiff, Nat.reduceAdd, Nat.reduceSub, Nat.reduceMul, Nat.reduceLT, Nat.reduceLeDiff, Nat.reduceBEq, Nat.reduceBNe, Try.results6, hdraw, hp, hs, hd, hg] | skip))
  refine xw_loopR (fun (i : Int) s => s.m 3 = some (.box 0 [I n, LE es]) ∧ s.ρ 3 = .ptr 3 0 0 0 ∧ s.ρ 4 = LLE (blocksL es) ∧ s.ρ 5 = I (sumB (blocksL es) i : Nat) ∧ s.ρ 6 = I i ∧ 0 ≤ i ∧ i ≤ (blocksL es).length) (fun i => ((blocksL es).length - i).toNat) 0 ?_ ?_
  · exact ⟨rfl, rfl, rfl, rfl, rfl, by simp, by omega⟩
  rintro i ⟨ρ, m⟩ ⟨m3, h3, h4, h5, h6, g0, g1⟩
  simp only at m3 h3 h4 h5 h6 g0 g1
  by_cases hi : i < (blocksL es).length
  rotate_left
  · have hfin : sumB (blocksL es) i = es.length := by unfold sumB; rw [take_all (by omega)]; exact htot
    rw [hfin] at h5
    repeat' (first
      | refine xw_seq ?_
      | refine xw_block ?_
      | (refine ite_two ?_ ?_ <;> intro _ <;> first | (exfalso; omega) | skip)
      | refine ord_split (by kernel_rfl) ?_
      | (refine xw_ret ?_ <;> try simp only [sq, bl, LQ])
      | ((first | refine xw_reg ?_ | refine xw_regd ?_ | refine xw_if ?_ | refine xw_skip ?_ | refine xw_exit ?_ | refine xw_label ?_ | refine post_ret ?_ | refine post_normal ?_ | refine postE_ret ?_ | refine postE_normal ?_) <;> simp (config := { maxSteps := 3000000 }) (disch := first | assumption | omega | exact VG.okg (by assumption) | (simp only [List.length_set, List.length_append, List.length_cons, List.length_nil, List.length_replicate]; omega)) only [go_sem, ↓reduceIte, Int.reduceLE, Int.reduceLT, Int.reduceToNat, Int.reduceNeg, Int.reduceAdd, Int.reduceSub, Int.reduceMul, Int.reduceEq, Int.reduceNe, Nat.reduceEqDiff, Nat.reduceAdd, Nat.reduceSub, Nat.reduceMul, Nat.reduceLT, Nat.reduceLeDiff, Nat.reduceBEq, Nat.reduceBNe, Try.results6, m3, h3, h4, h5, h6])
      | (((first | refine at_region ?_ | refine at_out ?_ | refine at_cond ?_); split) <;> first | (exfalso; omega; done) | simp (config := { maxSteps := 3000000 }) (disch := first | assumption | omega | exact VG.okg (by assumption) | (simp only [List.length_set, List.length_append, List.length_cons, List.length_nil, List.length_replicate]; omega)) only [go_sem, ↓reduceIte, Int.reduceLE, Int.reduceLT, Int.reduceToNat, Int.reduceNeg, Int.reduceAdd, Int.reduceSub, Int.reduceMul, Int.reduceEq, Int.reduceNe, Nat.reduceEqDiff, Nat.reduceAdd, Nat.reduceSub, Nat.reduceMul, Nat.reduceLT, Nat.reduceLeDiff, Nat.reduceBEq, Nat.reduceBNe, Try.results6, m3, h3, h4, h5, h6] | skip))
  obtain ⟨p0, p1, p2⟩ := hfst i.toNat (by omega)
  have hss := sumB_snoc g0 hi
  have hsl := sumB_le (bs := blocksL es) (i := i)
  have hsl2 := sumB_le (bs := blocksL es) (i := i + 1)
  generalize hqe : ((blocksL es).getD i.toNat []).getD 0 (0, 0) = e at p1 p2
  have hbn := c_BlockNodes n e.1 e.2 es (by omega)
  rw [if_pos ⟨hV, p2⟩] at hbn
  have hbm := fun v => mem_bnB (v := v) hV p2
  have hln : ((bnL n es e).length : Int) ≤ n := nodes_len (by omega) _
  have hsr : (bnL n es e).Pairwise (· < ·) := nodesL_sorted _ _
  have hq' : bnL n es (e.1, e.2) = bnL n es e := rfl
  rw [hq'] at hbn
  generalize bnL n es e = xs at hbn hbm hln hsr
  repeat' (first
    | refine xw_seq ?_
    | refine xw_block ?_
    | (refine ite_two ?_ ?_ <;> intro _ <;> first | (exfalso; omega) | skip)
    | refine ord_split (by kernel_rfl) ?_
    | (refine xw_ret ?_ <;> try simp only [sq, bl, LQ])
    | ((first | refine xw_reg ?_ | refine xw_regd ?_ | refine xw_if ?_ | refine xw_skip ?_ | refine xw_exit ?_ | refine xw_label ?_ | refine post_ret ?_ | refine post_normal ?_ | refine postE_ret ?_ | refine postE_normal ?_) <;> simp (config := { maxSteps := 3000000 }) (disch := first | assumption | omega | exact VG.okg (by assumption) | (simp only [List.length_set, List.length_append, List.length_cons, List.length_nil, List.length_replicate]; omega)) only [go_sem, ↓reduceIte, Int.reduceLE, Int.reduceLT, Int.reduceToNat, Int.reduceNeg, Int.reduceAdd, Int.reduceSub, Int.reduceMul, Int.reduceEq, Int.reduceNe, Nat.reduceEqDiff, Nat.reduceAdd, Nat.reduceSub, Nat.reduceMul, Nat.reduceLT, Nat.reduceLeDiff, Nat.reduceBEq, Nat.reduceBNe, Try.results6, m3, h3, h4, h5, h6, hqe, hbn])
    | (((first | refine at_region ?_ | refine at_out ?_ | refine at_cond ?_); split) <;> first | (exfalso; omega; done) | simp (config := { maxSteps := 3000000 }) (disch := first | assumption | omega | exact VG.okg (by assumption) | (simp only [List.length_set, List.length_append, List.length_cons, List.length_nil, List.length_replicate]; omega)) only [go_sem, ↓reduceIte, Int.reduceLE, Int.reduceLT, Int.reduceToNat, Int.reduceNeg, Int.reduceAdd, Int.reduceSub, Int.reduceMul, Int.reduceEq, Int.reduceNe, Nat.reduceEqDiff, Nat.reduceAdd, Nat.reduceSub, Nat.reduceMul, Nat.reduceLT, Nat.reduceLeDiff, Nat.reduceBEq, Nat.reduceBNe, Try.results6, m3, h3, h4, h5, h6, hqe, hbn] | skip))
  refine xw_loopR (fun (k : Int) s => s.m 3 = some (.box 0 [I n, LE es]) ∧ s.ρ 3 = .ptr 3 0 0 0 ∧ s.ρ 4 = LLE (blocksL es) ∧ s.ρ 5 = I (sumB (blocksL es) (i + 1) : Nat) ∧ s.ρ 6 = I i ∧ s.ρ 7 = LI xs ∧ s.ρ 8 = B true ∧ s.ρ 9 = I k ∧ 0 ≤ k ∧ k ≤ i) (fun k => (i - k).toNat) 0 ?_ ?_
  · exact ⟨m3, h3, h4, by rw [hss]; simp [upd], h6, rfl, rfl, rfl, by simp, by omega⟩
  rintro k ⟨ρ, m⟩ ⟨m3, h3, h4, h5, h6, h7, h8, h9, f0, f1⟩
  simp only at m3 h3 h4 h5 h6 h7 h8 h9 f0 f1
  by_cases hk : k < i
  rotate_left
  · repeat' (first
      | refine xw_seq ?_
      | refine xw_block ?_
      | (refine ite_two ?_ ?_ <;> intro _ <;> first | (exfalso; omega) | skip)
      | refine ord_split (by kernel_rfl) ?_
      | (refine xw_ret ?_ <;> try simp only [sq, bl, LQ])
      | ((first | refine xw_reg ?_ | refine xw_regd ?_ | refine xw_if ?_ | refine xw_skip ?_ | refine xw_exit ?_ | refine xw_label ?_ | refine post_ret ?_ | refine post_normal ?_ | refine postE_ret ?_ | refine postE_normal ?_) <;> simp (config := { maxSteps := 3000000 }) (disch := first | assumption | omega | exact VG.okg (by assumption) | (simp only [List.length_set, List.length_append, List.length_cons, List.length_nil, List.length_replicate]; omega)) only [go_sem, ↓reduceIte, Int.reduceLE, Int.reduceLT, Int.reduceToNat, Int.reduceNeg, Int.reduceAdd, Int.reduceSub, Int.reduceMul, Int.reduceEq, Int.reduceNe, Nat.reduceEqDiff, Nat.reduceAdd, Nat.reduceSub, Nat.reduceMul, Nat.reduceLT, Nat.reduceLeDiff, Nat.reduceBEq, Nat.reduceBNe, Try.results6, m3, h3, h4, h5, h6, h7, h8, h9])
      | (((first | refine at_region ?_ | refine at_out ?_ | refine at_cond ?_); split) <;> first | (exfalso; omega; done) | simp (config := { maxSteps := 3000000 }) (disch := first | assumption | omega | exact VG.okg (by assumption) | (simp only [List.length_set, List.length_append, List.length_cons, List.length_nil, List.length_replicate]; omega)) only [go_sem, ↓reduceIte, Int.reduceLE, Int.reduceLT, Int.reduceToNat, Int.reduceNeg, Int.reduceAdd, Int.reduceSub, Int.reduceMul, Int.reduceEq, Int.reduceNe, Nat.reduceEqDiff, Nat.reduceAdd, Nat.reduceSub, Nat.reduceMul, Nat.reduceLT, Nat.reduceLeDiff, Nat.reduceBEq, Nat.reduceBNe, Try.results6, m3, h3, h4, h5, h6, h7, h8, h9] | skip))
    exact ⟨i + 1, rfl, rfl, by omega, by omega, by omega⟩
  obtain ⟨r0, r1, r2⟩ := hfst k.toNat (by omega)
  have htw := blocks_two hnd (i := i.toNat) (k := k.toNat) (by omega) (by omega) (by omega) p1 r1
  generalize hre : ((blocksL es).getD k.toNat []).getD 0 (0, 0) = f at r1 r2 htw
  have hbn2 := c_BlockNodes n f.1 f.2 es (by omega)
  rw [if_pos ⟨hV, r2⟩] at hbn2
  have hbm2 := fun v => mem_bnB (v := v) hV r2
  have hln2 : ((bnL n es f).length : Int) ≤ n := nodes_len (by omega) _
  have hq'' : bnL n es (f.1, f.2) = bnL n es f := rfl
  rw [hq''] at hbn2
  generalize bnL n es f = ys at hbn2 hbm2 hln2
  have hone : ∀ j, comN ys xs j ≤ 1 := fun j => comN_one (hsr.imp fun h => by omega) fun u v hu hv hu2 hv2 => Classical.byContradiction fun huv => by
    obtain ⟨-, e1, -, b1, o1⟩ := hbm u hu
    obtain ⟨-, e2, -, b2, o2⟩ := hbm v hv
    obtain ⟨-, f1, -, c1, q1⟩ := hbm2 u hu2
    obtain ⟨-, f2, -, c2, q2⟩ := hbm2 v hv2
    have := blk_one ho hnd (b1.symm.trans hnd b2) (c1.symm.trans hnd c2) o1 o2 q1 q2 huv
    exact htw.2.2 ((b1.trans hnd this).trans hnd c1.symm)
  have hcut : ∀ u, u ∈ xs → u ∈ ys → VG n es ∧ 0 ≤ u ∧ u < n ∧ CutN es u := fun u hu hu2 => by
    obtain ⟨ur, e1, e1m, b1, o1⟩ := hbm u hu
    obtain ⟨-, f1, f1m, c1, q1⟩ := hbm2 u hu2
    exact ⟨hV, ur.1, ur.2, blk_cut ho e1m f1m (fun h => htw.2.2 ((b1.trans hnd h).trans hnd c1.symm)) o1 q1⟩
  repeat' (first
    | refine xw_seq ?_
    | refine xw_block ?_
    | (refine ite_two ?_ ?_ <;> intro _ <;> first | (exfalso; omega) | skip)
    | refine ord_split (by kernel_rfl) ?_
    | (refine xw_ret ?_ <;> try simp only [sq, bl, LQ])
    | ((first | refine xw_reg ?_ | refine xw_regd ?_ | refine xw_if ?_ | refine xw_skip ?_ | refine xw_exit ?_ | refine xw_label ?_ | refine post_ret ?_ | refine post_normal ?_ | refine postE_ret ?_ | refine postE_normal ?_) <;> simp (config := { maxSteps := 3000000 }) (disch := first | assumption | omega | exact VG.okg (by assumption) | (simp only [List.length_set, List.length_append, List.length_cons, List.length_nil, List.length_replicate]; omega)) only [go_sem, ↓reduceIte, Int.reduceLE, Int.reduceLT, Int.reduceToNat, Int.reduceNeg, Int.reduceAdd, Int.reduceSub, Int.reduceMul, Int.reduceEq, Int.reduceNe, Nat.reduceEqDiff, Nat.reduceAdd, Nat.reduceSub, Nat.reduceMul, Nat.reduceLT, Nat.reduceLeDiff, Nat.reduceBEq, Nat.reduceBNe, Try.results6, m3, h3, h4, h5, h6, h7, h8, h9, hre, hbn2])
    | (((first | refine at_region ?_ | refine at_out ?_ | refine at_cond ?_); split) <;> first | (exfalso; omega; done) | simp (config := { maxSteps := 3000000 }) (disch := first | assumption | omega | exact VG.okg (by assumption) | (simp only [List.length_set, List.length_append, List.length_cons, List.length_nil, List.length_replicate]; omega)) only [go_sem, ↓reduceIte, Int.reduceLE, Int.reduceLT, Int.reduceToNat, Int.reduceNeg, Int.reduceAdd, Int.reduceSub, Int.reduceMul, Int.reduceEq, Int.reduceNe, Nat.reduceEqDiff, Nat.reduceAdd, Nat.reduceSub, Nat.reduceMul, Nat.reduceLT, Nat.reduceLeDiff, Nat.reduceBEq, Nat.reduceBNe, Try.results6, m3, h3, h4, h5, h6, h7, h8, h9, hre, hbn2] | skip))
  refine xw_loopR (fun (j : Int) s => s.m 3 = some (.box 0 [I n, LE es]) ∧ s.ρ 3 = .ptr 3 0 0 0 ∧ s.ρ 4 = LLE (blocksL es) ∧ s.ρ 5 = I (sumB (blocksL es) (i + 1) : Nat) ∧ s.ρ 6 = I i ∧ s.ρ 7 = LI xs ∧ s.ρ 8 = B true ∧ s.ρ 9 = I k ∧
    s.ρ 10 = LI ys ∧ s.ρ 11 = B true ∧ s.ρ 12 = I (comN ys xs j : Nat) ∧ s.ρ 13 = I j ∧ 0 ≤ j ∧ j ≤ xs.length) (fun j => (xs.length - j).toNat) 0 ?_ ?_
  · exact ⟨m3, h3, h4, h5, h6, h7, h8, h9, rfl, rfl, by simp [upd, comN], rfl, by simp, by omega⟩
  rintro j ⟨ρ, m⟩ ⟨m3, h3, h4, h5, h6, h7, h8, h9, h10, h11, h12, h13, e0, e1⟩
  simp only at m3 h3 h4 h5 h6 h7 h8 h9 h10 h11 h12 h13 e0 e1
  have ho1 := hone j
  by_cases hj : j < xs.length
  rotate_left
  · repeat' (first
      | refine xw_seq ?_
      | refine xw_block ?_
      | (refine ite_two ?_ ?_ <;> intro _ <;> first | (exfalso; omega) | skip)
      | refine ord_split (by kernel_rfl) ?_
      | (refine xw_ret ?_ <;> try simp only [sq, bl, LQ])
      | ((first | refine xw_reg ?_ | refine xw_regd ?_ | refine xw_if ?_ | refine xw_skip ?_ | refine xw_exit ?_ | refine xw_label ?_ | refine post_ret ?_ | refine post_normal ?_ | refine postE_ret ?_ | refine postE_normal ?_) <;> simp (config := { maxSteps := 3000000 }) (disch := first | assumption | omega | exact VG.okg (by assumption) | (simp only [List.length_set, List.length_append, List.length_cons, List.length_nil, List.length_replicate]; omega)) only [go_sem, ↓reduceIte, Int.reduceLE, Int.reduceLT, Int.reduceToNat, Int.reduceNeg, Int.reduceAdd, Int.reduceSub, Int.reduceMul, Int.reduceEq, Int.reduceNe, Nat.reduceEqDiff, Nat.reduceAdd, Nat.reduceSub, Nat.reduceMul, Nat.reduceLT, Nat.reduceLeDiff, Nat.reduceBEq, Nat.reduceBNe, Try.results6, m3, h3, h4, h5, h6, h7, h8, h9, h10, h11, h12, h13])
      | (((first | refine at_region ?_ | refine at_out ?_ | refine at_cond ?_); split) <;> first | (exfalso; omega; done) | simp (config := { maxSteps := 3000000 }) (disch := first | assumption | omega | exact VG.okg (by assumption) | (simp only [List.length_set, List.length_append, List.length_cons, List.length_nil, List.length_replicate]; omega)) only [go_sem, ↓reduceIte, Int.reduceLE, Int.reduceLT, Int.reduceToNat, Int.reduceNeg, Int.reduceAdd, Int.reduceSub, Int.reduceMul, Int.reduceEq, Int.reduceNe, Nat.reduceEqDiff, Nat.reduceAdd, Nat.reduceSub, Nat.reduceMul, Nat.reduceLT, Nat.reduceLeDiff, Nat.reduceBEq, Nat.reduceBNe, Try.results6, m3, h3, h4, h5, h6, h7, h8, h9, h10, h11, h12, h13] | skip))
    exact ⟨by omega, by omega, by omega⟩
  have hsn := comN_snoc (ys := ys) e0 hj
  have hdi := c_dyIn ys (xs.getD j.toNat 0) (by omega)
  by_cases hc : xs.getD j.toNat 0 ∈ ys
  · rw [if_pos hc] at hsn
    rw [decide_eq_true hc] at hdi
    have hct := c_IsCutNode n (xs.getD j.toNat 0) es (by omega)
    rw [decide_eq_true (hcut _ (getD_mem (by omega)) hc)] at hct
    repeat' (first
      | refine xw_seq ?_
      | refine xw_block ?_
      | (refine ite_two ?_ ?_ <;> intro _ <;> first | (exfalso; omega) | skip)
      | refine ord_split (by kernel_rfl) ?_
      | (refine xw_ret ?_ <;> try simp only [sq, bl, LQ])
      | ((first | refine xw_reg ?_ | refine xw_regd ?_ | refine xw_if ?_ | refine xw_skip ?_ | refine xw_exit ?_ | refine xw_label ?_ | refine post_ret ?_ | refine post_normal ?_ | refine postE_ret ?_ | refine postE_normal ?_) <;> simp (config := { maxSteps := 3000000 }) (disch := first | assumption | omega | exact VG.okg (by assumption) | (simp only [List.length_set, List.length_append, List.length_cons, List.length_nil, List.length_replicate]; omega)) only [go_sem, ↓reduceIte, Int.reduceLE, Int.reduceLT, Int.reduceToNat, Int.reduceNeg, Int.reduceAdd, Int.reduceSub, Int.reduceMul, Int.reduceEq, Int.reduceNe, Nat.reduceEqDiff, Nat.reduceAdd, Nat.reduceSub, Nat.reduceMul, Nat.reduceLT, Nat.reduceLeDiff, Nat.reduceBEq, Nat.reduceBNe, Try.results6, m3, h3, h4, h5, h6, h7, h8, h9, h10, h11, h12, h13, hdi, hct])
      | (((first | refine at_region ?_ | refine at_out ?_ | refine at_cond ?_); split) <;> first | (exfalso; omega; done) | simp (config := { maxSteps := 3000000 }) (disch := first | assumption | omega | exact VG.okg (by assumption) | (simp only [List.length_set, List.length_append, List.length_cons, List.length_nil, List.length_replicate]; omega)) only [go_sem, ↓reduceIte, Int.reduceLE, Int.reduceLT, Int.reduceToNat, Int.reduceNeg, Int.reduceAdd, Int.reduceSub, Int.reduceMul, Int.reduceEq, Int.reduceNe, Nat.reduceEqDiff, Nat.reduceAdd, Nat.reduceSub, Nat.reduceMul, Nat.reduceLT, Nat.reduceLeDiff, Nat.reduceBEq, Nat.reduceBNe, Try.results6, m3, h3, h4, h5, h6, h7, h8, h9, h10, h11, h12, h13, hdi, hct] | skip))
    exact ⟨j + 1, by rw [hsn]; rfl, rfl, by omega, by omega, by omega⟩
  · rw [if_neg hc] at hsn
    rw [decide_eq_false hc] at hdi
    repeat' (first
      | refine xw_seq ?_
      | refine xw_block ?_
      | (refine ite_two ?_ ?_ <;> intro _ <;> first | (exfalso; omega) | skip)
      | refine ord_split (by kernel_rfl) ?_
      | (refine xw_ret ?_ <;> try simp only [sq, bl, LQ])
      | ((first | refine xw_reg ?_ | refine xw_regd ?_ | refine xw_if ?_ | refine xw_skip ?_ | refine xw_exit ?_ | refine xw_label ?_ | refine post_ret ?_ | refine post_normal ?_ | refine postE_ret ?_ | refine postE_normal ?_) <;> simp (config := { maxSteps := 3000000 }) (disch := first | assumption | omega | exact VG.okg (by assumption) | (simp only [List.length_set, List.length_append, List.length_cons, List.length_nil, List.length_replicate]; omega)) only [go_sem, ↓reduceIte, Int.reduceLE, Int.reduceLT, Int.reduceToNat, Int.reduceNeg, Int.reduceAdd, Int.reduceSub, Int.reduceMul, Int.reduceEq, Int.reduceNe, Nat.reduceEqDiff, Nat.reduceAdd, Nat.reduceSub, Nat.reduceMul, Nat.reduceLT, Nat.reduceLeDiff, Nat.reduceBEq, Nat.reduceBNe, Try.results6, m3, h3, h4, h5, h6, h7, h8, h9, h10, h11, h12, h13, hdi])
      | (((first | refine at_region ?_ | refine at_out ?_ | refine at_cond ?_); split) <;> first | (exfalso; omega; done) | simp (config := { maxSteps := 3000000 }) (disch := first | assumption | omega | exact VG.okg (by assumption) | (simp only [List.length_set, List.length_append, List.length_cons, List.length_nil, List.length_replicate]; omega)) only [go_sem, ↓reduceIte, Int.reduceLE, Int.reduceLT, Int.reduceToNat, Int.reduceNeg, Int.reduceAdd, Int.reduceSub, Int.reduceMul, Int.reduceEq, Int.reduceNe, Nat.reduceEqDiff, Nat.reduceAdd, Nat.reduceSub, Nat.reduceMul, Nat.reduceLT, Nat.reduceLeDiff, Nat.reduceBEq, Nat.reduceBNe, Try.results6, m3, h3, h4, h5, h6, h7, h8, h9, h10, h11, h12, h13, hdi] | skip))
    exact ⟨j + 1, by rw [hsn]; rfl, rfl, by omega, by omega, by omega⟩
end Go.Proofs.Ytbaholclcfpknaa.X


