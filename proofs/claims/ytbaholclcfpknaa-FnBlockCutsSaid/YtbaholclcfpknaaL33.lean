/- The law: cut nodes are in two blocks. -/
import Derived.Test.YtbaholclcfpknaaC49
set_option linter.unusedSimpArgs false
set_option linter.unusedVariables false
set_option maxHeartbeats 8000000
set_option maxRecDepth 100000
namespace Go.Proofs.Ytbaholclcfpknaa.X
open Go Go.Proofs

/-- The first edge of a block stands for it. -/
theorem bn_first {n : Int} {es : List (Int × Int)} (hnd : es.Nodup) {i : Nat} (hi : i < (blocksL es).length) : 0 < ((blocksL es).getD i []).length ∧ ((blocksL es).getD i []).getD 0 (0, 0) ∈ es ∧ bnL n es (((blocksL es).getD i []).getD 0 (0, 0)) = nodesL n ((blocksL es).getD i []) := by
  have hb : (blocksL es).getD i [] ∈ blocksL es := getD_mem hi
  obtain ⟨k, k1, k2, k3⟩ := mem_blocks.1 hb
  have hin : eAt es k ∈ (blocksL es).getD i [] := by
    rw [k3]
    refine (mem_blk hnd (eAt_mem k1)).2 ?_
    obtain ⟨f0, f1, f2⟩ := findE_lt (eAt_mem k1)
    rw [eAt_inj hnd ⟨f0, f1⟩ k1 f2, k2]
  have hpos : 0 < ((blocksL es).getD i []).length := List.length_pos_of_mem hin
  have hm : ((blocksL es).getD i []).getD 0 (0, 0) ∈ (blocksL es).getD i [] := getD_mem hpos
  have hm2 : ((blocksL es).getD i []).getD 0 (0, 0) ∈ es := by
    rw [k3] at hm ⊢
    obtain ⟨q, hq, _⟩ := mem_blkE.1 hm
    exact List.mem_of_getElem? hq
  refine ⟨hpos, hm2, ?_⟩
  unfold bnL
  rw [← blocks_of hnd hm2 hb hm]
/-- How many of the first blocks a node is in. -/
noncomputable def cntB (n : Int) (es : List (Int × Int)) (v i : Int) : Nat := ((iota i).filter fun j => decide (v ∈ nodesL n ((blocksL es).getD j.toNat []))).length
theorem cntB_snoc {n : Int} {es : List (Int × Int)} {v i : Int} (h : 0 ≤ i) : cntB n es v (i + 1) = cntB n es v i + if v ∈ nodesL n ((blocksL es).getD i.toNat []) then 1 else 0 := by
  unfold cntB
  rw [iota_snoc h, List.filter_append, List.length_append]
  congr 1
  by_cases c : v ∈ nodesL n ((blocksL es).getD i.toNat [])
  · rw [if_pos c, List.filter_cons, if_pos (decide_eq_true c)]; rfl
  · rw [if_neg c, List.filter_cons, if_neg (by simpa using c)]; rfl
theorem cntB_le {n : Int} {es : List (Int × Int)} {v i : Int} (h : 0 ≤ i) : cntB n es v i ≤ i.toNat := by
  unfold cntB
  have := List.length_filter_le (fun j => decide (v ∈ nodesL n ((blocksL es).getD j.toNat []))) (iota i)
  rw [iota_length] at this
  exact this
theorem two_of {l : List Int} (hn : l.Nodup) : 1 < l.length ↔ ∃ a b, a ∈ l ∧ b ∈ l ∧ a ≠ b := by
  constructor
  · intro h
    match l, h with
    | a :: b :: l, _ => exact ⟨a, b, by simp, by simp, fun e => by simp [e] at hn⟩
  · rintro ⟨a, b, ha, hb, hne⟩
    match l with
    | [] => simp at ha
    | [x] => simp at ha hb; omega
    | a :: b :: l => simp
theorem cut_cnt {n : Int} {es : List (Int × Int)} (hV : VG n es) {v : Int} : CutN es v ↔ 1 < cntB n es v (blocksL es).length := by
  have ho := hV.okg.ok
  have hnd := hV.nodup
  have hfn : ((iota (blocksL es).length).filter fun j => decide (v ∈ nodesL n ((blocksL es).getD j.toNat []))).Nodup := ((sorted_iota _).filter _).imp fun h => by omega
  unfold cntB
  rw [two_of hfn]
  simp only [List.mem_filter, decide_eq_true_eq, mem_iota]
  constructor
  · intro h
    obtain ⟨e, f, he, hf, h1, h2, hne⟩ := cut_blk ho h
    obtain ⟨b, hb, heb⟩ := blocks_has hnd he
    obtain ⟨c, hc, hfc⟩ := blocks_has hnd hf
    obtain ⟨i, hi, hbi⟩ := List.mem_iff_getElem.1 hb
    obtain ⟨k, hk, hck⟩ := List.mem_iff_getElem.1 hc
    have gi : (blocksL es).getD (i : Int).toNat [] = b := by simp [hi, hbi]
    have gk : (blocksL es).getD (k : Int).toNat [] = c := by simp [hk, hck]
    have rng : ∀ {g : Int × Int}, g ∈ es → On v g → 0 ≤ v ∧ v < n := fun hg h => by
      have := ho _ hg
      unfold okE at this
      rcases h with h | h <;> omega
    refine ⟨(i : Int), (k : Int), ⟨by omega, ?_⟩, ⟨by omega, ?_⟩, fun hik => hne ?_⟩
    · rw [gi, mem_nodesL]; exact ⟨rng he h1, e, heb, h1⟩
    · rw [gk, mem_nodesL]; exact ⟨rng he h1, f, hfc, h2⟩
    · have hik' : i = k := by omega
      subst hik'
      have hbc : b = c := by rw [← hbi, ← hck]
      subst hbc
      have e1 := blocks_of hnd he hb heb
      have e2 := blocks_of hnd hf hb hfc
      rw [e1] at hfc
      have h4 := blk_beq hnd he hf
      rw [(mem_blk hnd hf).1 hfc] at h4
      simpa using h4
  · rintro ⟨a, b, ⟨ha, ha2⟩, ⟨hb, hb2⟩, hne⟩
    rw [mem_nodesL] at ha2 hb2
    obtain ⟨-, e, he, h1⟩ := ha2
    obtain ⟨-, f, hf, h2⟩ := hb2
    obtain ⟨q1, q2, q3⟩ := blocks_two hnd (i := a.toNat) (k := b.toNat) (by omega) (by omega) (by omega) he hf
    exact blk_cut ho q1 q2 q3 h1 h2

theorem law_BlockCuts (bs : List Int) (hb : ∀ b ∈ bs, 0 ≤ b ∧ b < 256) : KP 7 [LB bs] [] = some (B true, [], []) := by
  by_cases hbig : (1048576 : Int) < bs.length
  · refine xw_call (fn := Try.f7) rfl Try.func7 rfl ⟨Nat.le_of_ble_eq_true rfl, rfl, rfl⟩ ?_
    repeat' (first
      | refine xw_seq ?_
      | refine xw_block ?_
      | (refine ite_two ?_ ?_ <;> intro _ <;> first | (exfalso; omega) | skip)
      | refine ord_split (by kernel_rfl) ?_
      | (refine xw_ret ?_ <;> try simp only [sq, bl, LQ])
      | ((first | refine xw_reg ?_ | refine xw_regd ?_ | refine xw_if ?_ | refine xw_skip ?_ | refine xw_exit ?_ | refine xw_label ?_ | refine post_ret ?_ | refine post_normal ?_ | refine postE_ret ?_ | refine postE_normal ?_) <;> simp (config := { maxSteps := 3000000 }) (disch := first | assumption | omega | exact VG.okg (by assumption) | (simp only [List.length_set, List.length_append, List.length_cons, List.length_nil, List.length_replicate]; omega)) only [go_sem, ↓reduceIte, Int.reduceLE, Int.reduceLT, Int.reduceToNat, Int.reduceNeg, Int.reduceAdd, Int.reduceSub, Int.reduceMul, Int.reduceEq, Int.reduceNe, Nat.reduceEqDiff, Nat.reduceAdd, Nat.reduceSub, Nat.reduceMul, Nat.reduceLT, Nat.reduceLeDiff, Nat.reduceBEq, Nat.reduceBNe, Try.results7])
      | (((first | refine at_region ?_ | refine at_out ?_ | refine at_cond ?_); split) <;> first | (exfalso; omega; done) | simp (config := { maxSteps := 3000000 }) (disch := first | assumption | omega | exact VG.okg (by assumption) | (simp only [List.length_set, List.length_append, List.length_cons, List.length_nil, List.length_replicate]; omega)) only [go_sem, ↓reduceIte, Int.reduceLE, Int.reduceLT, Int.reduceToNat, Int.reduceNeg, Int.reduceAdd, Int.reduceSub, Int.reduceMul, Int.reduceEq, Int.reduceNe, Nat.reduceEqDiff, Nat.reduceAdd, Nat.reduceSub, Nat.reduceMul, Nat.reduceLT, Nat.reduceLeDiff, Nat.reduceBEq, Nat.reduceBNe, Try.results7] | skip))
  obtain ⟨n, es, n0, n1, hl, hdraw⟩ := c_DrawLeafBlocks bs hb (by omega)
  have hp := c_LeafBlocks n es (by omega)
  have hs := c_sLeafBlocks n es (by omega)
  have hgv := c_GraphValid n es (by omega)
  by_cases hV : VG n es
  rotate_left
  · rw [if_neg hV] at hp hs
    rw [decide_eq_false hV] at hgv
    have hd := c_dyInts_nil
    refine xw_call (fn := Try.f7) rfl Try.func7 rfl ⟨Nat.le_of_ble_eq_true rfl, rfl, rfl⟩ ?_
    repeat' (first
      | refine xw_seq ?_
      | refine xw_block ?_
      | (refine ite_two ?_ ?_ <;> intro _ <;> first | (exfalso; omega) | skip)
      | refine ord_split (by kernel_rfl) ?_
      | (refine xw_ret ?_ <;> try simp only [sq, bl, LQ])
      | ((first | refine xw_reg ?_ | refine xw_regd ?_ | refine xw_if ?_ | refine xw_skip ?_ | refine xw_exit ?_ | refine xw_label ?_ | refine post_ret ?_ | refine post_normal ?_ | refine postE_ret ?_ | refine postE_normal ?_) <;> simp (config := { maxSteps := 3000000 }) (disch := first | assumption | omega | exact VG.okg (by assumption) | (simp only [List.length_set, List.length_append, List.length_cons, List.length_nil, List.length_replicate]; omega)) only [go_sem, ↓reduceIte, Int.reduceLE, Int.reduceLT, Int.reduceToNat, Int.reduceNeg, Int.reduceAdd, Int.reduceSub, Int.reduceMul, Int.reduceEq, Int.reduceNe, Nat.reduceEqDiff, Nat.reduceAdd, Nat.reduceSub, Nat.reduceMul, Nat.reduceLT, Nat.reduceLeDiff, Nat.reduceBEq, Nat.reduceBNe, Try.results7, hdraw, hp, hs, hd, hgv])
      | (((first | refine at_region ?_ | refine at_out ?_ | refine at_cond ?_); split) <;> first | (exfalso; omega; done) | simp (config := { maxSteps := 3000000 }) (disch := first | assumption | omega | exact VG.okg (by assumption) | (simp only [List.length_set, List.length_append, List.length_cons, List.length_nil, List.length_replicate]; omega)) only [go_sem, ↓reduceIte, Int.reduceLE, Int.reduceLT, Int.reduceToNat, Int.reduceNeg, Int.reduceAdd, Int.reduceSub, Int.reduceMul, Int.reduceEq, Int.reduceNe, Nat.reduceEqDiff, Nat.reduceAdd, Nat.reduceSub, Nat.reduceMul, Nat.reduceLT, Nat.reduceLeDiff, Nat.reduceBEq, Nat.reduceBNe, Try.results7, hdraw, hp, hs, hd, hgv] | skip))
  rw [if_pos hV] at hp hs
  rw [decide_eq_true hV] at hgv
  have hbk := c_BlocksOf n es (by omega)
  rw [if_pos hV] at hbk
  have ho := hV.okg.ok
  have hnd := hV.nodup
  have hbl := blocks_len (es := es)
  have hlf := leafT_len (n := n) (es := es) (i := (blocksL es).length) (by omega)
  have hd := c_dyInts (leafT n es (blocksL es).length) (leafT n es (blocksL es).length) (by omega)
  rw [decide_eq_true rfl] at hd
  generalize leafT n es (blocksL es).length = lf at hp hs hd hlf
  refine xw_call (fn := Try.f7) rfl Try.func7 rfl ⟨Nat.le_of_ble_eq_true rfl, rfl, rfl⟩ ?_
  repeat' (first
    | refine xw_seq ?_
    | refine xw_block ?_
    | (refine ite_two ?_ ?_ <;> intro _ <;> first | (exfalso; omega) | skip)
    | refine ord_split (by kernel_rfl) ?_
    | (refine xw_ret ?_ <;> try simp only [sq, bl, LQ])
    | ((first | refine xw_reg ?_ | refine xw_regd ?_ | refine xw_if ?_ | refine xw_skip ?_ | refine xw_exit ?_ | refine xw_label ?_ | refine post_ret ?_ | refine post_normal ?_ | refine postE_ret ?_ | refine postE_normal ?_) <;> simp (config := { maxSteps := 3000000 }) (disch := first | assumption | omega | exact VG.okg (by assumption) | (simp only [List.length_set, List.length_append, List.length_cons, List.length_nil, List.length_replicate]; omega)) only [go_sem, ↓reduceIte, Int.reduceLE, Int.reduceLT, Int.reduceToNat, Int.reduceNeg, Int.reduceAdd, Int.reduceSub, Int.reduceMul, Int.reduceEq, Int.reduceNe, Nat.reduceEqDiff, Nat.reduceAdd, Nat.reduceSub, Nat.reduceMul, Nat.reduceLT, Nat.reduceLeDiff, Nat.reduceBEq, Nat.reduceBNe, Try.results7, hdraw, hp, hs, hd, hgv, hbk])
    | (((first | refine at_region ?_ | refine at_out ?_ | refine at_cond ?_); split) <;> first | (exfalso; omega; done) | simp (config := { maxSteps := 3000000 }) (disch := first | assumption | omega | exact VG.okg (by assumption) | (simp only [List.length_set, List.length_append, List.length_cons, List.length_nil, List.length_replicate]; omega)) only [go_sem, ↓reduceIte, Int.reduceLE, Int.reduceLT, Int.reduceToNat, Int.reduceNeg, Int.reduceAdd, Int.reduceSub, Int.reduceMul, Int.reduceEq, Int.reduceNe, Nat.reduceEqDiff, Nat.reduceAdd, Nat.reduceSub, Nat.reduceMul, Nat.reduceLT, Nat.reduceLeDiff, Nat.reduceBEq, Nat.reduceBNe, Try.results7, hdraw, hp, hs, hd, hgv, hbk] | skip))
  refine xw_loopR (fun (v : Int) s => s.m 3 = some (.box 0 [I n, LE es]) ∧ s.ρ 3 = .ptr 3 0 0 0 ∧ s.ρ 5 = LLE (blocksL es) ∧ s.ρ 6 = I v ∧ 0 ≤ v) (fun v => (n - v).toNat) 0 ?_ ?_
  · exact ⟨rfl, rfl, rfl, rfl, by omega⟩
  rintro v ⟨ρ, m⟩ ⟨m3, h3, h5, h6, g0⟩
  simp only at m3 h3 h5 h6 g0
  by_cases hv : v < n
  rotate_left
  · repeat' (first
      | refine xw_seq ?_
      | refine xw_block ?_
      | (refine ite_two ?_ ?_ <;> intro _ <;> first | (exfalso; omega) | skip)
      | refine ord_split (by kernel_rfl) ?_
      | (refine xw_ret ?_ <;> try simp only [sq, bl, LQ])
      | ((first | refine xw_reg ?_ | refine xw_regd ?_ | refine xw_if ?_ | refine xw_skip ?_ | refine xw_exit ?_ | refine xw_label ?_ | refine post_ret ?_ | refine post_normal ?_ | refine postE_ret ?_ | refine postE_normal ?_) <;> simp (config := { maxSteps := 3000000 }) (disch := first | assumption | omega | exact VG.okg (by assumption) | (simp only [List.length_set, List.length_append, List.length_cons, List.length_nil, List.length_replicate]; omega)) only [go_sem, ↓reduceIte, Int.reduceLE, Int.reduceLT, Int.reduceToNat, Int.reduceNeg, Int.reduceAdd, Int.reduceSub, Int.reduceMul, Int.reduceEq, Int.reduceNe, Nat.reduceEqDiff, Nat.reduceAdd, Nat.reduceSub, Nat.reduceMul, Nat.reduceLT, Nat.reduceLeDiff, Nat.reduceBEq, Nat.reduceBNe, Try.results7, m3, h3, h5, h6])
      | (((first | refine at_region ?_ | refine at_out ?_ | refine at_cond ?_); split) <;> first | (exfalso; omega; done) | simp (config := { maxSteps := 3000000 }) (disch := first | assumption | omega | exact VG.okg (by assumption) | (simp only [List.length_set, List.length_append, List.length_cons, List.length_nil, List.length_replicate]; omega)) only [go_sem, ↓reduceIte, Int.reduceLE, Int.reduceLT, Int.reduceToNat, Int.reduceNeg, Int.reduceAdd, Int.reduceSub, Int.reduceMul, Int.reduceEq, Int.reduceNe, Nat.reduceEqDiff, Nat.reduceAdd, Nat.reduceSub, Nat.reduceMul, Nat.reduceLT, Nat.reduceLeDiff, Nat.reduceBEq, Nat.reduceBNe, Try.results7, m3, h3, h5, h6] | skip))
  repeat' (first
    | refine xw_seq ?_
    | refine xw_block ?_
    | (refine ite_two ?_ ?_ <;> intro _ <;> first | (exfalso; omega) | skip)
    | refine ord_split (by kernel_rfl) ?_
    | (refine xw_ret ?_ <;> try simp only [sq, bl, LQ])
    | ((first | refine xw_reg ?_ | refine xw_regd ?_ | refine xw_if ?_ | refine xw_skip ?_ | refine xw_exit ?_ | refine xw_label ?_ | refine post_ret ?_ | refine post_normal ?_ | refine postE_ret ?_ | refine postE_normal ?_) <;> simp (config := { maxSteps := 3000000 }) (disch := first | assumption | omega | exact VG.okg (by assumption) | (simp only [List.length_set, List.length_append, List.length_cons, List.length_nil, List.length_replicate]; omega)) only [go_sem, ↓reduceIte, Int.reduceLE, Int.reduceLT, Int.reduceToNat, Int.reduceNeg, Int.reduceAdd, Int.reduceSub, Int.reduceMul, Int.reduceEq, Int.reduceNe, Nat.reduceEqDiff, Nat.reduceAdd, Nat.reduceSub, Nat.reduceMul, Nat.reduceLT, Nat.reduceLeDiff, Nat.reduceBEq, Nat.reduceBNe, Try.results7, m3, h3, h5, h6])
    | (((first | refine at_region ?_ | refine at_out ?_ | refine at_cond ?_); split) <;> first | (exfalso; omega; done) | simp (config := { maxSteps := 3000000 }) (disch := first | assumption | omega | exact VG.okg (by assumption) | (simp only [List.length_set, List.length_append, List.length_cons, List.length_nil, List.length_replicate]; omega)) only [go_sem, ↓reduceIte, Int.reduceLE, Int.reduceLT, Int.reduceToNat, Int.reduceNeg, Int.reduceAdd, Int.reduceSub, Int.reduceMul, Int.reduceEq, Int.reduceNe, Nat.reduceEqDiff, Nat.reduceAdd, Nat.reduceSub, Nat.reduceMul, Nat.reduceLT, Nat.reduceLeDiff, Nat.reduceBEq, Nat.reduceBNe, Try.results7, m3, h3, h5, h6] | skip))
  refine xw_loopR (fun (i : Int) s => s.m 3 = some (.box 0 [I n, LE es]) ∧ s.ρ 3 = .ptr 3 0 0 0 ∧ s.ρ 5 = LLE (blocksL es) ∧ s.ρ 6 = I v ∧ s.ρ 7 = I (cntB n es v i : Nat) ∧ s.ρ 8 = I i ∧ 0 ≤ i ∧ i ≤ (blocksL es).length) (fun i => ((blocksL es).length - i).toNat) 0 ?_ ?_
  · exact ⟨m3, h3, h5, h6, rfl, rfl, by omega, by omega⟩
  rintro i ⟨ρ, m⟩ ⟨m3, h3, h5, h6, h7, h8, f0, f1⟩
  simp only at m3 h3 h5 h6 h7 h8 f0 f1
  have hcl := cntB_le (n := n) (es := es) (v := v) f0
  by_cases hi : i < (blocksL es).length
  rotate_left
  · have hie : i = (blocksL es).length := by omega
    have hct := c_IsCutNode n v es (by omega)
    have hcc := cut_cnt hV (v := v)
    rw [← hie] at hcc
    by_cases hc : CutN es v
    · rw [decide_eq_true ⟨hV, g0, hv, hc⟩] at hct
      have hq := hcc.1 hc
      repeat' (first
        | refine xw_seq ?_
        | refine xw_block ?_
        | (refine ite_two ?_ ?_ <;> intro _ <;> first | (exfalso; omega) | skip)
        | refine ord_split (by kernel_rfl) ?_
        | (refine xw_ret ?_ <;> try simp only [sq, bl, LQ])
        | ((first | refine xw_reg ?_ | refine xw_regd ?_ | refine xw_if ?_ | refine xw_skip ?_ | refine xw_exit ?_ | refine xw_label ?_ | refine post_ret ?_ | refine post_normal ?_ | refine postE_ret ?_ | refine postE_normal ?_) <;> simp (config := { maxSteps := 3000000 }) (disch := first | assumption | omega | exact VG.okg (by assumption) | (simp only [List.length_set, List.length_append, List.length_cons, List.length_nil, List.length_replicate]; omega)) only [go_sem, ↓reduceIte, Int.reduceLE, Int.reduceLT, Int.reduceToNat, Int.reduceNeg, Int.reduceAdd, Int.reduceSub, Int.reduceMul, Int.reduceEq, Int.reduceNe, Nat.reduceEqDiff, Nat.reduceAdd, Nat.reduceSub, Nat.reduceMul, Nat.reduceLT, Nat.reduceLeDiff, Nat.reduceBEq, Nat.reduceBNe, Try.results7, m3, h3, h5, h6, h7, h8, hct])
        | (((first | refine at_region ?_ | refine at_out ?_ | refine at_cond ?_); split) <;> first | (exfalso; omega; done) | simp (config := { maxSteps := 3000000 }) (disch := first | assumption | omega | exact VG.okg (by assumption) | (simp only [List.length_set, List.length_append, List.length_cons, List.length_nil, List.length_replicate]; omega)) only [go_sem, ↓reduceIte, Int.reduceLE, Int.reduceLT, Int.reduceToNat, Int.reduceNeg, Int.reduceAdd, Int.reduceSub, Int.reduceMul, Int.reduceEq, Int.reduceNe, Nat.reduceEqDiff, Nat.reduceAdd, Nat.reduceSub, Nat.reduceMul, Nat.reduceLT, Nat.reduceLeDiff, Nat.reduceBEq, Nat.reduceBNe, Try.results7, m3, h3, h5, h6, h7, h8, hct] | skip))
      all_goals first | exact ⟨by omega, by omega⟩ | (rename_i hx; simp at hx; omega)
    · rw [decide_eq_false (fun h => hc h.2.2.2)] at hct
      have hq : ¬ _ := fun h => hc (hcc.2 h)
      repeat' (first
        | refine xw_seq ?_
        | refine xw_block ?_
        | (refine ite_two ?_ ?_ <;> intro _ <;> first | (exfalso; omega) | skip)
        | refine ord_split (by kernel_rfl) ?_
        | (refine xw_ret ?_ <;> try simp only [sq, bl, LQ])
        | ((first | refine xw_reg ?_ | refine xw_regd ?_ | refine xw_if ?_ | refine xw_skip ?_ | refine xw_exit ?_ | refine xw_label ?_ | refine post_ret ?_ | refine post_normal ?_ | refine postE_ret ?_ | refine postE_normal ?_) <;> simp (config := { maxSteps := 3000000 }) (disch := first | assumption | omega | exact VG.okg (by assumption) | (simp only [List.length_set, List.length_append, List.length_cons, List.length_nil, List.length_replicate]; omega)) only [go_sem, ↓reduceIte, Int.reduceLE, Int.reduceLT, Int.reduceToNat, Int.reduceNeg, Int.reduceAdd, Int.reduceSub, Int.reduceMul, Int.reduceEq, Int.reduceNe, Nat.reduceEqDiff, Nat.reduceAdd, Nat.reduceSub, Nat.reduceMul, Nat.reduceLT, Nat.reduceLeDiff, Nat.reduceBEq, Nat.reduceBNe, Try.results7, m3, h3, h5, h6, h7, h8, hct])
        | (((first | refine at_region ?_ | refine at_out ?_ | refine at_cond ?_); split) <;> first | (exfalso; omega; done) | simp (config := { maxSteps := 3000000 }) (disch := first | assumption | omega | exact VG.okg (by assumption) | (simp only [List.length_set, List.length_append, List.length_cons, List.length_nil, List.length_replicate]; omega)) only [go_sem, ↓reduceIte, Int.reduceLE, Int.reduceLT, Int.reduceToNat, Int.reduceNeg, Int.reduceAdd, Int.reduceSub, Int.reduceMul, Int.reduceEq, Int.reduceNe, Nat.reduceEqDiff, Nat.reduceAdd, Nat.reduceSub, Nat.reduceMul, Nat.reduceLT, Nat.reduceLeDiff, Nat.reduceBEq, Nat.reduceBNe, Try.results7, m3, h3, h5, h6, h7, h8, hct] | skip))
      all_goals first | exact ⟨by omega, by omega⟩ | (rename_i hx; simp at hx; omega)
  obtain ⟨p0, p1, p2⟩ := bn_first (n := n) hnd (i := i.toNat) (by omega)
  have hsn := cntB_snoc (n := n) (es := es) (v := v) f0
  generalize hqe : ((blocksL es).getD i.toNat []).getD 0 (0, 0) = e at p1 p2
  have hbn := c_BlockNodes n e.1 e.2 es (by omega)
  rw [if_pos ⟨hV, p1⟩] at hbn
  have hq' : bnL n es (e.1, e.2) = bnL n es e := rfl
  rw [hq', p2] at hbn
  have hln : ((nodesL n ((blocksL es).getD i.toNat [])).length : Int) ≤ n := nodes_len (by omega) _
  have hdi := c_dyIn (nodesL n ((blocksL es).getD i.toNat [])) v (by omega)
  generalize nodesL n ((blocksL es).getD i.toNat []) = xs at hbn hln hdi hsn
  by_cases hc : v ∈ xs
  · rw [if_pos hc] at hsn
    rw [decide_eq_true hc] at hdi
    repeat' (first
      | refine xw_seq ?_
      | refine xw_block ?_
      | (refine ite_two ?_ ?_ <;> intro _ <;> first | (exfalso; omega) | skip)
      | refine ord_split (by kernel_rfl) ?_
      | (refine xw_ret ?_ <;> try simp only [sq, bl, LQ])
      | ((first | refine xw_reg ?_ | refine xw_regd ?_ | refine xw_if ?_ | refine xw_skip ?_ | refine xw_exit ?_ | refine xw_label ?_ | refine post_ret ?_ | refine post_normal ?_ | refine postE_ret ?_ | refine postE_normal ?_) <;> simp (config := { maxSteps := 3000000 }) (disch := first | assumption | omega | exact VG.okg (by assumption) | (simp only [List.length_set, List.length_append, List.length_cons, List.length_nil, List.length_replicate]; omega)) only [go_sem, ↓reduceIte, Int.reduceLE, Int.reduceLT, Int.reduceToNat, Int.reduceNeg, Int.reduceAdd, Int.reduceSub, Int.reduceMul, Int.reduceEq, Int.reduceNe, Nat.reduceEqDiff, Nat.reduceAdd, Nat.reduceSub, Nat.reduceMul, Nat.reduceLT, Nat.reduceLeDiff, Nat.reduceBEq, Nat.reduceBNe, Try.results7, m3, h3, h5, h6, h7, h8, hqe, hbn, hdi])
      | (((first | refine at_region ?_ | refine at_out ?_ | refine at_cond ?_); split) <;> first | (exfalso; omega; done) | simp (config := { maxSteps := 3000000 }) (disch := first | assumption | omega | exact VG.okg (by assumption) | (simp only [List.length_set, List.length_append, List.length_cons, List.length_nil, List.length_replicate]; omega)) only [go_sem, ↓reduceIte, Int.reduceLE, Int.reduceLT, Int.reduceToNat, Int.reduceNeg, Int.reduceAdd, Int.reduceSub, Int.reduceMul, Int.reduceEq, Int.reduceNe, Nat.reduceEqDiff, Nat.reduceAdd, Nat.reduceSub, Nat.reduceMul, Nat.reduceLT, Nat.reduceLeDiff, Nat.reduceBEq, Nat.reduceBNe, Try.results7, m3, h3, h5, h6, h7, h8, hqe, hbn, hdi] | skip))
    exact ⟨i + 1, by rw [hsn]; rfl, rfl, by omega, by omega, by omega⟩
  · rw [if_neg hc] at hsn
    rw [decide_eq_false hc] at hdi
    repeat' (first
      | refine xw_seq ?_
      | refine xw_block ?_
      | (refine ite_two ?_ ?_ <;> intro _ <;> first | (exfalso; omega) | skip)
      | refine ord_split (by kernel_rfl) ?_
      | (refine xw_ret ?_ <;> try simp only [sq, bl, LQ])
      | ((first | refine xw_reg ?_ | refine xw_regd ?_ | refine xw_if ?_ | refine xw_skip ?_ | refine xw_exit ?_ | refine xw_label ?_ | refine post_ret ?_ | refine post_normal ?_ | refine postE_ret ?_ | refine postE_normal ?_) <;> simp (config := { maxSteps := 3000000 }) (disch := first | assumption | omega | exact VG.okg (by assumption) | (simp only [List.length_set, List.length_append, List.length_cons, List.length_nil, List.length_replicate]; omega)) only [go_sem, ↓reduceIte, Int.reduceLE, Int.reduceLT, Int.reduceToNat, Int.reduceNeg, Int.reduceAdd, Int.reduceSub, Int.reduceMul, Int.reduceEq, Int.reduceNe, Nat.reduceEqDiff, Nat.reduceAdd, Nat.reduceSub, Nat.reduceMul, Nat.reduceLT, Nat.reduceLeDiff, Nat.reduceBEq, Nat.reduceBNe, Try.results7, m3, h3, h5, h6, h7, h8, hqe, hbn, hdi])
      | (((first | refine at_region ?_ | refine at_out ?_ | refine at_cond ?_); split) <;> first | (exfalso; omega; done) | simp (config := { maxSteps := 3000000 }) (disch := first | assumption | omega | exact VG.okg (by assumption) | (simp only [List.length_set, List.length_append, List.length_cons, List.length_nil, List.length_replicate]; omega)) only [go_sem, ↓reduceIte, Int.reduceLE, Int.reduceLT, Int.reduceToNat, Int.reduceNeg, Int.reduceAdd, Int.reduceSub, Int.reduceMul, Int.reduceEq, Int.reduceNe, Nat.reduceEqDiff, Nat.reduceAdd, Nat.reduceSub, Nat.reduceMul, Nat.reduceLT, Nat.reduceLeDiff, Nat.reduceBEq, Nat.reduceBNe, Try.results7, m3, h3, h5, h6, h7, h8, hqe, hbn, hdi] | skip))
    exact ⟨i + 1, by rw [hsn]; rfl, rfl, by omega, by omega, by omega⟩
end Go.Proofs.Ytbaholclcfpknaa.X


