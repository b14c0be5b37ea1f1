/- The law: low points know cut nodes. -/
import Derived.Test.YtgpdpocgkloogaaC44
set_option linter.unusedSimpArgs false
set_option linter.unusedVariables false
set_option maxHeartbeats 8000000
namespace Go.Proofs.Ytgpdpocgkloogaa.X
open Go Go.Proofs

def kidN (S : Sr) (v i : Int) : Nat := ((iota i).filter fun j => decide (gI S.par j = v)).length
def cutB (S : Sr) (v i : Int) : Bool := (iota i).any fun j => decide (gI S.par j = v ∧ 0 ≤ gI S.par v ∧ gI S.num v ≤ gI S.low j)
theorem kidN_snoc {S : Sr} {v i : Int} (h : 0 ≤ i) : kidN S v (i + 1) = kidN S v i + if gI S.par i = v then 1 else 0 := by
  unfold kidN
  rw [iota_snoc h, List.filter_append, List.length_append]
  congr 1
  by_cases c : gI S.par i = v
  · simp only [List.filter_cons, List.filter_nil, decide_eq_true_eq, c, if_true, List.length_cons, List.length_nil]
  · simp only [List.filter_cons, List.filter_nil, decide_eq_true_eq, c, if_false, List.length_nil]
theorem cutB_snoc {S : Sr} {v i : Int} (h : 0 ≤ i) : cutB S v (i + 1) = (cutB S v i || decide (gI S.par i = v ∧ 0 ≤ gI S.par v ∧ gI S.num v ≤ gI S.low i)) := by
  unfold cutB
  rw [iota_snoc h, List.any_append]
  simp
theorem iota_nodup (n : Int) : (iota n).Nodup := by
  unfold iota
  exact List.Pairwise.map _ (fun a b (h : a ≠ b) e => h (by have : (a : Int) = b := e; omega)) List.nodup_range
theorem two_of {l : List Int} (h : 1 < l.length) (hn : l.Nodup) : ∃ i j, i ∈ l ∧ j ∈ l ∧ i ≠ j := by
  match l, h, hn with
  | a :: b :: l, _, hn => exact ⟨a, b, by simp, by simp, fun e => by simp [e] at hn⟩
theorem of_two {l : List Int} {i j : Int} (hi : i ∈ l) (hj : j ∈ l) (h : i ≠ j) : 1 < l.length := by
  match l, hi, hj with
  | [a], hi, hj => exact absurd ((List.mem_singleton.1 hi).trans (List.mem_singleton.1 hj).symm) h
  | a :: b :: l, _, _ => simp
theorem cut_is {n : Int} {es : List (Int × Int)} (ho : ∀ e ∈ es, okE n e) {S : Sr} (D : Dfs n es S) {v : Int} (hv : 0 ≤ v ∧ v < n) : (if gI S.par v < 0 then decide ((1 : Int) < (kidN S v n : Nat)) else cutB S v n) = decide (CutN es v) := by
  split
  · rename_i h
    have hp : gI S.par v = -1 := by
      rcases D.pa v hv with h1 | h1
      · exact h1
      · obtain ⟨⟨a, b⟩, -⟩ := h1; omega
    refine decide_eq_decide.2 (Iff.trans ?_ (D.cut_top ho hv hp).symm)
    constructor
    · intro h
      obtain ⟨i, j, hi, hj, hij⟩ := two_of (l := (iota n).filter fun j => decide (gI S.par j = v)) (by unfold kidN at h; omega) ((iota_nodup n).filter _)
      rw [List.mem_filter, mem_iota, decide_eq_true_eq] at hi hj
      exact ⟨i, j, hi.1, hj.1, hij, hi.2, hj.2⟩
    · rintro ⟨i, j, hi, hj, hij, h1, h2⟩
      have := of_two (l := (iota n).filter fun j => decide (gI S.par j = v)) (i := i) (j := j) (by rw [List.mem_filter, mem_iota, decide_eq_true_eq]; exact ⟨hi, h1⟩) (by rw [List.mem_filter, mem_iota, decide_eq_true_eq]; exact ⟨hj, h2⟩) hij
      unfold kidN
      omega
  · rename_i h
    rw [Bool.eq_iff_iff, decide_eq_true_eq, D.cut_in ho hv (by omega)]
    unfold cutB
    rw [List.any_eq_true]
    constructor
    · rintro ⟨j, hj, h1⟩
      rw [mem_iota] at hj
      rw [decide_eq_true_eq] at h1
      exact ⟨j, hj, h1.1, h1.2.2⟩
    · rintro ⟨j, hj, h1, h2⟩
      exact ⟨j, mem_iota.2 hj, decide_eq_true ⟨h1, by omega, h2⟩⟩

theorem law_CutNodesOf (bs : List Int) (hb : ∀ b ∈ bs, 0 ≤ b ∧ b < 256) : KP 7 [LB bs] [] = some (B true, [], []) := by
  by_cases hbig : (1048576 : Int) < bs.length
  · refine xw_call (fn := Try.f7) rfl Try.func7 rfl ⟨Nat.le_of_ble_eq_true rfl, rfl, rfl⟩ ?_
    repeat' (first
      | refine xw_seq ?_
      | refine xw_block ?_
      | (refine ite_two ?_ ?_ <;> intro _ <;> first | (exfalso; omega) | skip)
      | refine ord_split (by kernel_rfl) ?_
      | (refine xw_ret ?_ <;> try simp only [sq, bl, LQ])
      | ((first | refine xw_reg ?_ | refine xw_regd ?_ | refine xw_if ?_ | refine xw_skip ?_ | refine xw_exit ?_ | refine xw_label ?_ | refine post_ret ?_ | refine post_normal ?_ | refine postE_ret ?_ | refine postE_normal ?_) <;> simp (config := { maxSteps := 3000000 }) (disch := first | assumption | omega | exact VG.okg (by assumption) | (simp only [List.length_set, List.length_append, List.length_cons, List.length_nil, List.length_replicate]; omega)) only [go_sem, ↓reduceIte, Int.reduceLE, Int.reduceLT, Int.reduceToNat, Int.reduceNeg, Int.reduceAdd, Int.reduceSub, Int.reduceMul, Int.reduceEq, Int.reduceNe, Nat.reduceEqDiff, Nat.reduceAdd, Nat.reduceSub, Nat.reduceMul, Nat.reduceLT, Nat.reduceLeDiff, Nat.reduceBEq, Nat.reduceBNe, Try.results7])
      | (((first | refine at_region ?_ | refine at_out ?_ | refine at_cond ?_); split) <;> first | (exfalso; omega; done) | simp (config := { maxSteps := 3000000 }) (disch := first | assumption | omega | exact VG.okg (by assumption) | (simp only [List.length_set, List.length_append, List.length_cons, List.length_nil, List.length_replicate]; omega)) only [go_sem, ↓reduceIte, Int.reduceLE, Int.reduceLT, Int.reduceToNat, Int.reduceNeg, Int.reduceAdd, Int.reduceSub, Int.reduceMul, Int.reduceEq, Int.reduceNe, Nat.reduceEqDiff, Nat.reduceAdd, Nat.reduceSub, Nat.reduceMul, Nat.reduceLT, Nat.reduceLeDiff, Nat.reduceBEq, Nat.reduceBNe, Try.results7] | skip))
  obtain ⟨n, es, n0, n1, hl, hdraw⟩ := c_DrawCutNodesOf bs hb (by omega)
  have hp := c_CutNodesOf n es (by omega)
  have hs := c_sCutNodesOf n es (by omega)
  have hse := c_SearchOf n es (by omega)
  by_cases hV : VG n es
  rotate_left
  · rw [if_neg hV] at hp hs
    have hd0 := c_dyInts_nil
    have hg := decide_eq_false hV
    refine xw_call (fn := Try.f7) rfl Try.func7 rfl ⟨Nat.le_of_ble_eq_true rfl, rfl, rfl⟩ ?_
    repeat' (first
      | refine xw_seq ?_
      | refine xw_block ?_
      | (refine ite_two ?_ ?_ <;> intro _ <;> first | (exfalso; omega) | skip)
      | refine ord_split (by kernel_rfl) ?_
      | (refine xw_ret ?_ <;> try simp only [sq, bl, LQ])
      | ((first | refine xw_reg ?_ | refine xw_regd ?_ | refine xw_if ?_ | refine xw_skip ?_ | refine xw_exit ?_ | refine xw_label ?_ | refine post_ret ?_ | refine post_normal ?_ | refine postE_ret ?_ | refine postE_normal ?_) <;> simp (config := { maxSteps := 3000000 }) (disch := first | assumption | omega | exact VG.okg (by assumption) | (simp only [List.length_set, List.length_append, List.length_cons, List.length_nil, List.length_replicate]; omega)) only [go_sem, ↓reduceIte, Int.reduceLE, Int.reduceLT, Int.reduceToNat, Int.reduceNeg, Int.reduceAdd, Int.reduceSub, Int.reduceMul, Int.reduceEq, Int.reduceNe, Nat.reduceEqDiff, Nat.reduceAdd, Nat.reduceSub, Nat.reduceMul, Nat.reduceLT, Nat.reduceLeDiff, Nat.reduceBEq, Nat.reduceBNe, Try.results7, hdraw, hp, hs, hd0, hg, List.map_nil])
      | (((first | refine at_region ?_ | refine at_out ?_ | refine at_cond ?_); split) <;> first | (exfalso; omega; done) | simp (config := { maxSteps := 3000000 }) (disch := first | assumption | omega | exact VG.okg (by assumption) | (simp only [List.length_set, List.length_append, List.length_cons, List.length_nil, List.length_replicate]; omega)) only [go_sem, ↓reduceIte, Int.reduceLE, Int.reduceLT, Int.reduceToNat, Int.reduceNeg, Int.reduceAdd, Int.reduceSub, Int.reduceMul, Int.reduceEq, Int.reduceNe, Nat.reduceEqDiff, Nat.reduceAdd, Nat.reduceSub, Nat.reduceMul, Nat.reduceLT, Nat.reduceLeDiff, Nat.reduceBEq, Nat.reduceBNe, Try.results7, hdraw, hp, hs, hd0, hg, List.map_nil] | skip))
  rw [if_pos hV] at hp hs hse
  have hg := decide_eq_true hV
  have ho := hV.okg.ok
  have hnd := hV.nodup
  have hn16 := hV.2.1
  have hn1 := hV.1
  have hcl : (cutL n es).length ≤ 20 := by
    have h1 : (cutL n es).length ≤ (iota n).length := List.length_filter_le _ _
    have h2 : (iota n).length = n.toNat := by simp [iota]
    omega
  have hd := c_dyInts (cutL n es) (cutL n es) (by omega)
  have D := seek_dfs ho hnd (show 0 ≤ n by omega)
  obtain ⟨hok, -, -⟩ := seek_inv ho hnd n.toNat (by omega)
  have hln : (seek n es).num.length = n.toNat := hok.ln
  have hlp : (seek n es).par.length = n.toNat := hok.lp
  have hll : (seek n es).low.length = n.toNat := hok.ll
  generalize seek n es = S at *
  have hmem : ∀ v, v ∈ cutL n es ↔ (0 ≤ v ∧ v < n) ∧ CutN es v := fun v => mem_cutL
  generalize cutL n es = L at *
  refine xw_call (fn := Try.f7) rfl Try.func7 rfl ⟨Nat.le_of_ble_eq_true rfl, rfl, rfl⟩ ?_
  repeat' (first
    | refine xw_seq ?_
    | refine xw_block ?_
    | (refine ite_two ?_ ?_ <;> intro _ <;> first | (exfalso; omega) | skip)
    | refine ord_split (by kernel_rfl) ?_
    | (refine xw_ret ?_ <;> try simp only [sq, bl, LQ])
    | ((first | refine xw_reg ?_ | refine xw_regd ?_ | refine xw_if ?_ | refine xw_skip ?_ | refine xw_exit ?_ | refine xw_label ?_ | refine post_ret ?_ | refine post_normal ?_ | refine postE_ret ?_ | refine postE_normal ?_) <;> simp (config := { maxSteps := 3000000 }) (disch := first | assumption | omega | exact VG.okg (by assumption) | (simp only [List.length_set, List.length_append, List.length_cons, List.length_nil, List.length_replicate]; omega)) only [go_sem, ↓reduceIte, Int.reduceLE, Int.reduceLT, Int.reduceToNat, Int.reduceNeg, Int.reduceAdd, Int.reduceSub, Int.reduceMul, Int.reduceEq, Int.reduceNe, Nat.reduceEqDiff, Nat.reduceAdd, Nat.reduceSub, Nat.reduceMul, Nat.reduceLT, Nat.reduceLeDiff, Nat.reduceBEq, Nat.reduceBNe, Try.results7, hdraw, hp, hs, hd, hg, hse, decide_true])
    | (((first | refine at_region ?_ | refine at_out ?_ | refine at_cond ?_); split) <;> first | (exfalso; omega; done) | simp (config := { maxSteps := 3000000 }) (disch := first | assumption | omega | exact VG.okg (by assumption) | (simp only [List.length_set, List.length_append, List.length_cons, List.length_nil, List.length_replicate]; omega)) only [go_sem, ↓reduceIte, Int.reduceLE, Int.reduceLT, Int.reduceToNat, Int.reduceNeg, Int.reduceAdd, Int.reduceSub, Int.reduceMul, Int.reduceEq, Int.reduceNe, Nat.reduceEqDiff, Nat.reduceAdd, Nat.reduceSub, Nat.reduceMul, Nat.reduceLT, Nat.reduceLeDiff, Nat.reduceBEq, Nat.reduceBNe, Try.results7, hdraw, hp, hs, hd, hg, hse, decide_true] | skip))
  refine xw_loopR (fun (v : Int) s => s.m 3 = some (.box 0 [I n, LE es]) ∧ s.ρ 3 = .ptr 3 0 0 0 ∧ s.ρ 4 = LI L ∧ s.m 5 = some (.box 0 [LI S.num, LI S.par, LI S.low]) ∧ s.ρ 5 = .ptr 5 0 0 0 ∧ s.ρ 6 = B true ∧ s.ρ 7 = I v ∧ 0 ≤ v ∧ v ≤ n) (fun v => (n - v).toNat) 0 (by refine ⟨?_, ?_, ?_, ?_, ?_, ?_, ?_, by omega, by omega⟩ <;> simp [upd]) ?_
  rintro v ⟨ρ, m⟩ ⟨m3, h3, h4, m5, h5, h6, h7, g0, g1⟩
  simp only at m3 h3 h4 m5 h5 h6 h7 g0 g1
  by_cases hv : v < n
  rotate_left
  · repeat' (first
      | refine xw_seq ?_
      | refine xw_block ?_
      | (refine ite_two ?_ ?_ <;> intro _ <;> first | (exfalso; omega) | skip)
      | refine ord_split (by kernel_rfl) ?_
      | (refine xw_ret ?_ <;> try simp only [sq, bl, LQ])
      | ((first | refine xw_reg ?_ | refine xw_regd ?_ | refine xw_if ?_ | refine xw_skip ?_ | refine xw_exit ?_ | refine xw_label ?_ | refine post_ret ?_ | refine post_normal ?_ | refine postE_ret ?_ | refine postE_normal ?_) <;> simp (config := { maxSteps := 3000000 }) (disch := first | assumption | omega | exact VG.okg (by assumption) | (simp only [List.length_set, List.length_append, List.length_cons, List.length_nil, List.length_replicate]; omega)) only [go_sem, ↓reduceIte, Int.reduceLE, Int.reduceLT, Int.reduceToNat, Int.reduceNeg, Int.reduceAdd, Int.reduceSub, Int.reduceMul, Int.reduceEq, Int.reduceNe, Nat.reduceEqDiff, Nat.reduceAdd, Nat.reduceSub, Nat.reduceMul, Nat.reduceLT, Nat.reduceLeDiff, Nat.reduceBEq, Nat.reduceBNe, Try.results7, m3, h3, h4, m5, h5, h6, h7])
      | (((first | refine at_region ?_ | refine at_out ?_ | refine at_cond ?_); split) <;> first | (exfalso; omega; done) | simp (config := { maxSteps := 3000000 }) (disch := first | assumption | omega | exact VG.okg (by assumption) | (simp only [List.length_set, List.length_append, List.length_cons, List.length_nil, List.length_replicate]; omega)) only [go_sem, ↓reduceIte, Int.reduceLE, Int.reduceLT, Int.reduceToNat, Int.reduceNeg, Int.reduceAdd, Int.reduceSub, Int.reduceMul, Int.reduceEq, Int.reduceNe, Nat.reduceEqDiff, Nat.reduceAdd, Nat.reduceSub, Nat.reduceMul, Nat.reduceLT, Nat.reduceLeDiff, Nat.reduceBEq, Nat.reduceBNe, Try.results7, m3, h3, h4, m5, h5, h6, h7] | skip))
  repeat' (first
    | refine xw_seq ?_
    | refine xw_block ?_
    | (refine ite_two ?_ ?_ <;> intro _ <;> first | (exfalso; omega) | skip)
    | refine ord_split (by kernel_rfl) ?_
    | (refine xw_ret ?_ <;> try simp only [sq, bl, LQ])
    | ((first | refine xw_reg ?_ | refine xw_regd ?_ | refine xw_if ?_ | refine xw_skip ?_ | refine xw_exit ?_ | refine xw_label ?_ | refine post_ret ?_ | refine post_normal ?_ | refine postE_ret ?_ | refine postE_normal ?_) <;> simp (config := { maxSteps := 3000000 }) (disch := first | assumption | omega | exact VG.okg (by assumption) | (simp only [List.length_set, List.length_append, List.length_cons, List.length_nil, List.length_replicate]; omega)) only [go_sem, ↓reduceIte, Int.reduceLE, Int.reduceLT, Int.reduceToNat, Int.reduceNeg, Int.reduceAdd, Int.reduceSub, Int.reduceMul, Int.reduceEq, Int.reduceNe, Nat.reduceEqDiff, Nat.reduceAdd, Nat.reduceSub, Nat.reduceMul, Nat.reduceLT, Nat.reduceLeDiff, Nat.reduceBEq, Nat.reduceBNe, Try.results7, m3, h3, h4, m5, h5, h6, h7])
    | (((first | refine at_region ?_ | refine at_out ?_ | refine at_cond ?_); split) <;> first | (exfalso; omega; done) | simp (config := { maxSteps := 3000000 }) (disch := first | assumption | omega | exact VG.okg (by assumption) | (simp only [List.length_set, List.length_append, List.length_cons, List.length_nil, List.length_replicate]; omega)) only [go_sem, ↓reduceIte, Int.reduceLE, Int.reduceLT, Int.reduceToNat, Int.reduceNeg, Int.reduceAdd, Int.reduceSub, Int.reduceMul, Int.reduceEq, Int.reduceNe, Nat.reduceEqDiff, Nat.reduceAdd, Nat.reduceSub, Nat.reduceMul, Nat.reduceLT, Nat.reduceLeDiff, Nat.reduceBEq, Nat.reduceBNe, Try.results7, m3, h3, h4, m5, h5, h6, h7] | skip))
  refine xw_loopR (fun (i : Int) s => s.m 3 = some (.box 0 [I n, LE es]) ∧ s.ρ 3 = .ptr 3 0 0 0 ∧ s.ρ 4 = LI L ∧ s.m 5 = some (.box 0 [LI S.num, LI S.par, LI S.low]) ∧ s.ρ 5 = .ptr 5 0 0 0 ∧ s.ρ 6 = B true ∧ s.ρ 7 = I v ∧ s.ρ 8 = I (kidN S v i : Nat) ∧ s.ρ 9 = B (cutB S v i) ∧ s.ρ 10 = I i ∧ 0 ≤ i ∧ i ≤ n ∧ (kidN S v i : Int) ≤ i) (fun i => (n - i).toNat) 0 ?_ ?_
  · refine ⟨?_, ?_, ?_, ?_, ?_, ?_, ?_, ?_, ?_, ?_, by omega, by omega, by simp [kidN, iota]⟩ <;> simp [upd, kidN, cutB, iota, m3, h3, h4, m5, h5, h6, h7]
  rintro i ⟨ρ, m⟩ ⟨m3, h3, h4, m5, h5, h6, h7, h8, h9, h10, f0, f1, f2⟩
  simp only at m3 h3 h4 m5 h5 h6 h7 h8 h9 h10 f0 f1 f2
  by_cases hi : i < n
  rotate_left
  · have hin : i = n := by omega
    subst hin
    have hci := cut_is ho D (v := v) ⟨g0, hv⟩
    have hdi := c_dyIn L v (by omega)
    have hic := c_IsCutNode i v es (by omega)
    have e1 : decide (v ∈ L) = decide (CutN es v) := decide_eq_decide.2 ((hmem v).trans ⟨fun h => h.2, fun h => ⟨⟨g0, hv⟩, h⟩⟩)
    have e2 : decide (VG i es ∧ 0 ≤ v ∧ v < i ∧ CutN es v) = decide (CutN es v) := decide_eq_decide.2 ⟨fun h => h.2.2.2, fun h => ⟨hV, g0, hv, h⟩⟩
    rw [e1] at hdi
    rw [e2] at hic
    generalize decide (CutN es v) = c at hdi hic hci
    unfold gI at hci
    by_cases hpv : S.par.getD v.toNat 0 < 0
    · rw [if_pos hpv] at hci
      repeat' (first
        | refine xw_seq ?_
        | refine xw_block ?_
        | (refine ite_two ?_ ?_ <;> intro _ <;> first | (exfalso; omega) | skip)
        | refine ord_split (by kernel_rfl) ?_
        | (refine xw_ret ?_ <;> try simp only [sq, bl, LQ])
        | ((first | refine xw_reg ?_ | refine xw_regd ?_ | refine xw_if ?_ | refine xw_skip ?_ | refine xw_exit ?_ | refine xw_label ?_ | refine post_ret ?_ | refine post_normal ?_ | refine postE_ret ?_ | refine postE_normal ?_) <;> simp (config := { maxSteps := 3000000 }) (disch := first | assumption | omega | exact VG.okg (by assumption) | (simp only [List.length_set, List.length_append, List.length_cons, List.length_nil, List.length_replicate]; omega)) only [go_sem, ↓reduceIte, Int.reduceLE, Int.reduceLT, Int.reduceToNat, Int.reduceNeg, Int.reduceAdd, Int.reduceSub, Int.reduceMul, Int.reduceEq, Int.reduceNe, Nat.reduceEqDiff, Nat.reduceAdd, Nat.reduceSub, Nat.reduceMul, Nat.reduceLT, Nat.reduceLeDiff, Nat.reduceBEq, Nat.reduceBNe, Try.results7, m3, h3, h4, m5, h5, h6, h7, h8, h9, h10, hdi, hic, hci])
        | (((first | refine at_region ?_ | refine at_out ?_ | refine at_cond ?_); split) <;> first | (exfalso; omega; done) | simp (config := { maxSteps := 3000000 }) (disch := first | assumption | omega | exact VG.okg (by assumption) | (simp only [List.length_set, List.length_append, List.length_cons, List.length_nil, List.length_replicate]; omega)) only [go_sem, ↓reduceIte, Int.reduceLE, Int.reduceLT, Int.reduceToNat, Int.reduceNeg, Int.reduceAdd, Int.reduceSub, Int.reduceMul, Int.reduceEq, Int.reduceNe, Nat.reduceEqDiff, Nat.reduceAdd, Nat.reduceSub, Nat.reduceMul, Nat.reduceLT, Nat.reduceLeDiff, Nat.reduceBEq, Nat.reduceBNe, Try.results7, m3, h3, h4, m5, h5, h6, h7, h8, h9, h10, hdi, hic, hci] | skip))
      all_goals exact ⟨by omega, by omega, by omega⟩
    · rw [if_neg hpv] at hci
      repeat' (first
        | refine xw_seq ?_
        | refine xw_block ?_
        | (refine ite_two ?_ ?_ <;> intro _ <;> first | (exfalso; omega) | skip)
        | refine ord_split (by kernel_rfl) ?_
        | (refine xw_ret ?_ <;> try simp only [sq, bl, LQ])
        | ((first | refine xw_reg ?_ | refine xw_regd ?_ | refine xw_if ?_ | refine xw_skip ?_ | refine xw_exit ?_ | refine xw_label ?_ | refine post_ret ?_ | refine post_normal ?_ | refine postE_ret ?_ | refine postE_normal ?_) <;> simp (config := { maxSteps := 3000000 }) (disch := first | assumption | omega | exact VG.okg (by assumption) | (simp only [List.length_set, List.length_append, List.length_cons, List.length_nil, List.length_replicate]; omega)) only [go_sem, ↓reduceIte, Int.reduceLE, Int.reduceLT, Int.reduceToNat, Int.reduceNeg, Int.reduceAdd, Int.reduceSub, Int.reduceMul, Int.reduceEq, Int.reduceNe, Nat.reduceEqDiff, Nat.reduceAdd, Nat.reduceSub, Nat.reduceMul, Nat.reduceLT, Nat.reduceLeDiff, Nat.reduceBEq, Nat.reduceBNe, Try.results7, m3, h3, h4, m5, h5, h6, h7, h8, h9, h10, hdi, hic, hci])
        | (((first | refine at_region ?_ | refine at_out ?_ | refine at_cond ?_); split) <;> first | (exfalso; omega; done) | simp (config := { maxSteps := 3000000 }) (disch := first | assumption | omega | exact VG.okg (by assumption) | (simp only [List.length_set, List.length_append, List.length_cons, List.length_nil, List.length_replicate]; omega)) only [go_sem, ↓reduceIte, Int.reduceLE, Int.reduceLT, Int.reduceToNat, Int.reduceNeg, Int.reduceAdd, Int.reduceSub, Int.reduceMul, Int.reduceEq, Int.reduceNe, Nat.reduceEqDiff, Nat.reduceAdd, Nat.reduceSub, Nat.reduceMul, Nat.reduceLT, Nat.reduceLeDiff, Nat.reduceBEq, Nat.reduceBNe, Try.results7, m3, h3, h4, m5, h5, h6, h7, h8, h9, h10, hdi, hic, hci] | skip))
      all_goals exact ⟨by omega, by omega, by omega⟩
  have k1 := kidN_snoc (S := S) (v := v) f0
  have k2 := cutB_snoc (S := S) (v := v) f0
  unfold gI at k1 k2
  have k3 : (kidN S v (i + 1) : Int) = (kidN S v i : Int) + if S.par.getD i.toNat 0 = v then 1 else 0 := by rw [k1]; split <;> omega
  repeat' (first
    | refine xw_seq ?_
    | refine xw_block ?_
    | (refine ite_two ?_ ?_ <;> intro _ <;> first | (exfalso; omega) | skip)
    | refine ord_split (by kernel_rfl) ?_
    | (refine xw_ret ?_ <;> try simp only [sq, bl, LQ])
    | ((first | refine xw_reg ?_ | refine xw_regd ?_ | refine xw_if ?_ | refine xw_skip ?_ | refine xw_exit ?_ | refine xw_label ?_ | refine post_ret ?_ | refine post_normal ?_ | refine postE_ret ?_ | refine postE_normal ?_) <;> simp (config := { maxSteps := 3000000 }) (disch := first | assumption | omega | exact VG.okg (by assumption) | (simp only [List.length_set, List.length_append, List.length_cons, List.length_nil, List.length_replicate]; omega)) only [go_sem, ↓reduceIte, Int.reduceLE, Int.reduceLT, Int.reduceToNat, Int.reduceNeg, Int.reduceAdd, Int.reduceSub, Int.reduceMul, Int.reduceEq, Int.reduceNe, Nat.reduceEqDiff, Nat.reduceAdd, Nat.reduceSub, Nat.reduceMul, Nat.reduceLT, Nat.reduceLeDiff, Nat.reduceBEq, Nat.reduceBNe, Try.results7, m3, h3, h4, m5, h5, h6, h7, h8, h9, h10])
    | (((first | refine at_region ?_ | refine at_out ?_ | refine at_cond ?_); split) <;> first | (exfalso; omega; done) | simp (config := { maxSteps := 3000000 }) (disch := first | assumption | omega | exact VG.okg (by assumption) | (simp only [List.length_set, List.length_append, List.length_cons, List.length_nil, List.length_replicate]; omega)) only [go_sem, ↓reduceIte, Int.reduceLE, Int.reduceLT, Int.reduceToNat, Int.reduceNeg, Int.reduceAdd, Int.reduceSub, Int.reduceMul, Int.reduceEq, Int.reduceNe, Nat.reduceEqDiff, Nat.reduceAdd, Nat.reduceSub, Nat.reduceMul, Nat.reduceLT, Nat.reduceLeDiff, Nat.reduceBEq, Nat.reduceBNe, Try.results7, m3, h3, h4, m5, h5, h6, h7, h8, h9, h10] | skip))
  all_goals
    refine ⟨i + 1, ?_, ?_, rfl, by omega, by omega, ?_, by omega⟩
    · rw [k3]; split <;> omega
    · rw [k2]
      clear hdraw hg ho hnd hok hse hln hlp hll hp hs hcl hd hmem D m3 h3 h4 m5 h5 h6 h7 h8 h9 h10 k1 k2 k3
      first | grind | (cases hcb : cutB S v i <;> simp_all)
    · rw [k3]; split <;> omega
end Go.Proofs.Ytgpdpocgkloogaa.X

