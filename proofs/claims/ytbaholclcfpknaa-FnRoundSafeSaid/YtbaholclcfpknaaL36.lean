/- The law: a part with a cycle has a round chain. -/
import Derived.Test.YtbaholclcfpknaaC53
set_option linter.unusedSimpArgs false
set_option linter.unusedVariables false
set_option maxHeartbeats 8000000
set_option maxRecDepth 100000
namespace Go.Proofs.Ytbaholclcfpknaa.X
open Go Go.Proofs

theorem mem_rd {n i : Int} {es : List (Int × Int)} (hV : VG n es) (h : i ∈ rdL n es) : 0 ≤ i ∧ i < (chainsL n es).length := by
  unfold rdL at h
  rw [if_pos hV] at h
  exact mem_iota.1 (List.mem_filter.1 h).1
/-- Where a chain begins. -/
noncomputable def hdC (n : Int) (es : List (Int × Int)) (i : Int) : Int := ((chainsL n es).getD i.toNat []).getD 0 0
theorem hdC_at {n i : Int} {es : List (Int × Int)} (hV : VG n es) (h0 : 0 ≤ i) (h1 : i < (chainsL n es).length) : inR n (hdC n es i) ∧ ((chainsL n es).map encL)[i.toNat]? = some [.lst (((chainsL n es).getD i.toNat []).map encI)] ∧ (((chainsL n es).getD i.toNat []).map encI)[0]? = some [.v (.int .i64 (hdC n es i))] := by
  have hi : i.toNat < (chainsL n es).length := by omega
  have hh := chains_head hV.okg.ok hV.nodup (n := n) (by have := hV.1; omega) (i := i.toNat) (by rw [← chains_len]; exact hi)
  refine ⟨?_, getLs _ _ hi, getI _ _ hh.2.2.1⟩
  unfold hdC
  rw [hh.1]; exact hh.2.1

theorem law_RoundSafe (bs : List Int) (hb : ∀ b ∈ bs, 0 ≤ b ∧ b < 256) : KP 8 [LB bs] [] = some (B true, [], []) := by
  by_cases hbig : (1048576 : Int) < bs.length
  · refine xw_call (fn := Try.f8) rfl Try.func8 rfl ⟨Nat.le_of_ble_eq_true rfl, rfl, rfl⟩ ?_
    repeat' (first
      | refine xw_seq ?_
      | refine xw_block ?_
      | (refine ite_two ?_ ?_ <;> intro _ <;> first | (exfalso; omega) | skip)
      | refine ord_split (by kernel_rfl) ?_
      | (refine xw_ret ?_ <;> try simp only [sq, bl, LQ])
      | ((first | refine xw_reg ?_ | refine xw_regd ?_ | refine xw_if ?_ | refine xw_skip ?_ | refine xw_exit ?_ | refine xw_label ?_ | refine post_ret ?_ | refine post_normal ?_ | refine postE_ret ?_ | refine postE_normal ?_) <;> simp (config := { maxSteps := 3000000 }) (disch := first | assumption | omega | exact VG.okg (by assumption) | (simp only [List.length_set, List.length_append, List.length_cons, List.length_nil, List.length_replicate]; omega)) only [go_sem, ↓reduceIte, Int.reduceLE, Int.reduceLT, Int.reduceToNat, Int.reduceNeg, Int.reduceAdd, Int.reduceSub, Int.reduceMul, Int.reduceEq, Int.reduceNe, Nat.reduceEqDiff, Nat.reduceAdd, Nat.reduceSub, Nat.reduceMul, Nat.reduceLT, Nat.reduceLeDiff, Nat.reduceBEq, Nat.reduceBNe, Try.results8])
      | (((first | refine at_region ?_ | refine at_out ?_ | refine at_cond ?_); split) <;> first | (exfalso; omega; done) | simp (config := { maxSteps := 3000000 }) (disch := first | assumption | omega | exact VG.okg (by assumption) | (simp only [List.length_set, List.length_append, List.length_cons, List.length_nil, List.length_replicate]; omega)) only [go_sem, ↓reduceIte, Int.reduceLE, Int.reduceLT, Int.reduceToNat, Int.reduceNeg, Int.reduceAdd, Int.reduceSub, Int.reduceMul, Int.reduceEq, Int.reduceNe, Nat.reduceEqDiff, Nat.reduceAdd, Nat.reduceSub, Nat.reduceMul, Nat.reduceLT, Nat.reduceLeDiff, Nat.reduceBEq, Nat.reduceBNe, Try.results8] | skip))
  obtain ⟨n, es, n0, n1, hl, hdraw⟩ := c_DrawRoundChains bs hb (by omega)
  have hp := c_RoundChains n es (by omega)
  have hs := c_sRoundChains n es (by omega)
  have hgv := c_GraphValid n es (by omega)
  by_cases hV : VG n es
  rotate_left
  · unfold rdL at hp hs
    rw [if_neg hV] at hp hs
    rw [decide_eq_false hV] at hgv
    have hd := c_dyInts_nil
    refine xw_call (fn := Try.f8) rfl Try.func8 rfl ⟨Nat.le_of_ble_eq_true rfl, rfl, rfl⟩ ?_
    repeat' (first
      | refine xw_seq ?_
      | refine xw_block ?_
      | (refine ite_two ?_ ?_ <;> intro _ <;> first | (exfalso; omega) | skip)
      | refine ord_split (by kernel_rfl) ?_
      | (refine xw_ret ?_ <;> try simp only [sq, bl, LQ])
      | ((first | refine xw_reg ?_ | refine xw_regd ?_ | refine xw_if ?_ | refine xw_skip ?_ | refine xw_exit ?_ | refine xw_label ?_ | refine post_ret ?_ | refine post_normal ?_ | refine postE_ret ?_ | refine postE_normal ?_) <;> simp (config := { maxSteps := 3000000 }) (disch := first | assumption | omega | exact VG.okg (by assumption) | (simp only [List.length_set, List.length_append, List.length_cons, List.length_nil, List.length_replicate]; omega)) only [go_sem, ↓reduceIte, Int.reduceLE, Int.reduceLT, Int.reduceToNat, Int.reduceNeg, Int.reduceAdd, Int.reduceSub, Int.reduceMul, Int.reduceEq, Int.reduceNe, Nat.reduceEqDiff, Nat.reduceAdd, Nat.reduceSub, Nat.reduceMul, Nat.reduceLT, Nat.reduceLeDiff, Nat.reduceBEq, Nat.reduceBNe, Try.results8, hdraw, hp, hs, hd, hgv])
      | (((first | refine at_region ?_ | refine at_out ?_ | refine at_cond ?_); split) <;> first | (exfalso; omega; done) | simp (config := { maxSteps := 3000000 }) (disch := first | assumption | omega | exact VG.okg (by assumption) | (simp only [List.length_set, List.length_append, List.length_cons, List.length_nil, List.length_replicate]; omega)) only [go_sem, ↓reduceIte, Int.reduceLE, Int.reduceLT, Int.reduceToNat, Int.reduceNeg, Int.reduceAdd, Int.reduceSub, Int.reduceMul, Int.reduceEq, Int.reduceNe, Nat.reduceEqDiff, Nat.reduceAdd, Nat.reduceSub, Nat.reduceMul, Nat.reduceLT, Nat.reduceLeDiff, Nat.reduceBEq, Nat.reduceBNe, Try.results8, hdraw, hp, hs, hd, hgv] | skip))
  rw [decide_eq_true hV] at hgv
  have hc := c_ChainsOf n es (by omega)
  rw [if_pos hV] at hc
  have hcl := chains_le hV
  have hrl : (rdL n es).length ≤ (chainsL n es).length := by
    unfold rdL; rw [if_pos hV]
    have := rounds_len_le (n := n) (es := es) (i := (chainsL n es).length) (by omega)
    omega
  have hd := c_dyInts (rdL n es) (rdL n es) (by omega)
  rw [decide_eq_true rfl] at hd
  have hmem := fun i h => mem_rd (i := i) hV h
  have hat := fun i h0 h1 => hdC_at (i := i) hV h0 h1
  have hall := fun i (hi : i < (chainsL n es).length) => rounds_all hV.okg.ok hV.nodup (n := n) (by have := hV.1; omega) hi
  have hrr : roundsL n es (chainsL n es).length = rdL n es := by unfold rdL; rw [if_pos hV]
  rw [hrr] at hall
  have hll : decide (0 < ((rdL n es).length : Int)) = decide (0 < ((chainsL n es).length : Int)) := by
    rw [decide_eq_decide]
    constructor
    · omega
    · intro h
      obtain ⟨k, hk, -⟩ := hall 0 (by omega)
      have := List.length_pos_of_mem hk
      omega
  generalize rdL n es = rd at *
  refine xw_call (fn := Try.f8) rfl Try.func8 rfl ⟨Nat.le_of_ble_eq_true rfl, rfl, rfl⟩ ?_
  repeat' (first
    | refine xw_seq ?_
    | refine xw_block ?_
    | (refine ite_two ?_ ?_ <;> intro _ <;> first | (exfalso; omega) | skip)
    | refine ord_split (by kernel_rfl) ?_
    | (refine xw_ret ?_ <;> try simp only [sq, bl, LQ])
    | ((first | refine xw_reg ?_ | refine xw_regd ?_ | refine xw_if ?_ | refine xw_skip ?_ | refine xw_exit ?_ | refine xw_label ?_ | refine post_ret ?_ | refine post_normal ?_ | refine postE_ret ?_ | refine postE_normal ?_) <;> simp (config := { maxSteps := 3000000 }) (disch := first | assumption | omega | exact VG.okg (by assumption) | (simp only [List.length_set, List.length_append, List.length_cons, List.length_nil, List.length_replicate]; omega)) only [go_sem, ↓reduceIte, Int.reduceLE, Int.reduceLT, Int.reduceToNat, Int.reduceNeg, Int.reduceAdd, Int.reduceSub, Int.reduceMul, Int.reduceEq, Int.reduceNe, Nat.reduceEqDiff, Nat.reduceAdd, Nat.reduceSub, Nat.reduceMul, Nat.reduceLT, Nat.reduceLeDiff, Nat.reduceBEq, Nat.reduceBNe, Try.results8, hdraw, hp, hs, hd, hgv, hc])
    | (((first | refine at_region ?_ | refine at_out ?_ | refine at_cond ?_); split) <;> first | (exfalso; omega; done) | simp (config := { maxSteps := 3000000 }) (disch := first | assumption | omega | exact VG.okg (by assumption) | (simp only [List.length_set, List.length_append, List.length_cons, List.length_nil, List.length_replicate]; omega)) only [go_sem, ↓reduceIte, Int.reduceLE, Int.reduceLT, Int.reduceToNat, Int.reduceNeg, Int.reduceAdd, Int.reduceSub, Int.reduceMul, Int.reduceEq, Int.reduceNe, Nat.reduceEqDiff, Nat.reduceAdd, Nat.reduceSub, Nat.reduceMul, Nat.reduceLT, Nat.reduceLeDiff, Nat.reduceBEq, Nat.reduceBNe, Try.results8, hdraw, hp, hs, hd, hgv, hc] | skip))
  refine xw_loopR (fun (i : Int) s => s.m 3 = some (.box 0 [I n, LE es]) ∧ s.ρ 3 = .ptr 3 0 0 0 ∧ s.ρ 4 = LI rd ∧ s.ρ 5 = LL (chainsL n es) ∧ s.ρ 6 = I i ∧ 0 ≤ i ∧ i ≤ (chainsL n es).length) (fun i => ((chainsL n es).length - i).toNat) 0 ?_ ?_
  · exact ⟨rfl, rfl, rfl, rfl, rfl, by omega, by omega⟩
  rintro i ⟨ρ, m⟩ ⟨m3, e3, e4, e5, e6, g0, g1⟩
  simp only at m3 e3 e4 e5 e6 g0 g1
  by_cases hi : i < (chainsL n es).length
  rotate_left
  · repeat' (first
      | refine xw_seq ?_
      | refine xw_block ?_
      | (refine ite_two ?_ ?_ <;> intro _ <;> first | (exfalso; omega) | skip)
      | refine ord_split (by kernel_rfl) ?_
      | (refine xw_ret ?_ <;> try simp only [sq, bl, LQ])
      | ((first | refine xw_reg ?_ | refine xw_regd ?_ | refine xw_if ?_ | refine xw_skip ?_ | refine xw_exit ?_ | refine xw_label ?_ | refine post_ret ?_ | refine post_normal ?_ | refine postE_ret ?_ | refine postE_normal ?_) <;> simp (config := { maxSteps := 3000000 }) (disch := first | assumption | omega | exact VG.okg (by assumption) | (simp only [List.length_set, List.length_append, List.length_cons, List.length_nil, List.length_replicate]; omega)) only [go_sem, ↓reduceIte, Int.reduceLE, Int.reduceLT, Int.reduceToNat, Int.reduceNeg, Int.reduceAdd, Int.reduceSub, Int.reduceMul, Int.reduceEq, Int.reduceNe, Nat.reduceEqDiff, Nat.reduceAdd, Nat.reduceSub, Nat.reduceMul, Nat.reduceLT, Nat.reduceLeDiff, Nat.reduceBEq, Nat.reduceBNe, Try.results8, m3, e3, e4, e5, e6])
      | (((first | refine at_region ?_ | refine at_out ?_ | refine at_cond ?_); split) <;> first | (exfalso; omega; done) | simp (config := { maxSteps := 3000000 }) (disch := first | assumption | omega | exact VG.okg (by assumption) | (simp only [List.length_set, List.length_append, List.length_cons, List.length_nil, List.length_replicate]; omega)) only [go_sem, ↓reduceIte, Int.reduceLE, Int.reduceLT, Int.reduceToNat, Int.reduceNeg, Int.reduceAdd, Int.reduceSub, Int.reduceMul, Int.reduceEq, Int.reduceNe, Nat.reduceEqDiff, Nat.reduceAdd, Nat.reduceSub, Nat.reduceMul, Nat.reduceLT, Nat.reduceLeDiff, Nat.reduceBEq, Nat.reduceBNe, Try.results8, m3, e3, e4, e5, e6] | skip))
    rw [hll, beq_self_eq_true]
  obtain ⟨hin, hi1, hi2⟩ := hat i g0 hi
  obtain ⟨k0, hk0, hk1⟩ := hall i.toNat (by omega)
  have hk1' : Conn es (hdC n es k0) (hdC n es i) := hk1
  have hfj : ∀ j, decide (Conn es (hdC n es j) (hdC n es i)) = (fun j => decide (Conn es (hdC n es j) (hdC n es i))) j := fun _ => rfl
  have hft : (fun j => decide (Conn es (hdC n es j) (hdC n es i))) k0 = true := decide_eq_true hk1'
  generalize (fun j => decide (Conn es (hdC n es j) (hdC n es i))) = f at hfj hft
  repeat' (first
    | refine xw_seq ?_
    | refine xw_block ?_
    | (refine ite_two ?_ ?_ <;> intro _ <;> first | (exfalso; omega) | skip)
    | refine ord_split (by kernel_rfl) ?_
    | (refine xw_ret ?_ <;> try simp only [sq, bl, LQ])
    | ((first | refine xw_reg ?_ | refine xw_regd ?_ | refine xw_if ?_ | refine xw_skip ?_ | refine xw_exit ?_ | refine xw_label ?_ | refine post_ret ?_ | refine post_normal ?_ | refine postE_ret ?_ | refine postE_normal ?_) <;> simp (config := { maxSteps := 3000000 }) (disch := first | assumption | omega | exact VG.okg (by assumption) | (simp only [List.length_set, List.length_append, List.length_cons, List.length_nil, List.length_replicate]; omega)) only [go_sem, ↓reduceIte, Int.reduceLE, Int.reduceLT, Int.reduceToNat, Int.reduceNeg, Int.reduceAdd, Int.reduceSub, Int.reduceMul, Int.reduceEq, Int.reduceNe, Nat.reduceEqDiff, Nat.reduceAdd, Nat.reduceSub, Nat.reduceMul, Nat.reduceLT, Nat.reduceLeDiff, Nat.reduceBEq, Nat.reduceBNe, Try.results8, m3, e3, e4, e5, e6])
    | (((first | refine at_region ?_ | refine at_out ?_ | refine at_cond ?_); split) <;> first | (exfalso; omega; done) | simp (config := { maxSteps := 3000000 }) (disch := first | assumption | omega | exact VG.okg (by assumption) | (simp only [List.length_set, List.length_append, List.length_cons, List.length_nil, List.length_replicate]; omega)) only [go_sem, ↓reduceIte, Int.reduceLE, Int.reduceLT, Int.reduceToNat, Int.reduceNeg, Int.reduceAdd, Int.reduceSub, Int.reduceMul, Int.reduceEq, Int.reduceNe, Nat.reduceEqDiff, Nat.reduceAdd, Nat.reduceSub, Nat.reduceMul, Nat.reduceLT, Nat.reduceLeDiff, Nat.reduceBEq, Nat.reduceBNe, Try.results8, m3, e3, e4, e5, e6] | skip))
  refine xw_loopR (fun (k : Int) s => s.m 3 = some (.box 0 [I n, LE es]) ∧ s.ρ 3 = .ptr 3 0 0 0 ∧ s.ρ 4 = LI rd ∧ s.ρ 5 = LL (chainsL n es) ∧ s.ρ 6 = I i ∧ s.ρ 7 = B ((rd.take k.toNat).any f) ∧ s.ρ 8 = I k ∧ 0 ≤ k ∧ k ≤ rd.length) (fun k => (rd.length - k).toNat) 0 ?_ ?_
  · exact ⟨m3, e3, e4, e5, e6, rfl, rfl, by omega, by omega⟩
  rintro k ⟨ρ, m⟩ ⟨m3, e3, e4, e5, e6, e7, e8, f0, f1⟩
  simp only at m3 e3 e4 e5 e6 e7 e8 f0 f1
  by_cases hk : k < rd.length
  rotate_left
  · rw [take_all (by omega), List.any_eq_true.2 ⟨k0, hk0, hft⟩] at e7
    repeat' (first
      | refine xw_seq ?_
      | refine xw_block ?_
      | (refine ite_two ?_ ?_ <;> intro _ <;> first | (exfalso; omega) | skip)
      | refine ord_split (by kernel_rfl) ?_
      | (refine xw_ret ?_ <;> try simp only [sq, bl, LQ])
      | ((first | refine xw_reg ?_ | refine xw_regd ?_ | refine xw_if ?_ | refine xw_skip ?_ | refine xw_exit ?_ | refine xw_label ?_ | refine post_ret ?_ | refine post_normal ?_ | refine postE_ret ?_ | refine postE_normal ?_) <;> simp (config := { maxSteps := 3000000 }) (disch := first | assumption | omega | exact VG.okg (by assumption) | (simp only [List.length_set, List.length_append, List.length_cons, List.length_nil, List.length_replicate]; omega)) only [go_sem, ↓reduceIte, Int.reduceLE, Int.reduceLT, Int.reduceToNat, Int.reduceNeg, Int.reduceAdd, Int.reduceSub, Int.reduceMul, Int.reduceEq, Int.reduceNe, Nat.reduceEqDiff, Nat.reduceAdd, Nat.reduceSub, Nat.reduceMul, Nat.reduceLT, Nat.reduceLeDiff, Nat.reduceBEq, Nat.reduceBNe, Try.results8, m3, e3, e4, e5, e6, e7, e8])
      | (((first | refine at_region ?_ | refine at_out ?_ | refine at_cond ?_); split) <;> first | (exfalso; omega; done) | simp (config := { maxSteps := 3000000 }) (disch := first | assumption | omega | exact VG.okg (by assumption) | (simp only [List.length_set, List.length_append, List.length_cons, List.length_nil, List.length_replicate]; omega)) only [go_sem, ↓reduceIte, Int.reduceLE, Int.reduceLT, Int.reduceToNat, Int.reduceNeg, Int.reduceAdd, Int.reduceSub, Int.reduceMul, Int.reduceEq, Int.reduceNe, Nat.reduceEqDiff, Nat.reduceAdd, Nat.reduceSub, Nat.reduceMul, Nat.reduceLT, Nat.reduceLeDiff, Nat.reduceBEq, Nat.reduceBNe, Try.results8, m3, e3, e4, e5, e6, e7, e8] | skip))
    exact ⟨by omega, by omega, by omega⟩
  have hrm := getD_mem (d := 0) (show k.toNat < rd.length by omega)
  have hgr := getI rd k.toNat (by omega)
  have htk := take_int (l := rd) (i := k) 0 f0 hk
  generalize rd.getD k.toNat 0 = j at hrm hgr htk
  obtain ⟨hj0, hj1⟩ := hmem j hrm
  obtain ⟨hjn, hj2, hj3⟩ := hat j hj0 hj1
  have hsnc : (rd.take (k + 1).toNat).any f = ((rd.take k.toNat).any f || f j) := by
    rw [htk, List.any_append]; simp
  have hcn := c_Connected n (hdC n es j) (hdC n es i) es (by omega)
  have hcd : decide (VG n es ∧ 0 ≤ hdC n es j ∧ hdC n es j < n ∧ 0 ≤ hdC n es i ∧ hdC n es i < n ∧ Conn es (hdC n es j) (hdC n es i)) = decide (Conn es (hdC n es j) (hdC n es i)) := decide_eq_decide.2 ⟨fun h => h.2.2.2.2.2, fun h => ⟨hV, hjn.1, hjn.2, hin.1, hin.2, h⟩⟩
  rw [hcd, hfj] at hcn
  generalize f j = b2 at hcn hsnc
  generalize hq : (rd.take k.toNat).any f = b at e7 hsnc
  cases b
  · repeat' (first
      | refine xw_seq ?_
      | refine xw_block ?_
      | (refine ite_two ?_ ?_ <;> intro _ <;> first | (exfalso; omega) | skip)
      | refine ord_split (by kernel_rfl) ?_
      | (refine xw_ret ?_ <;> try simp only [sq, bl, LQ])
      | ((first | refine xw_reg ?_ | refine xw_regd ?_ | refine xw_if ?_ | refine xw_skip ?_ | refine xw_exit ?_ | refine xw_label ?_ | refine post_ret ?_ | refine post_normal ?_ | refine postE_ret ?_ | refine postE_normal ?_) <;> simp (config := { maxSteps := 3000000 }) (disch := first | assumption | omega | exact VG.okg (by assumption) | (simp only [List.length_set, List.length_append, List.length_cons, List.length_nil, List.length_replicate]; omega)) only [go_sem, ↓reduceIte, Int.reduceLE, Int.reduceLT, Int.reduceToNat, Int.reduceNeg, Int.reduceAdd, Int.reduceSub, Int.reduceMul, Int.reduceEq, Int.reduceNe, Nat.reduceEqDiff, Nat.reduceAdd, Nat.reduceSub, Nat.reduceMul, Nat.reduceLT, Nat.reduceLeDiff, Nat.reduceBEq, Nat.reduceBNe, Try.results8, m3, e3, e4, e5, e6, e7, e8, hgr, hj2, hj3, hi1, hi2, hcn])
      | (((first | refine at_region ?_ | refine at_out ?_ | refine at_cond ?_); split) <;> first | (exfalso; omega; done) | simp (config := { maxSteps := 3000000 }) (disch := first | assumption | omega | exact VG.okg (by assumption) | (simp only [List.length_set, List.length_append, List.length_cons, List.length_nil, List.length_replicate]; omega)) only [go_sem, ↓reduceIte, Int.reduceLE, Int.reduceLT, Int.reduceToNat, Int.reduceNeg, Int.reduceAdd, Int.reduceSub, Int.reduceMul, Int.reduceEq, Int.reduceNe, Nat.reduceEqDiff, Nat.reduceAdd, Nat.reduceSub, Nat.reduceMul, Nat.reduceLT, Nat.reduceLeDiff, Nat.reduceBEq, Nat.reduceBNe, Try.results8, m3, e3, e4, e5, e6, e7, e8, hgr, hj2, hj3, hi1, hi2, hcn] | skip))
    exact ⟨k + 1, by rw [hsnc]; rfl, rfl, by omega, by omega, by omega⟩
  · repeat' (first
      | refine xw_seq ?_
      | refine xw_block ?_
      | (refine ite_two ?_ ?_ <;> intro _ <;> first | (exfalso; omega) | skip)
      | refine ord_split (by kernel_rfl) ?_
      | (refine xw_ret ?_ <;> try simp only [sq, bl, LQ])
      | ((first | refine xw_reg ?_ | refine xw_regd ?_ | refine xw_if ?_ | refine xw_skip ?_ | refine xw_exit ?_ | refine xw_label ?_ | refine post_ret ?_ | refine post_normal ?_ | refine postE_ret ?_ | refine postE_normal ?_) <;> simp (config := { maxSteps := 3000000 }) (disch := first | assumption | omega | exact VG.okg (by assumption) | (simp only [List.length_set, List.length_append, List.length_cons, List.length_nil, List.length_replicate]; omega)) only [go_sem, ↓reduceIte, Int.reduceLE, Int.reduceLT, Int.reduceToNat, Int.reduceNeg, Int.reduceAdd, Int.reduceSub, Int.reduceMul, Int.reduceEq, Int.reduceNe, Nat.reduceEqDiff, Nat.reduceAdd, Nat.reduceSub, Nat.reduceMul, Nat.reduceLT, Nat.reduceLeDiff, Nat.reduceBEq, Nat.reduceBNe, Try.results8, m3, e3, e4, e5, e6, e7, e8, hgr, hj2, hj3, hi1, hi2, hcn])
      | (((first | refine at_region ?_ | refine at_out ?_ | refine at_cond ?_); split) <;> first | (exfalso; omega; done) | simp (config := { maxSteps := 3000000 }) (disch := first | assumption | omega | exact VG.okg (by assumption) | (simp only [List.length_set, List.length_append, List.length_cons, List.length_nil, List.length_replicate]; omega)) only [go_sem, ↓reduceIte, Int.reduceLE, Int.reduceLT, Int.reduceToNat, Int.reduceNeg, Int.reduceAdd, Int.reduceSub, Int.reduceMul, Int.reduceEq, Int.reduceNe, Nat.reduceEqDiff, Nat.reduceAdd, Nat.reduceSub, Nat.reduceMul, Nat.reduceLT, Nat.reduceLeDiff, Nat.reduceBEq, Nat.reduceBNe, Try.results8, m3, e3, e4, e5, e6, e7, e8, hgr, hj2, hj3, hi1, hi2, hcn] | skip))
    exact ⟨k + 1, by rw [hsnc]; rfl, rfl, by omega, by omega, by omega⟩
end Go.Proofs.Ytbaholclcfpknaa.X


