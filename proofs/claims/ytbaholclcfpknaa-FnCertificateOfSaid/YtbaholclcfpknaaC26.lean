/- What functions compute: draws of graphs with more edges. -/
import Derived.Test.YtbaholclcfpknaaKF
import Derived.Test.YtbaholclcfpknaaKE
set_option linter.unusedSimpArgs false
set_option linter.unusedVariables false
set_option maxHeartbeats 8000000
namespace Go.Proofs.Ytbaholclcfpknaa.X
open Go Go.Proofs

theorem c_l10Draw (bs : List Int) (p : Int) (hb : bytes bs) (hp : 0 ≤ p ∧ p ≤ 100000) :
    ∃ n es p', 3 ≤ n ∧ n ≤ 7 ∧ Ord es ∧ (∀ e ∈ es, 0 ≤ e.1 ∧ e.1 < e.2 ∧ e.2 < n) ∧ es.length ≤ 12 ∧ p ≤ p' ∧ p' ≤ p + 100 ∧
      KP 136 [.ptr 1000 0 0 0] [Rd bs p] = some (.agg [I n, .i (qe es)], [Rd bs p'], []) := by
  obtain ⟨N, hN, hnum⟩ := c_num bs p [5, 4, 6, 3, 7] hb (by omega) (by simp) (by simp)
  have hN' : 3 ≤ N ∧ N ≤ 7 := by
    have : ∀ x ∈ [5, 4, 6, 3, (7 : Int)], 3 ≤ x ∧ x ≤ 7 := by decide
    exact this N hN
  obtain ⟨x, hx, hnum2⟩ := c_num bs (p + 1) [9, 7, 12, 5, 3] hb (by omega) (by simp) (by simp)
  have hx' : 0 ≤ x ∧ x ≤ 12 := by
    have : ∀ x ∈ [9, 7, 12, 5, (3 : Int)], 0 ≤ x ∧ x ≤ 12 := by decide
    exact this x hx
  simp only [List.map_cons, List.map_nil, encI, List.length_cons, List.length_nil, Nat.reduceAdd] at hnum hnum2
  suffices h : ∃ res, (∃ (es : List (Int × Int)) (p' : Int), Ord es ∧ (∀ e ∈ es, 0 ≤ e.1 ∧ e.1 < e.2 ∧ e.2 < N) ∧ es.length ≤ 12 ∧ p ≤ p' ∧ p' ≤ p + 100 ∧ res = (PV.agg [I N, .i (qe es)], [Rd bs p'], [])) ∧
      KP 136 [.ptr 1000 0 0 0] [Rd bs p] = some res by
    obtain ⟨res, ⟨es, p', h1, h2, h3, h4, h5, rfl⟩, h6⟩ := h
    exact ⟨N, es, p', hN'.1, hN'.2, h1, h2, h3, h4, h5, h6⟩
  refine xw_callE (fn := Try.f136) rfl Try.func136 rfl ⟨Nat.le_of_ble_eq_true rfl, rfl, rfl⟩ ?_
  repeat' (first
    | refine xw_seq ?_
    | refine xw_block ?_
    | (refine ite_two ?_ ?_ <;> intro _ <;> first | (exfalso; omega) | skip)
    | refine ord_split (by kernel_rfl) ?_
    | (refine xw_ret ?_ <;> try simp only [sq, bl, LQ])
    | ((first | refine xw_reg ?_ | refine xw_regd ?_ | refine xw_if ?_ | refine xw_skip ?_ | refine xw_exit ?_ | refine xw_label ?_ | refine post_ret ?_ | refine post_normal ?_ | refine postE_ret ?_ | refine postE_normal ?_) <;> simp (config := { maxSteps := 3000000 }) (disch := first | assumption | omega | exact VG.okg (by assumption) | (simp only [List.length_set, List.length_append, List.length_cons, List.length_nil, List.length_replicate]; omega)) only [go_sem, ↓reduceIte, Int.reduceLE, Int.reduceLT, Int.reduceToNat, Int.reduceNeg, Int.reduceAdd, Int.reduceSub, Int.reduceMul, Int.reduceEq, Int.reduceNe, Nat.reduceEqDiff, Nat.reduceAdd, Nat.reduceSub, Nat.reduceMul, Nat.reduceLT, Nat.reduceLeDiff, Nat.reduceBEq, Nat.reduceBNe, Try.results136, hnum, hnum2])
    | (((first | refine at_region ?_ | refine at_out ?_ | refine at_cond ?_); split) <;> first | (exfalso; omega; done) | simp (config := { maxSteps := 3000000 }) (disch := first | assumption | omega | exact VG.okg (by assumption) | (simp only [List.length_set, List.length_append, List.length_cons, List.length_nil, List.length_replicate]; omega)) only [go_sem, ↓reduceIte, Int.reduceLE, Int.reduceLT, Int.reduceToNat, Int.reduceNeg, Int.reduceAdd, Int.reduceSub, Int.reduceMul, Int.reduceEq, Int.reduceNe, Nat.reduceEqDiff, Nat.reduceAdd, Nat.reduceSub, Nat.reduceMul, Nat.reduceLT, Nat.reduceLeDiff, Nat.reduceBEq, Nat.reduceBNe, Try.results136, hnum, hnum2] | skip))
  refine xw_loopR (fun (u : Int × Int × List (Int × Int)) s => s.ρ 0 = .ptr 1000 0 0 0 ∧ s.m 1000 = some (Rd bs u.2.1) ∧ s.ρ 2 = .ptr 2 0 0 0 ∧ s.m 2 = some (.box 0 [I 0, .i .emp]) ∧ s.ρ 3 = .ptr 3 0 0 0 ∧ s.m 3 = some (.box 0 [I N, .i (qe u.2.2)]) ∧ s.ρ 4 = I u.1 ∧
    0 ≤ u.1 ∧ u.1 ≤ x ∧ Ord u.2.2 ∧ (∀ e ∈ u.2.2, 0 ≤ e.1 ∧ e.1 < e.2 ∧ e.2 < N) ∧ (u.2.2.length : Int) ≤ x - u.1 ∧ p ≤ u.2.1 ∧ u.2.1 ≤ p + 2 + 2 * (x - u.1)) (fun u => u.1.toNat) (x, p + 1 + 1, []) ?_ ?_
  · refine ⟨by simp [upd], by simp [upd], by simp [upd], by simp [upd], by simp [upd], by simp [upd, qe], by simp [upd], by simp only; omega, by simp, by simp [Ord], by simp, by simp, by simp only; omega, by simp only; omega⟩
  rintro ⟨k, p2, es⟩ ⟨ρ, m⟩ ⟨h0, m1, h2, m2, h3, m3, h4, g0, g1, g2, g3, g4, g5, g6⟩
  simp only at h0 m1 h2 m2 h3 m3 h4 g0 g1 g2 g3 g4 g5 g6
  by_cases hk : 0 < k
  rotate_left
  · repeat' (first
      | refine xw_seq ?_
      | refine xw_block ?_
      | (refine ite_two ?_ ?_ <;> intro _ <;> first | (exfalso; omega) | skip)
      | refine ord_split (by kernel_rfl) ?_
      | (refine xw_ret ?_ <;> try simp only [sq, bl, LQ])
      | ((first | refine xw_reg ?_ | refine xw_regd ?_ | refine xw_if ?_ | refine xw_skip ?_ | refine xw_exit ?_ | refine xw_label ?_ | refine post_ret ?_ | refine post_normal ?_ | refine postE_ret ?_ | refine postE_normal ?_) <;> simp (config := { maxSteps := 3000000 }) (disch := first | assumption | omega | exact VG.okg (by assumption) | (simp only [List.length_set, List.length_append, List.length_cons, List.length_nil, List.length_replicate]; omega)) only [go_sem, ↓reduceIte, Int.reduceLE, Int.reduceLT, Int.reduceToNat, Int.reduceNeg, Int.reduceAdd, Int.reduceSub, Int.reduceMul, Int.reduceEq, Int.reduceNe, Nat.reduceEqDiff, Nat.reduceAdd, Nat.reduceSub, Nat.reduceMul, Nat.reduceLT, Nat.reduceLeDiff, Nat.reduceBEq, Nat.reduceBNe, Try.results136, h0, m1, h2, m2, h3, m3, h4])
      | (((first | refine at_region ?_ | refine at_out ?_ | refine at_cond ?_); split) <;> first | (exfalso; omega; done) | simp (config := { maxSteps := 3000000 }) (disch := first | assumption | omega | exact VG.okg (by assumption) | (simp only [List.length_set, List.length_append, List.length_cons, List.length_nil, List.length_replicate]; omega)) only [go_sem, ↓reduceIte, Int.reduceLE, Int.reduceLT, Int.reduceToNat, Int.reduceNeg, Int.reduceAdd, Int.reduceSub, Int.reduceMul, Int.reduceEq, Int.reduceNe, Nat.reduceEqDiff, Nat.reduceAdd, Nat.reduceSub, Nat.reduceMul, Nat.reduceLT, Nat.reduceLeDiff, Nat.reduceBEq, Nat.reduceBNe, Try.results136, h0, m1, h2, m2, h3, m3, h4] | skip))
    exact ⟨es, g2, g3, by omega, p2, by omega, by omega, rfl, rfl⟩
  obtain ⟨y, hy, _, hpk⟩ := c_pick bs p2 N hb (by omega) (by omega)
  have hy' := hy (by omega)
  obtain ⟨z, hz, _, hpk2⟩ := c_pick bs (p2 + 1) N hb (by omega) (by omega)
  have hz' := hz (by omega)
  have hedge := c_l1Edge y z
  have hfind := c_l1Find es (edgeOf y z).1 (edgeOf y z).2 (by omega)
  have hput := c_l1Put es (edgeOf y z).1 (edgeOf y z).2 (by omega)
  by_cases hyz : y = z
  · repeat' (first
      | refine xw_seq ?_
      | refine xw_block ?_
      | (refine ite_two ?_ ?_ <;> intro _ <;> first | (exfalso; omega) | skip)
      | refine ord_split (by kernel_rfl) ?_
      | (refine xw_ret ?_ <;> try simp only [sq, bl, LQ])
      | ((first | refine xw_reg ?_ | refine xw_regd ?_ | refine xw_if ?_ | refine xw_skip ?_ | refine xw_exit ?_ | refine xw_label ?_ | refine post_ret ?_ | refine post_normal ?_ | refine postE_ret ?_ | refine postE_normal ?_) <;> simp (config := { maxSteps := 3000000 }) (disch := first | assumption | omega | exact VG.okg (by assumption) | (simp only [List.length_set, List.length_append, List.length_cons, List.length_nil, List.length_replicate]; omega)) only [go_sem, ↓reduceIte, Int.reduceLE, Int.reduceLT, Int.reduceToNat, Int.reduceNeg, Int.reduceAdd, Int.reduceSub, Int.reduceMul, Int.reduceEq, Int.reduceNe, Nat.reduceEqDiff, Nat.reduceAdd, Nat.reduceSub, Nat.reduceMul, Nat.reduceLT, Nat.reduceLeDiff, Nat.reduceBEq, Nat.reduceBNe, Try.results136, h0, m1, h2, m2, h3, m3, h4, hpk, hpk2])
      | (((first | refine at_region ?_ | refine at_out ?_ | refine at_cond ?_); split) <;> first | (exfalso; omega; done) | simp (config := { maxSteps := 3000000 }) (disch := first | assumption | omega | exact VG.okg (by assumption) | (simp only [List.length_set, List.length_append, List.length_cons, List.length_nil, List.length_replicate]; omega)) only [go_sem, ↓reduceIte, Int.reduceLE, Int.reduceLT, Int.reduceToNat, Int.reduceNeg, Int.reduceAdd, Int.reduceSub, Int.reduceMul, Int.reduceEq, Int.reduceNe, Nat.reduceEqDiff, Nat.reduceAdd, Nat.reduceSub, Nat.reduceMul, Nat.reduceLT, Nat.reduceLeDiff, Nat.reduceBEq, Nat.reduceBNe, Try.results136, h0, m1, h2, m2, h3, m3, h4, hpk, hpk2] | skip))
    exact ⟨k - 1, p2 + 1 + 1, rfl, es, rfl, rfl, by omega, by omega, g2, g3, by omega, by omega, by omega, by omega⟩
  have he2 : 0 ≤ (edgeOf y z).1 ∧ (edgeOf y z).1 < (edgeOf y z).2 ∧ (edgeOf y z).2 < N := by unfold edgeOf; split <;> (simp only; omega)
  by_cases hf : findE es ((edgeOf y z).1, (edgeOf y z).2) < 0
  rotate_left
  · repeat' (first
      | refine xw_seq ?_
      | refine xw_block ?_
      | (refine ite_two ?_ ?_ <;> intro _ <;> first | (exfalso; omega) | skip)
      | refine ord_split (by kernel_rfl) ?_
      | (refine xw_ret ?_ <;> try simp only [sq, bl, LQ])
      | ((first | refine xw_reg ?_ | refine xw_regd ?_ | refine xw_if ?_ | refine xw_skip ?_ | refine xw_exit ?_ | refine xw_label ?_ | refine post_ret ?_ | refine post_normal ?_ | refine postE_ret ?_ | refine postE_normal ?_) <;> simp (config := { maxSteps := 3000000 }) (disch := first | assumption | omega | exact VG.okg (by assumption) | (simp only [List.length_set, List.length_append, List.length_cons, List.length_nil, List.length_replicate]; omega)) only [go_sem, ↓reduceIte, Int.reduceLE, Int.reduceLT, Int.reduceToNat, Int.reduceNeg, Int.reduceAdd, Int.reduceSub, Int.reduceMul, Int.reduceEq, Int.reduceNe, Nat.reduceEqDiff, Nat.reduceAdd, Nat.reduceSub, Nat.reduceMul, Nat.reduceLT, Nat.reduceLeDiff, Nat.reduceBEq, Nat.reduceBNe, Try.results136, h0, m1, h2, m2, h3, m3, h4, hpk, hpk2, hedge, hfind, hput])
      | (((first | refine at_region ?_ | refine at_out ?_ | refine at_cond ?_); split) <;> first | (exfalso; omega; done) | simp (config := { maxSteps := 3000000 }) (disch := first | assumption | omega | exact VG.okg (by assumption) | (simp only [List.length_set, List.length_append, List.length_cons, List.length_nil, List.length_replicate]; omega)) only [go_sem, ↓reduceIte, Int.reduceLE, Int.reduceLT, Int.reduceToNat, Int.reduceNeg, Int.reduceAdd, Int.reduceSub, Int.reduceMul, Int.reduceEq, Int.reduceNe, Nat.reduceEqDiff, Nat.reduceAdd, Nat.reduceSub, Nat.reduceMul, Nat.reduceLT, Nat.reduceLeDiff, Nat.reduceBEq, Nat.reduceBNe, Try.results136, h0, m1, h2, m2, h3, m3, h4, hpk, hpk2, hedge, hfind, hput] | skip))
    exact ⟨k - 1, p2 + 1 + 1, rfl, es, rfl, rfl, by omega, by omega, g2, g3, by omega, by omega, by omega, by omega⟩
  have hnin : edgeOf y z ∉ es := fun h => by
    have : 0 ≤ findE es (edgeOf y z) := findE_pos.2 h
    have hf' : findE es (edgeOf y z) < 0 := hf
    omega
  repeat' (first
    | refine xw_seq ?_
    | refine xw_block ?_
    | (refine ite_two ?_ ?_ <;> intro _ <;> first | (exfalso; omega) | skip)
    | refine ord_split (by kernel_rfl) ?_
    | (refine xw_ret ?_ <;> try simp only [sq, bl, LQ])
    | ((first | refine xw_reg ?_ | refine xw_regd ?_ | refine xw_if ?_ | refine xw_skip ?_ | refine xw_exit ?_ | refine xw_label ?_ | refine post_ret ?_ | refine post_normal ?_ | refine postE_ret ?_ | refine postE_normal ?_) <;> simp (config := { maxSteps := 3000000 }) (disch := first | assumption | omega | exact VG.okg (by assumption) | (simp only [List.length_set, List.length_append, List.length_cons, List.length_nil, List.length_replicate]; omega)) only [go_sem, ↓reduceIte, Int.reduceLE, Int.reduceLT, Int.reduceToNat, Int.reduceNeg, Int.reduceAdd, Int.reduceSub, Int.reduceMul, Int.reduceEq, Int.reduceNe, Nat.reduceEqDiff, Nat.reduceAdd, Nat.reduceSub, Nat.reduceMul, Nat.reduceLT, Nat.reduceLeDiff, Nat.reduceBEq, Nat.reduceBNe, Try.results136, h0, m1, h2, m2, h3, m3, h4, hpk, hpk2, hedge, hfind, hput])
    | (((first | refine at_region ?_ | refine at_out ?_ | refine at_cond ?_); split) <;> first | (exfalso; omega; done) | simp (config := { maxSteps := 3000000 }) (disch := first | assumption | omega | exact VG.okg (by assumption) | (simp only [List.length_set, List.length_append, List.length_cons, List.length_nil, List.length_replicate]; omega)) only [go_sem, ↓reduceIte, Int.reduceLE, Int.reduceLT, Int.reduceToNat, Int.reduceNeg, Int.reduceAdd, Int.reduceSub, Int.reduceMul, Int.reduceEq, Int.reduceNe, Nat.reduceEqDiff, Nat.reduceAdd, Nat.reduceSub, Nat.reduceMul, Nat.reduceLT, Nat.reduceLeDiff, Nat.reduceBEq, Nat.reduceBNe, Try.results136, h0, m1, h2, m2, h3, m3, h4, hpk, hpk2, hedge, hfind, hput] | skip))
  refine ⟨k - 1, p2 + 1 + 1, rfl, putE (edgeOf y z) es, by rw [← qe_putE], rfl, by omega, by omega, g2.put hnin, fun e h => ?_, by rw [putE_length]; omega, by omega, by omega, by omega⟩
  rcases mem_putE.1 h with rfl | h
  · exact he2
  · exact g3 e h

end Go.Proofs.Ytbaholclcfpknaa.X
