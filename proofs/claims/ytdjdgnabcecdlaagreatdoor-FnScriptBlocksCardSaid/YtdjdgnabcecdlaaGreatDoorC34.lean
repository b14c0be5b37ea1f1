/- What functions compute: draws of graphs with few edges. -/
import Derived.Test.YtdjdgnabcecdlaaGreatDoorKAH
import Derived.Test.YtdjdgnabcecdlaaGreatDoorKAG
set_option linter.unusedSimpArgs false
set_option linter.unusedVariables false
set_option maxHeartbeats 8000000
namespace Go.Proofs.YtdjdgnabcecdlaaGreatDoor.X
open Go Go.Proofs
theorem c_l5Small (bs : List Int) (p : Int) (hb : bytes bs) (hp : 0 ≤ p ∧ p ≤ 50000) :
    ∃ (n : Int) (es : List (Int × Int)) (p' : Int), 0 ≤ n ∧ n ≤ 17 ∧ es.length ≤ 40 ∧ p ≤ p' ∧ p' ≤ p + 100 ∧
      KP 121 [.ptr 1000 0 0 0] [Rd bs p] = some (GL n es, [Rd bs p'], []) := by
  obtain ⟨N, hN, hnum⟩ := c_num bs p [5, 6, 4, 7, 3] hb (by omega) (by simp) (by simp)
  have hN' : 3 ≤ N ∧ N ≤ 7 := by
    have : ∀ x ∈ [5, 6, 4, 7, (3 : Int)], 3 ≤ x ∧ x ≤ 7 := by decide
    exact this N hN
  simp only [List.map_cons, List.map_nil, encI, List.length_cons, List.length_nil, Nat.reduceAdd] at hnum
  suffices h : ∃ res, (∃ (n : Int) (es : List (Int × Int)) (p' : Int), 0 ≤ n ∧ n ≤ 17 ∧ es.length ≤ 40 ∧ p ≤ p' ∧ p' ≤ p + 100 ∧ res = (GL n es, [Rd bs p'], ([] : List Arr))) ∧
      KP 121 [.ptr 1000 0 0 0] [Rd bs p] = some res by
    obtain ⟨res, ⟨n, es, p', h1, h2, h3, h4, h5, rfl⟩, h6⟩ := h
    exact ⟨n, es, p', h1, h2, h3, h4, h5, h6⟩
  refine xw_callE (fn := Tryz.f121) rfl Tryz.func121 rfl ⟨Nat.le_of_ble_eq_true rfl, rfl, rfl⟩ ?_
  repeat' (first
    | refine xw_seq ?_
    | refine xw_block ?_
    | (refine ite_two ?_ ?_ <;> intro _ <;> first | (exfalso; omega) | skip)
    | refine ord_split (by kernel_rfl) ?_
    | (refine xw_ret ?_ <;> try simp only [sq, bl, LQ])
    | ((first | refine xw_reg ?_ | refine xw_regd ?_ | refine xw_if ?_ | refine xw_skip ?_ | refine xw_exit ?_ | refine xw_label ?_ | refine post_ret ?_ | refine post_normal ?_ | refine postE_ret ?_ | refine postE_normal ?_ | (((first | refine at_region ?_ | refine at_out ?_ | refine at_cond ?_); split) <;> first | (exfalso; omega; done) | skip)) <;> try simp (config := { maxSteps := 3000000 }) (disch := first | assumption | omega | exact VG.okg (by assumption) | (simp only [List.length_set, List.length_append, List.length_cons, List.length_nil, List.length_replicate]; omega)) only [go_sem, ↓reduceIte, Int.reduceLE, Int.reduceLT, Int.reduceToNat, Int.reduceNeg, Int.reduceAdd, Int.reduceSub, Int.reduceMul, Int.reduceEq, Int.reduceNe, Nat.reduceEqDiff, Nat.reduceAdd, Nat.reduceSub, Nat.reduceMul, Nat.reduceLT, Nat.reduceLeDiff, Nat.reduceBEq, Nat.reduceBNe, UInt8.reduceToNat, Tryz.results121, hnum]))
  refine xw_loopR (fun (u : Int × Int × List (Int × Int)) s => s.ρ 0 = .ptr 1000 0 0 0 ∧ s.m 1000 = some (Rd bs u.2.1) ∧ s.ρ 2 = .ptr 2 0 0 0 ∧ s.m 2 = some (.box 0 [I 0, .i .emp]) ∧ s.ρ 3 = .ptr 3 0 0 0 ∧ s.m 3 = some (.box 0 [I N, .i (qe u.2.2)]) ∧ s.ρ 4 = I u.1 ∧
    1 ≤ u.1 ∧ u.1 ≤ N ∧ (u.2.2.length : Int) ≤ u.1 ∧ p ≤ u.2.1 ∧ u.2.1 ≤ p + 1 + 2 * u.1) (fun u => (N - u.1).toNat) (1, p + 1, []) ?_ ?_
  · refine ⟨by simp [upd], by simp [upd], by simp [upd], by simp [upd], by simp [upd], by simp [upd, qe], by simp [upd], by simp, by simp only; omega, by simp, by simp only; omega, by simp only; omega⟩
  rintro ⟨i, p1, es⟩ ⟨ρ, m⟩ ⟨h0, m0, h2, m2, h3, m3, h4, g0, g1, g2, g3, g4⟩
  simp only at h0 m0 h2 m2 h3 m3 h4 g0 g1 g2 g3 g4
  by_cases hi : i < N
  · obtain ⟨w, hw, _, hpw⟩ := c_pick bs p1 5 hb (by omega) (by omega)
    by_cases hw0 : 0 < w
    · obtain ⟨y, hy, _, hpy⟩ := c_pick bs (p1 + 1) i hb (by omega) (by omega)
      have hy' := hy (by omega)
      have hput := c_l1Put es (edgeOf y i).1 (edgeOf y i).2 (by omega)
      repeat' (first
        | refine xw_seq ?_
        | refine xw_block ?_
        | (refine ite_two ?_ ?_ <;> intro _ <;> first | (exfalso; omega) | skip)
        | refine ord_split (by kernel_rfl) ?_
        | (refine xw_ret ?_ <;> try simp only [sq, bl, LQ])
        | ((first | refine xw_reg ?_ | refine xw_regd ?_ | refine xw_if ?_ | refine xw_skip ?_ | refine xw_exit ?_ | refine xw_label ?_ | refine post_ret ?_ | refine post_normal ?_ | refine postE_ret ?_ | refine postE_normal ?_ | (((first | refine at_region ?_ | refine at_out ?_ | refine at_cond ?_); split) <;> first | (exfalso; omega; done) | skip)) <;> try simp (config := { maxSteps := 3000000 }) (disch := first | assumption | omega | exact VG.okg (by assumption) | (simp only [List.length_set, List.length_append, List.length_cons, List.length_nil, List.length_replicate]; omega)) only [go_sem, ↓reduceIte, Int.reduceLE, Int.reduceLT, Int.reduceToNat, Int.reduceNeg, Int.reduceAdd, Int.reduceSub, Int.reduceMul, Int.reduceEq, Int.reduceNe, Nat.reduceEqDiff, Nat.reduceAdd, Nat.reduceSub, Nat.reduceMul, Nat.reduceLT, Nat.reduceLeDiff, Nat.reduceBEq, Nat.reduceBNe, UInt8.reduceToNat, Tryz.results121, h0, m0, h2, m2, h3, m3, h4, hpw, hpy, hput]))
      exact ⟨i + 1, p1 + 1 + 1, rfl, putE (edgeOf y i) es, by rw [← qe_putE], rfl, by omega, by omega, by rw [putE_length]; omega, by omega, by omega, by omega⟩
    · repeat' (first
        | refine xw_seq ?_
        | refine xw_block ?_
        | (refine ite_two ?_ ?_ <;> intro _ <;> first | (exfalso; omega) | skip)
        | refine ord_split (by kernel_rfl) ?_
        | (refine xw_ret ?_ <;> try simp only [sq, bl, LQ])
        | ((first | refine xw_reg ?_ | refine xw_regd ?_ | refine xw_if ?_ | refine xw_skip ?_ | refine xw_exit ?_ | refine xw_label ?_ | refine post_ret ?_ | refine post_normal ?_ | refine postE_ret ?_ | refine postE_normal ?_ | (((first | refine at_region ?_ | refine at_out ?_ | refine at_cond ?_); split) <;> first | (exfalso; omega; done) | skip)) <;> try simp (config := { maxSteps := 3000000 }) (disch := first | assumption | omega | exact VG.okg (by assumption) | (simp only [List.length_set, List.length_append, List.length_cons, List.length_nil, List.length_replicate]; omega)) only [go_sem, ↓reduceIte, Int.reduceLE, Int.reduceLT, Int.reduceToNat, Int.reduceNeg, Int.reduceAdd, Int.reduceSub, Int.reduceMul, Int.reduceEq, Int.reduceNe, Nat.reduceEqDiff, Nat.reduceAdd, Nat.reduceSub, Nat.reduceMul, Nat.reduceLT, Nat.reduceLeDiff, Nat.reduceBEq, Nat.reduceBNe, UInt8.reduceToNat, Tryz.results121, h0, m0, h2, m2, h3, m3, h4, hpw]))
      exact ⟨i + 1, p1 + 1, rfl, es, rfl, rfl, by omega, by omega, by omega, by omega, by omega, by omega⟩
  obtain ⟨x, hx, hnum2⟩ := c_num bs p1 [2, 1, 3, 0, 4] hb (by omega) (by simp) (by simp)
  have hx' : 0 ≤ x ∧ x ≤ 4 := by
    have : ∀ x ∈ [2, 1, 3, 0, (4 : Int)], 0 ≤ x ∧ x ≤ 4 := by decide
    exact this x hx
  simp only [List.map_cons, List.map_nil, encI, List.length_cons, List.length_nil, Nat.reduceAdd] at hnum2
  repeat' (first
    | refine xw_seq ?_
    | refine xw_block ?_
    | (refine ite_two ?_ ?_ <;> intro _ <;> first | (exfalso; omega) | skip)
    | refine ord_split (by kernel_rfl) ?_
    | (refine xw_ret ?_ <;> try simp only [sq, bl, LQ])
    | ((first | refine xw_reg ?_ | refine xw_regd ?_ | refine xw_if ?_ | refine xw_skip ?_ | refine xw_exit ?_ | refine xw_label ?_ | refine post_ret ?_ | refine post_normal ?_ | refine postE_ret ?_ | refine postE_normal ?_ | (((first | refine at_region ?_ | refine at_out ?_ | refine at_cond ?_); split) <;> first | (exfalso; omega; done) | skip)) <;> try simp (config := { maxSteps := 3000000 }) (disch := first | assumption | omega | exact VG.okg (by assumption) | (simp only [List.length_set, List.length_append, List.length_cons, List.length_nil, List.length_replicate]; omega)) only [go_sem, ↓reduceIte, Int.reduceLE, Int.reduceLT, Int.reduceToNat, Int.reduceNeg, Int.reduceAdd, Int.reduceSub, Int.reduceMul, Int.reduceEq, Int.reduceNe, Nat.reduceEqDiff, Nat.reduceAdd, Nat.reduceSub, Nat.reduceMul, Nat.reduceLT, Nat.reduceLeDiff, Nat.reduceBEq, Nat.reduceBNe, UInt8.reduceToNat, Tryz.results121, h0, m0, h2, m2, h3, m3, h4, hnum2]))
  refine xw_loopR (fun (u : Int × Int × List (Int × Int)) s => s.ρ 0 = .ptr 1000 0 0 0 ∧ s.m 1000 = some (Rd bs u.2.1) ∧ s.ρ 2 = .ptr 2 0 0 0 ∧ s.m 2 = some (.box 0 [I 0, .i .emp]) ∧ s.ρ 3 = .ptr 3 0 0 0 ∧ s.m 3 = some (.box 0 [I N, .i (qe u.2.2)]) ∧ s.ρ 5 = I u.1 ∧
    0 ≤ u.1 ∧ u.1 ≤ x ∧ (u.2.2.length : Int) ≤ 7 + (x - u.1) ∧ p ≤ u.2.1 ∧ u.2.1 ≤ p + 20 + 2 * (x - u.1)) (fun u => u.1.toNat) (x, p1 + 1, es) ?_ ?_
  · refine ⟨by simp [upd, h0], by simp [upd], by simp [upd, h2], by simp [upd, m2], by simp [upd, h3], by simp [upd, m3], by simp [upd], by simp only; omega, by simp, by simp only; omega, by simp only; omega, by simp only; omega⟩
  rintro ⟨k, p2, fs⟩ ⟨ρ, m⟩ ⟨h0, m0, h2, m2, h3, m3, h5, f0, f1, f2, f3, f4⟩
  simp only at h0 m0 h2 m2 h3 m3 h5 f0 f1 f2 f3 f4
  by_cases hk : 0 < k
  rotate_left
  · obtain ⟨n1, es1, p3, a1, a2, a3, a4, a5, hw1⟩ := c_l1Wrong bs p2 N (qe fs) fs hb (by omega) (EL.qe fs) (by omega) (by omega)
    repeat' (first
      | refine xw_seq ?_
      | refine xw_block ?_
      | (refine ite_two ?_ ?_ <;> intro _ <;> first | (exfalso; omega) | skip)
      | refine ord_split (by kernel_rfl) ?_
      | (refine xw_ret ?_ <;> try simp only [sq, bl, LQ])
      | ((first | refine xw_reg ?_ | refine xw_regd ?_ | refine xw_if ?_ | refine xw_skip ?_ | refine xw_exit ?_ | refine xw_label ?_ | refine post_ret ?_ | refine post_normal ?_ | refine postE_ret ?_ | refine postE_normal ?_ | (((first | refine at_region ?_ | refine at_out ?_ | refine at_cond ?_); split) <;> first | (exfalso; omega; done) | skip)) <;> try simp (config := { maxSteps := 3000000 }) (disch := first | assumption | omega | exact VG.okg (by assumption) | (simp only [List.length_set, List.length_append, List.length_cons, List.length_nil, List.length_replicate]; omega)) only [go_sem, ↓reduceIte, Int.reduceLE, Int.reduceLT, Int.reduceToNat, Int.reduceNeg, Int.reduceAdd, Int.reduceSub, Int.reduceMul, Int.reduceEq, Int.reduceNe, Nat.reduceEqDiff, Nat.reduceAdd, Nat.reduceSub, Nat.reduceMul, Nat.reduceLT, Nat.reduceLeDiff, Nat.reduceBEq, Nat.reduceBNe, UInt8.reduceToNat, Tryz.results121, h0, m0, h2, m2, h3, m3, h5, hw1]))
    exact ⟨n1, a1, a2, es1, by omega, p3, by omega, by omega, rfl, rfl⟩
  obtain ⟨y, hy, _, hpk⟩ := c_pick bs p2 N hb (by omega) (by omega)
  have hy' := hy (by omega)
  obtain ⟨z, hz, _, hpk2⟩ := c_pick bs (p2 + 1) N hb (by omega) (by omega)
  have hz' := hz (by omega)
  have hfind := c_l1Find fs (edgeOf y z).1 (edgeOf y z).2 (by omega)
  have hput := c_l1Put fs (edgeOf y z).1 (edgeOf y z).2 (by omega)
  by_cases hyz : y = z
  · repeat' (first
      | refine xw_seq ?_
      | refine xw_block ?_
      | (refine ite_two ?_ ?_ <;> intro _ <;> first | (exfalso; omega) | skip)
      | refine ord_split (by kernel_rfl) ?_
      | (refine xw_ret ?_ <;> try simp only [sq, bl, LQ])
      | ((first | refine xw_reg ?_ | refine xw_regd ?_ | refine xw_if ?_ | refine xw_skip ?_ | refine xw_exit ?_ | refine xw_label ?_ | refine post_ret ?_ | refine post_normal ?_ | refine postE_ret ?_ | refine postE_normal ?_ | (((first | refine at_region ?_ | refine at_out ?_ | refine at_cond ?_); split) <;> first | (exfalso; omega; done) | skip)) <;> try simp (config := { maxSteps := 3000000 }) (disch := first | assumption | omega | exact VG.okg (by assumption) | (simp only [List.length_set, List.length_append, List.length_cons, List.length_nil, List.length_replicate]; omega)) only [go_sem, ↓reduceIte, Int.reduceLE, Int.reduceLT, Int.reduceToNat, Int.reduceNeg, Int.reduceAdd, Int.reduceSub, Int.reduceMul, Int.reduceEq, Int.reduceNe, Nat.reduceEqDiff, Nat.reduceAdd, Nat.reduceSub, Nat.reduceMul, Nat.reduceLT, Nat.reduceLeDiff, Nat.reduceBEq, Nat.reduceBNe, UInt8.reduceToNat, Tryz.results121, h0, m0, h2, m2, h3, m3, h5, hpk, hpk2]))
    exact ⟨k - 1, p2 + 1 + 1, rfl, fs, rfl, rfl, by omega, by omega, by omega, by omega, by omega, by omega⟩
  by_cases hf : findE fs ((edgeOf y z).1, (edgeOf y z).2) < 0
  rotate_left
  · repeat' (first
      | refine xw_seq ?_
      | refine xw_block ?_
      | (refine ite_two ?_ ?_ <;> intro _ <;> first | (exfalso; omega) | skip)
      | refine ord_split (by kernel_rfl) ?_
      | (refine xw_ret ?_ <;> try simp only [sq, bl, LQ])
      | ((first | refine xw_reg ?_ | refine xw_regd ?_ | refine xw_if ?_ | refine xw_skip ?_ | refine xw_exit ?_ | refine xw_label ?_ | refine post_ret ?_ | refine post_normal ?_ | refine postE_ret ?_ | refine postE_normal ?_ | (((first | refine at_region ?_ | refine at_out ?_ | refine at_cond ?_); split) <;> first | (exfalso; omega; done) | skip)) <;> try simp (config := { maxSteps := 3000000 }) (disch := first | assumption | omega | exact VG.okg (by assumption) | (simp only [List.length_set, List.length_append, List.length_cons, List.length_nil, List.length_replicate]; omega)) only [go_sem, ↓reduceIte, Int.reduceLE, Int.reduceLT, Int.reduceToNat, Int.reduceNeg, Int.reduceAdd, Int.reduceSub, Int.reduceMul, Int.reduceEq, Int.reduceNe, Nat.reduceEqDiff, Nat.reduceAdd, Nat.reduceSub, Nat.reduceMul, Nat.reduceLT, Nat.reduceLeDiff, Nat.reduceBEq, Nat.reduceBNe, UInt8.reduceToNat, Tryz.results121, h0, m0, h2, m2, h3, m3, h5, hpk, hpk2, hfind, hput]))
    exact ⟨k - 1, p2 + 1 + 1, rfl, fs, rfl, rfl, by omega, by omega, by omega, by omega, by omega, by omega⟩
  repeat' (first
    | refine xw_seq ?_
    | refine xw_block ?_
    | (refine ite_two ?_ ?_ <;> intro _ <;> first | (exfalso; omega) | skip)
    | refine ord_split (by kernel_rfl) ?_
    | (refine xw_ret ?_ <;> try simp only [sq, bl, LQ])
    | ((first | refine xw_reg ?_ | refine xw_regd ?_ | refine xw_if ?_ | refine xw_skip ?_ | refine xw_exit ?_ | refine xw_label ?_ | refine post_ret ?_ | refine post_normal ?_ | refine postE_ret ?_ | refine postE_normal ?_ | (((first | refine at_region ?_ | refine at_out ?_ | refine at_cond ?_); split) <;> first | (exfalso; omega; done) | skip)) <;> try simp (config := { maxSteps := 3000000 }) (disch := first | assumption | omega | exact VG.okg (by assumption) | (simp only [List.length_set, List.length_append, List.length_cons, List.length_nil, List.length_replicate]; omega)) only [go_sem, ↓reduceIte, Int.reduceLE, Int.reduceLT, Int.reduceToNat, Int.reduceNeg, Int.reduceAdd, Int.reduceSub, Int.reduceMul, Int.reduceEq, Int.reduceNe, Nat.reduceEqDiff, Nat.reduceAdd, Nat.reduceSub, Nat.reduceMul, Nat.reduceLT, Nat.reduceLeDiff, Nat.reduceBEq, Nat.reduceBNe, UInt8.reduceToNat, Tryz.results121, h0, m0, h2, m2, h3, m3, h5, hpk, hpk2, hfind, hput]))
  exact ⟨k - 1, p2 + 1 + 1, rfl, putE (edgeOf y z) fs, by rw [← qe_putE], rfl, by omega, by omega, by rw [putE_length]; omega, by omega, by omega, by omega⟩
end Go.Proofs.YtdjdgnabcecdlaaGreatDoor.X
