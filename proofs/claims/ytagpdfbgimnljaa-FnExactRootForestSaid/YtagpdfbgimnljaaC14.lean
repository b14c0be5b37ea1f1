/- What functions compute: distances and paths. -/
import Derived.Test.YtagpdfbgimnljaaC13
import Derived.Test.YtagpdfbgimnljaaM3
set_option linter.unusedSimpArgs false
set_option linter.unusedVariables false
set_option maxHeartbeats 2000000
namespace Go.Proofs.Ytagpdfbgimnljaa.X
open Go Go.Proofs

@[go_sem] theorem c_mul1 (n : Int) (h : 0 ≤ n ∧ n ≤ 1048576) : KP 224 [.i (.v (.int .u64 1)), .i (.v (.int .u64 n))] [] = some (.tup [.i (.v (.int .u64 0)), .i (.v (.int .u64 n))], [], []) := by
  refine KK_prim rfl ?_
  have h1 : 1 * n / 18446744073709551616 = 0 := by omega
  have h2 : 1 * n % 18446744073709551616 = n := by omega
  simp only [mulP, h1, h2]
  rw [if_pos (by omega)]

@[go_sem] theorem c_repeatI (x n : Int) (hn : 0 ≤ n ∧ n ≤ 1048576) : KP 191 [.i (.lst [[.v (.int .i64 x)]]), I n] [] = some (.ref 2000 0 0 n.toNat, [], [.arr 0 1 ((List.replicate n.toNat x).map encI)]) := by
  by_cases h0 : n = 0
  · subst h0
    refine xw_call (fn := Try.f191) rfl Try.func191 rfl ⟨Nat.le_of_ble_eq_true rfl, rfl, rfl⟩ ?_
    repeat' (first
      | refine xw_seq ?_
      | refine xw_block ?_
      | (refine ite_two ?_ ?_ <;> intro _ <;> first | (exfalso; omega) | skip)
      | refine ord_split (by kernel_rfl) ?_
      | (refine xw_ret ?_ <;> try simp only [sq, bl, LQ])
      | ((first | refine xw_reg ?_ | refine xw_regd ?_ | refine xw_if ?_ | refine xw_skip ?_ | refine xw_exit ?_ | refine xw_label ?_ | refine post_ret ?_ | refine post_normal ?_ | refine postE_ret ?_ | refine postE_normal ?_) <;> simp (config := { maxSteps := 3000000 }) (disch := first | assumption | omega | exact VG.okg (by assumption) | (simp only [List.length_set, List.length_append, List.length_cons, List.length_nil, List.length_replicate]; omega)) only [go_sem, ↓reduceIte, Int.reduceLE, Int.reduceLT, Int.reduceToNat, Int.reduceNeg, Int.reduceAdd, Int.reduceSub, Int.reduceMul, Int.reduceEq, Int.reduceNe, Nat.reduceEqDiff, Nat.reduceAdd, Nat.reduceSub, Nat.reduceMul, Nat.reduceLT, Nat.reduceLeDiff, Nat.reduceBEq, Nat.reduceBNe, Try.results191])
      | (((first | refine at_region ?_ | refine at_out ?_ | refine at_cond ?_); split) <;> first | (exfalso; omega; done) | simp (config := { maxSteps := 3000000 }) (disch := first | assumption | omega | exact VG.okg (by assumption) | (simp only [List.length_set, List.length_append, List.length_cons, List.length_nil, List.length_replicate]; omega)) only [go_sem, ↓reduceIte, Int.reduceLE, Int.reduceLT, Int.reduceToNat, Int.reduceNeg, Int.reduceAdd, Int.reduceSub, Int.reduceMul, Int.reduceEq, Int.reduceNe, Nat.reduceEqDiff, Nat.reduceAdd, Nat.reduceSub, Nat.reduceMul, Nat.reduceLT, Nat.reduceLeDiff, Nat.reduceBEq, Nat.reduceBNe, Try.results191] | skip))
    refine xw_loopR (fun (y : Unit) s => s.m 30 = some (.arr 0 1 []) ∧ s.ρ 7 = .ref 30 0 0 0 ∧ s.ρ 8 = I 0) (fun _ => 0) () ⟨rfl, rfl, rfl⟩ ?_
    rintro ⟨⟩ ⟨ρ, m⟩ ⟨m30, h7, h8⟩
    simp only at m30 h7 h8
    repeat' (first
      | refine xw_seq ?_
      | refine xw_block ?_
      | (refine ite_two ?_ ?_ <;> intro _ <;> first | (exfalso; omega) | skip)
      | refine ord_split (by kernel_rfl) ?_
      | (refine xw_ret ?_ <;> try simp only [sq, bl, LQ])
      | ((first | refine xw_reg ?_ | refine xw_regd ?_ | refine xw_if ?_ | refine xw_skip ?_ | refine xw_exit ?_ | refine xw_label ?_ | refine post_ret ?_ | refine post_normal ?_ | refine postE_ret ?_ | refine postE_normal ?_) <;> simp (config := { maxSteps := 3000000 }) (disch := first | assumption | omega | exact VG.okg (by assumption) | (simp only [List.length_set, List.length_append, List.length_cons, List.length_nil, List.length_replicate]; omega)) only [go_sem, ↓reduceIte, Int.reduceLE, Int.reduceLT, Int.reduceToNat, Int.reduceNeg, Int.reduceAdd, Int.reduceSub, Int.reduceMul, Int.reduceEq, Int.reduceNe, Nat.reduceEqDiff, Nat.reduceAdd, Nat.reduceSub, Nat.reduceMul, Nat.reduceLT, Nat.reduceLeDiff, Nat.reduceBEq, Nat.reduceBNe, Try.results191, m30, h7, h8])
      | (((first | refine at_region ?_ | refine at_out ?_ | refine at_cond ?_); split) <;> first | (exfalso; omega; done) | simp (config := { maxSteps := 3000000 }) (disch := first | assumption | omega | exact VG.okg (by assumption) | (simp only [List.length_set, List.length_append, List.length_cons, List.length_nil, List.length_replicate]; omega)) only [go_sem, ↓reduceIte, Int.reduceLE, Int.reduceLT, Int.reduceToNat, Int.reduceNeg, Int.reduceAdd, Int.reduceSub, Int.reduceMul, Int.reduceEq, Int.reduceNe, Nat.reduceEqDiff, Nat.reduceAdd, Nat.reduceSub, Nat.reduceMul, Nat.reduceLT, Nat.reduceLeDiff, Nat.reduceBEq, Nat.reduceBNe, Try.results191, m30, h7, h8] | skip))
    all_goals simp
  refine xw_call (fn := Try.f191) rfl Try.func191 rfl ⟨Nat.le_of_ble_eq_true rfl, rfl, rfl⟩ ?_
  repeat' (first
    | refine xw_seq ?_
    | refine xw_block ?_
    | (refine ite_two ?_ ?_ <;> intro _ <;> first | (exfalso; omega) | skip)
    | refine ord_split (by kernel_rfl) ?_
    | (refine xw_ret ?_ <;> try simp only [sq, bl, LQ])
    | ((first | refine xw_reg ?_ | refine xw_regd ?_ | refine xw_if ?_ | refine xw_skip ?_ | refine xw_exit ?_ | refine xw_label ?_ | refine post_ret ?_ | refine post_normal ?_ | refine postE_ret ?_ | refine postE_normal ?_) <;> simp (config := { maxSteps := 3000000 }) (disch := first | assumption | omega | exact VG.okg (by assumption) | (simp only [List.length_set, List.length_append, List.length_cons, List.length_nil, List.length_replicate]; omega)) only [go_sem, ↓reduceIte, Int.reduceLE, Int.reduceLT, Int.reduceToNat, Int.reduceNeg, Int.reduceAdd, Int.reduceSub, Int.reduceMul, Int.reduceEq, Int.reduceNe, Nat.reduceEqDiff, Nat.reduceAdd, Nat.reduceSub, Nat.reduceMul, Nat.reduceLT, Nat.reduceLeDiff, Nat.reduceBEq, Nat.reduceBNe, Try.results191, take_all])
    | (((first | refine at_region ?_ | refine at_out ?_ | refine at_cond ?_); split) <;> first | (exfalso; omega; done) | simp (config := { maxSteps := 3000000 }) (disch := first | assumption | omega | exact VG.okg (by assumption) | (simp only [List.length_set, List.length_append, List.length_cons, List.length_nil, List.length_replicate]; omega)) only [go_sem, ↓reduceIte, Int.reduceLE, Int.reduceLT, Int.reduceToNat, Int.reduceNeg, Int.reduceAdd, Int.reduceSub, Int.reduceMul, Int.reduceEq, Int.reduceNe, Nat.reduceEqDiff, Nat.reduceAdd, Nat.reduceSub, Nat.reduceMul, Nat.reduceLT, Nat.reduceLeDiff, Nat.reduceBEq, Nat.reduceBNe, Try.results191, take_all] | skip))
  refine xw_loopR (fun (y : Int × List Int) s => s.m 30 = some (.arr 0 1 (y.2.map encI)) ∧ s.ρ 7 = .ref 30 0 0 n.toNat ∧ s.ρ 8 = I y.1 ∧ 0 < y.1 ∧ y.1 ≤ n ∧ y.2.length = n.toNat ∧ y.2.take y.1.toNat = List.replicate y.1.toNat x)
    (fun y => (n - y.1).toNat) (1, x :: (zI n.toNat).drop 1) ?_ ?_
  · have e1 : min 1 (n.toNat) = 1 := by omega
    refine ⟨rfl, rfl, ?_, by simp, by simp only; omega, by simp [zI]; omega, by simp⟩
    simp [upd, e1]
  rintro ⟨k, xs⟩ ⟨ρ, m⟩ ⟨m30, h7, h8, g0, g1, g3, g4⟩
  simp only at m30 h7 h8 g0 g1 g3 g4
  repeat' (first
    | refine xw_seq ?_
    | refine xw_block ?_
    | (refine ite_two ?_ ?_ <;> intro _ <;> first | (exfalso; omega) | skip)
    | refine ord_split (by kernel_rfl) ?_
    | (refine xw_ret ?_ <;> try simp only [sq, bl, LQ])
    | ((first | refine xw_reg ?_ | refine xw_regd ?_ | refine xw_if ?_ | refine xw_skip ?_ | refine xw_exit ?_ | refine xw_label ?_ | refine post_ret ?_ | refine post_normal ?_ | refine postE_ret ?_ | refine postE_normal ?_) <;> simp (config := { maxSteps := 3000000 }) (disch := first | assumption | omega | exact VG.okg (by assumption) | (simp only [List.length_set, List.length_append, List.length_cons, List.length_nil, List.length_replicate]; omega)) only [go_sem, ↓reduceIte, Int.reduceLE, Int.reduceLT, Int.reduceToNat, Int.reduceNeg, Int.reduceAdd, Int.reduceSub, Int.reduceMul, Int.reduceEq, Int.reduceNe, Nat.reduceEqDiff, Nat.reduceAdd, Nat.reduceSub, Nat.reduceMul, Nat.reduceLT, Nat.reduceLeDiff, Nat.reduceBEq, Nat.reduceBNe, Try.results191, m30, h7, h8, List.length_take, g3])
    | (((first | refine at_region ?_ | refine at_out ?_ | refine at_cond ?_); split) <;> first | (exfalso; omega; done) | simp (config := { maxSteps := 3000000 }) (disch := first | assumption | omega | exact VG.okg (by assumption) | (simp only [List.length_set, List.length_append, List.length_cons, List.length_nil, List.length_replicate]; omega)) only [go_sem, ↓reduceIte, Int.reduceLE, Int.reduceLT, Int.reduceToNat, Int.reduceNeg, Int.reduceAdd, Int.reduceSub, Int.reduceMul, Int.reduceEq, Int.reduceNe, Nat.reduceEqDiff, Nat.reduceAdd, Nat.reduceSub, Nat.reduceMul, Nat.reduceLT, Nat.reduceLeDiff, Nat.reduceBEq, Nat.reduceBNe, Try.results191, m30, h7, h8, List.length_take, g3] | skip))
  · refine ⟨by omega, by omega, by simp [g3]; omega, ?_, by omega⟩
    have e1 : min k.toNat n.toNat = k.toNat := by omega
    rw [e1, g4, List.take_replicate]
    have e2 : min (n.toNat - k.toNat) k.toNat = min k.toNat (n.toNat - k.toNat) := Nat.min_comm ..
    rw [List.replicate_append_replicate, e2]
    have e3 : (k + ((min k.toNat (n.toNat - k.toNat) : Nat) : Int)).toNat = k.toNat + min k.toNat (n.toNat - k.toNat) := by omega
    rw [e3]
    exact List.take_left' (by simp)
  · have : k.toNat = n.toNat := by omega
    rw [this, take_all (by omega)] at g4
    rw [g4]

theorem drop_len_append {α : Type} (a b : List α) : (a ++ b).drop a.length = b := by simp
theorem getD_len_append (a b : List Int) (x : Int) : (a ++ x :: b).getD a.length 0 = x := by simp

theorem c_far (n t : Int) (es : List (Int × Int)) (h : VG n es) (ht : 0 ≤ t ∧ t < n) : KP 143 [GL n es, I t] [] = some (.ref 2000 0 0 (dstL n es t).length, [], [.arr 0 1 ((dstL n es t).map encI)]) := by
  have hl := h.okg.len
  have hn16 := h.2.1
  have ho := h.okg.ok
  obtain ⟨hi1, hi2⟩ := Bfs.init (es := es) ht
  refine xw_call (fn := Try.f143) rfl Try.func143 rfl ⟨Nat.le_of_ble_eq_true rfl, rfl, rfl⟩ ?_
  repeat' (first
    | refine xw_seq ?_
    | refine xw_block ?_
    | (refine ite_two ?_ ?_ <;> intro _ <;> first | (exfalso; omega) | skip)
    | refine ord_split (by kernel_rfl) ?_
    | (refine xw_ret ?_ <;> try simp only [sq, bl, LQ])
    | ((first | refine xw_reg ?_ | refine xw_regd ?_ | refine xw_if ?_ | refine xw_skip ?_ | refine xw_exit ?_ | refine xw_label ?_ | refine post_ret ?_ | refine post_normal ?_ | refine postE_ret ?_ | refine postE_normal ?_) <;> simp (config := { maxSteps := 3000000 }) (disch := first | assumption | omega | exact VG.okg (by assumption) | (simp only [List.length_set, List.length_append, List.length_cons, List.length_nil, List.length_replicate]; omega)) only [go_sem, ↓reduceIte, Int.reduceLE, Int.reduceLT, Int.reduceToNat, Int.reduceNeg, Int.reduceAdd, Int.reduceSub, Int.reduceMul, Int.reduceEq, Int.reduceNe, Nat.reduceEqDiff, Nat.reduceAdd, Nat.reduceSub, Nat.reduceMul, Nat.reduceLT, Nat.reduceLeDiff, Nat.reduceBEq, Nat.reduceBNe, Try.results143, List.length_replicate])
    | (((first | refine at_region ?_ | refine at_out ?_ | refine at_cond ?_); split) <;> first | (exfalso; omega; done) | simp (config := { maxSteps := 3000000 }) (disch := first | assumption | omega | exact VG.okg (by assumption) | (simp only [List.length_set, List.length_append, List.length_cons, List.length_nil, List.length_replicate]; omega)) only [go_sem, ↓reduceIte, Int.reduceLE, Int.reduceLT, Int.reduceToNat, Int.reduceNeg, Int.reduceAdd, Int.reduceSub, Int.reduceMul, Int.reduceEq, Int.reduceNe, Nat.reduceEqDiff, Nat.reduceAdd, Nat.reduceSub, Nat.reduceMul, Nat.reduceLT, Nat.reduceLeDiff, Nat.reduceBEq, Nat.reduceBNe, Try.results143, List.length_replicate] | skip))
  refine xw_loopR (fun (y : Nat × List Int × List Int × List Int) s => s.m 3104 = some (.arr 0 1 (y.2.2.2.map encI)) ∧ s.ρ 5 = .ref 3104 0 0 n.toNat ∧ s.m 18 = some (.arr y.1 1 ((y.2.1 ++ y.2.2.1).map encI)) ∧ s.ρ 6 = .ref 18 y.1 y.2.1.length y.2.2.1.length ∧
    s.ρ 2 = .ptr 2 0 0 0 ∧ s.m 2 = some (.box 0 [I n, LE es]) ∧ Bfs n es t y.2.2.2 y.2.2.1 ∧ Done n es y.2.2.2 (· ∈ y.2.2.1) ∧ y.2.1.length + y.2.2.1.length ≤ 1048576 ∧ y.2.1.length + y.2.2.1.length + und y.2.2.2 ≤ 100)
    (fun y => y.2.2.1.length + und y.2.2.2) (0, [], [t], (List.replicate n.toNat (-1)).set t.toNat 0) ?_ ?_
  · have hu : und ((List.replicate n.toNat (-1)).set t.toNat 0) ≤ n.toNat := by
      unfold und
      exact Nat.le_trans (List.length_filter_le _ _) (by simp)
    exact ⟨rfl, rfl, rfl, rfl, rfl, rfl, hi1, hi2, by simp, by simp only [List.length_nil, List.length_cons]; omega⟩
  rintro ⟨w, pre, q, out⟩ ⟨ρ, m⟩ ⟨m1, h5, m18, h6, h2, m2, g0, g1, g2, g3⟩
  simp only at m1 h5 m18 h6 h2 m2 g0 g1 g2 g3
  cases q with
  | nil =>
    repeat' (first
      | refine xw_seq ?_
      | refine xw_block ?_
      | (refine ite_two ?_ ?_ <;> intro _ <;> first | (exfalso; omega) | skip)
      | refine ord_split (by kernel_rfl) ?_
      | (refine xw_ret ?_ <;> try simp only [sq, bl, LQ])
      | ((first | refine xw_reg ?_ | refine xw_regd ?_ | refine xw_if ?_ | refine xw_skip ?_ | refine xw_exit ?_ | refine xw_label ?_ | refine post_ret ?_ | refine post_normal ?_ | refine postE_ret ?_ | refine postE_normal ?_) <;> simp (config := { maxSteps := 3000000 }) (disch := first | assumption | omega | exact VG.okg (by assumption) | (simp only [List.length_set, List.length_append, List.length_cons, List.length_nil, List.length_replicate]; omega)) only [go_sem, ↓reduceIte, Int.reduceLE, Int.reduceLT, Int.reduceToNat, Int.reduceNeg, Int.reduceAdd, Int.reduceSub, Int.reduceMul, Int.reduceEq, Int.reduceNe, Nat.reduceEqDiff, Nat.reduceAdd, Nat.reduceSub, Nat.reduceMul, Nat.reduceLT, Nat.reduceLeDiff, Nat.reduceBEq, Nat.reduceBNe, Try.results143, m1, h5, m18, h6, h2, m2])
      | (((first | refine at_region ?_ | refine at_out ?_ | refine at_cond ?_); split) <;> first | (exfalso; omega; done) | simp (config := { maxSteps := 3000000 }) (disch := first | assumption | omega | exact VG.okg (by assumption) | (simp only [List.length_set, List.length_append, List.length_cons, List.length_nil, List.length_replicate]; omega)) only [go_sem, ↓reduceIte, Int.reduceLE, Int.reduceLT, Int.reduceToNat, Int.reduceNeg, Int.reduceAdd, Int.reduceSub, Int.reduceMul, Int.reduceEq, Int.reduceNe, Nat.reduceEqDiff, Nat.reduceAdd, Nat.reduceSub, Nat.reduceMul, Nat.reduceLT, Nat.reduceLeDiff, Nat.reduceBEq, Nat.reduceBNe, Try.results143, m1, h5, m18, h6, h2, m2] | skip))
    rw [g0.end ho g1]
    exact ⟨dstL_length.symm, rfl⟩
  | cons a q =>
    have hg := getD_len_append pre q a
    have hat := BfsAt.start g0 g1
    have hnb := c_neighbors n a es (by omega)
    have hlen := g0.len
    have ha := g0.que a (by simp)
    have hnbl : (nbS a es).length ≤ 40 := by have := alone_length a es; omega
    simp only [List.length_cons] at h6 g2 g3
    repeat' (first
      | refine xw_seq ?_
      | refine xw_block ?_
      | (refine ite_two ?_ ?_ <;> intro _ <;> first | (exfalso; omega) | skip)
      | refine ord_split (by kernel_rfl) ?_
      | (refine xw_ret ?_ <;> try simp only [sq, bl, LQ])
      | ((first | refine xw_reg ?_ | refine xw_regd ?_ | refine xw_if ?_ | refine xw_skip ?_ | refine xw_exit ?_ | refine xw_label ?_ | refine post_ret ?_ | refine post_normal ?_ | refine postE_ret ?_ | refine postE_normal ?_) <;> simp (config := { maxSteps := 3000000 }) (disch := first | assumption | omega | exact VG.okg (by assumption) | (simp only [List.length_set, List.length_append, List.length_cons, List.length_nil, List.length_replicate]; omega)) only [go_sem, ↓reduceIte, Int.reduceLE, Int.reduceLT, Int.reduceToNat, Int.reduceNeg, Int.reduceAdd, Int.reduceSub, Int.reduceMul, Int.reduceEq, Int.reduceNe, Nat.reduceEqDiff, Nat.reduceAdd, Nat.reduceSub, Nat.reduceMul, Nat.reduceLT, Nat.reduceLeDiff, Nat.reduceBEq, Nat.reduceBNe, Try.results143, m1, h5, m18, h6, h2, m2, hg, hnb])
      | (((first | refine at_region ?_ | refine at_out ?_ | refine at_cond ?_); split) <;> first | (exfalso; omega; done) | simp (config := { maxSteps := 3000000 }) (disch := first | assumption | omega | exact VG.okg (by assumption) | (simp only [List.length_set, List.length_append, List.length_cons, List.length_nil, List.length_replicate]; omega)) only [go_sem, ↓reduceIte, Int.reduceLE, Int.reduceLT, Int.reduceToNat, Int.reduceNeg, Int.reduceAdd, Int.reduceSub, Int.reduceMul, Int.reduceEq, Int.reduceNe, Nat.reduceEqDiff, Nat.reduceAdd, Nat.reduceSub, Nat.reduceMul, Nat.reduceLT, Nat.reduceLeDiff, Nat.reduceBEq, Nat.reduceBNe, Try.results143, m1, h5, m18, h6, h2, m2, hg, hnb] | skip))
    refine xw_loopR (fun (y : Int × Nat × List Int × List Int × List Int) s => s.m 3104 = some (.arr 0 1 (y.2.2.2.2.map encI)) ∧ s.ρ 5 = .ref 3104 0 0 n.toNat ∧ s.m 18 = some (.arr y.2.1 1 ((y.2.2.1 ++ y.2.2.2.1).map encI)) ∧ s.ρ 6 = .ref 18 y.2.1 y.2.2.1.length y.2.2.2.1.length ∧
      s.ρ 2 = .ptr 2 0 0 0 ∧ s.m 2 = some (.box 0 [I n, LE es]) ∧ s.ρ 29 = LI (nbS a es) ∧ s.ρ 30 = I (nbS a es).length ∧ s.ρ 31 = I y.1 ∧ s.ρ 7 = I a ∧ 0 ≤ y.1 ∧ y.1 ≤ (nbS a es).length ∧ BfsAt n es t a y.1.toNat y.2.2.2.2 y.2.2.2.1 ∧
      y.2.2.1.length + y.2.2.2.1.length ≤ 1048576 ∧ y.2.2.1.length + y.2.2.2.1.length + und y.2.2.2.2 ≤ 100 ∧ y.2.2.2.1.length + und y.2.2.2.2 = q.length + und out)
      (fun y => ((nbS a es).length - y.1).toNat) (0, w, pre ++ [a], q, out) ?_ ?_
    · refine ⟨by simp [upd, m1], by simp [upd, h5], by simp [upd, m18], by simp [upd], by simp [upd, h2], by simp [upd, m2], by simp [upd], by simp [upd], by simp [upd], by simp [upd], by simp, by simp, hat, ?_, ?_, rfl⟩
      · simp only [List.length_append, List.length_cons, List.length_nil]; omega
      · simp only [List.length_append, List.length_cons, List.length_nil]; omega
    rintro ⟨i, w', pr, q', ou⟩ ⟨ρ, m⟩ ⟨m1, h5, m18, h6, h2, m2, h29, h30, h31, h7, f0, f1, f2, f3, f4, f5⟩
    simp only at m1 h5 m18 h6 h2 m2 h29 h30 h31 h7 f0 f1 f2 f3 f4 f5
    have hol := f2.bfs.len
    by_cases hj : i < (nbS a es).length
    · have hadj := (mem_nbS ho).1 (getD_mem (d := 0) (show i.toNat < (nbS a es).length by omega))
      have hok := hadj.ok ho
      have hlow := f2.bfs.low _ hok.2.2.1 hok.2.2.2.1
      have hga := f2.hn a ha.1 ha.2.1
      have hge : 0 ≤ ou.getD a.toNat 0 := f2.a0.2.2
      have hgu : ou.getD a.toNat 0 + und ou ≤ n - 1 := f2.bfs.top a ha.1 ha.2.1
      have hi1' : (i + 1).toNat = i.toNat + 1 := by omega
      repeat' (first
        | refine xw_seq ?_
        | refine xw_block ?_
        | (refine ite_two ?_ ?_ <;> intro _ <;> first | (exfalso; omega) | skip)
        | refine ord_split (by kernel_rfl) ?_
        | (refine xw_ret ?_ <;> try simp only [sq, bl, LQ])
        | ((first | refine xw_reg ?_ | refine xw_regd ?_ | refine xw_if ?_ | refine xw_skip ?_ | refine xw_exit ?_ | refine xw_label ?_ | refine post_ret ?_ | refine post_normal ?_ | refine postE_ret ?_ | refine postE_normal ?_) <;> simp (config := { maxSteps := 3000000 }) (disch := first | assumption | omega | exact VG.okg (by assumption) | (simp only [List.length_set, List.length_append, List.length_cons, List.length_nil, List.length_replicate]; omega)) only [go_sem, ↓reduceIte, Int.reduceLE, Int.reduceLT, Int.reduceToNat, Int.reduceNeg, Int.reduceAdd, Int.reduceSub, Int.reduceMul, Int.reduceEq, Int.reduceNe, Nat.reduceEqDiff, Nat.reduceAdd, Nat.reduceSub, Nat.reduceMul, Nat.reduceLT, Nat.reduceLeDiff, Nat.reduceBEq, Nat.reduceBNe, Try.results143, m1, h5, m18, h6, h2, m2, h29, h30, h31, h7])
        | (((first | refine at_region ?_ | refine at_out ?_ | refine at_cond ?_); split) <;> first | (exfalso; omega; done) | simp (config := { maxSteps := 3000000 }) (disch := first | assumption | omega | exact VG.okg (by assumption) | (simp only [List.length_set, List.length_append, List.length_cons, List.length_nil, List.length_replicate]; omega)) only [go_sem, ↓reduceIte, Int.reduceLE, Int.reduceLT, Int.reduceToNat, Int.reduceNeg, Int.reduceAdd, Int.reduceSub, Int.reduceMul, Int.reduceEq, Int.reduceNe, Nat.reduceEqDiff, Nat.reduceAdd, Nat.reduceSub, Nat.reduceMul, Nat.reduceLT, Nat.reduceLeDiff, Nat.reduceBEq, Nat.reduceBNe, Try.results143, m1, h5, m18, h6, h2, m2, h29, h30, h31, h7] | skip))
      · have hx : gI ou ((nbS a es).getD i.toNat 0) < 0 := by assumption
        obtain ⟨k1, k2⟩ := f2.find ho (by omega) hx
        have k3 : und (ou.set ((nbS a es).getD i.toNat 0).toNat (ou.getD a.toNat 0 + 1)) + 1 = und ou := k2
        refine ⟨i + 1, [], q' ++ [(nbS a es).getD i.toNat 0], by simp, rfl, by simp, rfl, by omega, by omega, by rw [hi1']; exact k1, ?_, ?_, ?_, by omega⟩
        all_goals simp only [List.length_append, List.length_cons, List.length_nil]
        all_goals omega
      · have hx : 0 ≤ gI ou ((nbS a es).getD i.toNat 0) := by unfold gI; omega
        exact ⟨i + 1, pr, q', rfl, rfl, rfl, rfl, by omega, by omega, by rw [hi1']; exact f2.skip ho (by omega) hx, by omega, by omega, by omega, by omega⟩
    · repeat' (first
        | refine xw_seq ?_
        | refine xw_block ?_
        | (refine ite_two ?_ ?_ <;> intro _ <;> first | (exfalso; omega) | skip)
        | refine ord_split (by kernel_rfl) ?_
        | (refine xw_ret ?_ <;> try simp only [sq, bl, LQ])
        | ((first | refine xw_reg ?_ | refine xw_regd ?_ | refine xw_if ?_ | refine xw_skip ?_ | refine xw_exit ?_ | refine xw_label ?_ | refine post_ret ?_ | refine post_normal ?_ | refine postE_ret ?_ | refine postE_normal ?_) <;> simp (config := { maxSteps := 3000000 }) (disch := first | assumption | omega | exact VG.okg (by assumption) | (simp only [List.length_set, List.length_append, List.length_cons, List.length_nil, List.length_replicate]; omega)) only [go_sem, ↓reduceIte, Int.reduceLE, Int.reduceLT, Int.reduceToNat, Int.reduceNeg, Int.reduceAdd, Int.reduceSub, Int.reduceMul, Int.reduceEq, Int.reduceNe, Nat.reduceEqDiff, Nat.reduceAdd, Nat.reduceSub, Nat.reduceMul, Nat.reduceLT, Nat.reduceLeDiff, Nat.reduceBEq, Nat.reduceBNe, Try.results143, m1, h5, m18, h6, h2, m2, h29, h30, h31, h7])
        | (((first | refine at_region ?_ | refine at_out ?_ | refine at_cond ?_); split) <;> first | (exfalso; omega; done) | simp (config := { maxSteps := 3000000 }) (disch := first | assumption | omega | exact VG.okg (by assumption) | (simp only [List.length_set, List.length_append, List.length_cons, List.length_nil, List.length_replicate]; omega)) only [go_sem, ↓reduceIte, Int.reduceLE, Int.reduceLT, Int.reduceToNat, Int.reduceNeg, Int.reduceAdd, Int.reduceSub, Int.reduceMul, Int.reduceEq, Int.reduceNe, Nat.reduceEqDiff, Nat.reduceAdd, Nat.reduceSub, Nat.reduceMul, Nat.reduceLT, Nat.reduceLeDiff, Nat.reduceBEq, Nat.reduceBNe, Try.results143, m1, h5, m18, h6, h2, m2, h29, h30, h31, h7] | skip))
      obtain ⟨k1, k2⟩ := f2.stop ho (by omega)
      exact ⟨pr, q', rfl, rfl, rfl, k1, k2, by omega, by omega, by omega⟩
end Go.Proofs.Ytagpdfbgimnljaa.X

