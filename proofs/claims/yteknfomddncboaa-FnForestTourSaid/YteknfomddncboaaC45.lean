/- What functions compute: lists without neighbours alike. -/
import Derived.Test.YteknfomddncboaaC21
import Derived.Test.YteknfomddncboaaM16
import Derived.Test.YteknfomddncboaaM19
set_option linter.unusedSimpArgs false
set_option linter.unusedVariables false
set_option maxHeartbeats 8000000
namespace Go.Proofs.Yteknfomddncboaa.X
open Go Go.Proofs
theorem c_compact (xs : List Int) (hl : xs.length ≤ 1048576) :
    ∃ ys : List Int, ys.length = xs.length ∧ ys.take (ddS xs).length = ddS xs ∧ KP 143 [.ref 1000 0 0 xs.length] [.arr 0 1 (xs.map encI)] = some (.ref 1000 0 0 (ddS xs).length, [.arr 0 1 (ys.map encI)], []) := by
  by_cases h2 : (xs.length : Int) < 2
  · have hd : ddS xs = xs := by
      have := ddS_take (l := xs) xs.length (Nat.le_refl _) (fun i h0 h1 => by omega)
      rwa [List.take_length] at this
    refine ⟨xs, rfl, by rw [hd, List.take_length], ?_⟩
    rw [hd]
    refine xw_call (fn := Try.f143) rfl Try.func143 rfl ⟨Nat.le_of_ble_eq_true rfl, rfl, rfl⟩ ?_
    repeat' (first
      | refine xw_seq ?_
      | refine xw_block ?_
      | (refine ite_two ?_ ?_ <;> intro _ <;> first | (exfalso; omega) | skip)
      | refine ord_split (by kernel_rfl) ?_
      | (refine xw_ret ?_ <;> try simp only [sq, bl, LQ])
      | ((first | refine xw_reg ?_ | refine xw_regd ?_ | refine xw_if ?_ | refine xw_skip ?_ | refine xw_exit ?_ | refine xw_label ?_ | refine post_ret ?_ | refine post_normal ?_ | refine postE_ret ?_ | refine postE_normal ?_) <;> simp (config := { maxSteps := 3000000 }) (disch := first | assumption | omega | exact VG.okg (by assumption) | (simp only [List.length_set, List.length_append, List.length_cons, List.length_nil, List.length_replicate]; omega)) only [go_sem, ↓reduceIte, Int.reduceLE, Int.reduceLT, Int.reduceToNat, Int.reduceNeg, Int.reduceAdd, Int.reduceSub, Int.reduceMul, Int.reduceEq, Int.reduceNe, Nat.reduceEqDiff, Nat.reduceAdd, Nat.reduceSub, Nat.reduceMul, Nat.reduceLT, Nat.reduceLeDiff, Nat.reduceBEq, Nat.reduceBNe, Try.results143])
      | (((first | refine at_region ?_ | refine at_out ?_ | refine at_cond ?_); split) <;> first | (exfalso; omega; done) | simp (config := { maxSteps := 3000000 }) (disch := first | assumption | omega | exact VG.okg (by assumption) | (simp only [List.length_set, List.length_append, List.length_cons, List.length_nil, List.length_replicate]; omega)) only [go_sem, ↓reduceIte, Int.reduceLE, Int.reduceLT, Int.reduceToNat, Int.reduceNeg, Int.reduceAdd, Int.reduceSub, Int.reduceMul, Int.reduceEq, Int.reduceNe, Nat.reduceEqDiff, Nat.reduceAdd, Nat.reduceSub, Nat.reduceMul, Nat.reduceLT, Nat.reduceLeDiff, Nat.reduceBEq, Nat.reduceBNe, Try.results143] | skip))
  suffices hgoal : ∃ res, (∃ ys : List Int, ys.length = xs.length ∧ ys.take (ddS xs).length = ddS xs ∧ res = (.ref 1000 0 0 (ddS xs).length, [.arr 0 1 (ys.map encI)], [])) ∧ KP 143 [.ref 1000 0 0 xs.length] [.arr 0 1 (xs.map encI)] = some res by
    obtain ⟨res, ⟨ys, h1, h2, rfl⟩, h3⟩ := hgoal
    exact ⟨ys, h1, h2, h3⟩
  refine xw_callE (fn := Try.f143) rfl Try.func143 rfl ⟨Nat.le_of_ble_eq_true rfl, rfl, rfl⟩ ?_
  repeat' (first
    | refine xw_seq ?_
    | refine xw_block ?_
    | (refine ite_two ?_ ?_ <;> intro _ <;> first | (exfalso; omega) | skip)
    | refine ord_split (by kernel_rfl) ?_
    | (refine xw_ret ?_ <;> try simp only [sq, bl, LQ])
    | ((first | refine xw_reg ?_ | refine xw_regd ?_ | refine xw_if ?_ | refine xw_skip ?_ | refine xw_exit ?_ | refine xw_label ?_ | refine post_ret ?_ | refine post_normal ?_ | refine postE_ret ?_ | refine postE_normal ?_) <;> simp (config := { maxSteps := 3000000 }) (disch := first | assumption | omega | exact VG.okg (by assumption) | (simp only [List.length_set, List.length_append, List.length_cons, List.length_nil, List.length_replicate]; omega)) only [go_sem, ↓reduceIte, Int.reduceLE, Int.reduceLT, Int.reduceToNat, Int.reduceNeg, Int.reduceAdd, Int.reduceSub, Int.reduceMul, Int.reduceEq, Int.reduceNe, Nat.reduceEqDiff, Nat.reduceAdd, Nat.reduceSub, Nat.reduceMul, Nat.reduceLT, Nat.reduceLeDiff, Nat.reduceBEq, Nat.reduceBNe, Try.results143])
    | (((first | refine at_region ?_ | refine at_out ?_ | refine at_cond ?_); split) <;> first | (exfalso; omega; done) | simp (config := { maxSteps := 3000000 }) (disch := first | assumption | omega | exact VG.okg (by assumption) | (simp only [List.length_set, List.length_append, List.length_cons, List.length_nil, List.length_replicate]; omega)) only [go_sem, ↓reduceIte, Int.reduceLE, Int.reduceLT, Int.reduceToNat, Int.reduceNeg, Int.reduceAdd, Int.reduceSub, Int.reduceMul, Int.reduceEq, Int.reduceNe, Nat.reduceEqDiff, Nat.reduceAdd, Nat.reduceSub, Nat.reduceMul, Nat.reduceLT, Nat.reduceLeDiff, Nat.reduceBEq, Nat.reduceBNe, Try.results143] | skip))
  refine xw_loopR (fun (k : Int) s => s.m 1000 = some (.arr 0 1 (xs.map encI)) ∧ s.ρ 0 = .ref 1000 0 0 xs.length ∧ s.ρ 3 = I k ∧ 1 ≤ k ∧ k ≤ xs.length ∧ ∀ i : Nat, 0 < i → (i : Int) < k → xs.getD i 0 ≠ xs.getD (i - 1) 0) (fun k => (xs.length - k).toNat) 1 ?_ ?_
  · exact ⟨by simp [upd, mp], by simp [upd], by simp [upd], by omega, by omega, fun i h0 h1 => by omega⟩
  rintro k ⟨ρ, m⟩ ⟨m0, h0, h3, g0, g1, g2⟩
  simp only at m0 h0 h3 g0 g1 g2
  by_cases hk : k < xs.length
  rotate_left
  · have hd : ddS xs = xs := by
      have := ddS_take (l := xs) xs.length (Nat.le_refl _) (fun i h0 h1 => g2 i h0 (by omega))
      rwa [List.take_length] at this
    repeat' (first
      | refine xw_seq ?_
      | refine xw_block ?_
      | (refine ite_two ?_ ?_ <;> intro _ <;> first | (exfalso; omega) | skip)
      | refine ord_split (by kernel_rfl) ?_
      | (refine xw_ret ?_ <;> try simp only [sq, bl, LQ])
      | ((first | refine xw_reg ?_ | refine xw_regd ?_ | refine xw_if ?_ | refine xw_skip ?_ | refine xw_exit ?_ | refine xw_label ?_ | refine post_ret ?_ | refine post_normal ?_ | refine postE_ret ?_ | refine postE_normal ?_) <;> simp (config := { maxSteps := 3000000 }) (disch := first | assumption | omega | exact VG.okg (by assumption) | (simp only [List.length_set, List.length_append, List.length_cons, List.length_nil, List.length_replicate]; omega)) only [go_sem, ↓reduceIte, Int.reduceLE, Int.reduceLT, Int.reduceToNat, Int.reduceNeg, Int.reduceAdd, Int.reduceSub, Int.reduceMul, Int.reduceEq, Int.reduceNe, Nat.reduceEqDiff, Nat.reduceAdd, Nat.reduceSub, Nat.reduceMul, Nat.reduceLT, Nat.reduceLeDiff, Nat.reduceBEq, Nat.reduceBNe, Try.results143, m0, h0, h3])
      | (((first | refine at_region ?_ | refine at_out ?_ | refine at_cond ?_); split) <;> first | (exfalso; omega; done) | simp (config := { maxSteps := 3000000 }) (disch := first | assumption | omega | exact VG.okg (by assumption) | (simp only [List.length_set, List.length_append, List.length_cons, List.length_nil, List.length_replicate]; omega)) only [go_sem, ↓reduceIte, Int.reduceLE, Int.reduceLT, Int.reduceToNat, Int.reduceNeg, Int.reduceAdd, Int.reduceSub, Int.reduceMul, Int.reduceEq, Int.reduceNe, Nat.reduceEqDiff, Nat.reduceAdd, Nat.reduceSub, Nat.reduceMul, Nat.reduceLT, Nat.reduceLeDiff, Nat.reduceBEq, Nat.reduceBNe, Try.results143, m0, h0, h3] | skip))
    exact ⟨xs, rfl, by rw [hd, List.take_length], by rw [hd], rfl⟩
  by_cases he : xs.getD k.toNat 0 = xs.getD (k - 1).toNat 0
  rotate_left
  · repeat' (first
      | refine xw_seq ?_
      | refine xw_block ?_
      | (refine ite_two ?_ ?_ <;> intro _ <;> first | (exfalso; omega) | skip)
      | refine ord_split (by kernel_rfl) ?_
      | (refine xw_ret ?_ <;> try simp only [sq, bl, LQ])
      | ((first | refine xw_reg ?_ | refine xw_regd ?_ | refine xw_if ?_ | refine xw_skip ?_ | refine xw_exit ?_ | refine xw_label ?_ | refine post_ret ?_ | refine post_normal ?_ | refine postE_ret ?_ | refine postE_normal ?_) <;> simp (config := { maxSteps := 3000000 }) (disch := first | assumption | omega | exact VG.okg (by assumption) | (simp only [List.length_set, List.length_append, List.length_cons, List.length_nil, List.length_replicate]; omega)) only [go_sem, ↓reduceIte, Int.reduceLE, Int.reduceLT, Int.reduceToNat, Int.reduceNeg, Int.reduceAdd, Int.reduceSub, Int.reduceMul, Int.reduceEq, Int.reduceNe, Nat.reduceEqDiff, Nat.reduceAdd, Nat.reduceSub, Nat.reduceMul, Nat.reduceLT, Nat.reduceLeDiff, Nat.reduceBEq, Nat.reduceBNe, Try.results143, m0, h0, h3, he])
      | (((first | refine at_region ?_ | refine at_out ?_ | refine at_cond ?_); split) <;> first | (exfalso; omega; done) | simp (config := { maxSteps := 3000000 }) (disch := first | assumption | omega | exact VG.okg (by assumption) | (simp only [List.length_set, List.length_append, List.length_cons, List.length_nil, List.length_replicate]; omega)) only [go_sem, ↓reduceIte, Int.reduceLE, Int.reduceLT, Int.reduceToNat, Int.reduceNeg, Int.reduceAdd, Int.reduceSub, Int.reduceMul, Int.reduceEq, Int.reduceNe, Nat.reduceEqDiff, Nat.reduceAdd, Nat.reduceSub, Nat.reduceMul, Nat.reduceLT, Nat.reduceLeDiff, Nat.reduceBEq, Nat.reduceBNe, Try.results143, m0, h0, h3, he] | skip))
    refine ⟨by omega, by omega, fun i i0 i1 => ?_, by omega⟩
    by_cases hik : (i : Int) < k
    · exact g2 i i0 hik
    · have e1 : i = k.toNat := by omega
      have e2 : i - 1 = (k - 1).toNat := by omega
      rw [e2, e1]; exact he
  have hk1 : ((k.toNat : Nat) : Int) = k := by omega
  have hd1 : ddS (xs.take k.toNat) = xs.take k.toNat := ddS_take k.toNat (by omega) (fun i h0 h1 => g2 i h0 (by omega))
  have hd2 : ddS (xs.take (k.toNat + 1)) = xs.take k.toNat := by
    rw [ddS_next (by omega) (by omega), if_pos (by rw [he]; congr 1; omega), hd1]
  repeat' (first
    | refine xw_seq ?_
    | refine xw_block ?_
    | (refine ite_two ?_ ?_ <;> intro _ <;> first | (exfalso; omega) | skip)
    | refine ord_split (by kernel_rfl) ?_
    | (refine xw_ret ?_ <;> try simp only [sq, bl, LQ])
    | ((first | refine xw_reg ?_ | refine xw_regd ?_ | refine xw_if ?_ | refine xw_skip ?_ | refine xw_exit ?_ | refine xw_label ?_ | refine post_ret ?_ | refine post_normal ?_ | refine postE_ret ?_ | refine postE_normal ?_) <;> simp (config := { maxSteps := 3000000 }) (disch := first | assumption | omega | exact VG.okg (by assumption) | (simp only [List.length_set, List.length_append, List.length_cons, List.length_nil, List.length_replicate]; omega)) only [go_sem, ↓reduceIte, Int.reduceLE, Int.reduceLT, Int.reduceToNat, Int.reduceNeg, Int.reduceAdd, Int.reduceSub, Int.reduceMul, Int.reduceEq, Int.reduceNe, Nat.reduceEqDiff, Nat.reduceAdd, Nat.reduceSub, Nat.reduceMul, Nat.reduceLT, Nat.reduceLeDiff, Nat.reduceBEq, Nat.reduceBNe, Try.results143, m0, h0, h3, he])
    | (((first | refine at_region ?_ | refine at_out ?_ | refine at_cond ?_); split) <;> first | (exfalso; omega; done) | simp (config := { maxSteps := 3000000 }) (disch := first | assumption | omega | exact VG.okg (by assumption) | (simp only [List.length_set, List.length_append, List.length_cons, List.length_nil, List.length_replicate]; omega)) only [go_sem, ↓reduceIte, Int.reduceLE, Int.reduceLT, Int.reduceToNat, Int.reduceNeg, Int.reduceAdd, Int.reduceSub, Int.reduceMul, Int.reduceEq, Int.reduceNe, Nat.reduceEqDiff, Nat.reduceAdd, Nat.reduceSub, Nat.reduceMul, Nat.reduceLT, Nat.reduceLeDiff, Nat.reduceBEq, Nat.reduceBNe, Try.results143, m0, h0, h3, he] | skip))
  refine xw_loopR (fun (u : Int × Int × List Int) s => s.m 1000 = some (.arr 0 1 (u.2.2.map encI)) ∧ s.ρ 0 = .ref 1000 0 0 xs.length ∧ s.ρ 4 = .ref 1000 0 k.toNat (xs.length - k.toNat) ∧ s.ρ 3 = I u.1 ∧ s.ρ 5 = I u.2.1 ∧
    1 ≤ u.1 ∧ 1 ≤ u.2.1 ∧ k + u.2.1 ≤ xs.length ∧ u.1 ≤ k + u.2.1 - 1 ∧ u.2.2.length = xs.length ∧ (ddS (xs.take (k + u.2.1).toNat)).length = u.1.toNat ∧ u.2.2.take u.1.toNat = ddS (xs.take (k + u.2.1).toNat) ∧ u.2.2.drop (k + u.2.1 - 1).toNat = xs.drop (k + u.2.1 - 1).toNat) (fun u => (xs.length - u.2.1).toNat) (k, 1, xs) ?_ ?_
  · have e1 : (k + 1).toNat = k.toNat + 1 := by omega
    refine ⟨by simp [upd, m0], by simp [upd, h0], by simp [upd], by simp [upd, h3], by simp [upd], g0, by simp only; omega, by simp only; omega, by simp only; omega, rfl, ?_, ?_, ?_⟩
    · simp only [e1, hd2]; simp; omega
    · simp only [e1, hd2]
    · rfl
  rintro ⟨q, j, ys⟩ ⟨ρ, m⟩ ⟨m0, h0, h4, h3, h5, f0, f1, f2, f3, f4, f5, f6, f7⟩
  simp only at m0 h0 h4 h3 h5 f0 f1 f2 f3 f4 f5 f6 f7
  have hql : q.toNat ≤ ys.length := by omega
  by_cases hj : k + j < xs.length
  rotate_left
  · have ee : k + j = xs.length := by omega
    have e2 : (k + j).toNat = xs.length := by omega
    rw [e2, List.take_length] at f5 f6
    repeat' (first
      | refine xw_seq ?_
      | refine xw_block ?_
      | (refine ite_two ?_ ?_ <;> intro _ <;> first | (exfalso; omega) | skip)
      | refine ord_split (by kernel_rfl) ?_
      | (refine xw_ret ?_ <;> try simp only [sq, bl, LQ])
      | ((first | refine xw_reg ?_ | refine xw_regd ?_ | refine xw_if ?_ | refine xw_skip ?_ | refine xw_exit ?_ | refine xw_label ?_ | refine post_ret ?_ | refine post_normal ?_ | refine postE_ret ?_ | refine postE_normal ?_) <;> simp (config := { maxSteps := 3000000 }) (disch := first | assumption | omega | exact VG.okg (by assumption) | (simp only [List.length_set, List.length_append, List.length_cons, List.length_nil, List.length_replicate]; omega)) only [go_sem, ↓reduceIte, Int.reduceLE, Int.reduceLT, Int.reduceToNat, Int.reduceNeg, Int.reduceAdd, Int.reduceSub, Int.reduceMul, Int.reduceEq, Int.reduceNe, Nat.reduceEqDiff, Nat.reduceAdd, Nat.reduceSub, Nat.reduceMul, Nat.reduceLT, Nat.reduceLeDiff, Nat.reduceBEq, Nat.reduceBNe, Try.results143, m0, h0, h4, h3, h5])
      | (((first | refine at_region ?_ | refine at_out ?_ | refine at_cond ?_); split) <;> first | (exfalso; omega; done) | simp (config := { maxSteps := 3000000 }) (disch := first | assumption | omega | exact VG.okg (by assumption) | (simp only [List.length_set, List.length_append, List.length_cons, List.length_nil, List.length_replicate]; omega)) only [go_sem, ↓reduceIte, Int.reduceLE, Int.reduceLT, Int.reduceToNat, Int.reduceNeg, Int.reduceAdd, Int.reduceSub, Int.reduceMul, Int.reduceEq, Int.reduceNe, Nat.reduceEqDiff, Nat.reduceAdd, Nat.reduceSub, Nat.reduceMul, Nat.reduceLT, Nat.reduceLeDiff, Nat.reduceBEq, Nat.reduceBNe, Try.results143, m0, h0, h4, h3, h5] | skip))
    refine ⟨_, ?_, ?_, f5.symm, rfl⟩
    · simp only [List.length_append, List.length_take, zI_len, List.length_drop]; omega
    · rw [f5, List.append_assoc, List.take_append_of_le_length (by simp; omega), List.take_take, Nat.min_self]; exact f6
  have r1 : ys.getD (k + j).toNat 0 = xs.getD (k + j).toNat 0 := by
    have := congrArg (fun l : List Int => l.getD 1 0) f7
    simp only [List.getD, List.getElem?_drop] at this
    rw [show (k + j - 1).toNat + 1 = (k + j).toNat by omega] at this
    exact this
  have r2 : ys.getD (k + j - 1).toNat 0 = xs.getD (k + j - 1).toNat 0 := getD_of_drop f7
  have hnx := ddS_next (l := xs) (i := (k + j).toNat) (by omega) (by omega)
  rw [show (k + j).toNat + 1 = (k + (j + 1)).toNat by omega, show (k + j).toNat - 1 = (k + j - 1).toNat by omega] at hnx
  have a1 : k.toNat + j.toNat = (k + j).toNat := by omega
  have a2 : k.toNat + (j - 1).toNat = (k + j - 1).toNat := by omega
  by_cases hd : xs.getD (k + j).toNat 0 = xs.getD (k + j - 1).toNat 0
  · rw [if_pos hd] at hnx
    repeat' (first
      | refine xw_seq ?_
      | refine xw_block ?_
      | (refine ite_two ?_ ?_ <;> intro _ <;> first | (exfalso; omega) | skip)
      | refine ord_split (by kernel_rfl) ?_
      | (refine xw_ret ?_ <;> try simp only [sq, bl, LQ])
      | ((first | refine xw_reg ?_ | refine xw_regd ?_ | refine xw_if ?_ | refine xw_skip ?_ | refine xw_exit ?_ | refine xw_label ?_ | refine post_ret ?_ | refine post_normal ?_ | refine postE_ret ?_ | refine postE_normal ?_) <;> simp (config := { maxSteps := 3000000 }) (disch := first | assumption | omega | exact VG.okg (by assumption) | (simp only [List.length_set, List.length_append, List.length_cons, List.length_nil, List.length_replicate]; omega)) only [go_sem, ↓reduceIte, Int.reduceLE, Int.reduceLT, Int.reduceToNat, Int.reduceNeg, Int.reduceAdd, Int.reduceSub, Int.reduceMul, Int.reduceEq, Int.reduceNe, Nat.reduceEqDiff, Nat.reduceAdd, Nat.reduceSub, Nat.reduceMul, Nat.reduceLT, Nat.reduceLeDiff, Nat.reduceBEq, Nat.reduceBNe, Try.results143, m0, h0, h4, h3, h5, a1, a2, r1, r2, hd])
      | (((first | refine at_region ?_ | refine at_out ?_ | refine at_cond ?_); split) <;> first | (exfalso; omega; done) | simp (config := { maxSteps := 3000000 }) (disch := first | assumption | omega | exact VG.okg (by assumption) | (simp only [List.length_set, List.length_append, List.length_cons, List.length_nil, List.length_replicate]; omega)) only [go_sem, ↓reduceIte, Int.reduceLE, Int.reduceLT, Int.reduceToNat, Int.reduceNeg, Int.reduceAdd, Int.reduceSub, Int.reduceMul, Int.reduceEq, Int.reduceNe, Nat.reduceEqDiff, Nat.reduceAdd, Nat.reduceSub, Nat.reduceMul, Nat.reduceLT, Nat.reduceLeDiff, Nat.reduceBEq, Nat.reduceBNe, Try.results143, m0, h0, h4, h3, h5, a1, a2, r1, r2, hd] | skip))
    refine ⟨f0, by omega, by omega, by omega, f4, by rw [hnx]; exact f5, by rw [hnx]; exact f6, ?_, by omega⟩
    rw [show k + (j + 1) - 1 = (k + j - 1) + 1 by omega]
    exact drop_succ_of (by omega) f7
  · rw [if_neg hd] at hnx
    repeat' (first
      | refine xw_seq ?_
      | refine xw_block ?_
      | (refine ite_two ?_ ?_ <;> intro _ <;> first | (exfalso; omega) | skip)
      | refine ord_split (by kernel_rfl) ?_
      | (refine xw_ret ?_ <;> try simp only [sq, bl, LQ])
      | ((first | refine xw_reg ?_ | refine xw_regd ?_ | refine xw_if ?_ | refine xw_skip ?_ | refine xw_exit ?_ | refine xw_label ?_ | refine post_ret ?_ | refine post_normal ?_ | refine postE_ret ?_ | refine postE_normal ?_) <;> simp (config := { maxSteps := 3000000 }) (disch := first | assumption | omega | exact VG.okg (by assumption) | (simp only [List.length_set, List.length_append, List.length_cons, List.length_nil, List.length_replicate]; omega)) only [go_sem, ↓reduceIte, Int.reduceLE, Int.reduceLT, Int.reduceToNat, Int.reduceNeg, Int.reduceAdd, Int.reduceSub, Int.reduceMul, Int.reduceEq, Int.reduceNe, Nat.reduceEqDiff, Nat.reduceAdd, Nat.reduceSub, Nat.reduceMul, Nat.reduceLT, Nat.reduceLeDiff, Nat.reduceBEq, Nat.reduceBNe, Try.results143, m0, h0, h4, h3, h5, a1, a2, r1, r2, hd])
      | (((first | refine at_region ?_ | refine at_out ?_ | refine at_cond ?_); split) <;> first | (exfalso; omega; done) | simp (config := { maxSteps := 3000000 }) (disch := first | assumption | omega | exact VG.okg (by assumption) | (simp only [List.length_set, List.length_append, List.length_cons, List.length_nil, List.length_replicate]; omega)) only [go_sem, ↓reduceIte, Int.reduceLE, Int.reduceLT, Int.reduceToNat, Int.reduceNeg, Int.reduceAdd, Int.reduceSub, Int.reduceMul, Int.reduceEq, Int.reduceNe, Nat.reduceEqDiff, Nat.reduceAdd, Nat.reduceSub, Nat.reduceMul, Nat.reduceLT, Nat.reduceLeDiff, Nat.reduceBEq, Nat.reduceBNe, Try.results143, m0, h0, h4, h3, h5, a1, a2, r1, r2, hd] | skip))
    refine ⟨by omega, by omega, by omega, by omega, f4, ?_, ?_, ?_, by omega⟩
    · rw [hnx, List.length_append, f5]; simp; omega
    · rw [take_set_int (by omega) (by omega), f6, hnx]
    · rw [drop_set_int (by omega) (by omega), show k + (j + 1) - 1 = (k + j - 1) + 1 by omega]
      exact drop_succ_of (by omega) f7
end Go.Proofs.Yteknfomddncboaa.X
