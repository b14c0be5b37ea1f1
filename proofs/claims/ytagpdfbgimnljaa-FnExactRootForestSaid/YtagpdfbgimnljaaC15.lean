/- What functions compute: distances as the reference has them; paths. -/
import Derived.Test.YtagpdfbgimnljaaC14
set_option linter.unusedSimpArgs false
set_option linter.unusedVariables false
set_option maxHeartbeats 2000000
namespace Go.Proofs.Ytagpdfbgimnljaa.X
open Go Go.Proofs

theorem c_l2From (n t : Int) (es : List (Int × Int)) (h : VG n es) (ht : 0 ≤ t ∧ t < n) : KP 193 [GL n es, I t] [] = some (.ref 2000 0 0 (dstL n es t).length, [], [.arr 0 1 ((dstL n es t).map encI)]) := by
  have hl := h.okg.len
  have hn16 := h.2.1
  have ho := h.okg.ok
  have hog := h.okg
  have hnd := h.nodup
  obtain ⟨hi1, hi2⟩ := Bfs.init (es := es) ht
  refine xw_call (fn := Try.f193) rfl Try.func193 rfl ⟨Nat.le_of_ble_eq_true rfl, rfl, rfl⟩ ?_
  repeat' (first
    | refine xw_seq ?_
    | refine xw_block ?_
    | (refine ite_two ?_ ?_ <;> intro _ <;> first | (exfalso; omega) | skip)
    | refine ord_split (by kernel_rfl) ?_
    | (refine xw_ret ?_ <;> try simp only [sq, bl, LQ])
    | ((first | refine xw_reg ?_ | refine xw_regd ?_ | refine xw_if ?_ | refine xw_skip ?_ | refine xw_exit ?_ | refine xw_label ?_ | refine post_ret ?_ | refine post_normal ?_ | refine postE_ret ?_ | refine postE_normal ?_) <;> simp (config := { maxSteps := 3000000 }) (disch := first | assumption | omega | exact VG.okg (by assumption) | (simp only [List.length_set, List.length_append, List.length_cons, List.length_nil, List.length_replicate]; omega)) only [go_sem, ↓reduceIte, Int.reduceLE, Int.reduceLT, Int.reduceToNat, Int.reduceNeg, Int.reduceAdd, Int.reduceSub, Int.reduceMul, Int.reduceEq, Int.reduceNe, Nat.reduceEqDiff, Nat.reduceAdd, Nat.reduceSub, Nat.reduceMul, Nat.reduceLT, Nat.reduceLeDiff, Nat.reduceBEq, Nat.reduceBNe, Try.results193])
    | (((first | refine at_region ?_ | refine at_out ?_ | refine at_cond ?_); split) <;> first | (exfalso; omega; done) | simp (config := { maxSteps := 3000000 }) (disch := first | assumption | omega | exact VG.okg (by assumption) | (simp only [List.length_set, List.length_append, List.length_cons, List.length_nil, List.length_replicate]; omega)) only [go_sem, ↓reduceIte, Int.reduceLE, Int.reduceLT, Int.reduceToNat, Int.reduceNeg, Int.reduceAdd, Int.reduceSub, Int.reduceMul, Int.reduceEq, Int.reduceNe, Nat.reduceEqDiff, Nat.reduceAdd, Nat.reduceSub, Nat.reduceMul, Nat.reduceLT, Nat.reduceLeDiff, Nat.reduceBEq, Nat.reduceBNe, Try.results193] | skip))
  refine xw_loopR (fun (x : Int × Nat × List Int) s => s.m 11 = some (.arr x.2.1 1 (x.2.2.map encI)) ∧ s.ρ 5 = .ref 11 x.2.1 0 x.2.2.length ∧ s.ρ 6 = I x.1 ∧ s.ρ 1 = I t ∧ s.ρ 2 = .ptr 2 0 0 0 ∧ s.m 2 = some (.box 0 [I n, LE es]) ∧
    0 ≤ x.1 ∧ x.1 ≤ n ∧ x.2.2.length = x.1.toNat ∧ x.2.2 = List.replicate x.1.toNat (-1)) (fun x => (n - x.1).toNat) (0, 0, []) ⟨rfl, rfl, rfl, rfl, rfl, rfl, by simp, by simp only; omega, rfl, rfl⟩ ?_
  rintro ⟨i, v, xs⟩ ⟨ρ, m⟩ ⟨m11, h5, h6, h1, h2, m2, g0, g1, g2, g3⟩
  simp only at m11 h5 h6 h1 h2 m2 g0 g1 g2 g3
  repeat' (first
    | refine xw_seq ?_
    | refine xw_block ?_
    | (refine ite_two ?_ ?_ <;> intro _ <;> first | (exfalso; omega) | skip)
    | refine ord_split (by kernel_rfl) ?_
    | (refine xw_ret ?_ <;> try simp only [sq, bl, LQ])
    | ((first | refine xw_reg ?_ | refine xw_regd ?_ | refine xw_if ?_ | refine xw_skip ?_ | refine xw_exit ?_ | refine xw_label ?_ | refine post_ret ?_ | refine post_normal ?_ | refine postE_ret ?_ | refine postE_normal ?_) <;> simp (config := { maxSteps := 3000000 }) (disch := first | assumption | omega | exact VG.okg (by assumption) | (simp only [List.length_set, List.length_append, List.length_cons, List.length_nil, List.length_replicate]; omega)) only [go_sem, ↓reduceIte, Int.reduceLE, Int.reduceLT, Int.reduceToNat, Int.reduceNeg, Int.reduceAdd, Int.reduceSub, Int.reduceMul, Int.reduceEq, Int.reduceNe, Nat.reduceEqDiff, Nat.reduceAdd, Nat.reduceSub, Nat.reduceMul, Nat.reduceLT, Nat.reduceLeDiff, Nat.reduceBEq, Nat.reduceBNe, Try.results193, m11, h5, h6, h1, h2, m2])
    | (((first | refine at_region ?_ | refine at_out ?_ | refine at_cond ?_); split) <;> first | (exfalso; omega; done) | simp (config := { maxSteps := 3000000 }) (disch := first | assumption | omega | exact VG.okg (by assumption) | (simp only [List.length_set, List.length_append, List.length_cons, List.length_nil, List.length_replicate]; omega)) only [go_sem, ↓reduceIte, Int.reduceLE, Int.reduceLT, Int.reduceToNat, Int.reduceNeg, Int.reduceAdd, Int.reduceSub, Int.reduceMul, Int.reduceEq, Int.reduceNe, Nat.reduceEqDiff, Nat.reduceAdd, Nat.reduceSub, Nat.reduceMul, Nat.reduceLT, Nat.reduceLeDiff, Nat.reduceBEq, Nat.reduceBNe, Try.results193, m11, h5, h6, h1, h2, m2] | skip))
  · refine ⟨by omega, by omega, by omega, ?_, by omega⟩
    rw [g3, show (i + 1).toNat = i.toNat + 1 by omega, List.replicate_succ']
  have hin : i.toNat = n.toNat := by omega
  rw [hin] at g2 g3
  subst g3
  refine xw_loopR (fun (y : Nat × List Int × List Int × List Int) s => s.m 11 = some (.arr v 1 (y.2.2.2.map encI)) ∧ s.ρ 5 = .ref 11 v 0 n.toNat ∧ s.m 25 = some (.arr y.1 1 ((y.2.1 ++ y.2.2.1).map encI)) ∧ s.ρ 7 = .ref 25 y.1 y.2.1.length y.2.2.1.length ∧
    s.ρ 2 = .ptr 2 0 0 0 ∧ s.m 2 = some (.box 0 [I n, LE es]) ∧ Bfs n es t y.2.2.2 y.2.2.1 ∧ Done n es y.2.2.2 (· ∈ y.2.2.1) ∧ y.2.1.length + y.2.2.1.length ≤ 1048576 ∧ y.2.1.length + y.2.2.1.length + und y.2.2.2 ≤ 100)
    (fun y => y.2.2.1.length + und y.2.2.2) (nv (m 25), [], [t], (List.replicate n.toNat (-1)).set t.toNat 0) ?_ ?_
  · have hu : und ((List.replicate n.toNat (-1)).set t.toNat 0) ≤ n.toNat := by
      unfold und
      exact Nat.le_trans (List.length_filter_le _ _) (by simp)
    refine ⟨by simp [upd], by simp [upd, h5], by simp [upd, encI], by simp [upd], by simp [upd, h2], by simp [upd, m2], hi1, hi2, by simp, by simp only [List.length_nil, List.length_cons]; omega⟩
  rintro ⟨w, pre, q, out⟩ ⟨ρ, m⟩ ⟨m1, h5, m25, h7, h2, m2, g0, g1, g2, g3⟩
  simp only at m1 h5 m25 h7 h2 m2 g0 g1 g2 g3
  cases q with
  | nil =>
    repeat' (first
      | refine xw_seq ?_
      | refine xw_block ?_
      | (refine ite_two ?_ ?_ <;> intro _ <;> first | (exfalso; omega) | skip)
      | refine ord_split (by kernel_rfl) ?_
      | (refine xw_ret ?_ <;> try simp only [sq, bl, LQ])
      | ((first | refine xw_reg ?_ | refine xw_regd ?_ | refine xw_if ?_ | refine xw_skip ?_ | refine xw_exit ?_ | refine xw_label ?_ | refine post_ret ?_ | refine post_normal ?_ | refine postE_ret ?_ | refine postE_normal ?_) <;> simp (config := { maxSteps := 3000000 }) (disch := first | assumption | omega | exact VG.okg (by assumption) | (simp only [List.length_set, List.length_append, List.length_cons, List.length_nil, List.length_replicate]; omega)) only [go_sem, ↓reduceIte, Int.reduceLE, Int.reduceLT, Int.reduceToNat, Int.reduceNeg, Int.reduceAdd, Int.reduceSub, Int.reduceMul, Int.reduceEq, Int.reduceNe, Nat.reduceEqDiff, Nat.reduceAdd, Nat.reduceSub, Nat.reduceMul, Nat.reduceLT, Nat.reduceLeDiff, Nat.reduceBEq, Nat.reduceBNe, Try.results193, m1, h5, m25, h7, h2, m2])
      | (((first | refine at_region ?_ | refine at_out ?_ | refine at_cond ?_); split) <;> first | (exfalso; omega; done) | simp (config := { maxSteps := 3000000 }) (disch := first | assumption | omega | exact VG.okg (by assumption) | (simp only [List.length_set, List.length_append, List.length_cons, List.length_nil, List.length_replicate]; omega)) only [go_sem, ↓reduceIte, Int.reduceLE, Int.reduceLT, Int.reduceToNat, Int.reduceNeg, Int.reduceAdd, Int.reduceSub, Int.reduceMul, Int.reduceEq, Int.reduceNe, Nat.reduceEqDiff, Nat.reduceAdd, Nat.reduceSub, Nat.reduceMul, Nat.reduceLT, Nat.reduceLeDiff, Nat.reduceBEq, Nat.reduceBNe, Try.results193, m1, h5, m25, h7, h2, m2] | skip))
    rw [g0.end ho g1]
    exact ⟨dstL_length.symm, rfl⟩
  | cons a q =>
    have hg := getD_len_append pre q a
    have hat := BfsAt.start g0 g1
    have hnb := c_l1Next n a es hog hnd
    have hlen := g0.len
    have ha := g0.que a (by simp)
    have hnbl : (nbS a es).length ≤ 40 := by have := alone_length a es; omega
    simp only [List.length_cons] at h7 g2 g3
    repeat' (first
      | refine xw_seq ?_
      | refine xw_block ?_
      | (refine ite_two ?_ ?_ <;> intro _ <;> first | (exfalso; omega) | skip)
      | refine ord_split (by kernel_rfl) ?_
      | (refine xw_ret ?_ <;> try simp only [sq, bl, LQ])
      | ((first | refine xw_reg ?_ | refine xw_regd ?_ | refine xw_if ?_ | refine xw_skip ?_ | refine xw_exit ?_ | refine xw_label ?_ | refine post_ret ?_ | refine post_normal ?_ | refine postE_ret ?_ | refine postE_normal ?_) <;> simp (config := { maxSteps := 3000000 }) (disch := first | assumption | omega | exact VG.okg (by assumption) | (simp only [List.length_set, List.length_append, List.length_cons, List.length_nil, List.length_replicate]; omega)) only [go_sem, ↓reduceIte, Int.reduceLE, Int.reduceLT, Int.reduceToNat, Int.reduceNeg, Int.reduceAdd, Int.reduceSub, Int.reduceMul, Int.reduceEq, Int.reduceNe, Nat.reduceEqDiff, Nat.reduceAdd, Nat.reduceSub, Nat.reduceMul, Nat.reduceLT, Nat.reduceLeDiff, Nat.reduceBEq, Nat.reduceBNe, Try.results193, m1, h5, m25, h7, h2, m2, hg, hnb])
      | (((first | refine at_region ?_ | refine at_out ?_ | refine at_cond ?_); split) <;> first | (exfalso; omega; done) | simp (config := { maxSteps := 3000000 }) (disch := first | assumption | omega | exact VG.okg (by assumption) | (simp only [List.length_set, List.length_append, List.length_cons, List.length_nil, List.length_replicate]; omega)) only [go_sem, ↓reduceIte, Int.reduceLE, Int.reduceLT, Int.reduceToNat, Int.reduceNeg, Int.reduceAdd, Int.reduceSub, Int.reduceMul, Int.reduceEq, Int.reduceNe, Nat.reduceEqDiff, Nat.reduceAdd, Nat.reduceSub, Nat.reduceMul, Nat.reduceLT, Nat.reduceLeDiff, Nat.reduceBEq, Nat.reduceBNe, Try.results193, m1, h5, m25, h7, h2, m2, hg, hnb] | skip))
    refine xw_loopR (fun (y : Int × Nat × List Int × List Int × List Int) s => s.m 11 = some (.arr v 1 (y.2.2.2.2.map encI)) ∧ s.ρ 5 = .ref 11 v 0 n.toNat ∧ s.m 25 = some (.arr y.2.1 1 ((y.2.2.1 ++ y.2.2.2.1).map encI)) ∧ s.ρ 7 = .ref 25 y.2.1 y.2.2.1.length y.2.2.2.1.length ∧
      s.ρ 2 = .ptr 2 0 0 0 ∧ s.m 2 = some (.box 0 [I n, LE es]) ∧ s.ρ 9 = LI (nbS a es) ∧ s.ρ 10 = I y.1 ∧ s.ρ 8 = I a ∧ 0 ≤ y.1 ∧ y.1 ≤ (nbS a es).length ∧ BfsAt n es t a y.1.toNat y.2.2.2.2 y.2.2.2.1 ∧
      y.2.2.1.length + y.2.2.2.1.length ≤ 1048576 ∧ y.2.2.1.length + y.2.2.2.1.length + und y.2.2.2.2 ≤ 100 ∧ y.2.2.2.1.length + und y.2.2.2.2 = q.length + und out)
      (fun y => ((nbS a es).length - y.1).toNat) (0, w, pre ++ [a], q, out) ?_ ?_
    · refine ⟨by simp [upd, m1], by simp [upd, h5], by simp [upd, m25], by simp [upd], by simp [upd, h2], by simp [upd, m2], by simp [upd], by simp [upd], by simp [upd], by simp, by simp, hat, ?_, ?_, rfl⟩
      · simp only [List.length_append, List.length_cons, List.length_nil]; omega
      · simp only [List.length_append, List.length_cons, List.length_nil]; omega
    rintro ⟨i, w', pr, q', ou⟩ ⟨ρ, m⟩ ⟨m1, h5, m25, h7, h2, m2, h9, h10, h8, f0, f1, f2, f3, f4, f5⟩
    simp only at m1 h5 m25 h7 h2 m2 h9 h10 h8 f0 f1 f2 f3 f4 f5
    have hol := f2.bfs.len
    by_cases hj : i < (nbS a es).length
    · have hadj := (mem_nbS ho).1 (getD_mem (d := 0) (show i.toNat < (nbS a es).length by omega))
      have hok := hadj.ok ho
      have hge : 0 ≤ ou.getD a.toNat 0 := f2.a0.2.2
      have hgu : ou.getD a.toNat 0 + und ou ≤ n - 1 := f2.bfs.top a ha.1 ha.2.1
      have hi1' : (i + 1).toNat = i.toNat + 1 := by omega
      repeat' (first
        | refine xw_seq ?_
        | refine xw_block ?_
        | (refine ite_two ?_ ?_ <;> intro _ <;> first | (exfalso; omega) | skip)
        | refine ord_split (by kernel_rfl) ?_
        | (refine xw_ret ?_ <;> try simp only [sq, bl, LQ])
        | ((first | refine xw_reg ?_ | refine xw_regd ?_ | refine xw_if ?_ | refine xw_skip ?_ | refine xw_exit ?_ | refine xw_label ?_ | refine post_ret ?_ | refine post_normal ?_ | refine postE_ret ?_ | refine postE_normal ?_) <;> simp (config := { maxSteps := 3000000 }) (disch := first | assumption | omega | exact VG.okg (by assumption) | (simp only [List.length_set, List.length_append, List.length_cons, List.length_nil, List.length_replicate]; omega)) only [go_sem, ↓reduceIte, Int.reduceLE, Int.reduceLT, Int.reduceToNat, Int.reduceNeg, Int.reduceAdd, Int.reduceSub, Int.reduceMul, Int.reduceEq, Int.reduceNe, Nat.reduceEqDiff, Nat.reduceAdd, Nat.reduceSub, Nat.reduceMul, Nat.reduceLT, Nat.reduceLeDiff, Nat.reduceBEq, Nat.reduceBNe, Try.results193, m1, h5, m25, h7, h2, m2, h9, h10, h8])
        | (((first | refine at_region ?_ | refine at_out ?_ | refine at_cond ?_); split) <;> first | (exfalso; omega; done) | simp (config := { maxSteps := 3000000 }) (disch := first | assumption | omega | exact VG.okg (by assumption) | (simp only [List.length_set, List.length_append, List.length_cons, List.length_nil, List.length_replicate]; omega)) only [go_sem, ↓reduceIte, Int.reduceLE, Int.reduceLT, Int.reduceToNat, Int.reduceNeg, Int.reduceAdd, Int.reduceSub, Int.reduceMul, Int.reduceEq, Int.reduceNe, Nat.reduceEqDiff, Nat.reduceAdd, Nat.reduceSub, Nat.reduceMul, Nat.reduceLT, Nat.reduceLeDiff, Nat.reduceBEq, Nat.reduceBNe, Try.results193, m1, h5, m25, h7, h2, m2, h9, h10, h8] | skip))
      · have hx : gI ou ((nbS a es).getD i.toNat 0) < 0 := by assumption
        obtain ⟨k1, k2⟩ := f2.find ho (by omega) hx
        have k3 : und (ou.set ((nbS a es).getD i.toNat 0).toNat (ou.getD a.toNat 0 + 1)) + 1 = und ou := k2
        refine ⟨i + 1, [], q' ++ [(nbS a es).getD i.toNat 0], by simp, rfl, by simp, rfl, by omega, by omega, by rw [hi1']; exact k1, ?_, ?_, ?_, by omega⟩
        all_goals simp only [List.length_append, List.length_cons, List.length_nil]
        all_goals omega
      · have hx : 0 ≤ gI ou ((nbS a es).getD i.toNat 0) := by unfold gI; omega
        exact ⟨i + 1, pr, q', rfl, rfl, rfl, rfl, by omega, by omega, by rw [hi1']; exact f2.skip ho (by omega) hx, by omega, by omega, by omega, by omega⟩
    · repeat' (first
        | refine xw_seq ?_
        | refine xw_block ?_
        | (refine ite_two ?_ ?_ <;> intro _ <;> first | (exfalso; omega) | skip)
        | refine ord_split (by kernel_rfl) ?_
        | (refine xw_ret ?_ <;> try simp only [sq, bl, LQ])
        | ((first | refine xw_reg ?_ | refine xw_regd ?_ | refine xw_if ?_ | refine xw_skip ?_ | refine xw_exit ?_ | refine xw_label ?_ | refine post_ret ?_ | refine post_normal ?_ | refine postE_ret ?_ | refine postE_normal ?_) <;> simp (config := { maxSteps := 3000000 }) (disch := first | assumption | omega | exact VG.okg (by assumption) | (simp only [List.length_set, List.length_append, List.length_cons, List.length_nil, List.length_replicate]; omega)) only [go_sem, ↓reduceIte, Int.reduceLE, Int.reduceLT, Int.reduceToNat, Int.reduceNeg, Int.reduceAdd, Int.reduceSub, Int.reduceMul, Int.reduceEq, Int.reduceNe, Nat.reduceEqDiff, Nat.reduceAdd, Nat.reduceSub, Nat.reduceMul, Nat.reduceLT, Nat.reduceLeDiff, Nat.reduceBEq, Nat.reduceBNe, Try.results193, m1, h5, m25, h7, h2, m2, h9, h10, h8])
        | (((first | refine at_region ?_ | refine at_out ?_ | refine at_cond ?_); split) <;> first | (exfalso; omega; done) | simp (config := { maxSteps := 3000000 }) (disch := first | assumption | omega | exact VG.okg (by assumption) | (simp only [List.length_set, List.length_append, List.length_cons, List.length_nil, List.length_replicate]; omega)) only [go_sem, ↓reduceIte, Int.reduceLE, Int.reduceLT, Int.reduceToNat, Int.reduceNeg, Int.reduceAdd, Int.reduceSub, Int.reduceMul, Int.reduceEq, Int.reduceNe, Nat.reduceEqDiff, Nat.reduceAdd, Nat.reduceSub, Nat.reduceMul, Nat.reduceLT, Nat.reduceLeDiff, Nat.reduceBEq, Nat.reduceBNe, Try.results193, m1, h5, m25, h7, h2, m2, h9, h10, h8] | skip))
      obtain ⟨k1, k2⟩ := f2.stop ho (by omega)
      exact ⟨pr, q', rfl, rfl, rfl, k1, k2, by omega, by omega, by omega⟩

theorem gpath_length (es : List (Int × Int)) (far : List Int) : ∀ (k : Nat) (x : Int), (gpath es far k x).length = k + 1
  | 0, _ => rfl
  | k + 1, x => by rw [gpath, List.length_cons, gpath_length es far k]
theorem gpath_head (es : List (Int × Int)) (far : List Int) (k : Nat) (x : Int) : gpath es far k x = [x] ++ (gpath es far k x).tail := by
  cases k <;> rfl
theorem dst_le {n : Int} {es : List (Int × Int)} {t x : Int} (ho : ∀ e ∈ es, okE n e) (hn : 0 ≤ n) : dst n es t x ≤ n := by
  by_cases hc : Conn es t x
  · have ho' : ∀ e ∈ es, okE ((n.toNat : Nat) : Int) e := fun e he => by have := ho e he; unfold okE at this ⊢; omega
    have := (dst_spec ho hc).2.2 _ (Rk.all ho' hc)
    omega
  · unfold dst; rw [if_neg hc]; omega

@[go_sem] theorem c_PathBetween (n x y : Int) (es : List (Int × Int)) (hl : es.length ≤ 1048576) : KP 63 [GL n es, I x, I y] [] =
    some (if VG n es ∧ 0 ≤ x ∧ x < n ∧ 0 ≤ y ∧ y < n ∧ Conn es x y then (.tup [.ref 2000 0 0 (pathL n es x y).length, B true], [], [.arr 0 1 ((pathL n es x y).map encI)]) else (.tup [.i .emp, B false], [], [])) := by
  by_cases h : VG n es ∧ 0 ≤ x ∧ x < n ∧ 0 ≤ y ∧ y < n ∧ Conn es x y
  rotate_left
  · rw [if_neg h]
    refine xw_call (fn := Try.f63) rfl Try.func63 rfl ⟨Nat.le_of_ble_eq_true rfl, rfl, rfl⟩ ?_
    repeat' (first
      | refine xw_seq ?_
      | refine xw_block ?_
      | (refine ite_two ?_ ?_ <;> intro _ <;> first | (exfalso; omega) | skip)
      | refine ord_split (by kernel_rfl) ?_
      | (refine xw_ret ?_ <;> try simp only [sq, bl, LQ])
      | ((first | refine xw_reg ?_ | refine xw_regd ?_ | refine xw_if ?_ | refine xw_skip ?_ | refine xw_exit ?_ | refine xw_label ?_ | refine post_ret ?_ | refine post_normal ?_ | refine postE_ret ?_ | refine postE_normal ?_) <;> simp (config := { maxSteps := 3000000 }) (disch := first | assumption | omega | exact VG.okg (by assumption) | (simp only [List.length_set, List.length_append, List.length_cons, List.length_nil, List.length_replicate]; omega)) only [go_sem, ↓reduceIte, Int.reduceLE, Int.reduceLT, Int.reduceToNat, Int.reduceNeg, Int.reduceAdd, Int.reduceSub, Int.reduceMul, Int.reduceEq, Int.reduceNe, Nat.reduceEqDiff, Nat.reduceAdd, Nat.reduceSub, Nat.reduceMul, Nat.reduceLT, Nat.reduceLeDiff, Nat.reduceBEq, Nat.reduceBNe, Try.results63])
      | (((first | refine at_region ?_ | refine at_out ?_ | refine at_cond ?_); split) <;> first | (exfalso; omega; done) | simp (config := { maxSteps := 3000000 }) (disch := first | assumption | omega | exact VG.okg (by assumption) | (simp only [List.length_set, List.length_append, List.length_cons, List.length_nil, List.length_replicate]; omega)) only [go_sem, ↓reduceIte, Int.reduceLE, Int.reduceLT, Int.reduceToNat, Int.reduceNeg, Int.reduceAdd, Int.reduceSub, Int.reduceMul, Int.reduceEq, Int.reduceNe, Nat.reduceEqDiff, Nat.reduceAdd, Nat.reduceSub, Nat.reduceMul, Nat.reduceLT, Nat.reduceLeDiff, Nat.reduceBEq, Nat.reduceBNe, Try.results63] | skip))
    all_goals grind
  rw [if_pos h]
  obtain ⟨hV, hx0, hx1, hy0, hy1, hc⟩ := h
  have ho := hV.okg.ok
  have hn16 := hV.2.1
  have hle := hV.okg.len
  have hfar := c_far n y es hV ⟨hy0, hy1⟩
  have hdl : (dstL n es y).length = n.toNat := dstL_length
  have hdx := dst_le (t := y) (x := x) ho (show 0 ≤ n by omega)
  refine xw_call (fn := Try.f63) rfl Try.func63 rfl ⟨Nat.le_of_ble_eq_true rfl, rfl, rfl⟩ ?_
  repeat' (first
    | refine xw_seq ?_
    | refine xw_block ?_
    | (refine ite_two ?_ ?_ <;> intro _ <;> first | (exfalso; omega) | skip)
    | refine ord_split (by kernel_rfl) ?_
    | (refine xw_ret ?_ <;> try simp only [sq, bl, LQ])
    | ((first | refine xw_reg ?_ | refine xw_regd ?_ | refine xw_if ?_ | refine xw_skip ?_ | refine xw_exit ?_ | refine xw_label ?_ | refine post_ret ?_ | refine post_normal ?_ | refine postE_ret ?_ | refine postE_normal ?_) <;> simp (config := { maxSteps := 3000000 }) (disch := first | assumption | omega | exact VG.okg (by assumption) | (simp only [List.length_set, List.length_append, List.length_cons, List.length_nil, List.length_replicate]; omega)) only [go_sem, ↓reduceIte, Int.reduceLE, Int.reduceLT, Int.reduceToNat, Int.reduceNeg, Int.reduceAdd, Int.reduceSub, Int.reduceMul, Int.reduceEq, Int.reduceNe, Nat.reduceEqDiff, Nat.reduceAdd, Nat.reduceSub, Nat.reduceMul, Nat.reduceLT, Nat.reduceLeDiff, Nat.reduceBEq, Nat.reduceBNe, Try.results63, hfar])
    | (((first | refine at_region ?_ | refine at_out ?_ | refine at_cond ?_); split) <;> first | (exfalso; omega; done) | simp (config := { maxSteps := 3000000 }) (disch := first | assumption | omega | exact VG.okg (by assumption) | (simp only [List.length_set, List.length_append, List.length_cons, List.length_nil, List.length_replicate]; omega)) only [go_sem, ↓reduceIte, Int.reduceLE, Int.reduceLT, Int.reduceToNat, Int.reduceNeg, Int.reduceAdd, Int.reduceSub, Int.reduceMul, Int.reduceEq, Int.reduceNe, Nat.reduceEqDiff, Nat.reduceAdd, Nat.reduceSub, Nat.reduceMul, Nat.reduceLT, Nat.reduceLeDiff, Nat.reduceBEq, Nat.reduceBNe, Try.results63, hfar] | skip))
  refine xw_loopR (fun (u : Int × Nat × List Int) s => s.m 18 = some (.arr u.2.1 1 (u.2.2.map encI)) ∧ s.ρ 8 = .ref 18 u.2.1 0 u.2.2.length ∧ s.ρ 1 = I u.1 ∧ s.ρ 2 = I y ∧ s.ρ 9 = LI (dstL n es y) ∧ s.ρ 3 = .ptr 3 0 0 0 ∧ s.m 3 = some (.box 0 [I n, LE es]) ∧
    0 ≤ u.1 ∧ u.1 < n ∧ Conn es y u.1 ∧ (u.2.2.length : Int) + dst n es y u.1 = dst n es y x + 1 ∧ pathL n es x y = u.2.2 ++ (gpath es (dstL n es y) (dst n es y u.1).toNat u.1).tail) (fun u => (dst n es y u.1).toNat) (x, 0, [x]) ?_ ?_
  · refine ⟨by simp [upd, encI], by simp [upd], by simp [upd], by simp [upd], by simp [upd], by simp [upd], by simp [upd], hx0, hx1, hc.symm, by simp; omega, ?_⟩
    exact gpath_head ..
  rintro ⟨z, w, xs⟩ ⟨ρ, m⟩ ⟨m18, h8, h1, h2, h9, h3, m3, g0, g1, g2, g3, g4⟩
  simp only at m18 h8 h1 h2 h9 h3 m3 g0 g1 g2 g3 g4
  have hd0 := (dst_spec ho g2).1
  have hnb := c_neighbors n z es (by omega)
  have hnbl : (nbS z es).length ≤ 40 := by have := alone_length z es; omega
  by_cases hzy : z = y
  · subst hzy
    have h0 := dst_self (t := z) ho (show 0 ≤ n by omega)
    rw [h0] at g4
    repeat' (first
      | refine xw_seq ?_
      | refine xw_block ?_
      | (refine ite_two ?_ ?_ <;> intro _ <;> first | (exfalso; omega) | skip)
      | refine ord_split (by kernel_rfl) ?_
      | (refine xw_ret ?_ <;> try simp only [sq, bl, LQ])
      | ((first | refine xw_reg ?_ | refine xw_regd ?_ | refine xw_if ?_ | refine xw_skip ?_ | refine xw_exit ?_ | refine xw_label ?_ | refine post_ret ?_ | refine post_normal ?_ | refine postE_ret ?_ | refine postE_normal ?_) <;> simp (config := { maxSteps := 3000000 }) (disch := first | assumption | omega | exact VG.okg (by assumption) | (simp only [List.length_set, List.length_append, List.length_cons, List.length_nil, List.length_replicate]; omega)) only [go_sem, ↓reduceIte, Int.reduceLE, Int.reduceLT, Int.reduceToNat, Int.reduceNeg, Int.reduceAdd, Int.reduceSub, Int.reduceMul, Int.reduceEq, Int.reduceNe, Nat.reduceEqDiff, Nat.reduceAdd, Nat.reduceSub, Nat.reduceMul, Nat.reduceLT, Nat.reduceLeDiff, Nat.reduceBEq, Nat.reduceBNe, Try.results63, m18, h8, h1, h2, h9, h3, m3])
      | (((first | refine at_region ?_ | refine at_out ?_ | refine at_cond ?_); split) <;> first | (exfalso; omega; done) | simp (config := { maxSteps := 3000000 }) (disch := first | assumption | omega | exact VG.okg (by assumption) | (simp only [List.length_set, List.length_append, List.length_cons, List.length_nil, List.length_replicate]; omega)) only [go_sem, ↓reduceIte, Int.reduceLE, Int.reduceLT, Int.reduceToNat, Int.reduceNeg, Int.reduceAdd, Int.reduceSub, Int.reduceMul, Int.reduceEq, Int.reduceNe, Nat.reduceEqDiff, Nat.reduceAdd, Nat.reduceSub, Nat.reduceMul, Nat.reduceLT, Nat.reduceLeDiff, Nat.reduceBEq, Nat.reduceBNe, Try.results63, m18, h8, h1, h2, h9, h3, m3] | skip))
    have e1 : pathL n es x z = xs := by rw [g4]; simp [gpath]
    rw [e1]
    exact ⟨rfl, rfl⟩
  have hne : dst n es y z ≠ 0 := fun h => hzy (dst_zero ho g2 h)
  obtain ⟨s1, s2, s3, s4⟩ := nxtN_spec ho (show 0 ≤ n by omega) g2 hne
  have hgz : (dstL n es y).getD z.toNat 0 = dst n es y z := dstL_get g0 g1
  have hlez := dst_le (t := y) (x := z) ho (show 0 ≤ n by omega)
  repeat' (first
    | refine xw_seq ?_
    | refine xw_block ?_
    | (refine ite_two ?_ ?_ <;> intro _ <;> first | (exfalso; omega) | skip)
    | refine ord_split (by kernel_rfl) ?_
    | (refine xw_ret ?_ <;> try simp only [sq, bl, LQ])
    | ((first | refine xw_reg ?_ | refine xw_regd ?_ | refine xw_if ?_ | refine xw_skip ?_ | refine xw_exit ?_ | refine xw_label ?_ | refine post_ret ?_ | refine post_normal ?_ | refine postE_ret ?_ | refine postE_normal ?_) <;> simp (config := { maxSteps := 3000000 }) (disch := first | assumption | omega | exact VG.okg (by assumption) | (simp only [List.length_set, List.length_append, List.length_cons, List.length_nil, List.length_replicate]; omega)) only [go_sem, ↓reduceIte, Int.reduceLE, Int.reduceLT, Int.reduceToNat, Int.reduceNeg, Int.reduceAdd, Int.reduceSub, Int.reduceMul, Int.reduceEq, Int.reduceNe, Nat.reduceEqDiff, Nat.reduceAdd, Nat.reduceSub, Nat.reduceMul, Nat.reduceLT, Nat.reduceLeDiff, Nat.reduceBEq, Nat.reduceBNe, Try.results63, m18, h8, h1, h2, h9, h3, m3, hnb])
    | (((first | refine at_region ?_ | refine at_out ?_ | refine at_cond ?_); split) <;> first | (exfalso; omega; done) | simp (config := { maxSteps := 3000000 }) (disch := first | assumption | omega | exact VG.okg (by assumption) | (simp only [List.length_set, List.length_append, List.length_cons, List.length_nil, List.length_replicate]; omega)) only [go_sem, ↓reduceIte, Int.reduceLE, Int.reduceLT, Int.reduceToNat, Int.reduceNeg, Int.reduceAdd, Int.reduceSub, Int.reduceMul, Int.reduceEq, Int.reduceNe, Nat.reduceEqDiff, Nat.reduceAdd, Nat.reduceSub, Nat.reduceMul, Nat.reduceLT, Nat.reduceLeDiff, Nat.reduceBEq, Nat.reduceBNe, Try.results63, m18, h8, h1, h2, h9, h3, m3, hnb] | skip))
  refine xw_loopR (fun (i : Int) s => s.m 18 = some (.arr w 1 (xs.map encI)) ∧ s.ρ 8 = .ref 18 w 0 xs.length ∧ s.ρ 1 = I z ∧ s.ρ 2 = I y ∧ s.ρ 9 = LI (dstL n es y) ∧ s.ρ 3 = .ptr 3 0 0 0 ∧ s.m 3 = some (.box 0 [I n, LE es]) ∧
    s.ρ 27 = LI (nbS z es) ∧ s.ρ 28 = I (nbS z es).length ∧ s.ρ 29 = I i ∧ 0 ≤ i ∧ i ≤ (nbS z es).length ∧ ∀ e ∈ (nbS z es).take i.toNat, decide (gI (dstL n es y) e = gI (dstL n es y) z - 1) = false) (fun i => ((nbS z es).length - i).toNat) 0
    ⟨by simp [upd, m18], by simp [upd, h8], by simp [upd, h1], by simp [upd, h2], by simp [upd, h9], by simp [upd, h3], by simp [upd, m3], by simp [upd], by simp [upd], by simp [upd], by simp, by simp, by simp⟩ ?_
  rintro i ⟨ρ, m⟩ ⟨m18, h8, h1, h2, h9, h3, m3, h27, h28, h29, f0, f1, f2⟩
  simp only at m18 h8 h1 h2 h9 h3 m3 h27 h28 h29 f0 f1 f2
  by_cases hj : i < (nbS z es).length
  · have hadj := (mem_nbS ho).1 (getD_mem (d := 0) (show i.toNat < (nbS z es).length by omega))
    have hok := hadj.ok ho
    have hgi : (dstL n es y).getD ((nbS z es).getD i.toNat 0).toNat 0 = dst n es y ((nbS z es).getD i.toNat 0) := dstL_get (by omega) (by omega)
    repeat' (first
      | refine xw_seq ?_
      | refine xw_block ?_
      | (refine ite_two ?_ ?_ <;> intro _ <;> first | (exfalso; omega) | skip)
      | refine ord_split (by kernel_rfl) ?_
      | (refine xw_ret ?_ <;> try simp only [sq, bl, LQ])
      | ((first | refine xw_reg ?_ | refine xw_regd ?_ | refine xw_if ?_ | refine xw_skip ?_ | refine xw_exit ?_ | refine xw_label ?_ | refine post_ret ?_ | refine post_normal ?_ | refine postE_ret ?_ | refine postE_normal ?_) <;> simp (config := { maxSteps := 3000000 }) (disch := first | assumption | omega | exact VG.okg (by assumption) | (simp only [List.length_set, List.length_append, List.length_cons, List.length_nil, List.length_replicate]; omega)) only [go_sem, ↓reduceIte, Int.reduceLE, Int.reduceLT, Int.reduceToNat, Int.reduceNeg, Int.reduceAdd, Int.reduceSub, Int.reduceMul, Int.reduceEq, Int.reduceNe, Nat.reduceEqDiff, Nat.reduceAdd, Nat.reduceSub, Nat.reduceMul, Nat.reduceLT, Nat.reduceLeDiff, Nat.reduceBEq, Nat.reduceBNe, Try.results63, m18, h8, h1, h2, h9, h3, m3, h27, h28, h29, hgz])
      | (((first | refine at_region ?_ | refine at_out ?_ | refine at_cond ?_); split) <;> first | (exfalso; omega; done) | simp (config := { maxSteps := 3000000 }) (disch := first | assumption | omega | exact VG.okg (by assumption) | (simp only [List.length_set, List.length_append, List.length_cons, List.length_nil, List.length_replicate]; omega)) only [go_sem, ↓reduceIte, Int.reduceLE, Int.reduceLT, Int.reduceToNat, Int.reduceNeg, Int.reduceAdd, Int.reduceSub, Int.reduceMul, Int.reduceEq, Int.reduceNe, Nat.reduceEqDiff, Nat.reduceAdd, Nat.reduceSub, Nat.reduceMul, Nat.reduceLT, Nat.reduceLeDiff, Nat.reduceBEq, Nat.reduceBNe, Try.results63, m18, h8, h1, h2, h9, h3, m3, h27, h28, h29, hgz] | skip))
    · have hq : (dstL n es y).getD ((nbS z es).getD i.toNat 0).toNat 0 = dst n es y z - 1 := by assumption
      have hfi := find_at (p := fun e => decide (gI (dstL n es y) e = gI (dstL n es y) z - 1)) (show i.toNat < (nbS z es).length by omega) (by simp only [gI, hq, hgz, decide_eq_true_eq]) f2
      have hnx := s3 _ hfi
      rw [hgi] at hq
      refine ⟨by omega, by omega, g2.step hadj, by omega, ?_, by omega⟩
      have hk : (dst n es y z).toNat = (dst n es y ((nbS z es).getD i.toNat 0)).toNat + 1 := by omega
      rw [g4, hk, gpath, List.tail_cons, hnx, List.append_assoc, ← gpath_head]
    · refine ⟨by omega, by omega, ?_, by omega⟩
      rw [take_int 0 f0 hj]
      intro e he
      rcases List.mem_append.1 he with he | he
      · have := f2 e he
        simpa only [gI, hgz, decide_eq_false_iff_not] using this
      · rw [List.mem_singleton.1 he]; assumption
  · rw [take_all (by omega)] at f2
    obtain ⟨u, hu⟩ := s4
    have := List.find?_some hu
    rw [f2 u (List.mem_of_find?_eq_some hu)] at this
    cases this

theorem c_l2Path (n x y : Int) (es : List (Int × Int)) (h : VG n es ∧ 0 ≤ x ∧ x < n ∧ 0 ≤ y ∧ y < n ∧ Conn es x y) : KP 149 [GL n es, I x, I y] [] =
    some (.ref 2000 0 0 (pathL n es x y).length, [], [.arr 0 1 ((pathL n es x y).map encI)]) := by
  obtain ⟨hV, hx0, hx1, hy0, hy1, hc⟩ := h
  have ho := hV.okg.ok
  have hog := hV.okg
  have hnd := hV.nodup
  have hn16 := hV.2.1
  have hle := hV.okg.len
  have hfar := c_l2From n y es hV ⟨hy0, hy1⟩
  have hdl : (dstL n es y).length = n.toNat := dstL_length
  have hdx := dst_le (t := y) (x := x) ho (show 0 ≤ n by omega)
  refine xw_call (fn := Try.f149) rfl Try.func149 rfl ⟨Nat.le_of_ble_eq_true rfl, rfl, rfl⟩ ?_
  repeat' (first
    | refine xw_seq ?_
    | refine xw_block ?_
    | (refine ite_two ?_ ?_ <;> intro _ <;> first | (exfalso; omega) | skip)
    | refine ord_split (by kernel_rfl) ?_
    | (refine xw_ret ?_ <;> try simp only [sq, bl, LQ])
    | ((first | refine xw_reg ?_ | refine xw_regd ?_ | refine xw_if ?_ | refine xw_skip ?_ | refine xw_exit ?_ | refine xw_label ?_ | refine post_ret ?_ | refine post_normal ?_ | refine postE_ret ?_ | refine postE_normal ?_) <;> simp (config := { maxSteps := 3000000 }) (disch := first | assumption | omega | exact VG.okg (by assumption) | (simp only [List.length_set, List.length_append, List.length_cons, List.length_nil, List.length_replicate]; omega)) only [go_sem, ↓reduceIte, Int.reduceLE, Int.reduceLT, Int.reduceToNat, Int.reduceNeg, Int.reduceAdd, Int.reduceSub, Int.reduceMul, Int.reduceEq, Int.reduceNe, Nat.reduceEqDiff, Nat.reduceAdd, Nat.reduceSub, Nat.reduceMul, Nat.reduceLT, Nat.reduceLeDiff, Nat.reduceBEq, Nat.reduceBNe, Try.results149, hfar])
    | (((first | refine at_region ?_ | refine at_out ?_ | refine at_cond ?_); split) <;> first | (exfalso; omega; done) | simp (config := { maxSteps := 3000000 }) (disch := first | assumption | omega | exact VG.okg (by assumption) | (simp only [List.length_set, List.length_append, List.length_cons, List.length_nil, List.length_replicate]; omega)) only [go_sem, ↓reduceIte, Int.reduceLE, Int.reduceLT, Int.reduceToNat, Int.reduceNeg, Int.reduceAdd, Int.reduceSub, Int.reduceMul, Int.reduceEq, Int.reduceNe, Nat.reduceEqDiff, Nat.reduceAdd, Nat.reduceSub, Nat.reduceMul, Nat.reduceLT, Nat.reduceLeDiff, Nat.reduceBEq, Nat.reduceBNe, Try.results149, hfar] | skip))
  refine xw_loopR (fun (u : Int × Nat × List Int) s => s.m 15 = some (.arr u.2.1 1 (u.2.2.map encI)) ∧ s.ρ 8 = .ref 15 u.2.1 0 u.2.2.length ∧ s.ρ 9 = I u.1 ∧ s.ρ 2 = I y ∧ s.ρ 7 = LI (dstL n es y) ∧ s.ρ 3 = .ptr 3 0 0 0 ∧ s.m 3 = some (.box 0 [I n, LE es]) ∧
    0 ≤ u.1 ∧ u.1 < n ∧ Conn es y u.1 ∧ (u.2.2.length : Int) + dst n es y u.1 = dst n es y x ∧ pathL n es x y = u.2.2 ++ gpath es (dstL n es y) (dst n es y u.1).toNat u.1) (fun u => (dst n es y u.1).toNat) (x, 0, []) ?_ ?_
  · exact ⟨rfl, rfl, rfl, rfl, rfl, rfl, rfl, hx0, hx1, hc.symm, by simp, rfl⟩
  rintro ⟨z, w, xs⟩ ⟨ρ, m⟩ ⟨m15, h8, h9, h2, h7, h3, m3, g0, g1, g2, g3, g4⟩
  simp only at m15 h8 h9 h2 h7 h3 m3 g0 g1 g2 g3 g4
  have hd0 := (dst_spec ho g2).1
  have hnb := c_l1Next n z es hog hnd
  have hnbl : (nbS z es).length ≤ 40 := by have := alone_length z es; omega
  have hgz : (dstL n es y).getD z.toNat 0 = dst n es y z := dstL_get g0 g1
  have hlez := dst_le (t := y) (x := z) ho (show 0 ≤ n by omega)
  by_cases h0 : dst n es y z = 0
  · have := dst_zero ho g2 h0
    subst this
    repeat' (first
      | refine xw_seq ?_
      | refine xw_block ?_
      | (refine ite_two ?_ ?_ <;> intro _ <;> first | (exfalso; omega) | skip)
      | refine ord_split (by kernel_rfl) ?_
      | (refine xw_ret ?_ <;> try simp only [sq, bl, LQ])
      | ((first | refine xw_reg ?_ | refine xw_regd ?_ | refine xw_if ?_ | refine xw_skip ?_ | refine xw_exit ?_ | refine xw_label ?_ | refine post_ret ?_ | refine post_normal ?_ | refine postE_ret ?_ | refine postE_normal ?_) <;> simp (config := { maxSteps := 3000000 }) (disch := first | assumption | omega | exact VG.okg (by assumption) | (simp only [List.length_set, List.length_append, List.length_cons, List.length_nil, List.length_replicate]; omega)) only [go_sem, ↓reduceIte, Int.reduceLE, Int.reduceLT, Int.reduceToNat, Int.reduceNeg, Int.reduceAdd, Int.reduceSub, Int.reduceMul, Int.reduceEq, Int.reduceNe, Nat.reduceEqDiff, Nat.reduceAdd, Nat.reduceSub, Nat.reduceMul, Nat.reduceLT, Nat.reduceLeDiff, Nat.reduceBEq, Nat.reduceBNe, Try.results149, m15, h8, h9, h2, h7, h3, m3, hgz])
      | (((first | refine at_region ?_ | refine at_out ?_ | refine at_cond ?_); split) <;> first | (exfalso; omega; done) | simp (config := { maxSteps := 3000000 }) (disch := first | assumption | omega | exact VG.okg (by assumption) | (simp only [List.length_set, List.length_append, List.length_cons, List.length_nil, List.length_replicate]; omega)) only [go_sem, ↓reduceIte, Int.reduceLE, Int.reduceLT, Int.reduceToNat, Int.reduceNeg, Int.reduceAdd, Int.reduceSub, Int.reduceMul, Int.reduceEq, Int.reduceNe, Nat.reduceEqDiff, Nat.reduceAdd, Nat.reduceSub, Nat.reduceMul, Nat.reduceLT, Nat.reduceLeDiff, Nat.reduceBEq, Nat.reduceBNe, Try.results149, m15, h8, h9, h2, h7, h3, m3, hgz] | skip))
    have e1 : pathL n es x z = xs ++ [z] := by rw [g4, h0]; rfl
    rw [e1]
    simp
  obtain ⟨s1, s2, s3, s4⟩ := nxtN_spec ho (show 0 ≤ n by omega) g2 h0
  repeat' (first
    | refine xw_seq ?_
    | refine xw_block ?_
    | (refine ite_two ?_ ?_ <;> intro _ <;> first | (exfalso; omega) | skip)
    | refine ord_split (by kernel_rfl) ?_
    | (refine xw_ret ?_ <;> try simp only [sq, bl, LQ])
    | ((first | refine xw_reg ?_ | refine xw_regd ?_ | refine xw_if ?_ | refine xw_skip ?_ | refine xw_exit ?_ | refine xw_label ?_ | refine post_ret ?_ | refine post_normal ?_ | refine postE_ret ?_ | refine postE_normal ?_) <;> simp (config := { maxSteps := 3000000 }) (disch := first | assumption | omega | exact VG.okg (by assumption) | (simp only [List.length_set, List.length_append, List.length_cons, List.length_nil, List.length_replicate]; omega)) only [go_sem, ↓reduceIte, Int.reduceLE, Int.reduceLT, Int.reduceToNat, Int.reduceNeg, Int.reduceAdd, Int.reduceSub, Int.reduceMul, Int.reduceEq, Int.reduceNe, Nat.reduceEqDiff, Nat.reduceAdd, Nat.reduceSub, Nat.reduceMul, Nat.reduceLT, Nat.reduceLeDiff, Nat.reduceBEq, Nat.reduceBNe, Try.results149, m15, h8, h9, h2, h7, h3, m3, hgz, hnb])
    | (((first | refine at_region ?_ | refine at_out ?_ | refine at_cond ?_); split) <;> first | (exfalso; omega; done) | simp (config := { maxSteps := 3000000 }) (disch := first | assumption | omega | exact VG.okg (by assumption) | (simp only [List.length_set, List.length_append, List.length_cons, List.length_nil, List.length_replicate]; omega)) only [go_sem, ↓reduceIte, Int.reduceLE, Int.reduceLT, Int.reduceToNat, Int.reduceNeg, Int.reduceAdd, Int.reduceSub, Int.reduceMul, Int.reduceEq, Int.reduceNe, Nat.reduceEqDiff, Nat.reduceAdd, Nat.reduceSub, Nat.reduceMul, Nat.reduceLT, Nat.reduceLeDiff, Nat.reduceBEq, Nat.reduceBNe, Try.results149, m15, h8, h9, h2, h7, h3, m3, hgz, hnb] | skip))
  refine xw_loopR (fun (i : Int) s => s.m 15 = some (.arr (w + 1) 1 ((xs ++ [z]).map encI)) ∧ s.ρ 8 = .ref 15 (w + 1) 0 (xs.length + 1) ∧ s.ρ 9 = I z ∧ s.ρ 2 = I y ∧ s.ρ 7 = LI (dstL n es y) ∧ s.ρ 3 = .ptr 3 0 0 0 ∧ s.m 3 = some (.box 0 [I n, LE es]) ∧
    s.ρ 10 = LI (nbS z es) ∧ s.ρ 11 = I i ∧ 0 ≤ i ∧ i ≤ (nbS z es).length ∧ ∀ e ∈ (nbS z es).take i.toNat, decide (gI (dstL n es y) e = gI (dstL n es y) z - 1) = false) (fun i => ((nbS z es).length - i).toNat) 0
    ⟨by simp [upd], by simp [upd], by simp [upd, h9], by simp [upd, h2], by simp [upd, h7], by simp [upd, h3], by simp [upd, m3], by simp [upd], by simp [upd], by simp, by simp, by simp⟩ ?_
  rintro i ⟨ρ, m⟩ ⟨m15, h8, h9, h2, h7, h3, m3, h10, h11, f0, f1, f2⟩
  simp only at m15 h8 h9 h2 h7 h3 m3 h10 h11 f0 f1 f2
  by_cases hj : i < (nbS z es).length
  · have hadj := (mem_nbS ho).1 (getD_mem (d := 0) (show i.toNat < (nbS z es).length by omega))
    have hok := hadj.ok ho
    have hgi : (dstL n es y).getD ((nbS z es).getD i.toNat 0).toNat 0 = dst n es y ((nbS z es).getD i.toNat 0) := dstL_get (by omega) (by omega)
    repeat' (first
      | refine xw_seq ?_
      | refine xw_block ?_
      | (refine ite_two ?_ ?_ <;> intro _ <;> first | (exfalso; omega) | skip)
      | refine ord_split (by kernel_rfl) ?_
      | (refine xw_ret ?_ <;> try simp only [sq, bl, LQ])
      | ((first | refine xw_reg ?_ | refine xw_regd ?_ | refine xw_if ?_ | refine xw_skip ?_ | refine xw_exit ?_ | refine xw_label ?_ | refine post_ret ?_ | refine post_normal ?_ | refine postE_ret ?_ | refine postE_normal ?_) <;> simp (config := { maxSteps := 3000000 }) (disch := first | assumption | omega | exact VG.okg (by assumption) | (simp only [List.length_set, List.length_append, List.length_cons, List.length_nil, List.length_replicate]; omega)) only [go_sem, ↓reduceIte, Int.reduceLE, Int.reduceLT, Int.reduceToNat, Int.reduceNeg, Int.reduceAdd, Int.reduceSub, Int.reduceMul, Int.reduceEq, Int.reduceNe, Nat.reduceEqDiff, Nat.reduceAdd, Nat.reduceSub, Nat.reduceMul, Nat.reduceLT, Nat.reduceLeDiff, Nat.reduceBEq, Nat.reduceBNe, Try.results149, m15, h8, h9, h2, h7, h3, m3, h10, h11, hgz])
      | (((first | refine at_region ?_ | refine at_out ?_ | refine at_cond ?_); split) <;> first | (exfalso; omega; done) | simp (config := { maxSteps := 3000000 }) (disch := first | assumption | omega | exact VG.okg (by assumption) | (simp only [List.length_set, List.length_append, List.length_cons, List.length_nil, List.length_replicate]; omega)) only [go_sem, ↓reduceIte, Int.reduceLE, Int.reduceLT, Int.reduceToNat, Int.reduceNeg, Int.reduceAdd, Int.reduceSub, Int.reduceMul, Int.reduceEq, Int.reduceNe, Nat.reduceEqDiff, Nat.reduceAdd, Nat.reduceSub, Nat.reduceMul, Nat.reduceLT, Nat.reduceLeDiff, Nat.reduceBEq, Nat.reduceBNe, Try.results149, m15, h8, h9, h2, h7, h3, m3, h10, h11, hgz] | skip))
    · have hq : (dstL n es y).getD ((nbS z es).getD i.toNat 0).toNat 0 = dst n es y z - 1 := by assumption
      have hfi := find_at (p := fun e => decide (gI (dstL n es y) e = gI (dstL n es y) z - 1)) (show i.toNat < (nbS z es).length by omega) (by simp only [gI, hq, hgz, decide_eq_true_eq]) f2
      have hnx := s3 _ hfi
      rw [hgi] at hq
      have hk : (dst n es y z).toNat = (dst n es y ((nbS z es).getD i.toNat 0)).toNat + 1 := by omega
      refine ⟨by omega, by omega, g2.step hadj, by omega, ?_, by omega⟩
      rw [g4, hk, gpath, hnx, List.append_assoc]; rfl
    · refine ⟨by omega, by omega, ?_, by omega⟩
      rw [take_int 0 f0 hj]
      intro e he
      rcases List.mem_append.1 he with he | he
      · have := f2 e he
        simpa only [gI, hgz, decide_eq_false_iff_not] using this
      · rw [List.mem_singleton.1 he]; assumption
  · rw [take_all (by omega)] at f2
    obtain ⟨u, hu⟩ := s4
    have := List.find?_some hu
    rw [f2 u (List.mem_of_find?_eq_some hu)] at this
    cases this

end Go.Proofs.Ytagpdfbgimnljaa.X