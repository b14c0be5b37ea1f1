/- What functions compute: blocks. -/
import Derived.Test.YtdjdgnabcecdlaaGreatDoorKAH
import Derived.Test.YtdjdgnabcecdlaaGreatDoorM16
set_option linter.unusedSimpArgs false
set_option linter.unusedVariables false
set_option maxHeartbeats 8000000
namespace Go.Proofs.YtdjdgnabcecdlaaGreatDoor.X
open Go Go.Proofs
def comP : Option (Int × Int × Int) → PV
  | some (v, x, y) => .tup [I v, I x, I y, B true]
  | none => .tup [I 0, I 0, I 0, B false]
theorem c_common (a b c d : Int) : KP 167 [PE a b, PE c d] [] = some (comP (comV (a, b) (c, d)), [], []) := by
  unfold comV
  simp only
  by_cases h1 : a = c
  · rw [if_pos h1]
    refine xw_call (fn := Tryz.f167) rfl Tryz.func167 rfl ⟨Nat.le_of_ble_eq_true rfl, rfl, rfl⟩ ?_
    repeat' (first
      | refine xw_seq ?_
      | refine xw_block ?_
      | (refine ite_two ?_ ?_ <;> intro _ <;> first | (exfalso; omega) | skip)
      | refine ord_split (by kernel_rfl) ?_
      | (refine xw_ret ?_ <;> try simp only [sq, bl, LQ])
      | ((first | refine xw_reg ?_ | refine xw_regd ?_ | refine xw_if ?_ | refine xw_skip ?_ | refine xw_exit ?_ | refine xw_label ?_ | refine post_ret ?_ | refine post_normal ?_ | refine postE_ret ?_ | refine postE_normal ?_ | (((first | refine at_region ?_ | refine at_out ?_ | refine at_cond ?_); split) <;> first | (exfalso; omega; done) | skip)) <;> try simp (config := { maxSteps := 3000000 }) (disch := first | assumption | omega | exact VG.okg (by assumption) | (simp only [List.length_set, List.length_append, List.length_cons, List.length_nil, List.length_replicate]; omega)) only [go_sem, ↓reduceIte, Int.reduceLE, Int.reduceLT, Int.reduceToNat, Int.reduceNeg, Int.reduceAdd, Int.reduceSub, Int.reduceMul, Int.reduceEq, Int.reduceNe, Nat.reduceEqDiff, Nat.reduceAdd, Nat.reduceSub, Nat.reduceMul, Nat.reduceLT, Nat.reduceLeDiff, Nat.reduceBEq, Nat.reduceBNe, UInt8.reduceToNat, Tryz.results167]))
    rfl
  rw [if_neg h1]
  by_cases h2 : a = d
  · rw [if_pos h2]
    refine xw_call (fn := Tryz.f167) rfl Tryz.func167 rfl ⟨Nat.le_of_ble_eq_true rfl, rfl, rfl⟩ ?_
    repeat' (first
      | refine xw_seq ?_
      | refine xw_block ?_
      | (refine ite_two ?_ ?_ <;> intro _ <;> first | (exfalso; omega) | skip)
      | refine ord_split (by kernel_rfl) ?_
      | (refine xw_ret ?_ <;> try simp only [sq, bl, LQ])
      | ((first | refine xw_reg ?_ | refine xw_regd ?_ | refine xw_if ?_ | refine xw_skip ?_ | refine xw_exit ?_ | refine xw_label ?_ | refine post_ret ?_ | refine post_normal ?_ | refine postE_ret ?_ | refine postE_normal ?_ | (((first | refine at_region ?_ | refine at_out ?_ | refine at_cond ?_); split) <;> first | (exfalso; omega; done) | skip)) <;> try simp (config := { maxSteps := 3000000 }) (disch := first | assumption | omega | exact VG.okg (by assumption) | (simp only [List.length_set, List.length_append, List.length_cons, List.length_nil, List.length_replicate]; omega)) only [go_sem, ↓reduceIte, Int.reduceLE, Int.reduceLT, Int.reduceToNat, Int.reduceNeg, Int.reduceAdd, Int.reduceSub, Int.reduceMul, Int.reduceEq, Int.reduceNe, Nat.reduceEqDiff, Nat.reduceAdd, Nat.reduceSub, Nat.reduceMul, Nat.reduceLT, Nat.reduceLeDiff, Nat.reduceBEq, Nat.reduceBNe, UInt8.reduceToNat, Tryz.results167]))
    rfl
  rw [if_neg h2]
  by_cases h3 : b = c
  · rw [if_pos h3]
    refine xw_call (fn := Tryz.f167) rfl Tryz.func167 rfl ⟨Nat.le_of_ble_eq_true rfl, rfl, rfl⟩ ?_
    repeat' (first
      | refine xw_seq ?_
      | refine xw_block ?_
      | (refine ite_two ?_ ?_ <;> intro _ <;> first | (exfalso; omega) | skip)
      | refine ord_split (by kernel_rfl) ?_
      | (refine xw_ret ?_ <;> try simp only [sq, bl, LQ])
      | ((first | refine xw_reg ?_ | refine xw_regd ?_ | refine xw_if ?_ | refine xw_skip ?_ | refine xw_exit ?_ | refine xw_label ?_ | refine post_ret ?_ | refine post_normal ?_ | refine postE_ret ?_ | refine postE_normal ?_ | (((first | refine at_region ?_ | refine at_out ?_ | refine at_cond ?_); split) <;> first | (exfalso; omega; done) | skip)) <;> try simp (config := { maxSteps := 3000000 }) (disch := first | assumption | omega | exact VG.okg (by assumption) | (simp only [List.length_set, List.length_append, List.length_cons, List.length_nil, List.length_replicate]; omega)) only [go_sem, ↓reduceIte, Int.reduceLE, Int.reduceLT, Int.reduceToNat, Int.reduceNeg, Int.reduceAdd, Int.reduceSub, Int.reduceMul, Int.reduceEq, Int.reduceNe, Nat.reduceEqDiff, Nat.reduceAdd, Nat.reduceSub, Nat.reduceMul, Nat.reduceLT, Nat.reduceLeDiff, Nat.reduceBEq, Nat.reduceBNe, UInt8.reduceToNat, Tryz.results167]))
    rfl
  rw [if_neg h3]
  by_cases h4 : b = d
  · rw [if_pos h4]
    refine xw_call (fn := Tryz.f167) rfl Tryz.func167 rfl ⟨Nat.le_of_ble_eq_true rfl, rfl, rfl⟩ ?_
    repeat' (first
      | refine xw_seq ?_
      | refine xw_block ?_
      | (refine ite_two ?_ ?_ <;> intro _ <;> first | (exfalso; omega) | skip)
      | refine ord_split (by kernel_rfl) ?_
      | (refine xw_ret ?_ <;> try simp only [sq, bl, LQ])
      | ((first | refine xw_reg ?_ | refine xw_regd ?_ | refine xw_if ?_ | refine xw_skip ?_ | refine xw_exit ?_ | refine xw_label ?_ | refine post_ret ?_ | refine post_normal ?_ | refine postE_ret ?_ | refine postE_normal ?_ | (((first | refine at_region ?_ | refine at_out ?_ | refine at_cond ?_); split) <;> first | (exfalso; omega; done) | skip)) <;> try simp (config := { maxSteps := 3000000 }) (disch := first | assumption | omega | exact VG.okg (by assumption) | (simp only [List.length_set, List.length_append, List.length_cons, List.length_nil, List.length_replicate]; omega)) only [go_sem, ↓reduceIte, Int.reduceLE, Int.reduceLT, Int.reduceToNat, Int.reduceNeg, Int.reduceAdd, Int.reduceSub, Int.reduceMul, Int.reduceEq, Int.reduceNe, Nat.reduceEqDiff, Nat.reduceAdd, Nat.reduceSub, Nat.reduceMul, Nat.reduceLT, Nat.reduceLeDiff, Nat.reduceBEq, Nat.reduceBNe, UInt8.reduceToNat, Tryz.results167]))
    rfl
  rw [if_neg h4]
  refine xw_call (fn := Tryz.f167) rfl Tryz.func167 rfl ⟨Nat.le_of_ble_eq_true rfl, rfl, rfl⟩ ?_
  repeat' (first
    | refine xw_seq ?_
    | refine xw_block ?_
    | (refine ite_two ?_ ?_ <;> intro _ <;> first | (exfalso; omega) | skip)
    | refine ord_split (by kernel_rfl) ?_
    | (refine xw_ret ?_ <;> try simp only [sq, bl, LQ])
    | ((first | refine xw_reg ?_ | refine xw_regd ?_ | refine xw_if ?_ | refine xw_skip ?_ | refine xw_exit ?_ | refine xw_label ?_ | refine post_ret ?_ | refine post_normal ?_ | refine postE_ret ?_ | refine postE_normal ?_ | (((first | refine at_region ?_ | refine at_out ?_ | refine at_cond ?_); split) <;> first | (exfalso; omega; done) | skip)) <;> try simp (config := { maxSteps := 3000000 }) (disch := first | assumption | omega | exact VG.okg (by assumption) | (simp only [List.length_set, List.length_append, List.length_cons, List.length_nil, List.length_replicate]; omega)) only [go_sem, ↓reduceIte, Int.reduceLE, Int.reduceLT, Int.reduceToNat, Int.reduceNeg, Int.reduceAdd, Int.reduceSub, Int.reduceMul, Int.reduceEq, Int.reduceNe, Nat.reduceEqDiff, Nat.reduceAdd, Nat.reduceSub, Nat.reduceMul, Nat.reduceLT, Nat.reduceLeDiff, Nat.reduceBEq, Nat.reduceBNe, UInt8.reduceToNat, Tryz.results167]))
  rfl
theorem c_blocks (n : Int) (es : List (Int × Int)) (h : OKG n es) (hnd : es.Nodup) : KP 122 [GL n es] [] = some (.ref 2000 0 0 (blkL es).length, [], [.arr 0 1 ((blkL es).map encI)]) := by
  have hl := h.len
  have ho := h.ok
  refine xw_call (fn := Tryz.f122) rfl Tryz.func122 rfl ⟨Nat.le_of_ble_eq_true rfl, rfl, rfl⟩ ?_
  repeat' (first
    | refine xw_seq ?_
    | refine xw_block ?_
    | (refine ite_two ?_ ?_ <;> intro _ <;> first | (exfalso; omega) | skip)
    | refine ord_split (by kernel_rfl) ?_
    | (refine xw_ret ?_ <;> try simp only [sq, bl, LQ])
    | ((first | refine xw_reg ?_ | refine xw_regd ?_ | refine xw_if ?_ | refine xw_skip ?_ | refine xw_exit ?_ | refine xw_label ?_ | refine post_ret ?_ | refine post_normal ?_ | refine postE_ret ?_ | refine postE_normal ?_ | (((first | refine at_region ?_ | refine at_out ?_ | refine at_cond ?_); split) <;> first | (exfalso; omega; done) | skip)) <;> try simp (config := { maxSteps := 3000000 }) (disch := first | assumption | omega | exact VG.okg (by assumption) | (simp only [List.length_set, List.length_append, List.length_cons, List.length_nil, List.length_replicate]; omega)) only [go_sem, ↓reduceIte, Int.reduceLE, Int.reduceLT, Int.reduceToNat, Int.reduceNeg, Int.reduceAdd, Int.reduceSub, Int.reduceMul, Int.reduceEq, Int.reduceNe, Nat.reduceEqDiff, Nat.reduceAdd, Nat.reduceSub, Nat.reduceMul, Nat.reduceLT, Nat.reduceLeDiff, Nat.reduceBEq, Nat.reduceBNe, UInt8.reduceToNat, Tryz.results122]))
  refine xw_loopR (fun (u : Int × Nat × List Int) s => s.m 16 = some (.arr u.2.1 1 (u.2.2.map encI)) ∧ s.ρ 3 = .ref 16 u.2.1 0 u.2.2.length ∧ s.ρ 19 = I (es.length : Int) ∧ s.ρ 20 = I u.1 ∧ s.ρ 1 = .ptr 1 0 0 0 ∧ s.m 1 = some (.box 0 [I n, LE es]) ∧
    0 ≤ u.1 ∧ u.1 ≤ es.length ∧ u.2.2.length = u.1.toNat ∧ u.2.2 = iota u.1) (fun u => (es.length - u.1).toNat) (0, 0, []) ?_ ?_
  · refine ⟨by simp [upd], by simp [upd], by simp [upd], by simp [upd], by simp [upd], by simp [upd], by simp, by simp, by simp, by simp [iota]⟩
  rintro ⟨i, v, xs⟩ ⟨ρ, m⟩ ⟨m16, h3, h19, h20, h1, m1, g0, g1, g2, g3⟩
  simp only at m16 h3 h19 h20 h1 m1 g0 g1 g2 g3
  by_cases hi : i < es.length
  · repeat' (first
      | refine xw_seq ?_
      | refine xw_block ?_
      | (refine ite_two ?_ ?_ <;> intro _ <;> first | (exfalso; omega) | skip)
      | refine ord_split (by kernel_rfl) ?_
      | (refine xw_ret ?_ <;> try simp only [sq, bl, LQ])
      | ((first | refine xw_reg ?_ | refine xw_regd ?_ | refine xw_if ?_ | refine xw_skip ?_ | refine xw_exit ?_ | refine xw_label ?_ | refine post_ret ?_ | refine post_normal ?_ | refine postE_ret ?_ | refine postE_normal ?_ | (((first | refine at_region ?_ | refine at_out ?_ | refine at_cond ?_); split) <;> first | (exfalso; omega; done) | skip)) <;> try simp (config := { maxSteps := 3000000 }) (disch := first | assumption | omega | exact VG.okg (by assumption) | (simp only [List.length_set, List.length_append, List.length_cons, List.length_nil, List.length_replicate]; omega)) only [go_sem, ↓reduceIte, Int.reduceLE, Int.reduceLT, Int.reduceToNat, Int.reduceNeg, Int.reduceAdd, Int.reduceSub, Int.reduceMul, Int.reduceEq, Int.reduceNe, Nat.reduceEqDiff, Nat.reduceAdd, Nat.reduceSub, Nat.reduceMul, Nat.reduceLT, Nat.reduceLeDiff, Nat.reduceBEq, Nat.reduceBNe, UInt8.reduceToNat, Tryz.results122, m16, h3, h19, h20, h1, m1]))
    refine ⟨by omega, by omega, by omega, ?_, by omega⟩
    rw [iota_snoc g0, g3]
  have hin : i = es.length := by omega
  subst hin
  have hx0 : xs = lab es.length (relK es 0 0) := by rw [relK_zero, g3]
  have hxl : xs.length = es.length := by omega
  clear g3 g2
  repeat' (first
    | refine xw_seq ?_
    | refine xw_block ?_
    | (refine ite_two ?_ ?_ <;> intro _ <;> first | (exfalso; omega) | skip)
    | refine ord_split (by kernel_rfl) ?_
    | (refine xw_ret ?_ <;> try simp only [sq, bl, LQ])
    | ((first | refine xw_reg ?_ | refine xw_regd ?_ | refine xw_if ?_ | refine xw_skip ?_ | refine xw_exit ?_ | refine xw_label ?_ | refine post_ret ?_ | refine post_normal ?_ | refine postE_ret ?_ | refine postE_normal ?_ | (((first | refine at_region ?_ | refine at_out ?_ | refine at_cond ?_); split) <;> first | (exfalso; omega; done) | skip)) <;> try simp (config := { maxSteps := 3000000 }) (disch := first | assumption | omega | exact VG.okg (by assumption) | (simp only [List.length_set, List.length_append, List.length_cons, List.length_nil, List.length_replicate]; omega)) only [go_sem, ↓reduceIte, Int.reduceLE, Int.reduceLT, Int.reduceToNat, Int.reduceNeg, Int.reduceAdd, Int.reduceSub, Int.reduceMul, Int.reduceEq, Int.reduceNe, Nat.reduceEqDiff, Nat.reduceAdd, Nat.reduceSub, Nat.reduceMul, Nat.reduceLT, Nat.reduceLeDiff, Nat.reduceBEq, Nat.reduceBNe, UInt8.reduceToNat, Tryz.results122, m16, h3, h19, h20, h1, m1]))
  refine xw_loopR (fun (u : Int × List Int) s => s.m 16 = some (.arr v 1 (u.2.map encI)) ∧ s.ρ 3 = .ref 16 v 0 es.length ∧ s.ρ 29 = LE es ∧ s.ρ 30 = I (es.length : Int) ∧ s.ρ 31 = I u.1 ∧ s.ρ 1 = .ptr 1 0 0 0 ∧ s.m 1 = some (.box 0 [I n, LE es]) ∧
    0 ≤ u.1 ∧ u.1 ≤ es.length ∧ u.2 = lab es.length (relK es u.1 0)) (fun u => (es.length - u.1).toNat) (0, xs) ?_ ?_
  · refine ⟨by simp [upd, m16], by simp [upd, h3, hxl], by simp [upd], by simp [upd], by simp [upd], by simp [upd, h1], by simp [upd, m1], by simp, by simp, hx0⟩
  rintro ⟨i, out⟩ ⟨ρ, m⟩ ⟨m16, h3, h29, h30, h31, h1, m1, g0, g1, g2⟩
  simp only at m16 h3 h29 h30 h31 h1 m1 g0 g1 g2
  have hol : out.length = es.length := by rw [g2, lab_length]; omega
  by_cases hi : i < es.length
  rotate_left
  · have hin : i = es.length := by omega
    rw [hin, relK_all] at g2
    have hbl : blkL es = out := g2.symm
    rw [hbl, hol]
    repeat' (first
      | refine xw_seq ?_
      | refine xw_block ?_
      | (refine ite_two ?_ ?_ <;> intro _ <;> first | (exfalso; omega) | skip)
      | refine ord_split (by kernel_rfl) ?_
      | (refine xw_ret ?_ <;> try simp only [sq, bl, LQ])
      | ((first | refine xw_reg ?_ | refine xw_regd ?_ | refine xw_if ?_ | refine xw_skip ?_ | refine xw_exit ?_ | refine xw_label ?_ | refine post_ret ?_ | refine post_normal ?_ | refine postE_ret ?_ | refine postE_normal ?_ | (((first | refine at_region ?_ | refine at_out ?_ | refine at_cond ?_); split) <;> first | (exfalso; omega; done) | skip)) <;> try simp (config := { maxSteps := 3000000 }) (disch := first | assumption | omega | exact VG.okg (by assumption) | (simp only [List.length_set, List.length_append, List.length_cons, List.length_nil, List.length_replicate]; omega)) only [go_sem, ↓reduceIte, Int.reduceLE, Int.reduceLT, Int.reduceToNat, Int.reduceNeg, Int.reduceAdd, Int.reduceSub, Int.reduceMul, Int.reduceEq, Int.reduceNe, Nat.reduceEqDiff, Nat.reduceAdd, Nat.reduceSub, Nat.reduceMul, Nat.reduceLT, Nat.reduceLeDiff, Nat.reduceBEq, Nat.reduceBNe, UInt8.reduceToNat, Tryz.results122, m16, h3, h29, h30, h31, h1, m1]))
  have hoe := ho _ (getD_mem (d := (0, 0)) (show i.toNat < es.length by omega))
  have htl : (es.take i.toNat).length = i.toNat := by simp; omega
  repeat' (first
    | refine xw_seq ?_
    | refine xw_block ?_
    | (refine ite_two ?_ ?_ <;> intro _ <;> first | (exfalso; omega) | skip)
    | refine ord_split (by kernel_rfl) ?_
    | (refine xw_ret ?_ <;> try simp only [sq, bl, LQ])
    | ((first | refine xw_reg ?_ | refine xw_regd ?_ | refine xw_if ?_ | refine xw_skip ?_ | refine xw_exit ?_ | refine xw_label ?_ | refine post_ret ?_ | refine post_normal ?_ | refine postE_ret ?_ | refine postE_normal ?_ | (((first | refine at_region ?_ | refine at_out ?_ | refine at_cond ?_); split) <;> first | (exfalso; omega; done) | skip)) <;> try simp (config := { maxSteps := 3000000 }) (disch := first | assumption | omega | exact VG.okg (by assumption) | (simp only [List.length_set, List.length_append, List.length_cons, List.length_nil, List.length_replicate]; omega)) only [go_sem, ↓reduceIte, Int.reduceLE, Int.reduceLT, Int.reduceToNat, Int.reduceNeg, Int.reduceAdd, Int.reduceSub, Int.reduceMul, Int.reduceEq, Int.reduceNe, Nat.reduceEqDiff, Nat.reduceAdd, Nat.reduceSub, Nat.reduceMul, Nat.reduceLT, Nat.reduceLeDiff, Nat.reduceBEq, Nat.reduceBNe, UInt8.reduceToNat, Tryz.results122, m16, h3, h29, h30, h31, h1, m1]))
  generalize nv (m 6) = V
  refine xw_loopR (fun (u : Int × List Int) s => s.m 16 = some (.arr v 1 (u.2.map encI)) ∧ s.ρ 3 = .ref 16 v 0 es.length ∧ s.ρ 29 = LE es ∧ s.ρ 30 = I (es.length : Int) ∧ s.ρ 31 = I i ∧ s.ρ 1 = .ptr 1 0 0 0 ∧ s.m 1 = some (.box 0 [I n, LE es]) ∧ s.ρ 5 = I i ∧ s.ρ 6 = .ptr 6 V 0 0 ∧ s.m 6 = some (.box V [I (eAt es i).1, I (eAt es i).2]) ∧ s.ρ 39 = LE (es.take i.toNat) ∧ s.ρ 40 = I i ∧ s.ρ 41 = I u.1 ∧
    0 ≤ u.1 ∧ u.1 ≤ i ∧ u.2 = lab es.length (relK es i u.1)) (fun u => (i - u.1).toNat) (0, out) ?_ ?_
  · refine ⟨by simp [upd, m16], by simp [upd, h3], by simp [upd, h29], by simp [upd, h30], by simp [upd, h31], by simp [upd, h1], by simp [upd, m1], by simp [upd], by simp [upd], by simp [upd], by simp [upd], ?_, by simp [upd], by simp, by simp only; omega, g2⟩
    simp [upd]
    omega
  rintro ⟨k, ou⟩ ⟨ρ, m⟩ ⟨m16, h3, h29, h30, h31, h1, m1, h5, h6, m6, h39, h40, h41, f0, f1, f2⟩
  simp only at m16 h3 h29 h30 h31 h1 m1 h5 h6 m6 h39 h40 h41 f0 f1 f2
  have hul : ou.length = es.length := by rw [f2, lab_length]; omega
  by_cases hk : k < i
  rotate_left
  · have hki : k = i := by omega
    rw [hki, relK_next] at f2
    repeat' (first
      | refine xw_seq ?_
      | refine xw_block ?_
      | (refine ite_two ?_ ?_ <;> intro _ <;> first | (exfalso; omega) | skip)
      | refine ord_split (by kernel_rfl) ?_
      | (refine xw_ret ?_ <;> try simp only [sq, bl, LQ])
      | ((first | refine xw_reg ?_ | refine xw_regd ?_ | refine xw_if ?_ | refine xw_skip ?_ | refine xw_exit ?_ | refine xw_label ?_ | refine post_ret ?_ | refine post_normal ?_ | refine postE_ret ?_ | refine postE_normal ?_ | (((first | refine at_region ?_ | refine at_out ?_ | refine at_cond ?_); split) <;> first | (exfalso; omega; done) | skip)) <;> try simp (config := { maxSteps := 3000000 }) (disch := first | assumption | omega | exact VG.okg (by assumption) | (simp only [List.length_set, List.length_append, List.length_cons, List.length_nil, List.length_replicate]; omega)) only [go_sem, ↓reduceIte, Int.reduceLE, Int.reduceLT, Int.reduceToNat, Int.reduceNeg, Int.reduceAdd, Int.reduceSub, Int.reduceMul, Int.reduceEq, Int.reduceNe, Nat.reduceEqDiff, Nat.reduceAdd, Nat.reduceSub, Nat.reduceMul, Nat.reduceLT, Nat.reduceLeDiff, Nat.reduceBEq, Nat.reduceBNe, UInt8.reduceToNat, Tryz.results122, m16, h3, h29, h30, h31, h1, m1, h5, h6, m6, h39, h40, h41]))
    exact ⟨by omega, by omega, f2, by omega⟩
  have hke := ho _ (getD_mem (d := (0, 0)) (show k.toNat < es.length by omega))
  have hgt : (es.take i.toNat).getD k.toNat (0, 0) = eAt es k := by simp [show k.toNat < i.toNat by omega]
  have hst := lab_step (es := es) f0 hk hi
  rw [← f2] at hst
  have hne : eAt es i ≠ eAt es k := fun e => by
    have := eAt_inj hnd (i := i) (k := k) ⟨g0, hi⟩ ⟨f0, by omega⟩ e
    omega
  have hco := c_common (eAt es i).1 (eAt es i).2 (eAt es k).1 (eAt es k).2
  have hcs := fun v x y => com_some (es := es) (v := v) (x := x) (y := y) (show okE n (eAt es i) from hoe) (show okE n (eAt es k) from hke) hne
  have hcn := com_none (es := es) (e := eAt es i) (f := eAt es k)
  generalize hei : eAt es i = e at *
  generalize hek : eAt es k = f at *
  have hcv0 : comV (e.1, e.2) (f.1, f.2) = comV e f := rfl
  rw [hcv0] at hco
  cases hcv : comV e f with
  | none =>
    rw [hcv] at hco
    unfold comP at hco
    rw [if_neg (fun q => hcn hcv q.1)] at hst
    repeat' (first
      | refine xw_seq ?_
      | refine xw_block ?_
      | (refine ite_two ?_ ?_ <;> intro _ <;> first | (exfalso; omega) | skip)
      | refine ord_split (by kernel_rfl) ?_
      | (refine xw_ret ?_ <;> try simp only [sq, bl, LQ])
      | ((first | refine xw_reg ?_ | refine xw_regd ?_ | refine xw_if ?_ | refine xw_skip ?_ | refine xw_exit ?_ | refine xw_label ?_ | refine post_ret ?_ | refine post_normal ?_ | refine postE_ret ?_ | refine postE_normal ?_ | (((first | refine at_region ?_ | refine at_out ?_ | refine at_cond ?_); split) <;> first | (exfalso; omega; done) | skip)) <;> try simp (config := { maxSteps := 3000000 }) (disch := first | assumption | omega | exact VG.okg (by assumption) | (simp only [List.length_set, List.length_append, List.length_cons, List.length_nil, List.length_replicate]; omega)) only [go_sem, ↓reduceIte, Int.reduceLE, Int.reduceLT, Int.reduceToNat, Int.reduceNeg, Int.reduceAdd, Int.reduceSub, Int.reduceMul, Int.reduceEq, Int.reduceNe, Nat.reduceEqDiff, Nat.reduceAdd, Nat.reduceSub, Nat.reduceMul, Nat.reduceLT, Nat.reduceLeDiff, Nat.reduceBEq, Nat.reduceBNe, UInt8.reduceToNat, Tryz.results122, m16, h3, h29, h30, h31, h1, m1, h5, h6, m6, h39, h40, h41, hgt, hco]))
    exact ⟨by omega, by omega, hst.symm, by omega⟩
  | some q =>
    obtain ⟨w, x, y⟩ := q
    obtain ⟨k1, k2, k3, k4⟩ := hcs w x y hcv
    rw [hcv] at hco
    unfold comP at hco
    by_cases hle : ou.getD i.toNat 0 = ou.getD k.toNat 0
    · rw [if_neg (fun q => q.2 hle)] at hst
      repeat' (first
        | refine xw_seq ?_
        | refine xw_block ?_
        | (refine ite_two ?_ ?_ <;> intro _ <;> first | (exfalso; omega) | skip)
        | refine ord_split (by kernel_rfl) ?_
        | (refine xw_ret ?_ <;> try simp only [sq, bl, LQ])
        | ((first | refine xw_reg ?_ | refine xw_regd ?_ | refine xw_if ?_ | refine xw_skip ?_ | refine xw_exit ?_ | refine xw_label ?_ | refine post_ret ?_ | refine post_normal ?_ | refine postE_ret ?_ | refine postE_normal ?_ | (((first | refine at_region ?_ | refine at_out ?_ | refine at_cond ?_); split) <;> first | (exfalso; omega; done) | skip)) <;> try simp (config := { maxSteps := 3000000 }) (disch := first | assumption | omega | exact VG.okg (by assumption) | (simp only [List.length_set, List.length_append, List.length_cons, List.length_nil, List.length_replicate]; omega)) only [go_sem, ↓reduceIte, Int.reduceLE, Int.reduceLT, Int.reduceToNat, Int.reduceNeg, Int.reduceAdd, Int.reduceSub, Int.reduceMul, Int.reduceEq, Int.reduceNe, Nat.reduceEqDiff, Nat.reduceAdd, Nat.reduceSub, Nat.reduceMul, Nat.reduceLT, Nat.reduceLeDiff, Nat.reduceBEq, Nat.reduceBNe, UInt8.reduceToNat, Tryz.results122, m16, h3, h29, h30, h31, h1, m1, h5, h6, m6, h39, h40, h41, hgt, hco]))
      exact ⟨by omega, by omega, hst.symm, by omega⟩
    have hcut := c_cutNode n w es (by omega)
    have hcc := c_connected n x y (alone w es) (h.alone w) k2 k3
    by_cases hc : Conn (alone w es) x y
    rotate_left
    · rw [decide_eq_false hc] at hcc
      rw [if_neg (fun q => hc (k4.1 q.1))] at hst
      repeat' (first
        | refine xw_seq ?_
        | refine xw_block ?_
        | (refine ite_two ?_ ?_ <;> intro _ <;> first | (exfalso; omega) | skip)
        | refine ord_split (by kernel_rfl) ?_
        | (refine xw_ret ?_ <;> try simp only [sq, bl, LQ])
        | ((first | refine xw_reg ?_ | refine xw_regd ?_ | refine xw_if ?_ | refine xw_skip ?_ | refine xw_exit ?_ | refine xw_label ?_ | refine post_ret ?_ | refine post_normal ?_ | refine postE_ret ?_ | refine postE_normal ?_ | (((first | refine at_region ?_ | refine at_out ?_ | refine at_cond ?_); split) <;> first | (exfalso; omega; done) | skip)) <;> try simp (config := { maxSteps := 3000000 }) (disch := first | assumption | omega | exact VG.okg (by assumption) | (simp only [List.length_set, List.length_append, List.length_cons, List.length_nil, List.length_replicate]; omega)) only [go_sem, ↓reduceIte, Int.reduceLE, Int.reduceLT, Int.reduceToNat, Int.reduceNeg, Int.reduceAdd, Int.reduceSub, Int.reduceMul, Int.reduceEq, Int.reduceNe, Nat.reduceEqDiff, Nat.reduceAdd, Nat.reduceSub, Nat.reduceMul, Nat.reduceLT, Nat.reduceLeDiff, Nat.reduceBEq, Nat.reduceBNe, UInt8.reduceToNat, Tryz.results122, m16, h3, h29, h30, h31, h1, m1, h5, h6, m6, h39, h40, h41, hgt, hco, hcut, hcc, alone_del]))
      exact ⟨by omega, by omega, hst.symm, by omega⟩
    rw [decide_eq_true hc] at hcc
    rw [if_pos ⟨k4.2 hc, hle⟩] at hst
    repeat' (first
      | refine xw_seq ?_
      | refine xw_block ?_
      | (refine ite_two ?_ ?_ <;> intro _ <;> first | (exfalso; omega) | skip)
      | refine ord_split (by kernel_rfl) ?_
      | (refine xw_ret ?_ <;> try simp only [sq, bl, LQ])
      | ((first | refine xw_reg ?_ | refine xw_regd ?_ | refine xw_if ?_ | refine xw_skip ?_ | refine xw_exit ?_ | refine xw_label ?_ | refine post_ret ?_ | refine post_normal ?_ | refine postE_ret ?_ | refine postE_normal ?_ | (((first | refine at_region ?_ | refine at_out ?_ | refine at_cond ?_); split) <;> first | (exfalso; omega; done) | skip)) <;> try simp (config := { maxSteps := 3000000 }) (disch := first | assumption | omega | exact VG.okg (by assumption) | (simp only [List.length_set, List.length_append, List.length_cons, List.length_nil, List.length_replicate]; omega)) only [go_sem, ↓reduceIte, Int.reduceLE, Int.reduceLT, Int.reduceToNat, Int.reduceNeg, Int.reduceAdd, Int.reduceSub, Int.reduceMul, Int.reduceEq, Int.reduceNe, Nat.reduceEqDiff, Nat.reduceAdd, Nat.reduceSub, Nat.reduceMul, Nat.reduceLT, Nat.reduceLeDiff, Nat.reduceBEq, Nat.reduceBNe, UInt8.reduceToNat, Tryz.results122, m16, h3, h29, h30, h31, h1, m1, h5, h6, m6, h39, h40, h41, hgt, hco, hcut, hcc, alone_del]))
    have hmx : max (ou.getD i.toNat 0) (ou.getD k.toNat 0) = max (ou.getD k.toNat 0) (ou.getD i.toNat 0) := Int.max_comm _ _
    have hmn : min (ou.getD i.toNat 0) (ou.getD k.toNat 0) = min (ou.getD k.toNat 0) (ou.getD i.toNat 0) := Int.min_comm _ _
    unfold joinL at hst
    rw [← hmx, ← hmn] at hst
    generalize max (ou.getD i.toNat 0) (ou.getD k.toNat 0) = H at hst
    generalize min (ou.getD i.toNat 0) (ou.getD k.toNat 0) = W at hst
    refine xw_loopR (fun (u : Int × List Int) s => s.m 16 = some (.arr v 1 (u.2.map encI)) ∧ s.ρ 3 = .ref 16 v 0 es.length ∧ s.ρ 29 = LE es ∧ s.ρ 30 = I (es.length : Int) ∧ s.ρ 31 = I i ∧ s.ρ 1 = .ptr 1 0 0 0 ∧ s.m 1 = some (.box 0 [I n, LE es]) ∧ s.ρ 5 = I i ∧ s.ρ 6 = .ptr 6 V 0 0 ∧ s.m 6 = some (.box V [I e.1, I e.2]) ∧ s.ρ 39 = LE (es.take i.toNat) ∧ s.ρ 40 = I i ∧ s.ρ 41 = I k ∧ s.ρ 13 = I W ∧ s.ρ 14 = I H ∧ s.ρ 95 = I (es.length : Int) ∧ s.ρ 96 = I u.1 ∧
      0 ≤ u.1 ∧ u.1 ≤ es.length ∧ u.2 = (ou.take u.1.toNat).map (fun z => if z = H then W else z) ++ ou.drop u.1.toNat) (fun u => (es.length - u.1).toNat) (0, ou) ?_ ?_
    · refine ⟨by simp [upd, m16], by simp [upd, h3], by simp [upd, h29], by simp [upd, h30], by simp [upd, h31], by simp [upd, h1], by simp [upd, m1], by simp [upd, h5], by simp [upd, h6], by simp [upd, m6], by simp [upd, h39], by simp [upd, h40], by simp [upd, h41], by simp [upd], by simp [upd], by simp [upd, hul], by simp [upd], by simp, by simp, by simp⟩
    rintro ⟨j, cu⟩ ⟨ρ, m⟩ ⟨m16, h3, h29, h30, h31, h1, m1, h5, h6, m6, h39, h40, h41, h13, h14, h95, h96, d0, d1, d2⟩
    simp only at m16 h3 h29 h30 h31 h1 m1 h5 h6 m6 h39 h40 h41 h13 h14 h95 h96 d0 d1 d2
    have hcl : cu.length = es.length := by rw [d2]; simp; omega
    by_cases hj : j < es.length
    rotate_left
    · rw [take_all (by omega), List.drop_of_length_le (by omega), List.append_nil, ← hst] at d2
      repeat' (first
        | refine xw_seq ?_
        | refine xw_block ?_
        | (refine ite_two ?_ ?_ <;> intro _ <;> first | (exfalso; omega) | skip)
        | refine ord_split (by kernel_rfl) ?_
        | (refine xw_ret ?_ <;> try simp only [sq, bl, LQ])
        | ((first | refine xw_reg ?_ | refine xw_regd ?_ | refine xw_if ?_ | refine xw_skip ?_ | refine xw_exit ?_ | refine xw_label ?_ | refine post_ret ?_ | refine post_normal ?_ | refine postE_ret ?_ | refine postE_normal ?_ | (((first | refine at_region ?_ | refine at_out ?_ | refine at_cond ?_); split) <;> first | (exfalso; omega; done) | skip)) <;> try simp (config := { maxSteps := 3000000 }) (disch := first | assumption | omega | exact VG.okg (by assumption) | (simp only [List.length_set, List.length_append, List.length_cons, List.length_nil, List.length_replicate]; omega)) only [go_sem, ↓reduceIte, Int.reduceLE, Int.reduceLT, Int.reduceToNat, Int.reduceNeg, Int.reduceAdd, Int.reduceSub, Int.reduceMul, Int.reduceEq, Int.reduceNe, Nat.reduceEqDiff, Nat.reduceAdd, Nat.reduceSub, Nat.reduceMul, Nat.reduceLT, Nat.reduceLeDiff, Nat.reduceBEq, Nat.reduceBNe, UInt8.reduceToNat, Tryz.results122, m16, h3, h29, h30, h31, h1, m1, h5, h6, m6, h39, h40, h41, h13, h14, h95, h96]))
      exact ⟨by omega, by omega, d2, by omega⟩
    obtain ⟨q1, q2⟩ := map_step (out := ou) (f := fun z => if z = H then W else z) d0 (by omega)
    rw [← d2] at q1 q2
    by_cases hq : cu.getD j.toNat 0 = H
    · rw [if_pos (by rw [← q1]; exact hq)] at q2
      repeat' (first
        | refine xw_seq ?_
        | refine xw_block ?_
        | (refine ite_two ?_ ?_ <;> intro _ <;> first | (exfalso; omega) | skip)
        | refine ord_split (by kernel_rfl) ?_
        | (refine xw_ret ?_ <;> try simp only [sq, bl, LQ])
        | ((first | refine xw_reg ?_ | refine xw_regd ?_ | refine xw_if ?_ | refine xw_skip ?_ | refine xw_exit ?_ | refine xw_label ?_ | refine post_ret ?_ | refine post_normal ?_ | refine postE_ret ?_ | refine postE_normal ?_ | (((first | refine at_region ?_ | refine at_out ?_ | refine at_cond ?_); split) <;> first | (exfalso; omega; done) | skip)) <;> try simp (config := { maxSteps := 3000000 }) (disch := first | assumption | omega | exact VG.okg (by assumption) | (simp only [List.length_set, List.length_append, List.length_cons, List.length_nil, List.length_replicate]; omega)) only [go_sem, ↓reduceIte, Int.reduceLE, Int.reduceLT, Int.reduceToNat, Int.reduceNeg, Int.reduceAdd, Int.reduceSub, Int.reduceMul, Int.reduceEq, Int.reduceNe, Nat.reduceEqDiff, Nat.reduceAdd, Nat.reduceSub, Nat.reduceMul, Nat.reduceLT, Nat.reduceLeDiff, Nat.reduceBEq, Nat.reduceBNe, UInt8.reduceToNat, Tryz.results122, m16, h3, h29, h30, h31, h1, m1, h5, h6, m6, h39, h40, h41, h13, h14, h95, h96, hq]))
      exact ⟨by omega, by omega, q2, by omega⟩
    · rw [if_neg (by rw [← q1]; exact hq), ← q1] at q2
      have hse : cu.set j.toNat (cu.getD j.toNat 0) = cu := by
        refine List.ext_getElem (by simp) fun t h1 h2 => ?_
        rw [List.getElem_set]
        split
        · rename_i e; subst e; simp [h2]
        · rfl
      rw [hse] at q2
      repeat' (first
        | refine xw_seq ?_
        | refine xw_block ?_
        | (refine ite_two ?_ ?_ <;> intro _ <;> first | (exfalso; omega) | skip)
        | refine ord_split (by kernel_rfl) ?_
        | (refine xw_ret ?_ <;> try simp only [sq, bl, LQ])
        | ((first | refine xw_reg ?_ | refine xw_regd ?_ | refine xw_if ?_ | refine xw_skip ?_ | refine xw_exit ?_ | refine xw_label ?_ | refine post_ret ?_ | refine post_normal ?_ | refine postE_ret ?_ | refine postE_normal ?_ | (((first | refine at_region ?_ | refine at_out ?_ | refine at_cond ?_); split) <;> first | (exfalso; omega; done) | skip)) <;> try simp (config := { maxSteps := 3000000 }) (disch := first | assumption | omega | exact VG.okg (by assumption) | (simp only [List.length_set, List.length_append, List.length_cons, List.length_nil, List.length_replicate]; omega)) only [go_sem, ↓reduceIte, Int.reduceLE, Int.reduceLT, Int.reduceToNat, Int.reduceNeg, Int.reduceAdd, Int.reduceSub, Int.reduceMul, Int.reduceEq, Int.reduceNe, Nat.reduceEqDiff, Nat.reduceAdd, Nat.reduceSub, Nat.reduceMul, Nat.reduceLT, Nat.reduceLeDiff, Nat.reduceBEq, Nat.reduceBNe, UInt8.reduceToNat, Tryz.results122, m16, h3, h29, h30, h31, h1, m1, h5, h6, m6, h39, h40, h41, h13, h14, h95, h96, hq]))
      exact ⟨by omega, by omega, q2, by omega⟩
end Go.Proofs.YtdjdgnabcecdlaaGreatDoor.X
