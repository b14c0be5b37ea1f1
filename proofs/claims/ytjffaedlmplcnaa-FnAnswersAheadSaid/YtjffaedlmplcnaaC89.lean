/- What functions compute: draws of operations. -/
import Derived.Test.YtjffaedlmplcnaaC86
import Derived.Test.YtjffaedlmplcnaaC46
set_option linter.unusedSimpArgs false
set_option linter.unusedVariables false
set_option maxHeartbeats 16000000
set_option maxRecDepth 100000
namespace Go.Proofs.Ytjffaedlmplcnaa.X
open Go Go.Proofs
theorem setO {ops : List Op3} {i : Nat} {a b c : Int} : (ops.map encO).set i [.v (.int .i64 a), .v (.int .i64 b), .v (.int .i64 c)] = (ops.set i (a, b, c)).map encO := by
  rw [List.map_set]; rfl
attribute [go_sem] setO
theorem c_l8Draw (bs : List Int) (p : Int) (hb : bytes bs) (hp : 0 ≤ p ∧ p ≤ 100000) :
    ∃ (n : Int) (ops : List Op3) (p' : Int), 2 ≤ n ∧ n ≤ 8 ∧ ops.length ≤ 20 ∧ p ≤ p' ∧ p' ≤ p + 100 ∧ KP 121 [.ptr 1000 0 0 0] [Rd bs p] = some (.tup [I n, .ref 2000 0 0 ops.length], [Rd bs p'], [.arr 0 3 (ops.map encO)]) := by
  suffices h : ∃ res, (∃ (n : Int) (ops : List Op3) (p' : Int), 2 ≤ n ∧ n ≤ 8 ∧ ops.length ≤ 20 ∧ p ≤ p' ∧ p' ≤ p + 100 ∧ res = (PV.tup [I n, .ref 2000 0 0 ops.length], [Rd bs p'], [Arr.arr 0 3 (ops.map encO)])) ∧ KP 121 [.ptr 1000 0 0 0] [Rd bs p] = some res by
    obtain ⟨res, ⟨n, ops, p', h1, h2, h3, h4, h5, rfl⟩, h6⟩ := h
    exact ⟨n, ops, p', h1, h2, h3, h4, h5, h6⟩
  obtain ⟨n, hn, hnn⟩ := c_num bs p [4, 5, 3, 6, 8, 2] hb (by omega) (by simp) (by simp)
  obtain ⟨t, ht, hnt⟩ := c_num bs (p + 1) [10, 7, 14, 4, 20, 0] hb (by omega) (by simp) (by simp)
  simp only [List.map_cons, List.map_nil, encI, List.length_cons, List.length_nil, Nat.reduceAdd] at hnn hnt
  have hn' : 2 ≤ n ∧ n ≤ 8 := by simp at hn; omega
  have ht' : 0 ≤ t ∧ t ≤ 20 := by simp at ht; omega
  clear hn ht
  obtain ⟨n2, n8⟩ := hn'
  obtain ⟨t0, t20⟩ := ht'
  refine xw_callE (fn := Try.f121) rfl Try.func121 rfl ⟨Nat.le_of_ble_eq_true rfl, rfl, rfl⟩ ?_
  repeat' (first
    | refine xw_seq ?_
    | refine xw_block ?_
    | (refine ite_two ?_ ?_ <;> intro _ <;> first | (exfalso; omega) | skip)
    | refine ord_split (by kernel_rfl) ?_
    | (refine xw_ret ?_ <;> try simp only [sq, bl, LQ])
    | ((first | refine xw_reg ?_ | refine xw_regd ?_ | refine xw_if ?_ | refine xw_skip ?_ | refine xw_exit ?_ | refine xw_label ?_ | refine post_ret ?_ | refine post_normal ?_ | refine postE_ret ?_ | refine postE_normal ?_ | (((first | refine at_region ?_ | refine at_out ?_ | refine at_cond ?_); split) <;> first | (exfalso; omega; done) | skip)) <;> try simp (config := { maxSteps := 3000000 }) (disch := first | assumption | omega | exact VG.okg (by assumption) | (simp only [List.length_set, List.length_append, List.length_cons, List.length_nil, List.length_replicate]; omega)) only [go_sem, ↓reduceIte, Int.reduceLE, Int.reduceLT, Int.reduceToNat, Int.reduceNeg, Int.reduceAdd, Int.reduceSub, Int.reduceMul, Int.reduceEq, Int.reduceNe, Nat.reduceEqDiff, Nat.reduceAdd, Nat.reduceSub, Nat.reduceMul, Nat.reduceLT, Nat.reduceLeDiff, Nat.reduceBEq, Nat.reduceBNe, UInt8.reduceToNat, Try.results121, hnn, hnt]))
  refine xw_loopR (fun (w : Int × Int × Nat × IV × List (Int × Int) × List Op3) s => s.ρ 0 = .ptr 1000 0 0 0 ∧ s.m 1000 = some (Rd bs w.2.1) ∧ s.ρ 4 = .ptr 4 0 0 0 ∧ s.m 4 = some (.box 0 [I n, .i w.2.2.2.1]) ∧ s.ρ 5 = .ref 16 w.2.2.1 0 w.2.2.2.2.2.length ∧ s.m 16 = some (.arr w.2.2.1 3 (w.2.2.2.2.2.map encO)) ∧ s.ρ 6 = I w.1 ∧ 0 ≤ w.1 ∧ w.1 ≤ t ∧ p ≤ w.2.1 ∧ w.2.1 ≤ p + 2 + 3 * (t - w.1) ∧ EL w.2.2.2.1 w.2.2.2.2.1 ∧ (w.2.2.2.2.1.length : Int) ≤ t - w.1 ∧ (w.2.2.2.2.2.length : Int) ≤ t - w.1) (fun w => w.1.toNat) (t, p + 1 + 1, 0, .emp, [], []) ?_ ?_
  · refine ⟨?_, ?_, ?_, ?_, ?_, ?_, ?_, by simpa using t0, by simp, by simp only; omega, by simp only; omega, EL.emp, by simp, by simp⟩
    all_goals rfl
  rintro ⟨i, q, v, x, es, ops⟩ ⟨ρ, m⟩ ⟨e0, m0, e4, m4, e5, m16, e6, g0, g1, g2, g3, hx, hle, hlo⟩
  simp only at e0 m0 e4 m4 e5 m16 e6 g0 g1 g2 g3 hx hle hlo
  have hxf := hx.f
  have hxl := hx.fl
  clear hnn hnt
  by_cases hi : 0 < i
  rotate_left
  · have hi0 : i = 0 := by omega
    subst hi0
    by_cases hz : 0 < ops.length
    rotate_left
    · obtain rfl : ops = [] := List.length_eq_zero_iff.1 (by omega)
      repeat' (first
        | refine xw_seq ?_
        | refine xw_block ?_
        | (refine ite_two ?_ ?_ <;> intro _ <;> first | (exfalso; omega) | skip)
        | refine ord_split (by kernel_rfl) ?_
        | (refine xw_ret ?_ <;> try simp only [sq, bl, LQ])
        | ((first | refine xw_reg ?_ | refine xw_regd ?_ | refine xw_if ?_ | refine xw_skip ?_ | refine xw_exit ?_ | refine xw_label ?_ | refine post_ret ?_ | refine post_normal ?_ | refine postE_ret ?_ | refine postE_normal ?_ | (((first | refine at_region ?_ | refine at_out ?_ | refine at_cond ?_); split) <;> first | (exfalso; omega; done) | skip)) <;> try simp (config := { maxSteps := 3000000 }) (disch := first | assumption | omega | exact VG.okg (by assumption) | (simp only [List.length_set, List.length_append, List.length_cons, List.length_nil, List.length_replicate]; omega)) only [go_sem, ↓reduceIte, Int.reduceLE, Int.reduceLT, Int.reduceToNat, Int.reduceNeg, Int.reduceAdd, Int.reduceSub, Int.reduceMul, Int.reduceEq, Int.reduceNe, Nat.reduceEqDiff, Nat.reduceAdd, Nat.reduceSub, Nat.reduceMul, Nat.reduceLT, Nat.reduceLeDiff, Nat.reduceBEq, Nat.reduceBNe, UInt8.reduceToNat, Try.results121, e0, m0, e4, m4, e5, m16, e6]))
      exact ⟨n, n2, n8, [], by simp, q, by omega, by omega, rfl, rfl, rfl⟩
    obtain ⟨w, hw, _, hpw⟩ := c_pick bs q 16 hb (by omega) (by omega)
    have hw' := hw (by omega)
    by_cases hw0 : w = 0
    rotate_left
    · repeat' (first
        | refine xw_seq ?_
        | refine xw_block ?_
        | (refine ite_two ?_ ?_ <;> intro _ <;> first | (exfalso; omega) | skip)
        | refine ord_split (by kernel_rfl) ?_
        | (refine xw_ret ?_ <;> try simp only [sq, bl, LQ])
        | ((first | refine xw_reg ?_ | refine xw_regd ?_ | refine xw_if ?_ | refine xw_skip ?_ | refine xw_exit ?_ | refine xw_label ?_ | refine post_ret ?_ | refine post_normal ?_ | refine postE_ret ?_ | refine postE_normal ?_ | (((first | refine at_region ?_ | refine at_out ?_ | refine at_cond ?_); split) <;> first | (exfalso; omega; done) | skip)) <;> try simp (config := { maxSteps := 3000000 }) (disch := first | assumption | omega | exact VG.okg (by assumption) | (simp only [List.length_set, List.length_append, List.length_cons, List.length_nil, List.length_replicate]; omega)) only [go_sem, ↓reduceIte, Int.reduceLE, Int.reduceLT, Int.reduceToNat, Int.reduceNeg, Int.reduceAdd, Int.reduceSub, Int.reduceMul, Int.reduceEq, Int.reduceNe, Nat.reduceEqDiff, Nat.reduceAdd, Nat.reduceSub, Nat.reduceMul, Nat.reduceLT, Nat.reduceLeDiff, Nat.reduceBEq, Nat.reduceBNe, UInt8.reduceToNat, Try.results121, e0, m0, e4, m4, e5, m16, e6, hz, hpw, hw0]))
      exact ⟨n, n2, n8, ops, by omega, q + 1, by omega, by omega, rfl, rfl, rfl⟩
    obtain ⟨k, hk, _, hpk⟩ := c_pick bs (q + 1) ops.length hb (by omega) (by omega)
    obtain ⟨k0, k1⟩ := hk (by omega)
    obtain ⟨y1, hy1, hnum1⟩ := c_num bs (q + 1 + 1) [0, 4, 1, 2] hb (by omega) (by simp) (by simp)
    obtain ⟨y2, hy2, hnum2⟩ := c_num bs (q + 1 + 1 + 1) [1, 16, 2] hb (by omega) (by simp) (by simp)
    simp only [List.map_cons, List.map_nil, encI, List.length_cons, List.length_nil, Nat.reduceAdd] at hnum1 hnum2
    have hgo := getO ops k.toNat (by omega)
    generalize ho : ops.getD k.toNat (0, 0, 0) = o at hgo
    obtain ⟨kd, a, b⟩ := o
    simp only at hgo
    have hgo2 := getO (ops.set k.toNat (y1, a, b)) k.toNat (by rw [List.length_set]; omega)
    have hself : (ops.set k.toNat (y1, a, b)).getD k.toNat (0, 0, 0) = (y1, a, b) := by simp [List.getD, show k.toNat < ops.length by omega]
    rw [hself] at hgo2
    simp only at hgo2
    repeat' (first
      | refine xw_seq ?_
      | refine xw_block ?_
      | (refine ite_two ?_ ?_ <;> intro _ <;> first | (exfalso; omega) | skip)
      | refine ord_split (by kernel_rfl) ?_
      | (refine xw_ret ?_ <;> try simp only [sq, bl, LQ])
      | ((first | refine xw_reg ?_ | refine xw_regd ?_ | refine xw_if ?_ | refine xw_skip ?_ | refine xw_exit ?_ | refine xw_label ?_ | refine post_ret ?_ | refine post_normal ?_ | refine postE_ret ?_ | refine postE_normal ?_ | (((first | refine at_region ?_ | refine at_out ?_ | refine at_cond ?_); split) <;> first | (exfalso; omega; done) | skip)) <;> try simp (config := { maxSteps := 3000000 }) (disch := first | assumption | omega | exact VG.okg (by assumption) | (simp only [List.length_set, List.length_append, List.length_cons, List.length_nil, List.length_replicate]; omega)) only [go_sem, ↓reduceIte, Int.reduceLE, Int.reduceLT, Int.reduceToNat, Int.reduceNeg, Int.reduceAdd, Int.reduceSub, Int.reduceMul, Int.reduceEq, Int.reduceNe, Nat.reduceEqDiff, Nat.reduceAdd, Nat.reduceSub, Nat.reduceMul, Nat.reduceLT, Nat.reduceLeDiff, Nat.reduceBEq, Nat.reduceBNe, UInt8.reduceToNat, Try.results121, e0, m0, e4, m4, e5, m16, e6, hz, hpw, hw0, hpk, hnum1, hnum2, hgo, hgo2]))
    exact ⟨n, n2, n8, (ops.set k.toNat (y1, a, b)).set k.toNat (y1, a, y2), by rw [List.length_set, List.length_set]; omega, q + 1 + 1 + 1 + 1, by omega, by omega, by rw [List.length_set, List.length_set], rfl, rfl⟩
  obtain ⟨c, hc, _, hpc⟩ := c_pick bs q n hb (by omega) (by omega)
  obtain ⟨d, hd, _, hpd⟩ := c_pick bs (q + 1) n hb (by omega) (by omega)
  by_cases hcd : c = d
  · repeat' (first
      | refine xw_seq ?_
      | refine xw_block ?_
      | (refine ite_two ?_ ?_ <;> intro _ <;> first | (exfalso; omega) | skip)
      | refine ord_split (by kernel_rfl) ?_
      | (refine xw_ret ?_ <;> try simp only [sq, bl, LQ])
      | ((first | refine xw_reg ?_ | refine xw_regd ?_ | refine xw_if ?_ | refine xw_skip ?_ | refine xw_exit ?_ | refine xw_label ?_ | refine post_ret ?_ | refine post_normal ?_ | refine postE_ret ?_ | refine postE_normal ?_ | (((first | refine at_region ?_ | refine at_out ?_ | refine at_cond ?_); split) <;> first | (exfalso; omega; done) | skip)) <;> try simp (config := { maxSteps := 3000000 }) (disch := first | assumption | omega | exact VG.okg (by assumption) | (simp only [List.length_set, List.length_append, List.length_cons, List.length_nil, List.length_replicate]; omega)) only [go_sem, ↓reduceIte, Int.reduceLE, Int.reduceLT, Int.reduceToNat, Int.reduceNeg, Int.reduceAdd, Int.reduceSub, Int.reduceMul, Int.reduceEq, Int.reduceNe, Nat.reduceEqDiff, Nat.reduceAdd, Nat.reduceSub, Nat.reduceMul, Nat.reduceLT, Nat.reduceLeDiff, Nat.reduceBEq, Nat.reduceBNe, UInt8.reduceToNat, Try.results121, e0, m0, e4, m4, e5, m16, e6, hpc, hpd, hcd]))
    exact ⟨i - 1, q + 1 + 1, rfl, _, x, rfl, rfl, es, ops, rfl, rfl, rfl, rfl, by omega, by omega, by omega, by omega, hx, by omega, by omega, by omega⟩
  obtain ⟨kd, hkd, hnk⟩ := c_num bs (q + 1 + 1) [1, 3, 1, 3, 2] hb (by omega) (by simp) (by simp)
  simp only [List.map_cons, List.map_nil, encI, List.length_cons, List.length_nil, Nat.reduceAdd] at hnk
  have hkd' : kd = 1 ∨ kd = 2 ∨ kd = 3 := by simp at hkd; omega
  have hle2 : es.length ≤ 20 := by omega
  have hed := c_l1Edge c d
  generalize edgeOf c d = e at *
  obtain ⟨a, b⟩ := e
  simp only at hed
  have hfi := c_l1Find es a b (by omega)
  have hpu := c_l1Put es a b (by omega)
  have hwi := c_l1Without a b es (by omega)
  have hpl := putE_length (a, b) es
  have hcl : (cutE (a, b) es).length ≤ es.length := List.length_filter_le _ _
  generalize nv (m 9) = V9 at *
  by_cases hm : (a, b) ∈ es
  · have hge : 0 ≤ findE es (a, b) := by unfold findE; rw [if_pos hm]; omega
    generalize findE es (a, b) = f at *
    rcases hkd' with rfl | rfl | rfl
    · repeat' (first
        | refine xw_seq ?_
        | refine xw_block ?_
        | (refine ite_two ?_ ?_ <;> intro _ <;> first | (exfalso; omega) | skip)
        | refine ord_split (by kernel_rfl) ?_
        | (refine xw_ret ?_ <;> try simp only [sq, bl, LQ])
        | ((first | refine xw_reg ?_ | refine xw_regd ?_ | refine xw_if ?_ | refine xw_skip ?_ | refine xw_exit ?_ | refine xw_label ?_ | refine post_ret ?_ | refine post_normal ?_ | refine postE_ret ?_ | refine postE_normal ?_ | (((first | refine at_region ?_ | refine at_out ?_ | refine at_cond ?_); split) <;> first | (exfalso; omega; done) | skip)) <;> try simp (config := { maxSteps := 3000000 }) (disch := first | assumption | omega | exact VG.okg (by assumption) | (simp only [List.length_set, List.length_append, List.length_cons, List.length_nil, List.length_replicate]; omega)) only [go_sem, ↓reduceIte, Int.reduceLE, Int.reduceLT, Int.reduceToNat, Int.reduceNeg, Int.reduceAdd, Int.reduceSub, Int.reduceMul, Int.reduceEq, Int.reduceNe, Nat.reduceEqDiff, Nat.reduceAdd, Nat.reduceSub, Nat.reduceMul, Nat.reduceLT, Nat.reduceLeDiff, Nat.reduceBEq, Nat.reduceBNe, UInt8.reduceToNat, Try.results121, e0, m0, e4, m4, e5, m16, e6, hpc, hpd, hcd, hnk, hed, hfi, hwi, hge, hxf, hxl]))
      exact ⟨i - 1, q + 1 + 1 + 1, rfl, _, _, rfl, rfl, cutE (a, b) es, ops ++ [(2, a, b)], by simp, rfl, by simp [encO], rfl, by omega, by omega, by omega, by omega, EL.lst _, by omega, by simp; omega, by omega⟩
    · repeat' (first
        | refine xw_seq ?_
        | refine xw_block ?_
        | (refine ite_two ?_ ?_ <;> intro _ <;> first | (exfalso; omega) | skip)
        | refine ord_split (by kernel_rfl) ?_
        | (refine xw_ret ?_ <;> try simp only [sq, bl, LQ])
        | ((first | refine xw_reg ?_ | refine xw_regd ?_ | refine xw_if ?_ | refine xw_skip ?_ | refine xw_exit ?_ | refine xw_label ?_ | refine post_ret ?_ | refine post_normal ?_ | refine postE_ret ?_ | refine postE_normal ?_ | (((first | refine at_region ?_ | refine at_out ?_ | refine at_cond ?_); split) <;> first | (exfalso; omega; done) | skip)) <;> try simp (config := { maxSteps := 3000000 }) (disch := first | assumption | omega | exact VG.okg (by assumption) | (simp only [List.length_set, List.length_append, List.length_cons, List.length_nil, List.length_replicate]; omega)) only [go_sem, ↓reduceIte, Int.reduceLE, Int.reduceLT, Int.reduceToNat, Int.reduceNeg, Int.reduceAdd, Int.reduceSub, Int.reduceMul, Int.reduceEq, Int.reduceNe, Nat.reduceEqDiff, Nat.reduceAdd, Nat.reduceSub, Nat.reduceMul, Nat.reduceLT, Nat.reduceLeDiff, Nat.reduceBEq, Nat.reduceBNe, UInt8.reduceToNat, Try.results121, e0, m0, e4, m4, e5, m16, e6, hpc, hpd, hcd, hnk, hed, hfi, hwi, hge, hxf, hxl]))
      exact ⟨i - 1, q + 1 + 1 + 1, rfl, _, _, rfl, rfl, cutE (a, b) es, ops ++ [(2, a, b)], by simp, rfl, by simp [encO], rfl, by omega, by omega, by omega, by omega, EL.lst _, by omega, by simp; omega, by omega⟩
    · repeat' (first
        | refine xw_seq ?_
        | refine xw_block ?_
        | (refine ite_two ?_ ?_ <;> intro _ <;> first | (exfalso; omega) | skip)
        | refine ord_split (by kernel_rfl) ?_
        | (refine xw_ret ?_ <;> try simp only [sq, bl, LQ])
        | ((first | refine xw_reg ?_ | refine xw_regd ?_ | refine xw_if ?_ | refine xw_skip ?_ | refine xw_exit ?_ | refine xw_label ?_ | refine post_ret ?_ | refine post_normal ?_ | refine postE_ret ?_ | refine postE_normal ?_ | (((first | refine at_region ?_ | refine at_out ?_ | refine at_cond ?_); split) <;> first | (exfalso; omega; done) | skip)) <;> try simp (config := { maxSteps := 3000000 }) (disch := first | assumption | omega | exact VG.okg (by assumption) | (simp only [List.length_set, List.length_append, List.length_cons, List.length_nil, List.length_replicate]; omega)) only [go_sem, ↓reduceIte, Int.reduceLE, Int.reduceLT, Int.reduceToNat, Int.reduceNeg, Int.reduceAdd, Int.reduceSub, Int.reduceMul, Int.reduceEq, Int.reduceNe, Nat.reduceEqDiff, Nat.reduceAdd, Nat.reduceSub, Nat.reduceMul, Nat.reduceLT, Nat.reduceLeDiff, Nat.reduceBEq, Nat.reduceBNe, UInt8.reduceToNat, Try.results121, e0, m0, e4, m4, e5, m16, e6, hpc, hpd, hcd, hnk, hed, hfi, hwi, hge, hxf, hxl]))
      exact ⟨i - 1, q + 1 + 1 + 1, rfl, _, _, rfl, rfl, es, ops ++ [(3, a, b)], by simp, rfl, by simp [encO], rfl, by omega, by omega, by omega, by omega, hx, by omega, by simp; omega, by omega⟩
  · have hge : ¬ 0 ≤ findE es (a, b) := by unfold findE; rw [if_neg hm]; omega
    generalize findE es (a, b) = f at *
    rcases hkd' with rfl | rfl | rfl
    · repeat' (first
        | refine xw_seq ?_
        | refine xw_block ?_
        | (refine ite_two ?_ ?_ <;> intro _ <;> first | (exfalso; omega) | skip)
        | refine ord_split (by kernel_rfl) ?_
        | (refine xw_ret ?_ <;> try simp only [sq, bl, LQ])
        | ((first | refine xw_reg ?_ | refine xw_regd ?_ | refine xw_if ?_ | refine xw_skip ?_ | refine xw_exit ?_ | refine xw_label ?_ | refine post_ret ?_ | refine post_normal ?_ | refine postE_ret ?_ | refine postE_normal ?_ | (((first | refine at_region ?_ | refine at_out ?_ | refine at_cond ?_); split) <;> first | (exfalso; omega; done) | skip)) <;> try simp (config := { maxSteps := 3000000 }) (disch := first | assumption | omega | exact VG.okg (by assumption) | (simp only [List.length_set, List.length_append, List.length_cons, List.length_nil, List.length_replicate]; omega)) only [go_sem, ↓reduceIte, Int.reduceLE, Int.reduceLT, Int.reduceToNat, Int.reduceNeg, Int.reduceAdd, Int.reduceSub, Int.reduceMul, Int.reduceEq, Int.reduceNe, Nat.reduceEqDiff, Nat.reduceAdd, Nat.reduceSub, Nat.reduceMul, Nat.reduceLT, Nat.reduceLeDiff, Nat.reduceBEq, Nat.reduceBNe, UInt8.reduceToNat, Try.results121, e0, m0, e4, m4, e5, m16, e6, hpc, hpd, hcd, hnk, hed, hfi, hpu, hge, hxf, hxl]))
      exact ⟨i - 1, q + 1 + 1 + 1, rfl, _, _, rfl, rfl, putE (a, b) es, ops ++ [(1, a, b)], by simp, rfl, by simp [encO], rfl, by omega, by omega, by omega, by omega, EL.lst _, by omega, by simp; omega, by omega⟩
    · repeat' (first
        | refine xw_seq ?_
        | refine xw_block ?_
        | (refine ite_two ?_ ?_ <;> intro _ <;> first | (exfalso; omega) | skip)
        | refine ord_split (by kernel_rfl) ?_
        | (refine xw_ret ?_ <;> try simp only [sq, bl, LQ])
        | ((first | refine xw_reg ?_ | refine xw_regd ?_ | refine xw_if ?_ | refine xw_skip ?_ | refine xw_exit ?_ | refine xw_label ?_ | refine post_ret ?_ | refine post_normal ?_ | refine postE_ret ?_ | refine postE_normal ?_ | (((first | refine at_region ?_ | refine at_out ?_ | refine at_cond ?_); split) <;> first | (exfalso; omega; done) | skip)) <;> try simp (config := { maxSteps := 3000000 }) (disch := first | assumption | omega | exact VG.okg (by assumption) | (simp only [List.length_set, List.length_append, List.length_cons, List.length_nil, List.length_replicate]; omega)) only [go_sem, ↓reduceIte, Int.reduceLE, Int.reduceLT, Int.reduceToNat, Int.reduceNeg, Int.reduceAdd, Int.reduceSub, Int.reduceMul, Int.reduceEq, Int.reduceNe, Nat.reduceEqDiff, Nat.reduceAdd, Nat.reduceSub, Nat.reduceMul, Nat.reduceLT, Nat.reduceLeDiff, Nat.reduceBEq, Nat.reduceBNe, UInt8.reduceToNat, Try.results121, e0, m0, e4, m4, e5, m16, e6, hpc, hpd, hcd, hnk, hed, hfi, hpu, hge, hxf, hxl]))
      exact ⟨i - 1, q + 1 + 1 + 1, rfl, _, _, rfl, rfl, putE (a, b) es, ops ++ [(1, a, b)], by simp, rfl, by simp [encO], rfl, by omega, by omega, by omega, by omega, EL.lst _, by omega, by simp; omega, by omega⟩
    · repeat' (first
        | refine xw_seq ?_
        | refine xw_block ?_
        | (refine ite_two ?_ ?_ <;> intro _ <;> first | (exfalso; omega) | skip)
        | refine ord_split (by kernel_rfl) ?_
        | (refine xw_ret ?_ <;> try simp only [sq, bl, LQ])
        | ((first | refine xw_reg ?_ | refine xw_regd ?_ | refine xw_if ?_ | refine xw_skip ?_ | refine xw_exit ?_ | refine xw_label ?_ | refine post_ret ?_ | refine post_normal ?_ | refine postE_ret ?_ | refine postE_normal ?_ | (((first | refine at_region ?_ | refine at_out ?_ | refine at_cond ?_); split) <;> first | (exfalso; omega; done) | skip)) <;> try simp (config := { maxSteps := 3000000 }) (disch := first | assumption | omega | exact VG.okg (by assumption) | (simp only [List.length_set, List.length_append, List.length_cons, List.length_nil, List.length_replicate]; omega)) only [go_sem, ↓reduceIte, Int.reduceLE, Int.reduceLT, Int.reduceToNat, Int.reduceNeg, Int.reduceAdd, Int.reduceSub, Int.reduceMul, Int.reduceEq, Int.reduceNe, Nat.reduceEqDiff, Nat.reduceAdd, Nat.reduceSub, Nat.reduceMul, Nat.reduceLT, Nat.reduceLeDiff, Nat.reduceBEq, Nat.reduceBNe, UInt8.reduceToNat, Try.results121, e0, m0, e4, m4, e5, m16, e6, hpc, hpd, hcd, hnk, hed, hfi, hpu, hge, hxf, hxl]))
      exact ⟨i - 1, q + 1 + 1 + 1, rfl, _, _, rfl, rfl, es, ops ++ [(3, a, b)], by simp, rfl, by simp [encO], rfl, by omega, by omega, by omega, by omega, hx, by omega, by simp; omega, by omega⟩
end Go.Proofs.Ytjffaedlmplcnaa.X
