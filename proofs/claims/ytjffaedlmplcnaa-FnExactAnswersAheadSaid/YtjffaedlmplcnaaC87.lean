/- What functions compute: operations that are made, as the program has them. -/
import Derived.Test.YtjffaedlmplcnaaC86
import Derived.Test.YtjffaedlmplcnaaC46
import Derived.Test.YtjffaedlmplcnaaKD
import Derived.Test.YtjffaedlmplcnaaC84
set_option linter.unusedSimpArgs false
set_option linter.unusedVariables false
set_option maxHeartbeats 16000000
set_option maxRecDepth 100000
namespace Go.Proofs.Ytjffaedlmplcnaa.X
open Go Go.Proofs
theorem delE_mem {a b : Int} {es : List (Int × Int)} (hm : (a, b) ∈ es) : delE (fun e => decide (e.1 = a ∧ e.2 = b)) es = .lst ((cutE (a, b) es).map encE) := by
  have hne : es ≠ [] := fun h => by rw [h] at hm; simp at hm
  unfold delE
  rw [if_neg hne]
  congr 2
  unfold cutE
  refine List.filter_congr fun f _ => ?_
  by_cases c : f = (a, b)
  · subst c; simp
  · have : ¬ (f.1 = a ∧ f.2 = b) := fun h => c (Prod.ext h.1 h.2)
    simp [c, this]
theorem c_run (n : Int) (ops : List Op3) (hl : ops.length ≤ 100000000) :
    ∃ res, (match roS n ops with | none => res = (.tup [.agg [I 0, .i .emp], .i .emp, B false], [], []) | some es => ∃ x, EL x es ∧ res = (PV.tup [.agg [I n, .i x], .ref 2000 0 0 (anR n ops ops.length).length, B true], [], [.arr 0 1 ((anR n ops ops.length).map encT)])) ∧ KP 74 [I n, LO ops] [] = some res := by
  have hgv : KP 62 [.agg [I n, .i (.lst [])]] [] = some (B (decide (VG n [])), [], []) := c_GraphValid n [] (by simp)
  by_cases hall : 1 ≤ n ∧ n ≤ 16 ∧ ops.length ≤ 64
  rotate_left
  · rw [show roS n ops = none from if_neg hall]
    by_cases hV : VG n []
    · rw [decide_eq_true hV] at hgv
      have h64 : (64 : Int) < ops.length := by
        have h1 := hV.1
        have h2 := hV.2.1
        omega
      refine xw_callE (fn := Try.f74) rfl Try.func74 rfl ⟨Nat.le_of_ble_eq_true rfl, rfl, rfl⟩ ?_
      repeat' (first
        | refine xw_seq ?_
        | refine xw_block ?_
        | (refine ite_two ?_ ?_ <;> intro _ <;> first | (exfalso; omega) | skip)
        | refine ord_split (by kernel_rfl) ?_
        | (refine xw_ret ?_ <;> try simp only [sq, bl, LQ])
        | ((first | refine xw_reg ?_ | refine xw_regd ?_ | refine xw_if ?_ | refine xw_skip ?_ | refine xw_exit ?_ | refine xw_label ?_ | refine post_ret ?_ | refine post_normal ?_ | refine postE_ret ?_ | refine postE_normal ?_ | (((first | refine at_region ?_ | refine at_out ?_ | refine at_cond ?_); split) <;> first | (exfalso; omega; done) | skip)) <;> try simp (config := { maxSteps := 3000000 }) (disch := first | assumption | omega | exact VG.okg (by assumption) | (simp only [List.length_set, List.length_append, List.length_cons, List.length_nil, List.length_replicate]; omega)) only [go_sem, ↓reduceIte, Int.reduceLE, Int.reduceLT, Int.reduceToNat, Int.reduceNeg, Int.reduceAdd, Int.reduceSub, Int.reduceMul, Int.reduceEq, Int.reduceNe, Nat.reduceEqDiff, Nat.reduceAdd, Nat.reduceSub, Nat.reduceMul, Nat.reduceLT, Nat.reduceLeDiff, Nat.reduceBEq, Nat.reduceBNe, UInt8.reduceToNat, Try.results74, hgv, h64]))
    · rw [decide_eq_false hV] at hgv
      refine xw_callE (fn := Try.f74) rfl Try.func74 rfl ⟨Nat.le_of_ble_eq_true rfl, rfl, rfl⟩ ?_
      repeat' (first
        | refine xw_seq ?_
        | refine xw_block ?_
        | (refine ite_two ?_ ?_ <;> intro _ <;> first | (exfalso; omega) | skip)
        | refine ord_split (by kernel_rfl) ?_
        | (refine xw_ret ?_ <;> try simp only [sq, bl, LQ])
        | ((first | refine xw_reg ?_ | refine xw_regd ?_ | refine xw_if ?_ | refine xw_skip ?_ | refine xw_exit ?_ | refine xw_label ?_ | refine post_ret ?_ | refine post_normal ?_ | refine postE_ret ?_ | refine postE_normal ?_ | (((first | refine at_region ?_ | refine at_out ?_ | refine at_cond ?_); split) <;> first | (exfalso; omega; done) | skip)) <;> try simp (config := { maxSteps := 3000000 }) (disch := first | assumption | omega | exact VG.okg (by assumption) | (simp only [List.length_set, List.length_append, List.length_cons, List.length_nil, List.length_replicate]; omega)) only [go_sem, ↓reduceIte, Int.reduceLE, Int.reduceLT, Int.reduceToNat, Int.reduceNeg, Int.reduceAdd, Int.reduceSub, Int.reduceMul, Int.reduceEq, Int.reduceNe, Nat.reduceEqDiff, Nat.reduceAdd, Nat.reduceSub, Nat.reduceMul, Nat.reduceLT, Nat.reduceLeDiff, Nat.reduceBEq, Nat.reduceBNe, UInt8.reduceToNat, Try.results74, hgv]))
  have hro : roS n ops = runS n ops := if_pos hall
  obtain ⟨h1, h2, h3⟩ := hall
  rw [hro]
  have hV0 : VG n [] := runS_vg h1 h2 rfl (runS_nil n)
  rw [decide_eq_true hV0] at hgv
  refine xw_callE (fn := Try.f74) rfl Try.func74 rfl ⟨Nat.le_of_ble_eq_true rfl, rfl, rfl⟩ ?_
  repeat' (first
    | refine xw_seq ?_
    | refine xw_block ?_
    | (refine ite_two ?_ ?_ <;> intro _ <;> first | (exfalso; omega) | skip)
    | refine ord_split (by kernel_rfl) ?_
    | (refine xw_ret ?_ <;> try simp only [sq, bl, LQ])
    | ((first | refine xw_reg ?_ | refine xw_regd ?_ | refine xw_if ?_ | refine xw_skip ?_ | refine xw_exit ?_ | refine xw_label ?_ | refine post_ret ?_ | refine post_normal ?_ | refine postE_ret ?_ | refine postE_normal ?_ | (((first | refine at_region ?_ | refine at_out ?_ | refine at_cond ?_); split) <;> first | (exfalso; omega; done) | skip)) <;> try simp (config := { maxSteps := 3000000 }) (disch := first | assumption | omega | exact VG.okg (by assumption) | (simp only [List.length_set, List.length_append, List.length_cons, List.length_nil, List.length_replicate]; omega)) only [go_sem, ↓reduceIte, Int.reduceLE, Int.reduceLT, Int.reduceToNat, Int.reduceNeg, Int.reduceAdd, Int.reduceSub, Int.reduceMul, Int.reduceEq, Int.reduceNe, Nat.reduceEqDiff, Nat.reduceAdd, Nat.reduceSub, Nat.reduceMul, Nat.reduceLT, Nat.reduceLeDiff, Nat.reduceBEq, Nat.reduceBNe, UInt8.reduceToNat, Try.results74, hgv]))
  refine xw_loopR (fun (w : Int × Nat × IV × List (Int × Int)) s => s.ρ 1 = LO ops ∧ s.ρ 4 = .ptr 4 0 0 0 ∧ s.m 4 = some (.box 0 [I 0, .i .emp]) ∧ s.ρ 7 = .ptr 7 0 0 0 ∧ s.m 7 = some (.box 0 [I n, .i w.2.2.1]) ∧ s.ρ 8 = .ref 14 w.2.1 0 (anR n ops w.1.toNat).length ∧ s.m 14 = some (.arr w.2.1 1 ((anR n ops w.1.toNat).map encT)) ∧ s.ρ 24 = LO ops ∧ s.ρ 25 = I ops.length ∧ s.ρ 26 = I w.1 ∧ 0 ≤ w.1 ∧ w.1 ≤ ops.length ∧ EL w.2.2.1 w.2.2.2 ∧ runS n (ops.take w.1.toNat) = some w.2.2.2) (fun w => (ops.length - w.1).toNat) (0, 0, .emp, []) ?_ ?_
  · refine ⟨?_, ?_, ?_, ?_, ?_, ?_, ?_, ?_, ?_, ?_, by simp, by simp, EL.emp, rfl⟩
    all_goals rfl
  rintro ⟨i, v, x, es⟩ ⟨ρ, m⟩ ⟨e1, e4, m4, e7, m7, e8, m14, e24, e25, e26, g0, g1, hx, hr⟩
  simp only at e1 e4 m4 e7 m7 e8 m14 e24 e25 e26 g0 g1 hx hr
  have hV : VG n es := runS_vg h1 h2 rfl hr
  have hel := hV.2.2.1
  have hxf := hx.f
  have hxl := hx.fl
  have hal := anR_len n ops i.toNat
  by_cases hi : i < ops.length
  rotate_left
  · have hit : i.toNat = ops.length := by omega
    rw [hit, List.take_length] at hr
    rw [hr]
    rw [hit] at e8 m14
    repeat' (first
      | refine xw_seq ?_
      | refine xw_block ?_
      | (refine ite_two ?_ ?_ <;> intro _ <;> first | (exfalso; omega) | skip)
      | refine ord_split (by kernel_rfl) ?_
      | (refine xw_ret ?_ <;> try simp only [sq, bl, LQ])
      | ((first | refine xw_reg ?_ | refine xw_regd ?_ | refine xw_if ?_ | refine xw_skip ?_ | refine xw_exit ?_ | refine xw_label ?_ | refine post_ret ?_ | refine post_normal ?_ | refine postE_ret ?_ | refine postE_normal ?_ | (((first | refine at_region ?_ | refine at_out ?_ | refine at_cond ?_); split) <;> first | (exfalso; omega; done) | skip)) <;> try simp (config := { maxSteps := 3000000 }) (disch := first | assumption | omega | exact VG.okg (by assumption) | (simp only [List.length_set, List.length_append, List.length_cons, List.length_nil, List.length_replicate]; omega)) only [go_sem, ↓reduceIte, Int.reduceLE, Int.reduceLT, Int.reduceToNat, Int.reduceNeg, Int.reduceAdd, Int.reduceSub, Int.reduceMul, Int.reduceEq, Int.reduceNe, Nat.reduceEqDiff, Nat.reduceAdd, Nat.reduceSub, Nat.reduceMul, Nat.reduceLT, Nat.reduceLeDiff, Nat.reduceBEq, Nat.reduceBNe, UInt8.reduceToNat, Try.results74, e1, e4, m4, e7, m7, e8, m14, e24, e25, e26, hxf, hxl]))
    exact ⟨x, hx, rfl⟩
  have hgo := getO ops i.toNat (by omega)
  have hnx := runS_next (n := n) g0 (show i < ops.length by omega)
  rw [hr, Option.bind_some] at hnx
  have hfail : runS n (ops.take (i + 1).toNat) = none → runS n ops = none := fun h => by
    have := runS_fail (u := ops.length) h (by omega)
    rwa [List.take_length] at this
  have han := anR_snoc n ops i.toNat
  have hst : stL n ops i.toNat = es := by unfold stL; rw [hr]; rfl
  rw [hst] at han
  have hi1 : i.toNat + 1 = (i + 1).toNat := by omega
  rw [hi1] at han
  generalize ops.getD i.toNat (0, 0, 0) = o at hgo hnx han
  obtain ⟨kd, a, b⟩ := o
  simp only at hgo hnx han
  unfold opS at hnx
  simp only at hnx
  generalize anR n ops i.toNat = A at *
  generalize hA : anR n ops (i + 1).toNat = A' at *
  by_cases k1 : kd = 1
  · subst k1
    rw [if_pos rfl] at hnx
    rw [if_neg (by omega), List.append_nil] at han
    subst han
    by_cases hP : PutOK n es (a, b)
    · obtain ⟨r, own, hpe, him⟩ := c_PutEdgeL n a b es hP (by omega)
      rw [if_pos hP] at hnx
      repeat' (first
        | refine xw_seq ?_
        | refine xw_block ?_
        | (refine ite_two ?_ ?_ <;> intro _ <;> first | (exfalso; omega) | skip)
        | refine ord_split (by kernel_rfl) ?_
        | (refine xw_ret ?_ <;> try simp only [sq, bl, LQ])
        | ((first | refine xw_reg ?_ | refine xw_regd ?_ | refine xw_if ?_ | refine xw_skip ?_ | refine xw_exit ?_ | refine xw_label ?_ | refine post_ret ?_ | refine post_normal ?_ | refine postE_ret ?_ | refine postE_normal ?_ | (((first | refine at_region ?_ | refine at_out ?_ | refine at_cond ?_); split) <;> first | (exfalso; omega; done) | skip)) <;> try simp (config := { maxSteps := 3000000 }) (disch := first | assumption | omega | exact VG.okg (by assumption) | (simp only [List.length_set, List.length_append, List.length_cons, List.length_nil, List.length_replicate]; omega)) only [go_sem, ↓reduceIte, Int.reduceLE, Int.reduceLT, Int.reduceToNat, Int.reduceNeg, Int.reduceAdd, Int.reduceSub, Int.reduceMul, Int.reduceEq, Int.reduceNe, Nat.reduceEqDiff, Nat.reduceAdd, Nat.reduceSub, Nat.reduceMul, Nat.reduceLT, Nat.reduceLeDiff, Nat.reduceBEq, Nat.reduceBNe, UInt8.reduceToNat, Try.results74, e1, e4, m4, e7, m7, e8, m14, e24, e25, e26, hxf, hxl, hgo, hpe, him]))
      exact ⟨i + 1, _, _, rfl, rfl, by rw [hA], rfl, by rw [hA], rfl, by omega, by omega, _, EL.lst _, hnx, by omega⟩
    · have hpe := c_PutEdge n a b es (by omega)
      rw [if_neg hP] at hpe hnx
      rw [hfail hnx]
      repeat' (first
        | refine xw_seq ?_
        | refine xw_block ?_
        | (refine ite_two ?_ ?_ <;> intro _ <;> first | (exfalso; omega) | skip)
        | refine ord_split (by kernel_rfl) ?_
        | (refine xw_ret ?_ <;> try simp only [sq, bl, LQ])
        | ((first | refine xw_reg ?_ | refine xw_regd ?_ | refine xw_if ?_ | refine xw_skip ?_ | refine xw_exit ?_ | refine xw_label ?_ | refine post_ret ?_ | refine post_normal ?_ | refine postE_ret ?_ | refine postE_normal ?_ | (((first | refine at_region ?_ | refine at_out ?_ | refine at_cond ?_); split) <;> first | (exfalso; omega; done) | skip)) <;> try simp (config := { maxSteps := 3000000 }) (disch := first | assumption | omega | exact VG.okg (by assumption) | (simp only [List.length_set, List.length_append, List.length_cons, List.length_nil, List.length_replicate]; omega)) only [go_sem, ↓reduceIte, Int.reduceLE, Int.reduceLT, Int.reduceToNat, Int.reduceNeg, Int.reduceAdd, Int.reduceSub, Int.reduceMul, Int.reduceEq, Int.reduceNe, Nat.reduceEqDiff, Nat.reduceAdd, Nat.reduceSub, Nat.reduceMul, Nat.reduceLT, Nat.reduceLeDiff, Nat.reduceBEq, Nat.reduceBNe, UInt8.reduceToNat, Try.results74, e1, e4, m4, e7, m7, e8, m14, e24, e25, e26, hxf, hxl, hgo, hpe]))
  rw [if_neg k1] at hnx
  by_cases k2 : kd = 2
  · subst k2
    rw [if_pos rfl] at hnx
    rw [if_neg (by omega), List.append_nil] at han
    subst han
    have hce := c_CutEdge n a b es (by omega)
    by_cases hP : (a, b) ∈ es
    · rw [if_pos ⟨hV, hP⟩, delE_mem hP] at hce
      rw [if_pos hP] at hnx
      repeat' (first
        | refine xw_seq ?_
        | refine xw_block ?_
        | (refine ite_two ?_ ?_ <;> intro _ <;> first | (exfalso; omega) | skip)
        | refine ord_split (by kernel_rfl) ?_
        | (refine xw_ret ?_ <;> try simp only [sq, bl, LQ])
        | ((first | refine xw_reg ?_ | refine xw_regd ?_ | refine xw_if ?_ | refine xw_skip ?_ | refine xw_exit ?_ | refine xw_label ?_ | refine post_ret ?_ | refine post_normal ?_ | refine postE_ret ?_ | refine postE_normal ?_ | (((first | refine at_region ?_ | refine at_out ?_ | refine at_cond ?_); split) <;> first | (exfalso; omega; done) | skip)) <;> try simp (config := { maxSteps := 3000000 }) (disch := first | assumption | omega | exact VG.okg (by assumption) | (simp only [List.length_set, List.length_append, List.length_cons, List.length_nil, List.length_replicate]; omega)) only [go_sem, ↓reduceIte, Int.reduceLE, Int.reduceLT, Int.reduceToNat, Int.reduceNeg, Int.reduceAdd, Int.reduceSub, Int.reduceMul, Int.reduceEq, Int.reduceNe, Nat.reduceEqDiff, Nat.reduceAdd, Nat.reduceSub, Nat.reduceMul, Nat.reduceLT, Nat.reduceLeDiff, Nat.reduceBEq, Nat.reduceBNe, UInt8.reduceToNat, Try.results74, e1, e4, m4, e7, m7, e8, m14, e24, e25, e26, hxf, hxl, hgo, hce]))
      exact ⟨i + 1, _, _, rfl, rfl, by rw [hA], rfl, by rw [hA], rfl, by omega, by omega, _, EL.lst _, hnx, by omega⟩
    · rw [if_neg (fun h => hP h.2)] at hce
      rw [if_neg hP] at hnx
      rw [hfail hnx]
      repeat' (first
        | refine xw_seq ?_
        | refine xw_block ?_
        | (refine ite_two ?_ ?_ <;> intro _ <;> first | (exfalso; omega) | skip)
        | refine ord_split (by kernel_rfl) ?_
        | (refine xw_ret ?_ <;> try simp only [sq, bl, LQ])
        | ((first | refine xw_reg ?_ | refine xw_regd ?_ | refine xw_if ?_ | refine xw_skip ?_ | refine xw_exit ?_ | refine xw_label ?_ | refine post_ret ?_ | refine post_normal ?_ | refine postE_ret ?_ | refine postE_normal ?_ | (((first | refine at_region ?_ | refine at_out ?_ | refine at_cond ?_); split) <;> first | (exfalso; omega; done) | skip)) <;> try simp (config := { maxSteps := 3000000 }) (disch := first | assumption | omega | exact VG.okg (by assumption) | (simp only [List.length_set, List.length_append, List.length_cons, List.length_nil, List.length_replicate]; omega)) only [go_sem, ↓reduceIte, Int.reduceLE, Int.reduceLT, Int.reduceToNat, Int.reduceNeg, Int.reduceAdd, Int.reduceSub, Int.reduceMul, Int.reduceEq, Int.reduceNe, Nat.reduceEqDiff, Nat.reduceAdd, Nat.reduceSub, Nat.reduceMul, Nat.reduceLT, Nat.reduceLeDiff, Nat.reduceBEq, Nat.reduceBNe, UInt8.reduceToNat, Try.results74, e1, e4, m4, e7, m7, e8, m14, e24, e25, e26, hxf, hxl, hgo, hce]))
  rw [if_neg k2] at hnx
  by_cases k3 : kd = 3
  · subst k3
    rw [if_pos rfl] at hnx
    rw [if_pos rfl] at han
    have hha := c_hasNode n es a (by omega)
    have hhb := c_hasNode n es b (by omega)
    by_cases hq : 0 ≤ a ∧ a < b ∧ b < n
    · rw [if_pos hq] at hnx
      obtain ⟨q0, q1, q2⟩ := hq
      rw [decide_eq_true ⟨hV, q0, by omega⟩] at hha
      rw [decide_eq_true ⟨hV, by omega, q2⟩] at hhb
      have hcn := c_connected n a b es hV.okg ⟨q0, by omega⟩ ⟨by omega, q2⟩
      repeat' (first
        | refine xw_seq ?_
        | refine xw_block ?_
        | (refine ite_two ?_ ?_ <;> intro _ <;> first | (exfalso; omega) | skip)
        | refine ord_split (by kernel_rfl) ?_
        | (refine xw_ret ?_ <;> try simp only [sq, bl, LQ])
        | ((first | refine xw_reg ?_ | refine xw_regd ?_ | refine xw_if ?_ | refine xw_skip ?_ | refine xw_exit ?_ | refine xw_label ?_ | refine post_ret ?_ | refine post_normal ?_ | refine postE_ret ?_ | refine postE_normal ?_ | (((first | refine at_region ?_ | refine at_out ?_ | refine at_cond ?_); split) <;> first | (exfalso; omega; done) | skip)) <;> try simp (config := { maxSteps := 3000000 }) (disch := first | assumption | omega | exact VG.okg (by assumption) | (simp only [List.length_set, List.length_append, List.length_cons, List.length_nil, List.length_replicate]; omega)) only [go_sem, ↓reduceIte, Int.reduceLE, Int.reduceLT, Int.reduceToNat, Int.reduceNeg, Int.reduceAdd, Int.reduceSub, Int.reduceMul, Int.reduceEq, Int.reduceNe, Nat.reduceEqDiff, Nat.reduceAdd, Nat.reduceSub, Nat.reduceMul, Nat.reduceLT, Nat.reduceLeDiff, Nat.reduceBEq, Nat.reduceBNe, UInt8.reduceToNat, Try.results74, e1, e4, m4, e7, m7, e8, m14, e24, e25, e26, hxf, hxl, hgo, hha, hhb, hcn, q1]))
      exact ⟨i + 1, _, _, rfl, rfl, by rw [hA, han]; simp, rfl, by rw [hA, han], rfl, by omega, by omega, es, hx, hnx, by omega⟩
    · rw [if_neg hq] at hnx
      rw [hfail hnx]
      by_cases q1 : a < b
      · by_cases q0 : 0 ≤ a
        · have q2 : ¬ b < n := fun h => hq ⟨q0, q1, h⟩
          rw [decide_eq_false (fun h => q2 h.2.2)] at hhb
          by_cases q3 : VG n es ∧ 0 ≤ a ∧ a < n
          · rw [decide_eq_true q3] at hha
            repeat' (first
              | refine xw_seq ?_
              | refine xw_block ?_
              | (refine ite_two ?_ ?_ <;> intro _ <;> first | (exfalso; omega) | skip)
              | refine ord_split (by kernel_rfl) ?_
              | (refine xw_ret ?_ <;> try simp only [sq, bl, LQ])
              | ((first | refine xw_reg ?_ | refine xw_regd ?_ | refine xw_if ?_ | refine xw_skip ?_ | refine xw_exit ?_ | refine xw_label ?_ | refine post_ret ?_ | refine post_normal ?_ | refine postE_ret ?_ | refine postE_normal ?_ | (((first | refine at_region ?_ | refine at_out ?_ | refine at_cond ?_); split) <;> first | (exfalso; omega; done) | skip)) <;> try simp (config := { maxSteps := 3000000 }) (disch := first | assumption | omega | exact VG.okg (by assumption) | (simp only [List.length_set, List.length_append, List.length_cons, List.length_nil, List.length_replicate]; omega)) only [go_sem, ↓reduceIte, Int.reduceLE, Int.reduceLT, Int.reduceToNat, Int.reduceNeg, Int.reduceAdd, Int.reduceSub, Int.reduceMul, Int.reduceEq, Int.reduceNe, Nat.reduceEqDiff, Nat.reduceAdd, Nat.reduceSub, Nat.reduceMul, Nat.reduceLT, Nat.reduceLeDiff, Nat.reduceBEq, Nat.reduceBNe, UInt8.reduceToNat, Try.results74, e1, e4, m4, e7, m7, e8, m14, e24, e25, e26, hxf, hxl, hgo, hha, hhb, q1]))
          · rw [decide_eq_false q3] at hha
            repeat' (first
              | refine xw_seq ?_
              | refine xw_block ?_
              | (refine ite_two ?_ ?_ <;> intro _ <;> first | (exfalso; omega) | skip)
              | refine ord_split (by kernel_rfl) ?_
              | (refine xw_ret ?_ <;> try simp only [sq, bl, LQ])
              | ((first | refine xw_reg ?_ | refine xw_regd ?_ | refine xw_if ?_ | refine xw_skip ?_ | refine xw_exit ?_ | refine xw_label ?_ | refine post_ret ?_ | refine post_normal ?_ | refine postE_ret ?_ | refine postE_normal ?_ | (((first | refine at_region ?_ | refine at_out ?_ | refine at_cond ?_); split) <;> first | (exfalso; omega; done) | skip)) <;> try simp (config := { maxSteps := 3000000 }) (disch := first | assumption | omega | exact VG.okg (by assumption) | (simp only [List.length_set, List.length_append, List.length_cons, List.length_nil, List.length_replicate]; omega)) only [go_sem, ↓reduceIte, Int.reduceLE, Int.reduceLT, Int.reduceToNat, Int.reduceNeg, Int.reduceAdd, Int.reduceSub, Int.reduceMul, Int.reduceEq, Int.reduceNe, Nat.reduceEqDiff, Nat.reduceAdd, Nat.reduceSub, Nat.reduceMul, Nat.reduceLT, Nat.reduceLeDiff, Nat.reduceBEq, Nat.reduceBNe, UInt8.reduceToNat, Try.results74, e1, e4, m4, e7, m7, e8, m14, e24, e25, e26, hxf, hxl, hgo, hha, q1]))
        · rw [decide_eq_false (fun h => q0 h.2.1)] at hha
          repeat' (first
            | refine xw_seq ?_
            | refine xw_block ?_
            | (refine ite_two ?_ ?_ <;> intro _ <;> first | (exfalso; omega) | skip)
            | refine ord_split (by kernel_rfl) ?_
            | (refine xw_ret ?_ <;> try simp only [sq, bl, LQ])
            | ((first | refine xw_reg ?_ | refine xw_regd ?_ | refine xw_if ?_ | refine xw_skip ?_ | refine xw_exit ?_ | refine xw_label ?_ | refine post_ret ?_ | refine post_normal ?_ | refine postE_ret ?_ | refine postE_normal ?_ | (((first | refine at_region ?_ | refine at_out ?_ | refine at_cond ?_); split) <;> first | (exfalso; omega; done) | skip)) <;> try simp (config := { maxSteps := 3000000 }) (disch := first | assumption | omega | exact VG.okg (by assumption) | (simp only [List.length_set, List.length_append, List.length_cons, List.length_nil, List.length_replicate]; omega)) only [go_sem, ↓reduceIte, Int.reduceLE, Int.reduceLT, Int.reduceToNat, Int.reduceNeg, Int.reduceAdd, Int.reduceSub, Int.reduceMul, Int.reduceEq, Int.reduceNe, Nat.reduceEqDiff, Nat.reduceAdd, Nat.reduceSub, Nat.reduceMul, Nat.reduceLT, Nat.reduceLeDiff, Nat.reduceBEq, Nat.reduceBNe, UInt8.reduceToNat, Try.results74, e1, e4, m4, e7, m7, e8, m14, e24, e25, e26, hxf, hxl, hgo, hha, q1]))
      · repeat' (first
          | refine xw_seq ?_
          | refine xw_block ?_
          | (refine ite_two ?_ ?_ <;> intro _ <;> first | (exfalso; omega) | skip)
          | refine ord_split (by kernel_rfl) ?_
          | (refine xw_ret ?_ <;> try simp only [sq, bl, LQ])
          | ((first | refine xw_reg ?_ | refine xw_regd ?_ | refine xw_if ?_ | refine xw_skip ?_ | refine xw_exit ?_ | refine xw_label ?_ | refine post_ret ?_ | refine post_normal ?_ | refine postE_ret ?_ | refine postE_normal ?_ | (((first | refine at_region ?_ | refine at_out ?_ | refine at_cond ?_); split) <;> first | (exfalso; omega; done) | skip)) <;> try simp (config := { maxSteps := 3000000 }) (disch := first | assumption | omega | exact VG.okg (by assumption) | (simp only [List.length_set, List.length_append, List.length_cons, List.length_nil, List.length_replicate]; omega)) only [go_sem, ↓reduceIte, Int.reduceLE, Int.reduceLT, Int.reduceToNat, Int.reduceNeg, Int.reduceAdd, Int.reduceSub, Int.reduceMul, Int.reduceEq, Int.reduceNe, Nat.reduceEqDiff, Nat.reduceAdd, Nat.reduceSub, Nat.reduceMul, Nat.reduceLT, Nat.reduceLeDiff, Nat.reduceBEq, Nat.reduceBNe, UInt8.reduceToNat, Try.results74, e1, e4, m4, e7, m7, e8, m14, e24, e25, e26, hxf, hxl, hgo, q1]))
  · rw [if_neg k3] at hnx
    rw [hfail hnx]
    repeat' (first
      | refine xw_seq ?_
      | refine xw_block ?_
      | (refine ite_two ?_ ?_ <;> intro _ <;> first | (exfalso; omega) | skip)
      | refine ord_split (by kernel_rfl) ?_
      | (refine xw_ret ?_ <;> try simp only [sq, bl, LQ])
      | ((first | refine xw_reg ?_ | refine xw_regd ?_ | refine xw_if ?_ | refine xw_skip ?_ | refine xw_exit ?_ | refine xw_label ?_ | refine post_ret ?_ | refine post_normal ?_ | refine postE_ret ?_ | refine postE_normal ?_ | (((first | refine at_region ?_ | refine at_out ?_ | refine at_cond ?_); split) <;> first | (exfalso; omega; done) | skip)) <;> try simp (config := { maxSteps := 3000000 }) (disch := first | assumption | omega | exact VG.okg (by assumption) | (simp only [List.length_set, List.length_append, List.length_cons, List.length_nil, List.length_replicate]; omega)) only [go_sem, ↓reduceIte, Int.reduceLE, Int.reduceLT, Int.reduceToNat, Int.reduceNeg, Int.reduceAdd, Int.reduceSub, Int.reduceMul, Int.reduceEq, Int.reduceNe, Nat.reduceEqDiff, Nat.reduceAdd, Nat.reduceSub, Nat.reduceMul, Nat.reduceLT, Nat.reduceLeDiff, Nat.reduceBEq, Nat.reduceBNe, UInt8.reduceToNat, Try.results74, e1, e4, m4, e7, m7, e8, m14, e24, e25, e26, hxf, hxl, hgo, k1, k2, k3]))
end Go.Proofs.Ytjffaedlmplcnaa.X
