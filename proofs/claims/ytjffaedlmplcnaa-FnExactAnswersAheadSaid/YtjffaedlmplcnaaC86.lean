/- What functions compute: operations that are made. -/
import Derived.Test.YtjffaedlmplcnaaC55
import Derived.Test.YtjffaedlmplcnaaC22
import Derived.Test.YtjffaedlmplcnaaKD
set_option linter.unusedSimpArgs false
set_option linter.unusedVariables false
set_option maxHeartbeats 16000000
set_option maxRecDepth 100000
namespace Go.Proofs.Ytjffaedlmplcnaa.X
open Go Go.Proofs
def encO (o : Op3) : List IV := [.v (.int .i64 o.1), .v (.int .i64 o.2.1), .v (.int .i64 o.2.2)]
abbrev LO (ops : List Op3) : PV := .i (.lst (ops.map encO))
theorem getO (ops : List Op3) (i : Nat) (h : i < ops.length) : (ops.map encO)[i]? = some [.v (.int .i64 (ops.getD i (0, 0, 0)).1), .v (.int .i64 (ops.getD i (0, 0, 0)).2.1), .v (.int .i64 (ops.getD i (0, 0, 0)).2.2)] := by
  simp [encO, h]
theorem takeO {ops : List Op3} {n : Nat} : (ops.map encO).take n = (ops.take n).map encO := by simp
theorem dropO {ops : List Op3} {n : Nat} : (ops.map encO).drop n = (ops.drop n).map encO := by simp
theorem lenO_all {ops : List Op3} : (ops.map encO).all (fun e => e.length == 3) = true := by simp [encO]
attribute [go_sem] takeO dropO lenO_all
/-- A list of edges as a value. -/
theorem EL.emp : EL .emp [] := ⟨fun n => by cases n <;> rfl, rfl⟩
/-- The edges in front of an operation, and the answers to the questions so far. -/
noncomputable def stL (n : Int) (ops : List Op3) (i : Nat) : List (Int × Int) := (runS n (ops.take i)).getD []
noncomputable def anR (n : Int) (ops : List Op3) (t : Nat) : List Bool := (List.range t).flatMap fun (i : Nat) => if (ops.getD i (0, 0, 0)).1 = 3 then [decide (Conn (stL n ops i) (ops.getD i (0, 0, 0)).2.1 (ops.getD i (0, 0, 0)).2.2)] else []
theorem anR_snoc (n : Int) (ops : List Op3) (t : Nat) : anR n ops (t + 1) = anR n ops t ++ if (ops.getD t (0, 0, 0)).1 = 3 then [decide (Conn (stL n ops t) (ops.getD t (0, 0, 0)).2.1 (ops.getD t (0, 0, 0)).2.2)] else [] := by
  unfold anR
  rw [List.range_succ, List.flatMap_append]
  simp
theorem anR_len (n : Int) (ops : List Op3) : ∀ t, (anR n ops t).length ≤ t
  | 0 => by simp [anR]
  | t + 1 => by
    have := anR_len n ops t
    rw [anR_snoc, List.length_append]
    split <;> simp <;> omega
theorem runS_next {n : Int} {ops : List Op3} {i : Int} (h0 : 0 ≤ i) (h1 : i < ops.length) : runS n (ops.take (i + 1).toNat) = (runS n (ops.take i.toNat)).bind fun es => opS n es (ops.getD i.toNat (0, 0, 0)) := by
  rw [take_int (0, 0, 0) h0 h1, runS_snoc]
theorem runS_fail {n : Int} {ops : List Op3} {t u : Nat} (h : runS n (ops.take t) = none) (hu : t ≤ u) : runS n (ops.take u) = none := by
  cases hr : runS n (ops.take u) with
  | none => rfl
  | some es =>
    have := runS_pre (n := n) (ops := ops.take u) (by rw [hr]; rfl) t
    rw [List.take_take, Nat.min_eq_left hu, h] at this
    cases this
theorem c_l8Graph (n : Int) (ops : List Op3) (t : Int) (h1 : 1 ≤ n) (h2 : n ≤ 16) (h0 : 0 ≤ t) (ht : t ≤ ops.length) (hl : ops.length ≤ 1000) :
    ∃ res, (match runS n (ops.take t.toNat) with | some es => ∃ x, EL x es ∧ res = (PV.tup [.agg [I n, .i x], B true], [], []) | none => res = (.tup [.agg [I 0, .i .emp], B false], [], [])) ∧ KP 122 [I n, LO ops, I t] [] = some res := by
  refine xw_callE (fn := Try.f122) rfl Try.func122 rfl ⟨Nat.le_of_ble_eq_true rfl, rfl, rfl⟩ ?_
  repeat' (first
    | refine xw_seq ?_
    | refine xw_block ?_
    | (refine ite_two ?_ ?_ <;> intro _ <;> first | (exfalso; omega) | skip)
    | refine ord_split (by kernel_rfl) ?_
    | (refine xw_ret ?_ <;> try simp only [sq, bl, LQ])
    | ((first | refine xw_reg ?_ | refine xw_regd ?_ | refine xw_if ?_ | refine xw_skip ?_ | refine xw_exit ?_ | refine xw_label ?_ | refine post_ret ?_ | refine post_normal ?_ | refine postE_ret ?_ | refine postE_normal ?_ | (((first | refine at_region ?_ | refine at_out ?_ | refine at_cond ?_); split) <;> first | (exfalso; omega; done) | skip)) <;> try simp (config := { maxSteps := 3000000 }) (disch := first | assumption | omega | exact VG.okg (by assumption) | (simp only [List.length_set, List.length_append, List.length_cons, List.length_nil, List.length_replicate]; omega)) only [go_sem, ↓reduceIte, Int.reduceLE, Int.reduceLT, Int.reduceToNat, Int.reduceNeg, Int.reduceAdd, Int.reduceSub, Int.reduceMul, Int.reduceEq, Int.reduceNe, Nat.reduceEqDiff, Nat.reduceAdd, Nat.reduceSub, Nat.reduceMul, Nat.reduceLT, Nat.reduceLeDiff, Nat.reduceBEq, Nat.reduceBNe, UInt8.reduceToNat, Try.results122]))
  refine xw_loopR (fun (w : Int × IV × List (Int × Int)) s => s.ρ 0 = I n ∧ s.ρ 1 = LO ops ∧ s.ρ 2 = I t ∧ s.ρ 6 = .ptr 6 0 0 0 ∧ s.m 6 = some (.box 0 [I 0, .i .emp]) ∧ s.ρ 8 = .ptr 8 0 0 0 ∧ s.m 8 = some (.box 0 [I n, .i w.2.1]) ∧ s.ρ 9 = I w.1 ∧ 0 ≤ w.1 ∧ w.1 ≤ t ∧ EL w.2.1 w.2.2 ∧ runS n (ops.take w.1.toNat) = some w.2.2) (fun w => (t - w.1).toNat) (0, .emp, []) ?_ ?_
  · exact ⟨rfl, rfl, rfl, rfl, rfl, rfl, rfl, rfl, by simp, by simpa using h0, EL.emp, rfl⟩
  rintro ⟨i, x, es⟩ ⟨ρ, m⟩ ⟨e0, e1, e2, e6, m6, e8, m8, e9, g0, g1, hx, hr⟩
  simp only at e0 e1 e2 e6 m6 e8 m8 e9 g0 g1 hx hr
  have hV : VG n es := runS_vg h1 h2 rfl hr
  have hel := hV.2.2.1
  have hxf := hx.f
  have hxl := hx.fl
  by_cases hi : i < t
  rotate_left
  · have hit : i = t := by omega
    subst hit
    rw [hr]
    repeat' (first
      | refine xw_seq ?_
      | refine xw_block ?_
      | (refine ite_two ?_ ?_ <;> intro _ <;> first | (exfalso; omega) | skip)
      | refine ord_split (by kernel_rfl) ?_
      | (refine xw_ret ?_ <;> try simp only [sq, bl, LQ])
      | ((first | refine xw_reg ?_ | refine xw_regd ?_ | refine xw_if ?_ | refine xw_skip ?_ | refine xw_exit ?_ | refine xw_label ?_ | refine post_ret ?_ | refine post_normal ?_ | refine postE_ret ?_ | refine postE_normal ?_ | (((first | refine at_region ?_ | refine at_out ?_ | refine at_cond ?_); split) <;> first | (exfalso; omega; done) | skip)) <;> try simp (config := { maxSteps := 3000000 }) (disch := first | assumption | omega | exact VG.okg (by assumption) | (simp only [List.length_set, List.length_append, List.length_cons, List.length_nil, List.length_replicate]; omega)) only [go_sem, ↓reduceIte, Int.reduceLE, Int.reduceLT, Int.reduceToNat, Int.reduceNeg, Int.reduceAdd, Int.reduceSub, Int.reduceMul, Int.reduceEq, Int.reduceNe, Nat.reduceEqDiff, Nat.reduceAdd, Nat.reduceSub, Nat.reduceMul, Nat.reduceLT, Nat.reduceLeDiff, Nat.reduceBEq, Nat.reduceBNe, UInt8.reduceToNat, Try.results122, e0, e1, e2, e6, m6, e8, m8, e9, hxf, hxl]))
    exact ⟨x, hx, rfl⟩
  have hgo := getO ops i.toNat (by omega)
  have hnx := runS_next (n := n) g0 (show i < ops.length by omega)
  rw [hr, Option.bind_some] at hnx
  have hfail : runS n (ops.take (i + 1).toNat) = none → runS n (ops.take t.toNat) = none := fun h => runS_fail h (by omega)
  generalize ops.getD i.toNat (0, 0, 0) = o at hgo hnx
  obtain ⟨kd, a, b⟩ := o
  simp only at hgo hnx
  unfold opS at hnx
  simp only at hnx
  by_cases k1 : kd = 1
  · subst k1
    rw [if_pos rfl] at hnx
    have hpe := c_sPutEdge n a b es (by omega)
    by_cases hP : PutOK n es (a, b)
    · rw [if_pos hP] at hpe hnx
      repeat' (first
        | refine xw_seq ?_
        | refine xw_block ?_
        | (refine ite_two ?_ ?_ <;> intro _ <;> first | (exfalso; omega) | skip)
        | refine ord_split (by kernel_rfl) ?_
        | (refine xw_ret ?_ <;> try simp only [sq, bl, LQ])
        | ((first | refine xw_reg ?_ | refine xw_regd ?_ | refine xw_if ?_ | refine xw_skip ?_ | refine xw_exit ?_ | refine xw_label ?_ | refine post_ret ?_ | refine post_normal ?_ | refine postE_ret ?_ | refine postE_normal ?_ | (((first | refine at_region ?_ | refine at_out ?_ | refine at_cond ?_); split) <;> first | (exfalso; omega; done) | skip)) <;> try simp (config := { maxSteps := 3000000 }) (disch := first | assumption | omega | exact VG.okg (by assumption) | (simp only [List.length_set, List.length_append, List.length_cons, List.length_nil, List.length_replicate]; omega)) only [go_sem, ↓reduceIte, Int.reduceLE, Int.reduceLT, Int.reduceToNat, Int.reduceNeg, Int.reduceAdd, Int.reduceSub, Int.reduceMul, Int.reduceEq, Int.reduceNe, Nat.reduceEqDiff, Nat.reduceAdd, Nat.reduceSub, Nat.reduceMul, Nat.reduceLT, Nat.reduceLeDiff, Nat.reduceBEq, Nat.reduceBNe, UInt8.reduceToNat, Try.results122, e0, e1, e2, e6, m6, e8, m8, e9, hxf, hxl, hgo, hpe]))
      exact ⟨i + 1, _, rfl, rfl, by omega, by omega, _, EL.lst _, hnx, by omega⟩
    · rw [if_neg hP] at hpe hnx
      rw [hfail hnx]
      repeat' (first
        | refine xw_seq ?_
        | refine xw_block ?_
        | (refine ite_two ?_ ?_ <;> intro _ <;> first | (exfalso; omega) | skip)
        | refine ord_split (by kernel_rfl) ?_
        | (refine xw_ret ?_ <;> try simp only [sq, bl, LQ])
        | ((first | refine xw_reg ?_ | refine xw_regd ?_ | refine xw_if ?_ | refine xw_skip ?_ | refine xw_exit ?_ | refine xw_label ?_ | refine post_ret ?_ | refine post_normal ?_ | refine postE_ret ?_ | refine postE_normal ?_ | (((first | refine at_region ?_ | refine at_out ?_ | refine at_cond ?_); split) <;> first | (exfalso; omega; done) | skip)) <;> try simp (config := { maxSteps := 3000000 }) (disch := first | assumption | omega | exact VG.okg (by assumption) | (simp only [List.length_set, List.length_append, List.length_cons, List.length_nil, List.length_replicate]; omega)) only [go_sem, ↓reduceIte, Int.reduceLE, Int.reduceLT, Int.reduceToNat, Int.reduceNeg, Int.reduceAdd, Int.reduceSub, Int.reduceMul, Int.reduceEq, Int.reduceNe, Nat.reduceEqDiff, Nat.reduceAdd, Nat.reduceSub, Nat.reduceMul, Nat.reduceLT, Nat.reduceLeDiff, Nat.reduceBEq, Nat.reduceBNe, UInt8.reduceToNat, Try.results122, e0, e1, e2, e6, m6, e8, m8, e9, hxf, hxl, hgo, hpe]))
  rw [if_neg k1] at hnx
  by_cases k2 : kd = 2
  · subst k2
    rw [if_pos rfl] at hnx
    have hce := c_sCutEdge n a b es (by omega)
    by_cases hP : (a, b) ∈ es
    · rw [if_pos ⟨hV, hP⟩] at hce
      rw [if_pos hP] at hnx
      repeat' (first
        | refine xw_seq ?_
        | refine xw_block ?_
        | (refine ite_two ?_ ?_ <;> intro _ <;> first | (exfalso; omega) | skip)
        | refine ord_split (by kernel_rfl) ?_
        | (refine xw_ret ?_ <;> try simp only [sq, bl, LQ])
        | ((first | refine xw_reg ?_ | refine xw_regd ?_ | refine xw_if ?_ | refine xw_skip ?_ | refine xw_exit ?_ | refine xw_label ?_ | refine post_ret ?_ | refine post_normal ?_ | refine postE_ret ?_ | refine postE_normal ?_ | (((first | refine at_region ?_ | refine at_out ?_ | refine at_cond ?_); split) <;> first | (exfalso; omega; done) | skip)) <;> try simp (config := { maxSteps := 3000000 }) (disch := first | assumption | omega | exact VG.okg (by assumption) | (simp only [List.length_set, List.length_append, List.length_cons, List.length_nil, List.length_replicate]; omega)) only [go_sem, ↓reduceIte, Int.reduceLE, Int.reduceLT, Int.reduceToNat, Int.reduceNeg, Int.reduceAdd, Int.reduceSub, Int.reduceMul, Int.reduceEq, Int.reduceNe, Nat.reduceEqDiff, Nat.reduceAdd, Nat.reduceSub, Nat.reduceMul, Nat.reduceLT, Nat.reduceLeDiff, Nat.reduceBEq, Nat.reduceBNe, UInt8.reduceToNat, Try.results122, e0, e1, e2, e6, m6, e8, m8, e9, hxf, hxl, hgo, hce]))
      exact ⟨i + 1, _, rfl, rfl, by omega, by omega, _, EL.lst _, hnx, by omega⟩
    · rw [if_neg (fun h => hP h.2)] at hce
      rw [if_neg hP] at hnx
      rw [hfail hnx]
      repeat' (first
        | refine xw_seq ?_
        | refine xw_block ?_
        | (refine ite_two ?_ ?_ <;> intro _ <;> first | (exfalso; omega) | skip)
        | refine ord_split (by kernel_rfl) ?_
        | (refine xw_ret ?_ <;> try simp only [sq, bl, LQ])
        | ((first | refine xw_reg ?_ | refine xw_regd ?_ | refine xw_if ?_ | refine xw_skip ?_ | refine xw_exit ?_ | refine xw_label ?_ | refine post_ret ?_ | refine post_normal ?_ | refine postE_ret ?_ | refine postE_normal ?_ | (((first | refine at_region ?_ | refine at_out ?_ | refine at_cond ?_); split) <;> first | (exfalso; omega; done) | skip)) <;> try simp (config := { maxSteps := 3000000 }) (disch := first | assumption | omega | exact VG.okg (by assumption) | (simp only [List.length_set, List.length_append, List.length_cons, List.length_nil, List.length_replicate]; omega)) only [go_sem, ↓reduceIte, Int.reduceLE, Int.reduceLT, Int.reduceToNat, Int.reduceNeg, Int.reduceAdd, Int.reduceSub, Int.reduceMul, Int.reduceEq, Int.reduceNe, Nat.reduceEqDiff, Nat.reduceAdd, Nat.reduceSub, Nat.reduceMul, Nat.reduceLT, Nat.reduceLeDiff, Nat.reduceBEq, Nat.reduceBNe, UInt8.reduceToNat, Try.results122, e0, e1, e2, e6, m6, e8, m8, e9, hxf, hxl, hgo, hce]))
  rw [if_neg k2] at hnx
  by_cases k3 : kd = 3
  · subst k3
    rw [if_pos rfl] at hnx
    by_cases q0 : 0 ≤ a
    · by_cases q1 : a < b
      · by_cases q2 : b < n
        · rw [if_pos ⟨q0, q1, q2⟩] at hnx
          repeat' (first
            | refine xw_seq ?_
            | refine xw_block ?_
            | (refine ite_two ?_ ?_ <;> intro _ <;> first | (exfalso; omega) | skip)
            | refine ord_split (by kernel_rfl) ?_
            | (refine xw_ret ?_ <;> try simp only [sq, bl, LQ])
            | ((first | refine xw_reg ?_ | refine xw_regd ?_ | refine xw_if ?_ | refine xw_skip ?_ | refine xw_exit ?_ | refine xw_label ?_ | refine post_ret ?_ | refine post_normal ?_ | refine postE_ret ?_ | refine postE_normal ?_ | (((first | refine at_region ?_ | refine at_out ?_ | refine at_cond ?_); split) <;> first | (exfalso; omega; done) | skip)) <;> try simp (config := { maxSteps := 3000000 }) (disch := first | assumption | omega | exact VG.okg (by assumption) | (simp only [List.length_set, List.length_append, List.length_cons, List.length_nil, List.length_replicate]; omega)) only [go_sem, ↓reduceIte, Int.reduceLE, Int.reduceLT, Int.reduceToNat, Int.reduceNeg, Int.reduceAdd, Int.reduceSub, Int.reduceMul, Int.reduceEq, Int.reduceNe, Nat.reduceEqDiff, Nat.reduceAdd, Nat.reduceSub, Nat.reduceMul, Nat.reduceLT, Nat.reduceLeDiff, Nat.reduceBEq, Nat.reduceBNe, UInt8.reduceToNat, Try.results122, e0, e1, e2, e6, m6, e8, m8, e9, hxf, hxl, hgo, q0, q1, q2]))
          exact ⟨i + 1, x, rfl, rfl, by omega, by omega, es, hx, hnx, by omega⟩
        · rw [if_neg (fun h => q2 h.2.2)] at hnx
          rw [hfail hnx]
          repeat' (first
            | refine xw_seq ?_
            | refine xw_block ?_
            | (refine ite_two ?_ ?_ <;> intro _ <;> first | (exfalso; omega) | skip)
            | refine ord_split (by kernel_rfl) ?_
            | (refine xw_ret ?_ <;> try simp only [sq, bl, LQ])
            | ((first | refine xw_reg ?_ | refine xw_regd ?_ | refine xw_if ?_ | refine xw_skip ?_ | refine xw_exit ?_ | refine xw_label ?_ | refine post_ret ?_ | refine post_normal ?_ | refine postE_ret ?_ | refine postE_normal ?_ | (((first | refine at_region ?_ | refine at_out ?_ | refine at_cond ?_); split) <;> first | (exfalso; omega; done) | skip)) <;> try simp (config := { maxSteps := 3000000 }) (disch := first | assumption | omega | exact VG.okg (by assumption) | (simp only [List.length_set, List.length_append, List.length_cons, List.length_nil, List.length_replicate]; omega)) only [go_sem, ↓reduceIte, Int.reduceLE, Int.reduceLT, Int.reduceToNat, Int.reduceNeg, Int.reduceAdd, Int.reduceSub, Int.reduceMul, Int.reduceEq, Int.reduceNe, Nat.reduceEqDiff, Nat.reduceAdd, Nat.reduceSub, Nat.reduceMul, Nat.reduceLT, Nat.reduceLeDiff, Nat.reduceBEq, Nat.reduceBNe, UInt8.reduceToNat, Try.results122, e0, e1, e2, e6, m6, e8, m8, e9, hxf, hxl, hgo, q0, q1, q2]))
      · rw [if_neg (fun h => q1 h.2.1)] at hnx
        rw [hfail hnx]
        repeat' (first
          | refine xw_seq ?_
          | refine xw_block ?_
          | (refine ite_two ?_ ?_ <;> intro _ <;> first | (exfalso; omega) | skip)
          | refine ord_split (by kernel_rfl) ?_
          | (refine xw_ret ?_ <;> try simp only [sq, bl, LQ])
          | ((first | refine xw_reg ?_ | refine xw_regd ?_ | refine xw_if ?_ | refine xw_skip ?_ | refine xw_exit ?_ | refine xw_label ?_ | refine post_ret ?_ | refine post_normal ?_ | refine postE_ret ?_ | refine postE_normal ?_ | (((first | refine at_region ?_ | refine at_out ?_ | refine at_cond ?_); split) <;> first | (exfalso; omega; done) | skip)) <;> try simp (config := { maxSteps := 3000000 }) (disch := first | assumption | omega | exact VG.okg (by assumption) | (simp only [List.length_set, List.length_append, List.length_cons, List.length_nil, List.length_replicate]; omega)) only [go_sem, ↓reduceIte, Int.reduceLE, Int.reduceLT, Int.reduceToNat, Int.reduceNeg, Int.reduceAdd, Int.reduceSub, Int.reduceMul, Int.reduceEq, Int.reduceNe, Nat.reduceEqDiff, Nat.reduceAdd, Nat.reduceSub, Nat.reduceMul, Nat.reduceLT, Nat.reduceLeDiff, Nat.reduceBEq, Nat.reduceBNe, UInt8.reduceToNat, Try.results122, e0, e1, e2, e6, m6, e8, m8, e9, hxf, hxl, hgo, q0, q1]))
    · rw [if_neg (fun h => q0 h.1)] at hnx
      rw [hfail hnx]
      repeat' (first
        | refine xw_seq ?_
        | refine xw_block ?_
        | (refine ite_two ?_ ?_ <;> intro _ <;> first | (exfalso; omega) | skip)
        | refine ord_split (by kernel_rfl) ?_
        | (refine xw_ret ?_ <;> try simp only [sq, bl, LQ])
        | ((first | refine xw_reg ?_ | refine xw_regd ?_ | refine xw_if ?_ | refine xw_skip ?_ | refine xw_exit ?_ | refine xw_label ?_ | refine post_ret ?_ | refine post_normal ?_ | refine postE_ret ?_ | refine postE_normal ?_ | (((first | refine at_region ?_ | refine at_out ?_ | refine at_cond ?_); split) <;> first | (exfalso; omega; done) | skip)) <;> try simp (config := { maxSteps := 3000000 }) (disch := first | assumption | omega | exact VG.okg (by assumption) | (simp only [List.length_set, List.length_append, List.length_cons, List.length_nil, List.length_replicate]; omega)) only [go_sem, ↓reduceIte, Int.reduceLE, Int.reduceLT, Int.reduceToNat, Int.reduceNeg, Int.reduceAdd, Int.reduceSub, Int.reduceMul, Int.reduceEq, Int.reduceNe, Nat.reduceEqDiff, Nat.reduceAdd, Nat.reduceSub, Nat.reduceMul, Nat.reduceLT, Nat.reduceLeDiff, Nat.reduceBEq, Nat.reduceBNe, UInt8.reduceToNat, Try.results122, e0, e1, e2, e6, m6, e8, m8, e9, hxf, hxl, hgo, q0]))
  · rw [if_neg k3] at hnx
    rw [hfail hnx]
    repeat' (first
      | refine xw_seq ?_
      | refine xw_block ?_
      | (refine ite_two ?_ ?_ <;> intro _ <;> first | (exfalso; omega) | skip)
      | refine ord_split (by kernel_rfl) ?_
      | (refine xw_ret ?_ <;> try simp only [sq, bl, LQ])
      | ((first | refine xw_reg ?_ | refine xw_regd ?_ | refine xw_if ?_ | refine xw_skip ?_ | refine xw_exit ?_ | refine xw_label ?_ | refine post_ret ?_ | refine post_normal ?_ | refine postE_ret ?_ | refine postE_normal ?_ | (((first | refine at_region ?_ | refine at_out ?_ | refine at_cond ?_); split) <;> first | (exfalso; omega; done) | skip)) <;> try simp (config := { maxSteps := 3000000 }) (disch := first | assumption | omega | exact VG.okg (by assumption) | (simp only [List.length_set, List.length_append, List.length_cons, List.length_nil, List.length_replicate]; omega)) only [go_sem, ↓reduceIte, Int.reduceLE, Int.reduceLT, Int.reduceToNat, Int.reduceNeg, Int.reduceAdd, Int.reduceSub, Int.reduceMul, Int.reduceEq, Int.reduceNe, Nat.reduceEqDiff, Nat.reduceAdd, Nat.reduceSub, Nat.reduceMul, Nat.reduceLT, Nat.reduceLeDiff, Nat.reduceBEq, Nat.reduceBNe, UInt8.reduceToNat, Try.results122, e0, e1, e2, e6, m6, e8, m8, e9, hxf, hxl, hgo, k1, k2, k3]))
/-- Operations that can be made. -/
noncomputable def roS (n : Int) (ops : List Op3) : Option (List (Int × Int)) := if 1 ≤ n ∧ n ≤ 16 ∧ ops.length ≤ 64 then runS n ops else none
theorem c_sOpsValid (n : Int) (ops : List Op3) (hl : ops.length ≤ 100000000) : KP 70 [I n, LO ops] [] = some (B (roS n ops).isSome, [], []) := by
  by_cases h : 1 ≤ n ∧ n ≤ 16 ∧ ops.length ≤ 64
  · have hro : roS n ops = runS n ops := if_pos h
    obtain ⟨h1, h2, h3⟩ := h
    obtain ⟨res, hres, hg⟩ := c_l8Graph n ops ops.length h1 h2 (by omega) (by omega) (by omega)
    rw [Int.toNat_natCast, List.take_length] at hres
    rw [hro]
    cases hr : runS n ops with
    | none =>
      rw [hr] at hres
      simp only at hres
      subst hres
      refine xw_call (fn := Try.f70) rfl Try.func70 rfl ⟨Nat.le_of_ble_eq_true rfl, rfl, rfl⟩ ?_
      repeat' (first
        | refine xw_seq ?_
        | refine xw_block ?_
        | (refine ite_two ?_ ?_ <;> intro _ <;> first | (exfalso; omega) | skip)
        | refine ord_split (by kernel_rfl) ?_
        | (refine xw_ret ?_ <;> try simp only [sq, bl, LQ])
        | ((first | refine xw_reg ?_ | refine xw_regd ?_ | refine xw_if ?_ | refine xw_skip ?_ | refine xw_exit ?_ | refine xw_label ?_ | refine post_ret ?_ | refine post_normal ?_ | refine postE_ret ?_ | refine postE_normal ?_ | (((first | refine at_region ?_ | refine at_out ?_ | refine at_cond ?_); split) <;> first | (exfalso; omega; done) | skip)) <;> try simp (config := { maxSteps := 3000000 }) (disch := first | assumption | omega | exact VG.okg (by assumption) | (simp only [List.length_set, List.length_append, List.length_cons, List.length_nil, List.length_replicate]; omega)) only [go_sem, ↓reduceIte, Int.reduceLE, Int.reduceLT, Int.reduceToNat, Int.reduceNeg, Int.reduceAdd, Int.reduceSub, Int.reduceMul, Int.reduceEq, Int.reduceNe, Nat.reduceEqDiff, Nat.reduceAdd, Nat.reduceSub, Nat.reduceMul, Nat.reduceLT, Nat.reduceLeDiff, Nat.reduceBEq, Nat.reduceBNe, UInt8.reduceToNat, Try.results70, hg]))
      rfl
    | some es =>
      rw [hr] at hres
      obtain ⟨x, hx, rfl⟩ := hres
      have hxl := hx.fl
      refine xw_call (fn := Try.f70) rfl Try.func70 rfl ⟨Nat.le_of_ble_eq_true rfl, rfl, rfl⟩ ?_
      repeat' (first
        | refine xw_seq ?_
        | refine xw_block ?_
        | (refine ite_two ?_ ?_ <;> intro _ <;> first | (exfalso; omega) | skip)
        | refine ord_split (by kernel_rfl) ?_
        | (refine xw_ret ?_ <;> try simp only [sq, bl, LQ])
        | ((first | refine xw_reg ?_ | refine xw_regd ?_ | refine xw_if ?_ | refine xw_skip ?_ | refine xw_exit ?_ | refine xw_label ?_ | refine post_ret ?_ | refine post_normal ?_ | refine postE_ret ?_ | refine postE_normal ?_ | (((first | refine at_region ?_ | refine at_out ?_ | refine at_cond ?_); split) <;> first | (exfalso; omega; done) | skip)) <;> try simp (config := { maxSteps := 3000000 }) (disch := first | assumption | omega | exact VG.okg (by assumption) | (simp only [List.length_set, List.length_append, List.length_cons, List.length_nil, List.length_replicate]; omega)) only [go_sem, ↓reduceIte, Int.reduceLE, Int.reduceLT, Int.reduceToNat, Int.reduceNeg, Int.reduceAdd, Int.reduceSub, Int.reduceMul, Int.reduceEq, Int.reduceNe, Nat.reduceEqDiff, Nat.reduceAdd, Nat.reduceSub, Nat.reduceMul, Nat.reduceLT, Nat.reduceLeDiff, Nat.reduceBEq, Nat.reduceBNe, UInt8.reduceToNat, Try.results70, hg, hxl]))
  · have hro : roS n ops = none := if_neg h
    have hno : roS n ops = none := hro
    rw [hno, Option.isSome_none]
    by_cases h1 : n < 1
    · refine xw_call (fn := Try.f70) rfl Try.func70 rfl ⟨Nat.le_of_ble_eq_true rfl, rfl, rfl⟩ ?_
      repeat' (first
        | refine xw_seq ?_
        | refine xw_block ?_
        | (refine ite_two ?_ ?_ <;> intro _ <;> first | (exfalso; omega) | skip)
        | refine ord_split (by kernel_rfl) ?_
        | (refine xw_ret ?_ <;> try simp only [sq, bl, LQ])
        | ((first | refine xw_reg ?_ | refine xw_regd ?_ | refine xw_if ?_ | refine xw_skip ?_ | refine xw_exit ?_ | refine xw_label ?_ | refine post_ret ?_ | refine post_normal ?_ | refine postE_ret ?_ | refine postE_normal ?_ | (((first | refine at_region ?_ | refine at_out ?_ | refine at_cond ?_); split) <;> first | (exfalso; omega; done) | skip)) <;> try simp (config := { maxSteps := 3000000 }) (disch := first | assumption | omega | exact VG.okg (by assumption) | (simp only [List.length_set, List.length_append, List.length_cons, List.length_nil, List.length_replicate]; omega)) only [go_sem, ↓reduceIte, Int.reduceLE, Int.reduceLT, Int.reduceToNat, Int.reduceNeg, Int.reduceAdd, Int.reduceSub, Int.reduceMul, Int.reduceEq, Int.reduceNe, Nat.reduceEqDiff, Nat.reduceAdd, Nat.reduceSub, Nat.reduceMul, Nat.reduceLT, Nat.reduceLeDiff, Nat.reduceBEq, Nat.reduceBNe, UInt8.reduceToNat, Try.results70, h1]))
    · by_cases h2 : 16 < n
      · refine xw_call (fn := Try.f70) rfl Try.func70 rfl ⟨Nat.le_of_ble_eq_true rfl, rfl, rfl⟩ ?_
        repeat' (first
          | refine xw_seq ?_
          | refine xw_block ?_
          | (refine ite_two ?_ ?_ <;> intro _ <;> first | (exfalso; omega) | skip)
          | refine ord_split (by kernel_rfl) ?_
          | (refine xw_ret ?_ <;> try simp only [sq, bl, LQ])
          | ((first | refine xw_reg ?_ | refine xw_regd ?_ | refine xw_if ?_ | refine xw_skip ?_ | refine xw_exit ?_ | refine xw_label ?_ | refine post_ret ?_ | refine post_normal ?_ | refine postE_ret ?_ | refine postE_normal ?_ | (((first | refine at_region ?_ | refine at_out ?_ | refine at_cond ?_); split) <;> first | (exfalso; omega; done) | skip)) <;> try simp (config := { maxSteps := 3000000 }) (disch := first | assumption | omega | exact VG.okg (by assumption) | (simp only [List.length_set, List.length_append, List.length_cons, List.length_nil, List.length_replicate]; omega)) only [go_sem, ↓reduceIte, Int.reduceLE, Int.reduceLT, Int.reduceToNat, Int.reduceNeg, Int.reduceAdd, Int.reduceSub, Int.reduceMul, Int.reduceEq, Int.reduceNe, Nat.reduceEqDiff, Nat.reduceAdd, Nat.reduceSub, Nat.reduceMul, Nat.reduceLT, Nat.reduceLeDiff, Nat.reduceBEq, Nat.reduceBNe, UInt8.reduceToNat, Try.results70, h1, h2]))
      · have h3 : (64 : Int) < ops.length := by omega
        refine xw_call (fn := Try.f70) rfl Try.func70 rfl ⟨Nat.le_of_ble_eq_true rfl, rfl, rfl⟩ ?_
        repeat' (first
          | refine xw_seq ?_
          | refine xw_block ?_
          | (refine ite_two ?_ ?_ <;> intro _ <;> first | (exfalso; omega) | skip)
          | refine ord_split (by kernel_rfl) ?_
          | (refine xw_ret ?_ <;> try simp only [sq, bl, LQ])
          | ((first | refine xw_reg ?_ | refine xw_regd ?_ | refine xw_if ?_ | refine xw_skip ?_ | refine xw_exit ?_ | refine xw_label ?_ | refine post_ret ?_ | refine post_normal ?_ | refine postE_ret ?_ | refine postE_normal ?_ | (((first | refine at_region ?_ | refine at_out ?_ | refine at_cond ?_); split) <;> first | (exfalso; omega; done) | skip)) <;> try simp (config := { maxSteps := 3000000 }) (disch := first | assumption | omega | exact VG.okg (by assumption) | (simp only [List.length_set, List.length_append, List.length_cons, List.length_nil, List.length_replicate]; omega)) only [go_sem, ↓reduceIte, Int.reduceLE, Int.reduceLT, Int.reduceToNat, Int.reduceNeg, Int.reduceAdd, Int.reduceSub, Int.reduceMul, Int.reduceEq, Int.reduceNe, Nat.reduceEqDiff, Nat.reduceAdd, Nat.reduceSub, Nat.reduceMul, Nat.reduceLT, Nat.reduceLeDiff, Nat.reduceBEq, Nat.reduceBNe, UInt8.reduceToNat, Try.results70, h1, h2, h3]))
/-- A place among operations. -/
noncomputable def gaS (n : Int) (ops : List Op3) (t : Int) : Option (List (Int × Int)) := if (roS n ops).isSome = true ∧ 0 ≤ t ∧ t ≤ ops.length then runS n (ops.take t.toNat) else none
end Go.Proofs.Ytjffaedlmplcnaa.X
