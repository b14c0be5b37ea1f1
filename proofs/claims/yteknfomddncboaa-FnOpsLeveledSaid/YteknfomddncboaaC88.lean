/- What functions compute: graphs at a place among operations, graphs with levels at the start, what is connected. -/
import Derived.Test.YteknfomddncboaaC87
set_option linter.unusedSimpArgs false
set_option linter.unusedVariables false
set_option maxHeartbeats 16000000
set_option maxRecDepth 100000
namespace Go.Proofs.Yteknfomddncboaa.X
open Go Go.Proofs
theorem c_OpsValid (n : Int) (ops : List Op3) (hl : ops.length ≤ 1000000) : KP 51 [I n, LO ops] [] = some (B (roS n ops).isSome, [], []) := by
  obtain ⟨res, hres, hg⟩ := c_run n ops hl
  have hal := anR_len n ops ops.length
  cases hr : roS n ops with
  | none =>
    rw [hr] at hres
    simp only at hres
    subst hres
    refine xw_call (fn := Try.f51) rfl Try.func51 rfl ⟨Nat.le_of_ble_eq_true rfl, rfl, rfl⟩ ?_
    repeat' (first
      | refine xw_seq ?_
      | refine xw_block ?_
      | (refine ite_two ?_ ?_ <;> intro _ <;> first | (exfalso; omega) | skip)
      | refine ord_split (by kernel_rfl) ?_
      | (refine xw_ret ?_ <;> try simp only [sq, bl, LQ])
      | ((first | refine xw_reg ?_ | refine xw_regd ?_ | refine xw_if ?_ | refine xw_skip ?_ | refine xw_exit ?_ | refine xw_label ?_ | refine post_ret ?_ | refine post_normal ?_ | refine postE_ret ?_ | refine postE_normal ?_) <;> simp (config := { maxSteps := 3000000 }) (disch := first | assumption | omega | exact VG.okg (by assumption) | (simp only [List.length_set, List.length_append, List.length_cons, List.length_nil, List.length_replicate]; omega)) only [go_sem, ↓reduceIte, Int.reduceLE, Int.reduceLT, Int.reduceToNat, Int.reduceNeg, Int.reduceAdd, Int.reduceSub, Int.reduceMul, Int.reduceEq, Int.reduceNe, Nat.reduceEqDiff, Nat.reduceAdd, Nat.reduceSub, Nat.reduceMul, Nat.reduceLT, Nat.reduceLeDiff, Nat.reduceBEq, Nat.reduceBNe, Try.results51, hg])
      | (((first | refine at_region ?_ | refine at_out ?_ | refine at_cond ?_); split) <;> first | (exfalso; omega; done) | simp (config := { maxSteps := 3000000 }) (disch := first | assumption | omega | exact VG.okg (by assumption) | (simp only [List.length_set, List.length_append, List.length_cons, List.length_nil, List.length_replicate]; omega)) only [go_sem, ↓reduceIte, Int.reduceLE, Int.reduceLT, Int.reduceToNat, Int.reduceNeg, Int.reduceAdd, Int.reduceSub, Int.reduceMul, Int.reduceEq, Int.reduceNe, Nat.reduceEqDiff, Nat.reduceAdd, Nat.reduceSub, Nat.reduceMul, Nat.reduceLT, Nat.reduceLeDiff, Nat.reduceBEq, Nat.reduceBNe, Try.results51, hg] | skip))
    rfl
  | some es =>
    rw [hr] at hres
    obtain ⟨x, hx, rfl⟩ := hres
    have hxl := hx.fl
    generalize anR n ops ops.length = A at *
    refine xw_call (fn := Try.f51) rfl Try.func51 rfl ⟨Nat.le_of_ble_eq_true rfl, rfl, rfl⟩ ?_
    repeat' (first
      | refine xw_seq ?_
      | refine xw_block ?_
      | (refine ite_two ?_ ?_ <;> intro _ <;> first | (exfalso; omega) | skip)
      | refine ord_split (by kernel_rfl) ?_
      | (refine xw_ret ?_ <;> try simp only [sq, bl, LQ])
      | ((first | refine xw_reg ?_ | refine xw_regd ?_ | refine xw_if ?_ | refine xw_skip ?_ | refine xw_exit ?_ | refine xw_label ?_ | refine post_ret ?_ | refine post_normal ?_ | refine postE_ret ?_ | refine postE_normal ?_) <;> simp (config := { maxSteps := 3000000 }) (disch := first | assumption | omega | exact VG.okg (by assumption) | (simp only [List.length_set, List.length_append, List.length_cons, List.length_nil, List.length_replicate]; omega)) only [go_sem, ↓reduceIte, Int.reduceLE, Int.reduceLT, Int.reduceToNat, Int.reduceNeg, Int.reduceAdd, Int.reduceSub, Int.reduceMul, Int.reduceEq, Int.reduceNe, Nat.reduceEqDiff, Nat.reduceAdd, Nat.reduceSub, Nat.reduceMul, Nat.reduceLT, Nat.reduceLeDiff, Nat.reduceBEq, Nat.reduceBNe, Try.results51, hg, hxl])
      | (((first | refine at_region ?_ | refine at_out ?_ | refine at_cond ?_); split) <;> first | (exfalso; omega; done) | simp (config := { maxSteps := 3000000 }) (disch := first | assumption | omega | exact VG.okg (by assumption) | (simp only [List.length_set, List.length_append, List.length_cons, List.length_nil, List.length_replicate]; omega)) only [go_sem, ↓reduceIte, Int.reduceLE, Int.reduceLT, Int.reduceToNat, Int.reduceNeg, Int.reduceAdd, Int.reduceSub, Int.reduceMul, Int.reduceEq, Int.reduceNe, Nat.reduceEqDiff, Nat.reduceAdd, Nat.reduceSub, Nat.reduceMul, Nat.reduceLT, Nat.reduceLeDiff, Nat.reduceBEq, Nat.reduceBNe, Try.results51, hg, hxl] | skip))
theorem c_GraphAt (n t : Int) (ops : List Op3) (hl : ops.length ≤ 1000000) :
    ∃ res, (match gaS n ops t with | some es => ∃ x, EL x es ∧ res = (PV.tup [.agg [I n, .i x], B true], [], []) | none => res = (.tup [.agg [I 0, .i .emp], B false], [], [])) ∧ KP 23 [I n, LO ops, I t] [] = some res := by
  have hov := c_OpsValid n ops hl
  by_cases h : (roS n ops).isSome = true ∧ 0 ≤ t ∧ t ≤ ops.length
  · have hga : gaS n ops t = runS n (ops.take t.toNat) := if_pos h
    obtain ⟨es, he, h1, h2, h3⟩ := gaS_some h
    have hro : roS n (ops.take t.toNat) = some es := by
      unfold roS
      rw [if_pos ⟨h1, h2, by rw [List.length_take]; omega⟩, he]
    obtain ⟨res, hres, hg⟩ := c_run n (ops.take t.toNat) (by rw [List.length_take]; omega)
    rw [hro] at hres
    obtain ⟨x, hx, rfl⟩ := hres
    rw [hga, he]
    have hxl := hx.fl
    have hxf := hx.f
    rw [h.1] at hov
    have hal := anR_len n (ops.take t.toNat) (ops.take t.toNat).length
    generalize anR n (ops.take t.toNat) (ops.take t.toNat).length = A at *
    obtain ⟨-, t0, t1⟩ := h
    refine xw_callE (fn := Try.f23) rfl Try.func23 rfl ⟨Nat.le_of_ble_eq_true rfl, rfl, rfl⟩ ?_
    repeat' (first
      | refine xw_seq ?_
      | refine xw_block ?_
      | (refine ite_two ?_ ?_ <;> intro _ <;> first | (exfalso; omega) | skip)
      | refine ord_split (by kernel_rfl) ?_
      | (refine xw_ret ?_ <;> try simp only [sq, bl, LQ])
      | ((first | refine xw_reg ?_ | refine xw_regd ?_ | refine xw_if ?_ | refine xw_skip ?_ | refine xw_exit ?_ | refine xw_label ?_ | refine post_ret ?_ | refine post_normal ?_ | refine postE_ret ?_ | refine postE_normal ?_) <;> simp (config := { maxSteps := 3000000 }) (disch := first | assumption | omega | exact VG.okg (by assumption) | (simp only [List.length_set, List.length_append, List.length_cons, List.length_nil, List.length_replicate]; omega)) only [go_sem, ↓reduceIte, Int.reduceLE, Int.reduceLT, Int.reduceToNat, Int.reduceNeg, Int.reduceAdd, Int.reduceSub, Int.reduceMul, Int.reduceEq, Int.reduceNe, Nat.reduceEqDiff, Nat.reduceAdd, Nat.reduceSub, Nat.reduceMul, Nat.reduceLT, Nat.reduceLeDiff, Nat.reduceBEq, Nat.reduceBNe, Try.results23, hov, hg, hxl, hxf])
      | (((first | refine at_region ?_ | refine at_out ?_ | refine at_cond ?_); split) <;> first | (exfalso; omega; done) | simp (config := { maxSteps := 3000000 }) (disch := first | assumption | omega | exact VG.okg (by assumption) | (simp only [List.length_set, List.length_append, List.length_cons, List.length_nil, List.length_replicate]; omega)) only [go_sem, ↓reduceIte, Int.reduceLE, Int.reduceLT, Int.reduceToNat, Int.reduceNeg, Int.reduceAdd, Int.reduceSub, Int.reduceMul, Int.reduceEq, Int.reduceNe, Nat.reduceEqDiff, Nat.reduceAdd, Nat.reduceSub, Nat.reduceMul, Nat.reduceLT, Nat.reduceLeDiff, Nat.reduceBEq, Nat.reduceBNe, Try.results23, hov, hg, hxl, hxf] | skip))
    all_goals first | exact ⟨x, hx, rfl⟩ | trace_state
  · have hga : gaS n ops t = none := if_neg h
    rw [hga]
    by_cases h1 : (roS n ops).isSome = true
    · rw [h1] at hov
      have h64 : ¬ (0 ≤ t ∧ t ≤ ops.length) := fun q => h ⟨h1, q⟩
      by_cases h2 : t < 0
      · refine xw_callE (fn := Try.f23) rfl Try.func23 rfl ⟨Nat.le_of_ble_eq_true rfl, rfl, rfl⟩ ?_
        repeat' (first
          | refine xw_seq ?_
          | refine xw_block ?_
          | (refine ite_two ?_ ?_ <;> intro _ <;> first | (exfalso; omega) | skip)
          | refine ord_split (by kernel_rfl) ?_
          | (refine xw_ret ?_ <;> try simp only [sq, bl, LQ])
          | ((first | refine xw_reg ?_ | refine xw_regd ?_ | refine xw_if ?_ | refine xw_skip ?_ | refine xw_exit ?_ | refine xw_label ?_ | refine post_ret ?_ | refine post_normal ?_ | refine postE_ret ?_ | refine postE_normal ?_) <;> simp (config := { maxSteps := 3000000 }) (disch := first | assumption | omega | exact VG.okg (by assumption) | (simp only [List.length_set, List.length_append, List.length_cons, List.length_nil, List.length_replicate]; omega)) only [go_sem, ↓reduceIte, Int.reduceLE, Int.reduceLT, Int.reduceToNat, Int.reduceNeg, Int.reduceAdd, Int.reduceSub, Int.reduceMul, Int.reduceEq, Int.reduceNe, Nat.reduceEqDiff, Nat.reduceAdd, Nat.reduceSub, Nat.reduceMul, Nat.reduceLT, Nat.reduceLeDiff, Nat.reduceBEq, Nat.reduceBNe, Try.results23, hov, h2])
          | (((first | refine at_region ?_ | refine at_out ?_ | refine at_cond ?_); split) <;> first | (exfalso; omega; done) | simp (config := { maxSteps := 3000000 }) (disch := first | assumption | omega | exact VG.okg (by assumption) | (simp only [List.length_set, List.length_append, List.length_cons, List.length_nil, List.length_replicate]; omega)) only [go_sem, ↓reduceIte, Int.reduceLE, Int.reduceLT, Int.reduceToNat, Int.reduceNeg, Int.reduceAdd, Int.reduceSub, Int.reduceMul, Int.reduceEq, Int.reduceNe, Nat.reduceEqDiff, Nat.reduceAdd, Nat.reduceSub, Nat.reduceMul, Nat.reduceLT, Nat.reduceLeDiff, Nat.reduceBEq, Nat.reduceBNe, Try.results23, hov, h2] | skip))
      · have h3 : (ops.length : Int) < t := by omega
        refine xw_callE (fn := Try.f23) rfl Try.func23 rfl ⟨Nat.le_of_ble_eq_true rfl, rfl, rfl⟩ ?_
        repeat' (first
          | refine xw_seq ?_
          | refine xw_block ?_
          | (refine ite_two ?_ ?_ <;> intro _ <;> first | (exfalso; omega) | skip)
          | refine ord_split (by kernel_rfl) ?_
          | (refine xw_ret ?_ <;> try simp only [sq, bl, LQ])
          | ((first | refine xw_reg ?_ | refine xw_regd ?_ | refine xw_if ?_ | refine xw_skip ?_ | refine xw_exit ?_ | refine xw_label ?_ | refine post_ret ?_ | refine post_normal ?_ | refine postE_ret ?_ | refine postE_normal ?_) <;> simp (config := { maxSteps := 3000000 }) (disch := first | assumption | omega | exact VG.okg (by assumption) | (simp only [List.length_set, List.length_append, List.length_cons, List.length_nil, List.length_replicate]; omega)) only [go_sem, ↓reduceIte, Int.reduceLE, Int.reduceLT, Int.reduceToNat, Int.reduceNeg, Int.reduceAdd, Int.reduceSub, Int.reduceMul, Int.reduceEq, Int.reduceNe, Nat.reduceEqDiff, Nat.reduceAdd, Nat.reduceSub, Nat.reduceMul, Nat.reduceLT, Nat.reduceLeDiff, Nat.reduceBEq, Nat.reduceBNe, Try.results23, hov, h2, h3])
          | (((first | refine at_region ?_ | refine at_out ?_ | refine at_cond ?_); split) <;> first | (exfalso; omega; done) | simp (config := { maxSteps := 3000000 }) (disch := first | assumption | omega | exact VG.okg (by assumption) | (simp only [List.length_set, List.length_append, List.length_cons, List.length_nil, List.length_replicate]; omega)) only [go_sem, ↓reduceIte, Int.reduceLE, Int.reduceLT, Int.reduceToNat, Int.reduceNeg, Int.reduceAdd, Int.reduceSub, Int.reduceMul, Int.reduceEq, Int.reduceNe, Nat.reduceEqDiff, Nat.reduceAdd, Nat.reduceSub, Nat.reduceMul, Nat.reduceLT, Nat.reduceLeDiff, Nat.reduceBEq, Nat.reduceBNe, Try.results23, hov, h2, h3] | skip))
    · rw [Bool.not_eq_true] at h1
      rw [h1] at hov
      refine xw_callE (fn := Try.f23) rfl Try.func23 rfl ⟨Nat.le_of_ble_eq_true rfl, rfl, rfl⟩ ?_
      repeat' (first
        | refine xw_seq ?_
        | refine xw_block ?_
        | (refine ite_two ?_ ?_ <;> intro _ <;> first | (exfalso; omega) | skip)
        | refine ord_split (by kernel_rfl) ?_
        | (refine xw_ret ?_ <;> try simp only [sq, bl, LQ])
        | ((first | refine xw_reg ?_ | refine xw_regd ?_ | refine xw_if ?_ | refine xw_skip ?_ | refine xw_exit ?_ | refine xw_label ?_ | refine post_ret ?_ | refine post_normal ?_ | refine postE_ret ?_ | refine postE_normal ?_) <;> simp (config := { maxSteps := 3000000 }) (disch := first | assumption | omega | exact VG.okg (by assumption) | (simp only [List.length_set, List.length_append, List.length_cons, List.length_nil, List.length_replicate]; omega)) only [go_sem, ↓reduceIte, Int.reduceLE, Int.reduceLT, Int.reduceToNat, Int.reduceNeg, Int.reduceAdd, Int.reduceSub, Int.reduceMul, Int.reduceEq, Int.reduceNe, Nat.reduceEqDiff, Nat.reduceAdd, Nat.reduceSub, Nat.reduceMul, Nat.reduceLT, Nat.reduceLeDiff, Nat.reduceBEq, Nat.reduceBNe, Try.results23, hov])
        | (((first | refine at_region ?_ | refine at_out ?_ | refine at_cond ?_); split) <;> first | (exfalso; omega; done) | simp (config := { maxSteps := 3000000 }) (disch := first | assumption | omega | exact VG.okg (by assumption) | (simp only [List.length_set, List.length_append, List.length_cons, List.length_nil, List.length_replicate]; omega)) only [go_sem, ↓reduceIte, Int.reduceLE, Int.reduceLT, Int.reduceToNat, Int.reduceNeg, Int.reduceAdd, Int.reduceSub, Int.reduceMul, Int.reduceEq, Int.reduceNe, Nat.reduceEqDiff, Nat.reduceAdd, Nat.reduceSub, Nat.reduceMul, Nat.reduceLT, Nat.reduceLeDiff, Nat.reduceBEq, Nat.reduceBNe, Try.results23, hov] | skip))
theorem c_NewLevels (n : Int) (h : 1 ≤ n ∧ n ≤ 16) : KP 26 [I n] [] = some (.tup [.agg [I n, .i .emp, .i .emp, .i .emp], B true], [], []) := by
  obtain ⟨h1, h2⟩ := h
  refine xw_call (fn := Try.f26) rfl Try.func26 rfl ⟨Nat.le_of_ble_eq_true rfl, rfl, rfl⟩ ?_
  repeat' (first
    | refine xw_seq ?_
    | refine xw_block ?_
    | (refine ite_two ?_ ?_ <;> intro _ <;> first | (exfalso; omega) | skip)
    | refine ord_split (by kernel_rfl) ?_
    | (refine xw_ret ?_ <;> try simp only [sq, bl, LQ])
    | ((first | refine xw_reg ?_ | refine xw_regd ?_ | refine xw_if ?_ | refine xw_skip ?_ | refine xw_exit ?_ | refine xw_label ?_ | refine post_ret ?_ | refine post_normal ?_ | refine postE_ret ?_ | refine postE_normal ?_) <;> simp (config := { maxSteps := 3000000 }) (disch := first | assumption | omega | exact VG.okg (by assumption) | (simp only [List.length_set, List.length_append, List.length_cons, List.length_nil, List.length_replicate]; omega)) only [go_sem, ↓reduceIte, Int.reduceLE, Int.reduceLT, Int.reduceToNat, Int.reduceNeg, Int.reduceAdd, Int.reduceSub, Int.reduceMul, Int.reduceEq, Int.reduceNe, Nat.reduceEqDiff, Nat.reduceAdd, Nat.reduceSub, Nat.reduceMul, Nat.reduceLT, Nat.reduceLeDiff, Nat.reduceBEq, Nat.reduceBNe, Try.results26])
    | (((first | refine at_region ?_ | refine at_out ?_ | refine at_cond ?_); split) <;> first | (exfalso; omega; done) | simp (config := { maxSteps := 3000000 }) (disch := first | assumption | omega | exact VG.okg (by assumption) | (simp only [List.length_set, List.length_append, List.length_cons, List.length_nil, List.length_replicate]; omega)) only [go_sem, ↓reduceIte, Int.reduceLE, Int.reduceLT, Int.reduceToNat, Int.reduceNeg, Int.reduceAdd, Int.reduceSub, Int.reduceMul, Int.reduceEq, Int.reduceNe, Nat.reduceEqDiff, Nat.reduceAdd, Nat.reduceSub, Nat.reduceMul, Nat.reduceLT, Nat.reduceLeDiff, Nat.reduceBEq, Nat.reduceBNe, Try.results26] | skip))
theorem c_LeveledConnected (n x y : Int) (ts : List Tl) (hL : LV n ts) (hx : inN n x) (hy : inN n y) : KP 29 [LvP n ts, I x, I y] [] = some (B (decide (Conn (esT ts) x y)), [], []) := by
  have hV := hL.vg
  have hlv := c_LevelsValid n ts hV
  rw [decide_eq_true hL] at hlv
  have hel := hV.2.2.1
  have l1 := esT_len' ts
  have hhx := c_hasNode n (esT ts) x (by omega)
  rw [decide_eq_true ⟨hV, hx.1, hx.2⟩] at hhx
  have hhy := c_hasNode n (esT ts) y (by omega)
  rw [decide_eq_true ⟨hV, hy.1, hy.2⟩] at hhy
  have hab := c_above n 0 true ts (by omega)
  have hcn := c_connected n x y (abT ts 0 true) (abT_okg hV) hx hy
  have he : Conn (abT ts 0 true) x y ↔ Conn (esT ts) x y := by
    rw [← abT_zero fun t ht => (hL.lv t ht).1]
    exact ⟨Conn.mono abT_tree, hL.cn 0 (Int.le_refl _) (by omega) x y⟩
  have hde : decide (Conn (abT ts 0 true) x y) = decide (Conn (esT ts) x y) := decide_eq_decide.2 he
  rw [hde] at hcn
  refine xw_call (fn := Try.f29) rfl Try.func29 rfl ⟨Nat.le_of_ble_eq_true rfl, rfl, rfl⟩ ?_
  repeat' (first
    | refine xw_seq ?_
    | refine xw_block ?_
    | (refine ite_two ?_ ?_ <;> intro _ <;> first | (exfalso; omega) | skip)
    | refine ord_split (by kernel_rfl) ?_
    | (refine xw_ret ?_ <;> try simp only [sq, bl, LQ])
    | ((first | refine xw_reg ?_ | refine xw_regd ?_ | refine xw_if ?_ | refine xw_skip ?_ | refine xw_exit ?_ | refine xw_label ?_ | refine post_ret ?_ | refine post_normal ?_ | refine postE_ret ?_ | refine postE_normal ?_) <;> simp (config := { maxSteps := 3000000 }) (disch := first | assumption | omega | exact VG.okg (by assumption) | (simp only [List.length_set, List.length_append, List.length_cons, List.length_nil, List.length_replicate]; omega)) only [go_sem, ↓reduceIte, Int.reduceLE, Int.reduceLT, Int.reduceToNat, Int.reduceNeg, Int.reduceAdd, Int.reduceSub, Int.reduceMul, Int.reduceEq, Int.reduceNe, Nat.reduceEqDiff, Nat.reduceAdd, Nat.reduceSub, Nat.reduceMul, Nat.reduceLT, Nat.reduceLeDiff, Nat.reduceBEq, Nat.reduceBNe, Try.results29, hlv, hhx, hhy, hab, hcn])
    | (((first | refine at_region ?_ | refine at_out ?_ | refine at_cond ?_); split) <;> first | (exfalso; omega; done) | simp (config := { maxSteps := 3000000 }) (disch := first | assumption | omega | exact VG.okg (by assumption) | (simp only [List.length_set, List.length_append, List.length_cons, List.length_nil, List.length_replicate]; omega)) only [go_sem, ↓reduceIte, Int.reduceLE, Int.reduceLT, Int.reduceToNat, Int.reduceNeg, Int.reduceAdd, Int.reduceSub, Int.reduceMul, Int.reduceEq, Int.reduceNe, Nat.reduceEqDiff, Nat.reduceAdd, Nat.reduceSub, Nat.reduceMul, Nat.reduceLT, Nat.reduceLeDiff, Nat.reduceBEq, Nat.reduceBNe, Try.results29, hlv, hhx, hhy, hab, hcn] | skip))
theorem ct_spec {n : Int} {ts : List Tl} {e : Int × Int} (hL : LV n ts) (hm : e ∈ esT ts) : esT (ctR n ts e).1 = cutE e (esT ts) ∧ LV n (ctR n ts e).1 ∧ (ctR n ts e).1.length = ts.length - 1 ∧ 0 ≤ (ctR n ts e).2.1 ∧ (ctR n ts e).2.1 ≤ 400 := by
  have hV := hL.vg
  have hel := hV.2.2.1
  rw [esT_len'] at hel
  obtain ⟨k, l, q, hk, hf, hg, hsp⟩ := find_split hm
  have hces := cut_es hV hsp
  have hct0 : ctR n ts e = if q = true then cutR n e.1 e.2 (l + 1).toNat (ts.take k ++ ts.drop (k + 1)) else (ts.take k ++ ts.drop (k + 1), 0, false) := by
    unfold ctR
    rw [hf]
    simp only [Int.toNat_natCast]
    rw [hg]
  have hbl : (ts.take k ++ ts.drop (k + 1)).length = ts.length - 1 := by simp; omega
  have hLb := hL
  rw [hsp] at hLb
  rw [hct0]
  cases q with
  | false =>
    rw [if_neg (by simp)]
    exact ⟨hces, hLb.cutF, hbl, by simp, by simp⟩
  | true =>
    rw [if_pos rfl]
    obtain ⟨hMV, hl0⟩ := LV.cutT hLb
    have hl4 := (hLb.lv (e, l, true) (by simp)).2
    simp only at hl4
    obtain ⟨c1, c2, -, -, c3, c4⟩ := cutR_spec (n := n) (a := e.1) (b := e.2) (l + 1).toNat (ts := ts.take k ++ ts.drop (k + 1)) (by rw [show (((l + 1).toNat : Nat) : Int) - 1 = l by omega]; exact hMV)
    refine ⟨c1.trans hces, c2, (esT_len c1).trans hbl, c3, ?_⟩
    have h5 : ((l + 1).toNat : Int) ≤ 5 := by omega
    have h6 : 2 * ((ts.take k ++ ts.drop (k + 1)).length : Int) * ((l + 1).toNat : Int) ≤ 2 * ((ts.take k ++ ts.drop (k + 1)).length : Int) * 5 := Int.mul_le_mul_of_nonneg_left h5 (by omega)
    omega
theorem c_CutLevelL (n a b : Int) (ts : List Tl) (hL : LV n ts) (hm : (a, b) ∈ esT ts) :
    ∃ r own, KP 28 [LvP n ts, PE a b] [] = some (r, [], own) ∧ imm 2 own r = some (.tup [LvP n (ctR n ts (a, b)).1, I (ctR n ts (a, b)).2.1, B (ctR n ts (a, b)).2.2, B true]) := by
  have h := c_CutLevel n a b ts hL hm
  obtain ⟨h1, h2, h3, -, -⟩ := ct_spec hL hm
  generalize ctR n ts (a, b) = R at *
  rw [← h1] at h
  have hl1 : ((lvT R.1 ++ [0]).map encI).take (ts.length - 1) = (lvT R.1).map encI := by
    rw [List.map_append, List.take_left']
    rw [List.length_map, lvT_len, h3]
  have hl2 : ((trT R.1 ++ [false]).map encT).take (ts.length - 1) = (trT R.1).map encT := by
    rw [List.map_append, List.take_left']
    rw [List.length_map, trT_len, h3]
  refine ⟨_, _, h, ?_⟩
  rw [List.map_append] at hl1 hl2
  simp only [List.map_cons, List.map_nil] at hl1 hl2
  simp [imm, imm1, mapO, hl1, hl2]
end Go.Proofs.Yteknfomddncboaa.X
