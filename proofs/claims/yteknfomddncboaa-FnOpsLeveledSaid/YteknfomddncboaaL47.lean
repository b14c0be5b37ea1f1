/- The law: graphs with levels hold what the graph holds. -/
import Derived.Test.YteknfomddncboaaC88
import Derived.Test.YteknfomddncboaaC90
import Derived.Test.YteknfomddncboaaKC
set_option linter.unusedSimpArgs false
set_option linter.unusedVariables false
set_option maxHeartbeats 16000000
set_option maxRecDepth 100000
namespace Go.Proofs.Yteknfomddncboaa.X
open Go Go.Proofs
/-- A list that is a value in closed form. -/
structure FL (x : IV) (l : List (List IV)) : Prop where
  f : ∀ n, frz n (.i x) = .ret (.lst l)
  fl : x.flat = true
theorem FL.emp : FL .emp [] := ⟨fun n => by cases n <;> rfl, rfl⟩
theorem FL.lst (l : List (List IV)) (h : (IV.lst l).flat = true) : FL (.lst l) l := ⟨fun n => by cases n <;> rfl, h⟩
theorem flatI (l : List Int) : (IV.lst (l.map encI)).flat = true := by simp [IV.flat, encI]
theorem flatT (l : List Bool) : (IV.lst (l.map encT)).flat = true := by simp [IV.flat, encT]
theorem FL.lstE (es : List (Int × Int)) : FL (.lst (es.map encE)) (es.map encE) := ⟨(EL.lst es).f, (EL.lst es).fl⟩
theorem law_OpsLeveled (bs : List Int) (hb : ∀ b ∈ bs, 0 ≤ b ∧ b < 256) : KP 5 [LB bs] [] = some (B true, [], []) := by
  by_cases hbig : (1048576 : Int) < bs.length
  · refine xw_call (fn := Try.f5) rfl Try.func5 rfl ⟨Nat.le_of_ble_eq_true rfl, rfl, rfl⟩ ?_
    repeat' (first
      | refine xw_seq ?_
      | refine xw_block ?_
      | (refine ite_two ?_ ?_ <;> intro _ <;> first | (exfalso; omega) | skip)
      | refine ord_split (by kernel_rfl) ?_
      | (refine xw_ret ?_ <;> try simp only [sq, bl, LQ])
      | ((first | refine xw_reg ?_ | refine xw_regd ?_ | refine xw_if ?_ | refine xw_skip ?_ | refine xw_exit ?_ | refine xw_label ?_ | refine post_ret ?_ | refine post_normal ?_ | refine postE_ret ?_ | refine postE_normal ?_) <;> simp (config := { maxSteps := 3000000 }) (disch := first | assumption | omega | exact VG.okg (by assumption) | (simp only [List.length_set, List.length_append, List.length_cons, List.length_nil, List.length_replicate]; omega)) only [go_sem, ↓reduceIte, Int.reduceLE, Int.reduceLT, Int.reduceToNat, Int.reduceNeg, Int.reduceAdd, Int.reduceSub, Int.reduceMul, Int.reduceEq, Int.reduceNe, Nat.reduceEqDiff, Nat.reduceAdd, Nat.reduceSub, Nat.reduceMul, Nat.reduceLT, Nat.reduceLeDiff, Nat.reduceBEq, Nat.reduceBNe, Try.results5])
      | (((first | refine at_region ?_ | refine at_out ?_ | refine at_cond ?_); split) <;> first | (exfalso; omega; done) | simp (config := { maxSteps := 3000000 }) (disch := first | assumption | omega | exact VG.okg (by assumption) | (simp only [List.length_set, List.length_append, List.length_cons, List.length_nil, List.length_replicate]; omega)) only [go_sem, ↓reduceIte, Int.reduceLE, Int.reduceLT, Int.reduceToNat, Int.reduceNeg, Int.reduceAdd, Int.reduceSub, Int.reduceMul, Int.reduceEq, Int.reduceNe, Nat.reduceEqDiff, Nat.reduceAdd, Nat.reduceSub, Nat.reduceMul, Nat.reduceLT, Nat.reduceLeDiff, Nat.reduceBEq, Nat.reduceBNe, Try.results5] | skip))
  obtain ⟨n, ops, t, n0, n17, hlo, t0, t65, hdraw⟩ := c_DrawGraphAt bs hb (by omega)
  obtain ⟨res, hres, hg⟩ := c_GraphAt n t ops (by omega)
  have hs := c_sGraphAt n t ops (by omega)
  cases hga : gaS n ops t with
  | none =>
    rw [hga] at hres hs
    simp only at hres hs
    subst hres
    have hgs := c_GraphSame0 0 0
    refine xw_call (fn := Try.f5) rfl Try.func5 rfl ⟨Nat.le_of_ble_eq_true rfl, rfl, rfl⟩ ?_
    repeat' (first
      | refine xw_seq ?_
      | refine xw_block ?_
      | (refine ite_two ?_ ?_ <;> intro _ <;> first | (exfalso; omega) | skip)
      | refine ord_split (by kernel_rfl) ?_
      | (refine xw_ret ?_ <;> try simp only [sq, bl, LQ])
      | ((first | refine xw_reg ?_ | refine xw_regd ?_ | refine xw_if ?_ | refine xw_skip ?_ | refine xw_exit ?_ | refine xw_label ?_ | refine post_ret ?_ | refine post_normal ?_ | refine postE_ret ?_ | refine postE_normal ?_) <;> simp (config := { maxSteps := 3000000 }) (disch := first | assumption | omega | exact VG.okg (by assumption) | (simp only [List.length_set, List.length_append, List.length_cons, List.length_nil, List.length_replicate]; omega)) only [go_sem, ↓reduceIte, Int.reduceLE, Int.reduceLT, Int.reduceToNat, Int.reduceNeg, Int.reduceAdd, Int.reduceSub, Int.reduceMul, Int.reduceEq, Int.reduceNe, Nat.reduceEqDiff, Nat.reduceAdd, Nat.reduceSub, Nat.reduceMul, Nat.reduceLT, Nat.reduceLeDiff, Nat.reduceBEq, Nat.reduceBNe, Try.results5, hdraw, hg, hs, hgs])
      | (((first | refine at_region ?_ | refine at_out ?_ | refine at_cond ?_); split) <;> first | (exfalso; omega; done) | simp (config := { maxSteps := 3000000 }) (disch := first | assumption | omega | exact VG.okg (by assumption) | (simp only [List.length_set, List.length_append, List.length_cons, List.length_nil, List.length_replicate]; omega)) only [go_sem, ↓reduceIte, Int.reduceLE, Int.reduceLT, Int.reduceToNat, Int.reduceNeg, Int.reduceAdd, Int.reduceSub, Int.reduceMul, Int.reduceEq, Int.reduceNe, Nat.reduceEqDiff, Nat.reduceAdd, Nat.reduceSub, Nat.reduceMul, Nat.reduceLT, Nat.reduceLeDiff, Nat.reduceBEq, Nat.reduceBNe, Try.results5, hdraw, hg, hs, hgs] | skip))
  | some es =>
  rw [hga] at hres hs
  simp only at hres hs
  obtain ⟨x, hx, rfl⟩ := hres
  have hxf := hx.f
  have hxl := hx.fl
  have hok : (roS n ops).isSome = true ∧ 0 ≤ t ∧ t ≤ ops.length := Classical.byContradiction fun h => by
    rw [gaS, if_neg h] at hga; cases hga
  obtain ⟨es', he, h1, h2, h3⟩ := gaS_some hok
  obtain rfl : es' = es := by
    rw [gaS, if_pos hok, he] at hga
    exact Option.some.inj hga
  obtain ⟨-, ht0, ht1⟩ := hok
  have hVE : VG n es' := runS_vg h1 h2 rfl he
  have heL := hVE.2.2.1
  have hgs := c_GraphSame n n es' es' (by omega)
  rw [decide_eq_true ⟨rfl, rfl⟩] at hgs
  have hnl := c_NewLevels n ⟨h1, h2⟩
  refine xw_call (fn := Try.f5) rfl Try.func5 rfl ⟨Nat.le_of_ble_eq_true rfl, rfl, rfl⟩ ?_
  repeat' (first
    | refine xw_seq ?_
    | refine xw_block ?_
    | (refine ite_two ?_ ?_ <;> intro _ <;> first | (exfalso; omega) | skip)
    | refine ord_split (by kernel_rfl) ?_
    | (refine xw_ret ?_ <;> try simp only [sq, bl, LQ])
    | ((first | refine xw_reg ?_ | refine xw_regd ?_ | refine xw_if ?_ | refine xw_skip ?_ | refine xw_exit ?_ | refine xw_label ?_ | refine post_ret ?_ | refine post_normal ?_ | refine postE_ret ?_ | refine postE_normal ?_) <;> simp (config := { maxSteps := 3000000 }) (disch := first | assumption | omega | exact VG.okg (by assumption) | (simp only [List.length_set, List.length_append, List.length_cons, List.length_nil, List.length_replicate]; omega)) only [go_sem, ↓reduceIte, Int.reduceLE, Int.reduceLT, Int.reduceToNat, Int.reduceNeg, Int.reduceAdd, Int.reduceSub, Int.reduceMul, Int.reduceEq, Int.reduceNe, Nat.reduceEqDiff, Nat.reduceAdd, Nat.reduceSub, Nat.reduceMul, Nat.reduceLT, Nat.reduceLeDiff, Nat.reduceBEq, Nat.reduceBNe, Try.results5, hdraw, hg, hs, hgs, hnl, hxf, hxl])
    | (((first | refine at_region ?_ | refine at_out ?_ | refine at_cond ?_); split) <;> first | (exfalso; omega; done) | simp (config := { maxSteps := 3000000 }) (disch := first | assumption | omega | exact VG.okg (by assumption) | (simp only [List.length_set, List.length_append, List.length_cons, List.length_nil, List.length_replicate]; omega)) only [go_sem, ↓reduceIte, Int.reduceLE, Int.reduceLT, Int.reduceToNat, Int.reduceNeg, Int.reduceAdd, Int.reduceSub, Int.reduceMul, Int.reduceEq, Int.reduceNe, Nat.reduceEqDiff, Nat.reduceAdd, Nat.reduceSub, Nat.reduceMul, Nat.reduceLT, Nat.reduceLeDiff, Nat.reduceBEq, Nat.reduceBNe, Try.results5, hdraw, hg, hs, hgs, hnl, hxf, hxl] | skip))
  refine xw_loopR (fun (w : Int × IV × IV × IV × List Tl) s => s.ρ 3 = I n ∧ s.ρ 4 = LO ops ∧ s.ρ 5 = I t ∧ s.ρ 6 = .ptr 6 0 0 0 ∧ s.m 6 = some (.box 0 [I n, .i x]) ∧ s.ρ 10 = .ptr 10 0 0 0 ∧ s.m 10 = some (.box 0 [I n, .i w.2.1, .i w.2.2.1, .i w.2.2.2.1]) ∧ s.ρ 11 = B true ∧ s.ρ 12 = I w.1 ∧ 0 ≤ w.1 ∧ w.1 ≤ t ∧ FL w.2.1 ((esT w.2.2.2.2).map encE) ∧ FL w.2.2.1 ((lvT w.2.2.2.2).map encI) ∧ FL w.2.2.2.1 ((trT w.2.2.2.2).map encT) ∧ LV n w.2.2.2.2 ∧ runS n (ops.take w.1.toNat) = some (esT w.2.2.2.2)) (fun w => (t - w.1).toNat) (0, .emp, .emp, .emp, []) ?_ ?_
  · refine ⟨?_, ?_, ?_, ?_, ?_, ?_, ?_, ?_, ?_, by simp, by simpa using ht0, FL.emp, FL.emp, FL.emp, LV.nil h1 h2, rfl⟩
    all_goals rfl
  rintro ⟨i, u1, u2, u3, ts⟩ ⟨ρ, m⟩ ⟨e3, e4, e5, e6, m6, e10, m10, e11, e12, g0, g1, f1, f2, f3, hL, hr⟩
  simp only at e3 e4 e5 e6 m6 e10 m10 e11 e12 g0 g1 f1 f2 f3 hL hr
  have a1 := f1.f
  have a2 := f2.f
  have a3 := f3.f
  have b1 := f1.fl
  have b2 := f2.fl
  have b3 := f3.fl
  have hV := hL.vg
  have hel := hV.2.2.1
  by_cases hi : i < t
  · have hgo := getO ops i.toNat (by omega)
    have hnx := runS_next (n := n) g0 (show i < ops.length by omega)
    rw [hr, Option.bind_some] at hnx
    obtain ⟨es1, hes1⟩ : ∃ es1, runS n (ops.take (i + 1).toNat) = some es1 := by
      have h4 := runS_pre (n := n) (ops := ops.take t.toNat) (by rw [he]; rfl) (i + 1).toNat
      rw [List.take_take, Nat.min_eq_left (by omega)] at h4
      exact Option.isSome_iff_exists.1 h4
    rw [hes1] at hnx
    generalize ops.getD i.toNat (0, 0, 0) = o at hgo hnx
    obtain ⟨kd, a, b⟩ := o
    simp only at hgo hnx
    unfold opS at hnx
    simp only at hnx
    by_cases k1 : kd = 1
    · subst k1
      rw [if_pos rfl] at hnx
      by_cases hP : PutOK n (esT ts) (a, b)
      rotate_left
      · rw [if_neg hP] at hnx; cases hnx
      rw [if_pos hP, Option.some.injEq] at hnx
      obtain ⟨r, own, hpl, him⟩ := c_PutLevel n a b ts ⟨hL, hP⟩
      have hL1 : LV n (plL ts (a, b)) := hL.putT hP
      have hq1 : esT (plL ts (a, b)) = putE (a, b) (esT ts) := putT_es _ _ _
      rw [← hq1] at hnx
      generalize plL ts (a, b) = us at *
      repeat' (first
        | refine xw_seq ?_
        | refine xw_block ?_
        | (refine ite_two ?_ ?_ <;> intro _ <;> first | (exfalso; omega) | skip)
        | refine ord_split (by kernel_rfl) ?_
        | (refine xw_ret ?_ <;> try simp only [sq, bl, LQ])
        | ((first | refine xw_reg ?_ | refine xw_regd ?_ | refine xw_if ?_ | refine xw_skip ?_ | refine xw_exit ?_ | refine xw_label ?_ | refine post_ret ?_ | refine post_normal ?_ | refine postE_ret ?_ | refine postE_normal ?_) <;> simp (config := { maxSteps := 3000000 }) (disch := first | assumption | omega | exact VG.okg (by assumption) | (simp only [List.length_set, List.length_append, List.length_cons, List.length_nil, List.length_replicate]; omega)) only [go_sem, ↓reduceIte, Int.reduceLE, Int.reduceLT, Int.reduceToNat, Int.reduceNeg, Int.reduceAdd, Int.reduceSub, Int.reduceMul, Int.reduceEq, Int.reduceNe, Nat.reduceEqDiff, Nat.reduceAdd, Nat.reduceSub, Nat.reduceMul, Nat.reduceLT, Nat.reduceLeDiff, Nat.reduceBEq, Nat.reduceBNe, Try.results5, e3, e4, e5, e6, m6, e10, m10, e11, e12, hgo, hpl, him, a1, a2, a3, b1, b2, b3])
        | (((first | refine at_region ?_ | refine at_out ?_ | refine at_cond ?_); split) <;> first | (exfalso; omega; done) | simp (config := { maxSteps := 3000000 }) (disch := first | assumption | omega | exact VG.okg (by assumption) | (simp only [List.length_set, List.length_append, List.length_cons, List.length_nil, List.length_replicate]; omega)) only [go_sem, ↓reduceIte, Int.reduceLE, Int.reduceLT, Int.reduceToNat, Int.reduceNeg, Int.reduceAdd, Int.reduceSub, Int.reduceMul, Int.reduceEq, Int.reduceNe, Nat.reduceEqDiff, Nat.reduceAdd, Nat.reduceSub, Nat.reduceMul, Nat.reduceLT, Nat.reduceLeDiff, Nat.reduceBEq, Nat.reduceBNe, Try.results5, e3, e4, e5, e6, m6, e10, m10, e11, e12, hgo, hpl, him, a1, a2, a3, b1, b2, b3] | skip))
      exact ⟨i + 1, _, _, _, rfl, rfl, by omega, by omega, us, FL.lstE _, FL.lst _ (flatI _), FL.lst _ (flatT _), hL1, by rw [hes1, hnx], by omega⟩
    rw [if_neg k1] at hnx
    by_cases k2 : kd = 2
    · subst k2
      rw [if_pos rfl] at hnx
      by_cases hP : (a, b) ∈ esT ts
      rotate_left
      · rw [if_neg hP] at hnx; cases hnx
      rw [if_pos hP, Option.some.injEq] at hnx
      obtain ⟨r, own, hct, him⟩ := c_CutLevelL n a b ts hL hP
      obtain ⟨c1, c2, c3, c4, c5⟩ := ct_spec hL hP
      rw [← c1] at hnx
      generalize ctR n ts (a, b) = R at *
      repeat' (first
        | refine xw_seq ?_
        | refine xw_block ?_
        | (refine ite_two ?_ ?_ <;> intro _ <;> first | (exfalso; omega) | skip)
        | refine ord_split (by kernel_rfl) ?_
        | (refine xw_ret ?_ <;> try simp only [sq, bl, LQ])
        | ((first | refine xw_reg ?_ | refine xw_regd ?_ | refine xw_if ?_ | refine xw_skip ?_ | refine xw_exit ?_ | refine xw_label ?_ | refine post_ret ?_ | refine post_normal ?_ | refine postE_ret ?_ | refine postE_normal ?_) <;> simp (config := { maxSteps := 3000000 }) (disch := first | assumption | omega | exact VG.okg (by assumption) | (simp only [List.length_set, List.length_append, List.length_cons, List.length_nil, List.length_replicate]; omega)) only [go_sem, ↓reduceIte, Int.reduceLE, Int.reduceLT, Int.reduceToNat, Int.reduceNeg, Int.reduceAdd, Int.reduceSub, Int.reduceMul, Int.reduceEq, Int.reduceNe, Nat.reduceEqDiff, Nat.reduceAdd, Nat.reduceSub, Nat.reduceMul, Nat.reduceLT, Nat.reduceLeDiff, Nat.reduceBEq, Nat.reduceBNe, Try.results5, e3, e4, e5, e6, m6, e10, m10, e11, e12, hgo, hct, him, a1, a2, a3, b1, b2, b3])
        | (((first | refine at_region ?_ | refine at_out ?_ | refine at_cond ?_); split) <;> first | (exfalso; omega; done) | simp (config := { maxSteps := 3000000 }) (disch := first | assumption | omega | exact VG.okg (by assumption) | (simp only [List.length_set, List.length_append, List.length_cons, List.length_nil, List.length_replicate]; omega)) only [go_sem, ↓reduceIte, Int.reduceLE, Int.reduceLT, Int.reduceToNat, Int.reduceNeg, Int.reduceAdd, Int.reduceSub, Int.reduceMul, Int.reduceEq, Int.reduceNe, Nat.reduceEqDiff, Nat.reduceAdd, Nat.reduceSub, Nat.reduceMul, Nat.reduceLT, Nat.reduceLeDiff, Nat.reduceBEq, Nat.reduceBNe, Try.results5, e3, e4, e5, e6, m6, e10, m10, e11, e12, hgo, hct, him, a1, a2, a3, b1, b2, b3] | skip))
      exact ⟨i + 1, _, _, _, rfl, rfl, by omega, by omega, R.1, FL.lstE _, FL.lst _ (flatI _), FL.lst _ (flatT _), c2, by rw [hes1, hnx], by omega⟩
    rw [if_neg k2] at hnx
    by_cases k3 : kd = 3
    rotate_left
    · rw [if_neg k3] at hnx; cases hnx
    subst k3
    rw [if_pos rfl] at hnx
    split at hnx
    rotate_left
    · cases hnx
    rw [Option.some.injEq] at hnx
    repeat' (first
      | refine xw_seq ?_
      | refine xw_block ?_
      | (refine ite_two ?_ ?_ <;> intro _ <;> first | (exfalso; omega) | skip)
      | refine ord_split (by kernel_rfl) ?_
      | (refine xw_ret ?_ <;> try simp only [sq, bl, LQ])
      | ((first | refine xw_reg ?_ | refine xw_regd ?_ | refine xw_if ?_ | refine xw_skip ?_ | refine xw_exit ?_ | refine xw_label ?_ | refine post_ret ?_ | refine post_normal ?_ | refine postE_ret ?_ | refine postE_normal ?_) <;> simp (config := { maxSteps := 3000000 }) (disch := first | assumption | omega | exact VG.okg (by assumption) | (simp only [List.length_set, List.length_append, List.length_cons, List.length_nil, List.length_replicate]; omega)) only [go_sem, ↓reduceIte, Int.reduceLE, Int.reduceLT, Int.reduceToNat, Int.reduceNeg, Int.reduceAdd, Int.reduceSub, Int.reduceMul, Int.reduceEq, Int.reduceNe, Nat.reduceEqDiff, Nat.reduceAdd, Nat.reduceSub, Nat.reduceMul, Nat.reduceLT, Nat.reduceLeDiff, Nat.reduceBEq, Nat.reduceBNe, Try.results5, e3, e4, e5, e6, m6, e10, m10, e11, e12, hgo, a1, a2, a3, b1, b2, b3])
      | (((first | refine at_region ?_ | refine at_out ?_ | refine at_cond ?_); split) <;> first | (exfalso; omega; done) | simp (config := { maxSteps := 3000000 }) (disch := first | assumption | omega | exact VG.okg (by assumption) | (simp only [List.length_set, List.length_append, List.length_cons, List.length_nil, List.length_replicate]; omega)) only [go_sem, ↓reduceIte, Int.reduceLE, Int.reduceLT, Int.reduceToNat, Int.reduceNeg, Int.reduceAdd, Int.reduceSub, Int.reduceMul, Int.reduceEq, Int.reduceNe, Nat.reduceEqDiff, Nat.reduceAdd, Nat.reduceSub, Nat.reduceMul, Nat.reduceLT, Nat.reduceLeDiff, Nat.reduceBEq, Nat.reduceBNe, Try.results5, e3, e4, e5, e6, m6, e10, m10, e11, e12, hgo, a1, a2, a3, b1, b2, b3] | skip))
    exact ⟨i + 1, u1, u2, u3, rfl, rfl, by omega, by omega, ts, f1, f2, f3, hL, by rw [hes1, hnx], by omega⟩
  have hit : i = t := by omega
  subst hit
  rw [he, Option.some.injEq] at hr
  subst hr
  have hgs2 := hgs
  repeat' (first
    | refine xw_seq ?_
    | refine xw_block ?_
    | (refine ite_two ?_ ?_ <;> intro _ <;> first | (exfalso; omega) | skip)
    | refine ord_split (by kernel_rfl) ?_
    | (refine xw_ret ?_ <;> try simp only [sq, bl, LQ])
    | ((first | refine xw_reg ?_ | refine xw_regd ?_ | refine xw_if ?_ | refine xw_skip ?_ | refine xw_exit ?_ | refine xw_label ?_ | refine post_ret ?_ | refine post_normal ?_ | refine postE_ret ?_ | refine postE_normal ?_) <;> simp (config := { maxSteps := 3000000 }) (disch := first | assumption | omega | exact VG.okg (by assumption) | (simp only [List.length_set, List.length_append, List.length_cons, List.length_nil, List.length_replicate]; omega)) only [go_sem, ↓reduceIte, Int.reduceLE, Int.reduceLT, Int.reduceToNat, Int.reduceNeg, Int.reduceAdd, Int.reduceSub, Int.reduceMul, Int.reduceEq, Int.reduceNe, Nat.reduceEqDiff, Nat.reduceAdd, Nat.reduceSub, Nat.reduceMul, Nat.reduceLT, Nat.reduceLeDiff, Nat.reduceBEq, Nat.reduceBNe, Try.results5, e3, e4, e5, e6, m6, e10, m10, e11, e12, a1, a2, a3, b1, b2, b3])
    | (((first | refine at_region ?_ | refine at_out ?_ | refine at_cond ?_); split) <;> first | (exfalso; omega; done) | simp (config := { maxSteps := 3000000 }) (disch := first | assumption | omega | exact VG.okg (by assumption) | (simp only [List.length_set, List.length_append, List.length_cons, List.length_nil, List.length_replicate]; omega)) only [go_sem, ↓reduceIte, Int.reduceLE, Int.reduceLT, Int.reduceToNat, Int.reduceNeg, Int.reduceAdd, Int.reduceSub, Int.reduceMul, Int.reduceEq, Int.reduceNe, Nat.reduceEqDiff, Nat.reduceAdd, Nat.reduceSub, Nat.reduceMul, Nat.reduceLT, Nat.reduceLeDiff, Nat.reduceBEq, Nat.reduceBNe, Try.results5, e3, e4, e5, e6, m6, e10, m10, e11, e12, a1, a2, a3, b1, b2, b3] | skip))
  refine xw_loopR (fun (y : Int) s => s.ρ 3 = I n ∧ s.ρ 6 = .ptr 6 0 0 0 ∧ s.m 6 = some (.box 0 [I n, .i x]) ∧ s.ρ 10 = .ptr 10 0 0 0 ∧ s.m 10 = some (.box 0 [I n, .i u1, .i u2, .i u3]) ∧ s.ρ 11 = B true ∧ s.ρ 14 = I y ∧ 0 ≤ y) (fun y => (n - y).toNat) 0 ?_ ?_
  · refine ⟨?_, ?_, ?_, ?_, ?_, ?_, ?_, by omega⟩
    all_goals first | rfl | assumption
  clear e3 e4 e5 e6 m6 e10 m10 e11 e12
  rintro y ⟨ρ, m⟩ ⟨e3, e6, m6, e10, m10, e11, e14, y0⟩
  simp only at e3 e6 m6 e10 m10 e11 e14 y0
  by_cases hy : y < n
  rotate_left
  · repeat' (first
      | refine xw_seq ?_
      | refine xw_block ?_
      | (refine ite_two ?_ ?_ <;> intro _ <;> first | (exfalso; omega) | skip)
      | refine ord_split (by kernel_rfl) ?_
      | (refine xw_ret ?_ <;> try simp only [sq, bl, LQ])
      | ((first | refine xw_reg ?_ | refine xw_regd ?_ | refine xw_if ?_ | refine xw_skip ?_ | refine xw_exit ?_ | refine xw_label ?_ | refine post_ret ?_ | refine post_normal ?_ | refine postE_ret ?_ | refine postE_normal ?_) <;> simp (config := { maxSteps := 3000000 }) (disch := first | assumption | omega | exact VG.okg (by assumption) | (simp only [List.length_set, List.length_append, List.length_cons, List.length_nil, List.length_replicate]; omega)) only [go_sem, ↓reduceIte, Int.reduceLE, Int.reduceLT, Int.reduceToNat, Int.reduceNeg, Int.reduceAdd, Int.reduceSub, Int.reduceMul, Int.reduceEq, Int.reduceNe, Nat.reduceEqDiff, Nat.reduceAdd, Nat.reduceSub, Nat.reduceMul, Nat.reduceLT, Nat.reduceLeDiff, Nat.reduceBEq, Nat.reduceBNe, Try.results5, e3, e6, m6, e10, m10, e11, e14, a1, a2, a3, b1, b2, b3, hxf, hxl, hgs])
      | (((first | refine at_region ?_ | refine at_out ?_ | refine at_cond ?_); split) <;> first | (exfalso; omega; done) | simp (config := { maxSteps := 3000000 }) (disch := first | assumption | omega | exact VG.okg (by assumption) | (simp only [List.length_set, List.length_append, List.length_cons, List.length_nil, List.length_replicate]; omega)) only [go_sem, ↓reduceIte, Int.reduceLE, Int.reduceLT, Int.reduceToNat, Int.reduceNeg, Int.reduceAdd, Int.reduceSub, Int.reduceMul, Int.reduceEq, Int.reduceNe, Nat.reduceEqDiff, Nat.reduceAdd, Nat.reduceSub, Nat.reduceMul, Nat.reduceLT, Nat.reduceLeDiff, Nat.reduceBEq, Nat.reduceBNe, Try.results5, e3, e6, m6, e10, m10, e11, e14, a1, a2, a3, b1, b2, b3, hxf, hxl, hgs] | skip))
  have hlc := c_LeveledConnected n 0 y ts hL ⟨by omega, by omega⟩ ⟨y0, hy⟩
  have hcc := c_Connected n 0 y (esT ts) (by omega)
  have hde : decide (VG n (esT ts) ∧ 0 ≤ (0 : Int) ∧ (0 : Int) < n ∧ 0 ≤ y ∧ y < n ∧ Conn (esT ts) 0 y) = decide (Conn (esT ts) 0 y) := decide_eq_decide.2 ⟨fun h => h.2.2.2.2.2, fun h => ⟨hV, by omega, by omega, y0, hy, h⟩⟩
  rw [hde] at hcc
  generalize decide (Conn (esT ts) 0 y) = c at *
  repeat' (first
    | refine xw_seq ?_
    | refine xw_block ?_
    | (refine ite_two ?_ ?_ <;> intro _ <;> first | (exfalso; omega) | skip)
    | refine ord_split (by kernel_rfl) ?_
    | (refine xw_ret ?_ <;> try simp only [sq, bl, LQ])
    | ((first | refine xw_reg ?_ | refine xw_regd ?_ | refine xw_if ?_ | refine xw_skip ?_ | refine xw_exit ?_ | refine xw_label ?_ | refine post_ret ?_ | refine post_normal ?_ | refine postE_ret ?_ | refine postE_normal ?_) <;> simp (config := { maxSteps := 3000000 }) (disch := first | assumption | omega | exact VG.okg (by assumption) | (simp only [List.length_set, List.length_append, List.length_cons, List.length_nil, List.length_replicate]; omega)) only [go_sem, ↓reduceIte, Int.reduceLE, Int.reduceLT, Int.reduceToNat, Int.reduceNeg, Int.reduceAdd, Int.reduceSub, Int.reduceMul, Int.reduceEq, Int.reduceNe, Nat.reduceEqDiff, Nat.reduceAdd, Nat.reduceSub, Nat.reduceMul, Nat.reduceLT, Nat.reduceLeDiff, Nat.reduceBEq, Nat.reduceBNe, Try.results5, e3, e6, m6, e10, m10, e11, e14, a1, a2, a3, b1, b2, b3, hxf, hxl, hlc, hcc, hy])
    | (((first | refine at_region ?_ | refine at_out ?_ | refine at_cond ?_); split) <;> first | (exfalso; omega; done) | simp (config := { maxSteps := 3000000 }) (disch := first | assumption | omega | exact VG.okg (by assumption) | (simp only [List.length_set, List.length_append, List.length_cons, List.length_nil, List.length_replicate]; omega)) only [go_sem, ↓reduceIte, Int.reduceLE, Int.reduceLT, Int.reduceToNat, Int.reduceNeg, Int.reduceAdd, Int.reduceSub, Int.reduceMul, Int.reduceEq, Int.reduceNe, Nat.reduceEqDiff, Nat.reduceAdd, Nat.reduceSub, Nat.reduceMul, Nat.reduceLT, Nat.reduceLeDiff, Nat.reduceBEq, Nat.reduceBNe, Try.results5, e3, e6, m6, e10, m10, e11, e14, a1, a2, a3, b1, b2, b3, hxf, hxl, hlc, hcc, hy] | skip))
  exact ⟨by omega, by omega⟩
end Go.Proofs.Yteknfomddncboaa.X
