/- What functions compute: answers known ahead, as the reference has them. -/
import Derived.Test.YtjffaedlmplcnaaC96
set_option linter.unusedSimpArgs false
set_option linter.unusedVariables false
set_option maxHeartbeats 16000000
set_option maxRecDepth 100000
namespace Go.Proofs.Ytjffaedlmplcnaa.X
open Go Go.Proofs
theorem left_one {lvs : List Lf} {lo hi : Int} (h : hi = lo + 1) : lvs.filter (leftS lo hi) = [] := by
  rw [List.filter_eq_nil_iff]
  rintro ⟨e, fr, to⟩ -
  simp only [leftS, covS, Bool.and_eq_true, Bool.not_eq_true', decide_eq_false_iff_not, decide_eq_true_eq]
  omega
theorem ansS_one {ops : List Op3} {lvs : List Lf} {es : List (Int × Int)} {lo hi : Int} (h0 : 0 ≤ lo) (h : hi = lo + 1) (hl : lo < ops.length) : ansS ops lvs es lo (hi - lo).toNat = if (ops.getD lo.toNat (0, 0, 0)).1 = 3 then [decide (Conn (((lvs.filter (covS lo hi)).map (·.1)).reverse ++ es) (ops.getD lo.toNat (0, 0, 0)).2.1 (ops.getD lo.toNat (0, 0, 0)).2.2)] else [] := by
  rw [ansS_part ops lvs es (show lo < hi by omega), left_one h]
  have e : (hi - lo).toNat = 1 := by omega
  rw [e]
  unfold ansS
  have hlt : lo.toNat < ops.length := by omega
  simp [List.range_succ, aliveL, hlt]
theorem ansS_len (ops : List Op3) (lvs : List Lf) (es : List (Int × Int)) (lo : Int) : ∀ k, (ansS ops lvs es lo k).length ≤ k
  | 0 => by simp [ansS]
  | k + 1 => by
    have := ansS_len ops lvs es lo k
    unfold ansS at *
    rw [List.range_succ, List.flatMap_append, List.length_append]
    simp only [List.flatMap_cons, List.flatMap_nil, List.append_nil]
    split
    · split
      · rw [List.length_singleton]; omega
      · rw [List.length_nil]; omega
    · rw [List.length_nil]; omega
theorem fil_snoc {p : Lf → Bool} {lvs : List Lf} {i : Int} (h0 : 0 ≤ i) (h1 : i < lvs.length) : (lvs.take (i + 1).toNat).filter p = (lvs.take i.toNat).filter p ++ if p (lvs.getD i.toNat dF) = true then [lvs.getD i.toNat dF] else [] := by
  rw [take_int dF h0 h1, List.filter_append]
  congr 1
  by_cases h : p (lvs.getD i.toNat dF) = true
  · rw [if_pos h, List.filter_cons_of_pos h]; rfl
  · rw [if_neg h, List.filter_cons_of_neg h]; rfl
theorem c_l8Ahead {n : Int} {ops : List Op3} (h1 : 1 ≤ n) (h2 : n ≤ 16) (hops : ops.length ≤ 64) (hask : ∀ (i : Nat) (a b : Int), ops[i]? = some (3, a, b) → inN n a ∧ inN n b) :
    ∀ (f : Nat) (lo hi : Int) (lvs : List Lf) (es : List (Int × Int)) (par sz : List Int) (st : List (Int × Int)) (xs : IV) (out : List Bool) (work : Int), 0 ≤ lo → lo < hi → hi ≤ ops.length → (hi - lo).toNat ≤ f → US n es par sz → EL xs st →
    (∀ l ∈ lvs, inN n l.1.1 ∧ inN n l.1.2 ∧ l.2.1 < l.2.2) → st.length + lvs.length ≤ 64 → (out.length : Int) + (hi - lo) ≤ 1000 → 0 ≤ work → work + workS lvs lo hi ≤ 1000000 →
    ∃ v : Nat, KP 71 [LO ops, .ref 1000 0 0 lvs.length, I lo, I hi, .agg [LI par, LI sz, .i xs], .ref 1001 0 0 out.length, I work] [.arr 0 4 (lvs.map encF), .arr 0 1 (out.map encT)] =
      some (.tup [.ref 1001 v 0 (out ++ ansS ops lvs es lo (hi - lo).toNat).length, I (work + workS lvs lo hi)], [.arr 0 4 (lvs.map encF), .arr v 1 ((out ++ ansS ops lvs es lo (hi - lo).toNat).map encT)], []) := by
  intro f
  induction f with
  | zero => intro lo hi lvs es par sz st xs out work q0 q1 q2 q3; omega
  | succ f ih =>
  intro lo hi lvs es par sz st xs out work q0 q1 q2 q3 hU hx hlv hst hout hw0 hw1
  suffices hgoal : ∃ res, (∃ v : Nat, res = (PV.tup [.ref 1001 v 0 (out ++ ansS ops lvs es lo (hi - lo).toNat).length, I (work + workS lvs lo hi)], [Arr.arr 0 4 (lvs.map encF), .arr v 1 ((out ++ ansS ops lvs es lo (hi - lo).toNat).map encT)], ([] : List Arr))) ∧ KP 71 [LO ops, .ref 1000 0 0 lvs.length, I lo, I hi, .agg [LI par, LI sz, .i xs], .ref 1001 0 0 out.length, I work] [.arr 0 4 (lvs.map encF), .arr 0 1 (out.map encT)] = some res by
    obtain ⟨res, ⟨v, rfl⟩, h⟩ := hgoal
    exact ⟨v, h⟩
  have hxl0 := hx.fl
  refine xw_callE (fn := Try.f71) rfl Try.func71 rfl ⟨Nat.le_of_ble_eq_true rfl, rfl, rfl⟩ ?_
  repeat' (first
    | refine xw_seq ?_
    | refine xw_block ?_
    | (refine ite_two ?_ ?_ <;> intro _ <;> first | (exfalso; omega) | skip)
    | refine ord_split (by kernel_rfl) ?_
    | (refine xw_ret ?_ <;> try simp only [sq, bl, LQ])
    | ((first | refine xw_reg ?_ | refine xw_regd ?_ | refine xw_if ?_ | refine xw_skip ?_ | refine xw_exit ?_ | refine xw_label ?_ | refine post_ret ?_ | refine post_normal ?_ | refine postE_ret ?_ | refine postE_normal ?_ | (((first | refine at_region ?_ | refine at_out ?_ | refine at_cond ?_); split) <;> first | (exfalso; omega; done) | skip)) <;> try simp (config := { maxSteps := 3000000 }) (disch := first | assumption | omega | exact VG.okg (by assumption) | (simp only [List.length_set, List.length_append, List.length_cons, List.length_nil, List.length_replicate]; omega)) only [go_sem, ↓reduceIte, Int.reduceLE, Int.reduceLT, Int.reduceToNat, Int.reduceNeg, Int.reduceAdd, Int.reduceSub, Int.reduceMul, Int.reduceEq, Int.reduceNe, Nat.reduceEqDiff, Nat.reduceAdd, Nat.reduceSub, Nat.reduceMul, Nat.reduceLT, Nat.reduceLeDiff, Nat.reduceBEq, Nat.reduceBNe, UInt8.reduceToNat, Try.results71, hxl0]))
  refine xw_loopR (fun (w : Int × Nat × List Int × List Int × List (Int × Int) × IV) s => s.ρ 0 = LO ops ∧ s.ρ 1 = .ref 1000 0 0 lvs.length ∧ s.m 1000 = some (.arr 0 4 (lvs.map encF)) ∧ s.ρ 2 = I lo ∧ s.ρ 3 = I hi ∧ s.ρ 11 = .ptr 11 0 0 0 ∧ s.m 11 = some (.box 0 [LI w.2.2.1, LI w.2.2.2.1, .i w.2.2.2.2.2]) ∧ s.ρ 5 = .ref 1001 0 0 out.length ∧ s.m 1001 = some (.arr 0 1 (out.map encT)) ∧
    s.ρ 16 = .ref 20 w.2.1 0 ((lvs.take w.1.toNat).filter (leftS lo hi)).length ∧ s.m 20 = some (.arr w.2.1 4 (((lvs.take w.1.toNat).filter (leftS lo hi)).map encF)) ∧ s.ρ 6 = I (work + ((lvs.take w.1.toNat).filter (covS lo hi)).length) ∧ s.ρ 17 = I w.1 ∧ 0 ≤ w.1 ∧ w.1 ≤ lvs.length ∧
    US n ((((lvs.take w.1.toNat).filter (covS lo hi)).map (·.1)).reverse ++ es) w.2.2.1 w.2.2.2.1 ∧ EL w.2.2.2.2.2 w.2.2.2.2.1 ∧ w.2.2.2.2.1.length = st.length + ((lvs.take w.1.toNat).filter (covS lo hi)).length) (fun w => (lvs.length - w.1).toNat) (0, 0, par, sz, st, xs) ?_ ?_
  · refine ⟨?_, ?_, ?_, ?_, ?_, ?_, ?_, ?_, ?_, ?_, ?_, ?_, ?_, by simp, by simp, by simpa using hU, hx, by simp⟩
    all_goals first | rfl | (simp [upd, initP]; done) | trace_state
  rintro ⟨i, v, pa, sz', st', x⟩ ⟨ρ, m⟩ ⟨e0, e1, m1, e2, e3, e11, m11, e5, m5, e16, m20, e6, e17, g0, g1, hU', hx', hst'⟩
  simp only at e0 e1 m1 e2 e3 e11 m11 e5 m5 e16 m20 e6 e17 g0 g1 hU' hx' hst'
  have hxf := hx'.f
  have hxl := hx'.fl
  have hwb := workS_bd (lvs := lvs) (lo := lo) (hi := hi) q1
  by_cases hi' : i < lvs.length
  · have hgf := getF lvs i.toNat (by omega)
    obtain ⟨hia, hib, hft⟩ := hlv _ (getD_mem (d := dF) (show i.toNat < lvs.length by omega))
    have hfc := fil_snoc (p := covS lo hi) g0 hi'
    have hfl := fil_snoc (p := leftS lo hi) g0 hi'
    have hc1 := List.length_filter_le (covS lo hi) (lvs.take i.toNat)
    have hc2 := List.length_filter_le (leftS lo hi) (lvs.take i.toNat)
    rw [List.length_take] at hc1 hc2
    generalize hPc : (lvs.take i.toNat).filter (covS lo hi) = Pc at *
    generalize hPl : (lvs.take i.toNat).filter (leftS lo hi) = Pl at *
    generalize lvs.getD i.toNat dF = l at *
    obtain ⟨⟨a, b⟩, fr, to⟩ := l
    simp only at hgf hia hib hft
    by_cases c : fr ≤ lo ∧ hi ≤ to
    · have hcv : covS lo hi ((a, b), fr, to) = true := by simp [covS, c]
      have hlf : leftS lo hi ((a, b), fr, to) = false := by simp [leftS, hcv]
      rw [if_pos hcv] at hfc
      rw [if_neg (by simp [hlf]), List.append_nil] at hfl
      obtain ⟨par2, sz2, st2, hU2, hst2, hun⟩ := c_l3Unite hU' st' hia hib (by omega) (by omega)
      obtain ⟨c0, c1⟩ := c
      repeat' (first
        | refine xw_seq ?_
        | refine xw_block ?_
        | (refine ite_two ?_ ?_ <;> intro _ <;> first | (exfalso; omega) | skip)
        | refine ord_split (by kernel_rfl) ?_
        | (refine xw_ret ?_ <;> try simp only [sq, bl, LQ])
        | ((first | refine xw_reg ?_ | refine xw_regd ?_ | refine xw_if ?_ | refine xw_skip ?_ | refine xw_exit ?_ | refine xw_label ?_ | refine post_ret ?_ | refine post_normal ?_ | refine postE_ret ?_ | refine postE_normal ?_ | (((first | refine at_region ?_ | refine at_out ?_ | refine at_cond ?_); split) <;> first | (exfalso; omega; done) | skip)) <;> try simp (config := { maxSteps := 3000000 }) (disch := first | assumption | omega | exact VG.okg (by assumption) | (simp only [List.length_set, List.length_append, List.length_cons, List.length_nil, List.length_replicate]; omega)) only [go_sem, ↓reduceIte, Int.reduceLE, Int.reduceLT, Int.reduceToNat, Int.reduceNeg, Int.reduceAdd, Int.reduceSub, Int.reduceMul, Int.reduceEq, Int.reduceNe, Nat.reduceEqDiff, Nat.reduceAdd, Nat.reduceSub, Nat.reduceMul, Nat.reduceLT, Nat.reduceLeDiff, Nat.reduceBEq, Nat.reduceBNe, UInt8.reduceToNat, Try.results71, e0, e1, m1, e2, e3, e11, m11, e5, m5, e16, m20, e6, e17, hgf, hxf, hxl, hun, c0, c1]))
      exact ⟨i + 1, v, par2, sz2, st2, .lst (st2.map encE), rfl, rfl, by rw [hfl], rfl, by rw [hfl], by rw [hfc, List.length_append, List.length_singleton]; omega, rfl, by omega, by omega, by rw [hfc]; simpa using hU2, EL.lst _, by rw [hfc, List.length_append, List.length_singleton]; omega, by omega⟩
    · have hcv : covS lo hi ((a, b), fr, to) = false := by simpa [covS] using c
      rw [if_neg (by simp [hcv]), List.append_nil] at hfc
      by_cases d : fr < hi ∧ lo < to
      · have hlf : leftS lo hi ((a, b), fr, to) = true := by simp [leftS, hcv, d]
        rw [if_pos hlf] at hfl
        obtain ⟨d0, d1⟩ := d
        by_cases c0 : fr ≤ lo
        · have c1 : ¬ hi ≤ to := fun h => c ⟨c0, h⟩
          repeat' (first
            | refine xw_seq ?_
            | refine xw_block ?_
            | (refine ite_two ?_ ?_ <;> intro _ <;> first | (exfalso; omega) | skip)
            | refine ord_split (by kernel_rfl) ?_
            | (refine xw_ret ?_ <;> try simp only [sq, bl, LQ])
            | ((first | refine xw_reg ?_ | refine xw_regd ?_ | refine xw_if ?_ | refine xw_skip ?_ | refine xw_exit ?_ | refine xw_label ?_ | refine post_ret ?_ | refine post_normal ?_ | refine postE_ret ?_ | refine postE_normal ?_ | (((first | refine at_region ?_ | refine at_out ?_ | refine at_cond ?_); split) <;> first | (exfalso; omega; done) | skip)) <;> try simp (config := { maxSteps := 3000000 }) (disch := first | assumption | omega | exact VG.okg (by assumption) | (simp only [List.length_set, List.length_append, List.length_cons, List.length_nil, List.length_replicate]; omega)) only [go_sem, ↓reduceIte, Int.reduceLE, Int.reduceLT, Int.reduceToNat, Int.reduceNeg, Int.reduceAdd, Int.reduceSub, Int.reduceMul, Int.reduceEq, Int.reduceNe, Nat.reduceEqDiff, Nat.reduceAdd, Nat.reduceSub, Nat.reduceMul, Nat.reduceLT, Nat.reduceLeDiff, Nat.reduceBEq, Nat.reduceBNe, UInt8.reduceToNat, Try.results71, e0, e1, m1, e2, e3, e11, m11, e5, m5, e16, m20, e6, e17, hgf, hxf, hxl, c0, c1, d0, d1]))
          exact ⟨i + 1, v + 1, pa, sz', st', x, rfl, rfl, by rw [hfl]; simp, rfl, by rw [hfl], by rw [hfc], rfl, by omega, by omega, by rw [hfc]; exact hU', hx', by rw [hfc]; exact hst', by omega⟩
        · repeat' (first
            | refine xw_seq ?_
            | refine xw_block ?_
            | (refine ite_two ?_ ?_ <;> intro _ <;> first | (exfalso; omega) | skip)
            | refine ord_split (by kernel_rfl) ?_
            | (refine xw_ret ?_ <;> try simp only [sq, bl, LQ])
            | ((first | refine xw_reg ?_ | refine xw_regd ?_ | refine xw_if ?_ | refine xw_skip ?_ | refine xw_exit ?_ | refine xw_label ?_ | refine post_ret ?_ | refine post_normal ?_ | refine postE_ret ?_ | refine postE_normal ?_ | (((first | refine at_region ?_ | refine at_out ?_ | refine at_cond ?_); split) <;> first | (exfalso; omega; done) | skip)) <;> try simp (config := { maxSteps := 3000000 }) (disch := first | assumption | omega | exact VG.okg (by assumption) | (simp only [List.length_set, List.length_append, List.length_cons, List.length_nil, List.length_replicate]; omega)) only [go_sem, ↓reduceIte, Int.reduceLE, Int.reduceLT, Int.reduceToNat, Int.reduceNeg, Int.reduceAdd, Int.reduceSub, Int.reduceMul, Int.reduceEq, Int.reduceNe, Nat.reduceEqDiff, Nat.reduceAdd, Nat.reduceSub, Nat.reduceMul, Nat.reduceLT, Nat.reduceLeDiff, Nat.reduceBEq, Nat.reduceBNe, UInt8.reduceToNat, Try.results71, e0, e1, m1, e2, e3, e11, m11, e5, m5, e16, m20, e6, e17, hgf, hxf, hxl, c0, d0, d1]))
          exact ⟨i + 1, v + 1, pa, sz', st', x, rfl, rfl, by rw [hfl]; simp, rfl, by rw [hfl], by rw [hfc], rfl, by omega, by omega, by rw [hfc]; exact hU', hx', by rw [hfc]; exact hst', by omega⟩
      · have hlf : leftS lo hi ((a, b), fr, to) = false := by simpa [leftS, hcv] using d
        rw [if_neg (by simp [hlf]), List.append_nil] at hfl
        by_cases c0 : fr ≤ lo
        · have c1 : ¬ hi ≤ to := fun h => c ⟨c0, h⟩
          have d0 : fr < hi := by omega
          have d1 : ¬ lo < to := fun h => d ⟨d0, h⟩
          repeat' (first
            | refine xw_seq ?_
            | refine xw_block ?_
            | (refine ite_two ?_ ?_ <;> intro _ <;> first | (exfalso; omega) | skip)
            | refine ord_split (by kernel_rfl) ?_
            | (refine xw_ret ?_ <;> try simp only [sq, bl, LQ])
            | ((first | refine xw_reg ?_ | refine xw_regd ?_ | refine xw_if ?_ | refine xw_skip ?_ | refine xw_exit ?_ | refine xw_label ?_ | refine post_ret ?_ | refine post_normal ?_ | refine postE_ret ?_ | refine postE_normal ?_ | (((first | refine at_region ?_ | refine at_out ?_ | refine at_cond ?_); split) <;> first | (exfalso; omega; done) | skip)) <;> try simp (config := { maxSteps := 3000000 }) (disch := first | assumption | omega | exact VG.okg (by assumption) | (simp only [List.length_set, List.length_append, List.length_cons, List.length_nil, List.length_replicate]; omega)) only [go_sem, ↓reduceIte, Int.reduceLE, Int.reduceLT, Int.reduceToNat, Int.reduceNeg, Int.reduceAdd, Int.reduceSub, Int.reduceMul, Int.reduceEq, Int.reduceNe, Nat.reduceEqDiff, Nat.reduceAdd, Nat.reduceSub, Nat.reduceMul, Nat.reduceLT, Nat.reduceLeDiff, Nat.reduceBEq, Nat.reduceBNe, UInt8.reduceToNat, Try.results71, e0, e1, m1, e2, e3, e11, m11, e5, m5, e16, m20, e6, e17, hgf, hxf, hxl, c0, c1, d0, d1]))
          exact ⟨i + 1, v, pa, sz', st', x, rfl, rfl, by rw [hfl], rfl, by rw [hfl], by rw [hfc], rfl, by omega, by omega, by rw [hfc]; exact hU', hx', by rw [hfc]; exact hst', by omega⟩
        · have d0 : ¬ fr < hi := fun h => d ⟨h, by omega⟩
          repeat' (first
            | refine xw_seq ?_
            | refine xw_block ?_
            | (refine ite_two ?_ ?_ <;> intro _ <;> first | (exfalso; omega) | skip)
            | refine ord_split (by kernel_rfl) ?_
            | (refine xw_ret ?_ <;> try simp only [sq, bl, LQ])
            | ((first | refine xw_reg ?_ | refine xw_regd ?_ | refine xw_if ?_ | refine xw_skip ?_ | refine xw_exit ?_ | refine xw_label ?_ | refine post_ret ?_ | refine post_normal ?_ | refine postE_ret ?_ | refine postE_normal ?_ | (((first | refine at_region ?_ | refine at_out ?_ | refine at_cond ?_); split) <;> first | (exfalso; omega; done) | skip)) <;> try simp (config := { maxSteps := 3000000 }) (disch := first | assumption | omega | exact VG.okg (by assumption) | (simp only [List.length_set, List.length_append, List.length_cons, List.length_nil, List.length_replicate]; omega)) only [go_sem, ↓reduceIte, Int.reduceLE, Int.reduceLT, Int.reduceToNat, Int.reduceNeg, Int.reduceAdd, Int.reduceSub, Int.reduceMul, Int.reduceEq, Int.reduceNe, Nat.reduceEqDiff, Nat.reduceAdd, Nat.reduceSub, Nat.reduceMul, Nat.reduceLT, Nat.reduceLeDiff, Nat.reduceBEq, Nat.reduceBNe, UInt8.reduceToNat, Try.results71, e0, e1, m1, e2, e3, e11, m11, e5, m5, e16, m20, e6, e17, hgf, hxf, hxl, c0, d0]))
          exact ⟨i + 1, v, pa, sz', st', x, rfl, rfl, by rw [hfl], rfl, by rw [hfl], by rw [hfc], rfl, by omega, by omega, by rw [hfc]; exact hU', hx', by rw [hfc]; exact hst', by omega⟩
  rw [take_all (by omega)] at e16 m20 e6 hU' hst'
  have hcl := cov_left lo hi lvs
  have hA := ansS_part ops lvs es q1
  have hll : ∀ l ∈ lvs.filter (leftS lo hi), inN n l.1.1 ∧ inN n l.1.2 ∧ l.2.1 < l.2.2 := fun l hl => hlv l (List.mem_filter.1 hl).1
  by_cases hone : hi - lo = 1
  · have hW := workS_one (lvs := lvs) (lo := lo) (hi := hi) (by omega)
    have hA1 := ansS_one (ops := ops) (lvs := lvs) (es := es) (lo := lo) (hi := hi) q0 (by omega) (by omega)
    rw [hA1, hW]
    have hgo := getO ops lo.toNat (by omega)
    have hgg : ops[lo.toNat]? = some (ops.getD lo.toNat (0, 0, 0)) := by
      rw [List.getElem?_eq_getElem (show lo.toNat < ops.length by omega)]; simp [show lo.toNat < ops.length by omega]
    clear hA hA1
    generalize ops.getD lo.toNat (0, 0, 0) = o at *
    obtain ⟨kd, a, b⟩ := o
    simp only at hgo
    generalize ((lvs.filter (covS lo hi)).map (·.1)).reverse ++ es = es' at *
    generalize (lvs.filter (covS lo hi)).length = cn at *
    by_cases k3 : kd = 3
    · subst k3
      rw [if_pos rfl]
      obtain ⟨ia, ib⟩ := hask _ a b hgg
      obtain ⟨ra, hra, hRa⟩ := hU'.root' ia
      obtain ⟨rb, hrb, hRb⟩ := hU'.root' ib
      have hcn := hU'.cn a b ra rb ia ib hRa hRb
      have hr1 := c_l3Root hU' st' ia hRa (by omega)
      have hr2 := c_l3Root hU' st' ib hRb (by omega)
      have hde : decide (Conn es' a b) = decide (ra = rb) := decide_eq_decide.2 hcn.symm
      rw [hde]
      repeat' (first
        | refine xw_seq ?_
        | refine xw_block ?_
        | (refine ite_two ?_ ?_ <;> intro _ <;> first | (exfalso; omega) | skip)
        | refine ord_split (by kernel_rfl) ?_
        | (refine xw_ret ?_ <;> try simp only [sq, bl, LQ])
        | ((first | refine xw_reg ?_ | refine xw_regd ?_ | refine xw_if ?_ | refine xw_skip ?_ | refine xw_exit ?_ | refine xw_label ?_ | refine post_ret ?_ | refine post_normal ?_ | refine postE_ret ?_ | refine postE_normal ?_ | (((first | refine at_region ?_ | refine at_out ?_ | refine at_cond ?_); split) <;> first | (exfalso; omega; done) | skip)) <;> try simp (config := { maxSteps := 3000000 }) (disch := first | assumption | omega | exact VG.okg (by assumption) | (simp only [List.length_set, List.length_append, List.length_cons, List.length_nil, List.length_replicate]; omega)) only [go_sem, ↓reduceIte, Int.reduceLE, Int.reduceLT, Int.reduceToNat, Int.reduceNeg, Int.reduceAdd, Int.reduceSub, Int.reduceMul, Int.reduceEq, Int.reduceNe, Nat.reduceEqDiff, Nat.reduceAdd, Nat.reduceSub, Nat.reduceMul, Nat.reduceLT, Nat.reduceLeDiff, Nat.reduceBEq, Nat.reduceBNe, UInt8.reduceToNat, Try.results71, e0, e1, m1, e2, e3, e11, m11, e5, m5, e16, m20, e6, e17, hgo, hxf, hxl, hr1, hr2, hone]))
      exact ⟨1, rfl, rfl⟩
    · rw [if_neg k3, List.append_nil]
      repeat' (first
        | refine xw_seq ?_
        | refine xw_block ?_
        | (refine ite_two ?_ ?_ <;> intro _ <;> first | (exfalso; omega) | skip)
        | refine ord_split (by kernel_rfl) ?_
        | (refine xw_ret ?_ <;> try simp only [sq, bl, LQ])
        | ((first | refine xw_reg ?_ | refine xw_regd ?_ | refine xw_if ?_ | refine xw_skip ?_ | refine xw_exit ?_ | refine xw_label ?_ | refine post_ret ?_ | refine post_normal ?_ | refine postE_ret ?_ | refine postE_normal ?_ | (((first | refine at_region ?_ | refine at_out ?_ | refine at_cond ?_); split) <;> first | (exfalso; omega; done) | skip)) <;> try simp (config := { maxSteps := 3000000 }) (disch := first | assumption | omega | exact VG.okg (by assumption) | (simp only [List.length_set, List.length_append, List.length_cons, List.length_nil, List.length_replicate]; omega)) only [go_sem, ↓reduceIte, Int.reduceLE, Int.reduceLT, Int.reduceToNat, Int.reduceNeg, Int.reduceAdd, Int.reduceSub, Int.reduceMul, Int.reduceEq, Int.reduceNe, Nat.reduceEqDiff, Nat.reduceAdd, Nat.reduceSub, Nat.reduceMul, Nat.reduceLT, Nat.reduceLeDiff, Nat.reduceBEq, Nat.reduceBNe, UInt8.reduceToNat, Try.results71, e0, e1, m1, e2, e3, e11, m11, e5, m5, e16, m20, e6, e17, hgo, hxf, hxl, k3, hone]))
      exact ⟨0, rfl, rfl⟩
  · have hW := workS_part (lvs := lvs) (lo := lo) (hi := hi) (by omega) (fun l hl => (hlv l hl).2.2)
    have hb1 := workS_bd (lvs := lvs.filter (leftS lo hi)) (lo := lo) (hi := (lo + hi) / 2) (by omega)
    have hb2 := workS_bd (lvs := lvs.filter (leftS lo hi)) (lo := (lo + hi) / 2) (hi := hi) (by omega)
    have hS := ansS_split ops (lvs.filter (leftS lo hi)) (((lvs.filter (covS lo hi)).map (·.1)).reverse ++ es) (lo := lo) (mid := (lo + hi) / 2) (hi := hi) q0 (by omega) (by omega)
    rw [hA, hS, hW]
    have hl1 := ansS_len ops (lvs.filter (leftS lo hi)) (((lvs.filter (covS lo hi)).map (·.1)).reverse ++ es) lo ((lo + hi) / 2 - lo).toNat
    have hl2 := ansS_len ops (lvs.filter (leftS lo hi)) (((lvs.filter (covS lo hi)).map (·.1)).reverse ++ es) ((lo + hi) / 2) (hi - (lo + hi) / 2).toNat
    have hmid : (lo + hi).tdiv 2 = (lo + hi) / 2 := Int.tdiv_eq_ediv_of_nonneg (by omega)
    obtain ⟨v1, i1⟩ := ih lo ((lo + hi) / 2) (lvs.filter (leftS lo hi)) _ pa sz' st' x out (work + (lvs.filter (covS lo hi)).length) q0 (by omega) (by omega) (by omega) hU' hx' hll (by omega) (by omega) (by omega) (by omega)
    obtain ⟨v2, i2⟩ := ih ((lo + hi) / 2) hi (lvs.filter (leftS lo hi)) _ pa sz' st' x (out ++ ansS ops (lvs.filter (leftS lo hi)) (((lvs.filter (covS lo hi)).map (·.1)).reverse ++ es) lo ((lo + hi) / 2 - lo).toNat) (work + (lvs.filter (covS lo hi)).length + workS (lvs.filter (leftS lo hi)) lo ((lo + hi) / 2)) (by omega) (by omega) q2 (by omega) hU' hx' hll (by omega) (by rw [List.length_append]; omega) (by omega) (by omega)
    generalize (lvs.filter (covS lo hi)).length = cn at *
    generalize lvs.filter (leftS lo hi) = left at *
    generalize ansS ops left _ lo ((lo + hi) / 2 - lo).toNat = A1 at *
    generalize ansS ops left _ ((lo + hi) / 2) (hi - (lo + hi) / 2).toNat = A2 at *
    generalize workS left lo ((lo + hi) / 2) = W1 at *
    generalize workS left ((lo + hi) / 2) hi = W2 at *
    simp only [List.length_append] at i1 i2
    repeat' (first
      | refine xw_seq ?_
      | refine xw_block ?_
      | (refine ite_two ?_ ?_ <;> intro _ <;> first | (exfalso; omega) | skip)
      | refine ord_split (by kernel_rfl) ?_
      | (refine xw_ret ?_ <;> try simp only [sq, bl, LQ])
      | ((first | refine xw_reg ?_ | refine xw_regd ?_ | refine xw_if ?_ | refine xw_skip ?_ | refine xw_exit ?_ | refine xw_label ?_ | refine post_ret ?_ | refine post_normal ?_ | refine postE_ret ?_ | refine postE_normal ?_ | (((first | refine at_region ?_ | refine at_out ?_ | refine at_cond ?_); split) <;> first | (exfalso; omega; done) | skip)) <;> try simp (config := { maxSteps := 3000000 }) (disch := first | assumption | omega | exact VG.okg (by assumption) | (simp only [List.length_set, List.length_append, List.length_cons, List.length_nil, List.length_replicate]; omega)) only [go_sem, ↓reduceIte, Int.reduceLE, Int.reduceLT, Int.reduceToNat, Int.reduceNeg, Int.reduceAdd, Int.reduceSub, Int.reduceMul, Int.reduceEq, Int.reduceNe, Nat.reduceEqDiff, Nat.reduceAdd, Nat.reduceSub, Nat.reduceMul, Nat.reduceLT, Nat.reduceLeDiff, Nat.reduceBEq, Nat.reduceBNe, UInt8.reduceToNat, Try.results71, e0, e1, m1, e2, e3, e11, m11, e5, m5, e16, m20, e6, e17, hxf, hxl, hmid, i1, i2, hone]))
    refine ⟨v1 + v2, ?_, by rw [List.append_assoc]⟩
    rw [show out.length + A1.length + A2.length = out.length + (A1.length + A2.length) by omega, show work + (cn : Int) + W1 + W2 = work + ((cn : Int) + (W1 + W2)) by omega]
theorem c_sAnswersAhead (n : Int) (ops : List Op3) (hl : ops.length ≤ 100000000) :
    KP 17 [I n, LO ops] [] = some (if (roS n ops).isSome = true then (.tup [.ref 2000 0 0 (anR n ops ops.length).length, I (workS (livesS ops) 0 ops.length), B true], [], [.arr 0 1 ((anR n ops ops.length).map encT)]) else (.tup [.ref 2000 0 0 0, I 0, B false], [], [.arr 0 1 []])) := by
  have hov := c_sOpsValid n ops hl
  by_cases hr : (roS n ops).isSome = true
  rotate_left
  · rw [if_neg hr]
    rw [Bool.not_eq_true] at hr
    rw [hr] at hov
    refine xw_call (fn := Try.f17) rfl Try.func17 rfl ⟨Nat.le_of_ble_eq_true rfl, rfl, rfl⟩ ?_
    repeat' (first
      | refine xw_seq ?_
      | refine xw_block ?_
      | (refine ite_two ?_ ?_ <;> intro _ <;> first | (exfalso; omega) | skip)
      | refine ord_split (by kernel_rfl) ?_
      | (refine xw_ret ?_ <;> try simp only [sq, bl, LQ])
      | ((first | refine xw_reg ?_ | refine xw_regd ?_ | refine xw_if ?_ | refine xw_skip ?_ | refine xw_exit ?_ | refine xw_label ?_ | refine post_ret ?_ | refine post_normal ?_ | refine postE_ret ?_ | refine postE_normal ?_ | (((first | refine at_region ?_ | refine at_out ?_ | refine at_cond ?_); split) <;> first | (exfalso; omega; done) | skip)) <;> try simp (config := { maxSteps := 3000000 }) (disch := first | assumption | omega | exact VG.okg (by assumption) | (simp only [List.length_set, List.length_append, List.length_cons, List.length_nil, List.length_replicate]; omega)) only [go_sem, ↓reduceIte, Int.reduceLE, Int.reduceLT, Int.reduceToNat, Int.reduceNeg, Int.reduceAdd, Int.reduceSub, Int.reduceMul, Int.reduceEq, Int.reduceNe, Nat.reduceEqDiff, Nat.reduceAdd, Nat.reduceSub, Nat.reduceMul, Nat.reduceLT, Nat.reduceLeDiff, Nat.reduceBEq, Nat.reduceBNe, UInt8.reduceToNat, Try.results17, hov]))
  rw [if_pos hr]
  have h3 : (1 ≤ n ∧ n ≤ 16 ∧ ops.length ≤ 64) ∧ (runS n ops).isSome = true := by
    unfold roS at hr
    split at hr
    · exact ⟨by assumption, hr⟩
    · cases hr
  obtain ⟨⟨h1, h2, h3⟩, h4⟩ := h3
  rw [hr] at hov
  by_cases hz : ops = []
  · subst hz
    have hov' : KP 70 [I n, .i (.lst [])] [] = some (B true, [], []) := hov
    refine xw_call (fn := Try.f17) rfl Try.func17 rfl ⟨Nat.le_of_ble_eq_true rfl, rfl, rfl⟩ ?_
    repeat' (first
      | refine xw_seq ?_
      | refine xw_block ?_
      | (refine ite_two ?_ ?_ <;> intro _ <;> first | (exfalso; omega) | skip)
      | refine ord_split (by kernel_rfl) ?_
      | (refine xw_ret ?_ <;> try simp only [sq, bl, LQ])
      | ((first | refine xw_reg ?_ | refine xw_regd ?_ | refine xw_if ?_ | refine xw_skip ?_ | refine xw_exit ?_ | refine xw_label ?_ | refine post_ret ?_ | refine post_normal ?_ | refine postE_ret ?_ | refine postE_normal ?_ | (((first | refine at_region ?_ | refine at_out ?_ | refine at_cond ?_); split) <;> first | (exfalso; omega; done) | skip)) <;> try simp (config := { maxSteps := 3000000 }) (disch := first | assumption | omega | exact VG.okg (by assumption) | (simp only [List.length_set, List.length_append, List.length_cons, List.length_nil, List.length_replicate]; omega)) only [go_sem, ↓reduceIte, Int.reduceLE, Int.reduceLT, Int.reduceToNat, Int.reduceNeg, Int.reduceAdd, Int.reduceSub, Int.reduceMul, Int.reduceEq, Int.reduceNe, Nat.reduceEqDiff, Nat.reduceAdd, Nat.reduceSub, Nat.reduceMul, Nat.reduceLT, Nat.reduceLeDiff, Nat.reduceBEq, Nat.reduceBNe, UInt8.reduceToNat, Try.results17, hov']))
    exact ⟨rfl, rfl⟩
  have hpos : 0 < ops.length := List.length_pos_iff.2 hz
  have hlv := c_l8Lives ops hl
  have hnw := c_l3New n h1 (by omega)
  have hll := livesS_len ops
  have hwb := workS_bd (lvs := livesS ops) (lo := 0) (hi := ops.length) (by omega)
  have hwc : ((livesS ops).length : Int) * ((ops.length : Int) - 0) ≤ 64 * 64 := Int.mul_le_mul (by omega) (by omega) (by omega) (by omega)
  obtain ⟨v, hah⟩ := c_l8Ahead h1 h2 h3 (fun i a b => ask_ok h4) ops.length 0 ops.length (livesS ops) [] _ _ [] .emp [] 0 (by omega) (by omega) (by omega) (by omega) (US.new h1) EL.emp (fun l h => lives_ok h1 h2 h4 h) (by simp; omega) (by simp; omega) (by omega) (by omega)
  have hz2 : ((ops.length : Int) - 0).toNat = ops.length := by omega
  rw [hz2, ansS_anR h4, List.nil_append, Int.zero_add] at hah
  simp only [List.length_nil, List.map_nil] at hah
  have hal := anR_len n ops ops.length
  generalize anR n ops ops.length = A at *
  generalize livesS ops = L at *
  generalize workS L 0 ops.length = W at *
  refine xw_call (fn := Try.f17) rfl Try.func17 rfl ⟨Nat.le_of_ble_eq_true rfl, rfl, rfl⟩ ?_
  have hrt : ∀ v : Int, (List.replicate n.toNat v).take n.toNat = List.replicate n.toNat v := fun v => List.take_of_length_le (by simp)
  repeat' (first
    | refine xw_seq ?_
    | refine xw_block ?_
    | (refine ite_two ?_ ?_ <;> intro _ <;> first | (exfalso; omega) | skip)
    | refine ord_split (by kernel_rfl) ?_
    | (refine xw_ret ?_ <;> try simp only [sq, bl, LQ])
    | ((first | refine xw_reg ?_ | refine xw_regd ?_ | refine xw_if ?_ | refine xw_skip ?_ | refine xw_exit ?_ | refine xw_label ?_ | refine post_ret ?_ | refine post_normal ?_ | refine postE_ret ?_ | refine postE_normal ?_ | (((first | refine at_region ?_ | refine at_out ?_ | refine at_cond ?_); split) <;> first | (exfalso; omega; done) | skip)) <;> try simp (config := { maxSteps := 3000000 }) (disch := first | assumption | omega | exact VG.okg (by assumption) | (simp only [List.length_set, List.length_append, List.length_cons, List.length_nil, List.length_replicate]; omega)) only [go_sem, ↓reduceIte, Int.reduceLE, Int.reduceLT, Int.reduceToNat, Int.reduceNeg, Int.reduceAdd, Int.reduceSub, Int.reduceMul, Int.reduceEq, Int.reduceNe, Nat.reduceEqDiff, Nat.reduceAdd, Nat.reduceSub, Nat.reduceMul, Nat.reduceLT, Nat.reduceLeDiff, Nat.reduceBEq, Nat.reduceBNe, UInt8.reduceToNat, Try.results17, hov, hlv, hnw, hah, hrt]))
end Go.Proofs.Ytjffaedlmplcnaa.X
