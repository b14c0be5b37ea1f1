/- The law: scripts cut edges. -/
import Derived.Test.YtdjdgnabcecdlaaGreatDoorKAN
import Derived.Test.YtdjdgnabcecdlaaGreatDoorKAF
set_option linter.unusedSimpArgs false
set_option linter.unusedVariables false
set_option maxHeartbeats 8000000
set_option maxRecDepth 100000
namespace Go.Proofs.YtdjdgnabcecdlaaGreatDoor.X
open Go Go.Proofs
theorem tail_eq {P Q : List UInt8} {a d : Nat} (hd : d = P.length) (ha : a = Q.length) : eqS (List.take a (List.drop d (P ++ Q))) Q = true := by
  subst hd ha
  rw [List.drop_left, List.take_of_length_le (Nat.le_refl _)]
  exact eqS_refl
theorem c_DrawCutEdge (bs : List Int) (hb : ∀ b ∈ bs, 0 ≤ b ∧ b < 256) (hl : bs.length ≤ 1000000000) :
    ∃ (n : Int) (x : IV) (es : List (Int × Int)) (a b : Int), 0 ≤ n ∧ n ≤ 17 ∧ es.length ≤ 40 ∧ EQ x es ∧ KP 27 [LB bs] [] = some (.tup [.agg [I n, .i x], PE a b], [], []) := by
  obtain ⟨n, x, es, a, b, n0, n1, hel, hx, hcase⟩ := c_l1Case bs hb hl
  have hf := hx.f
  have hfl := hx.fl
  refine ⟨n, x, es, a, b, n0, n1, hel, hx, xw_call (fn := Tryz.f27) rfl Tryz.func27 rfl ⟨Nat.le_of_ble_eq_true rfl, rfl, rfl⟩ ?_⟩
  repeat' (first
    | refine xw_seq ?_
    | refine xw_block ?_
    | (refine ite_two ?_ ?_ <;> intro _ <;> first | (exfalso; omega) | skip)
    | refine ord_split (by kernel_rfl) ?_
    | (refine xw_ret ?_ <;> try simp only [sq, bl, LQ])
    | ((first | refine xw_reg ?_ | refine xw_regd ?_ | refine xw_if ?_ | refine xw_skip ?_ | refine xw_exit ?_ | refine xw_label ?_ | refine post_ret ?_ | refine post_normal ?_ | refine postE_ret ?_ | refine postE_normal ?_ | (((first | refine at_region ?_ | refine at_out ?_ | refine at_cond ?_); split) <;> first | (exfalso; omega; done) | skip)) <;> try simp (config := { maxSteps := 3000000 }) (disch := first | assumption | omega | exact VG.okg (by assumption) | (simp only [List.length_set, List.length_append, List.length_cons, List.length_nil, List.length_replicate]; omega)) only [go_sem, ↓reduceIte, Int.reduceLE, Int.reduceLT, Int.reduceToNat, Int.reduceNeg, Int.reduceAdd, Int.reduceSub, Int.reduceMul, Int.reduceEq, Int.reduceNe, Nat.reduceEqDiff, Nat.reduceAdd, Nat.reduceSub, Nat.reduceMul, Nat.reduceLT, Nat.reduceLeDiff, Nat.reduceBEq, Nat.reduceBNe, UInt8.reduceToNat, Tryz.results27, hcase, hf, hfl]))
theorem law_ScriptCut (bs : List Int) (hb : ∀ b ∈ bs, 0 ≤ b ∧ b < 256) : KP 6 [LB bs] [] = some (B true, [], []) := by
  by_cases hbig : (1048576 : Int) < bs.length
  · refine xw_call (fn := Tryz.f6) rfl Tryz.func6 rfl ⟨Nat.le_of_ble_eq_true rfl, rfl, rfl⟩ ?_
    repeat' (first
      | refine xw_seq ?_
      | refine xw_block ?_
      | (refine ite_two ?_ ?_ <;> intro _ <;> first | (exfalso; omega) | skip)
      | refine ord_split (by kernel_rfl) ?_
      | (refine xw_ret ?_ <;> try simp only [sq, bl, LQ])
      | ((first | refine xw_reg ?_ | refine xw_regd ?_ | refine xw_if ?_ | refine xw_skip ?_ | refine xw_exit ?_ | refine xw_label ?_ | refine post_ret ?_ | refine post_normal ?_ | refine postE_ret ?_ | refine postE_normal ?_ | (((first | refine at_region ?_ | refine at_out ?_ | refine at_cond ?_); split) <;> first | (exfalso; omega; done) | skip)) <;> try simp (config := { maxSteps := 3000000 }) (disch := first | assumption | omega | exact VG.okg (by assumption) | (simp only [List.length_set, List.length_append, List.length_cons, List.length_nil, List.length_replicate]; omega)) only [go_sem, ↓reduceIte, Int.reduceLE, Int.reduceLT, Int.reduceToNat, Int.reduceNeg, Int.reduceAdd, Int.reduceSub, Int.reduceMul, Int.reduceEq, Int.reduceNe, Nat.reduceEqDiff, Nat.reduceAdd, Nat.reduceSub, Nat.reduceMul, Nat.reduceLT, Nat.reduceLeDiff, Nat.reduceBEq, Nat.reduceBNe, UInt8.reduceToNat, Tryz.results6]))
  obtain ⟨n, xv, es, a, b, n0, n1, hl, hx, hdraw⟩ := c_DrawCutEdge bs hb (by omega)
  have hff := hx.f
  have hfl := hx.fl
  have hs := c_sCutEdge n a b es (by omega)
  have hp := c_CutEdge n a b es (by omega)
  by_cases hP : VG n es ∧ (a, b) ∈ es
  rotate_left
  · rw [if_neg hP] at hp hs
    have hsm : KP 25 [.agg [I 0, .i (.lst [])], .agg [I 0, .i (.lst [])]] [] = some (B true, [], []) := (c_GraphSame0 0 0).trans (by simp)
    refine xw_call (fn := Tryz.f6) rfl Tryz.func6 rfl ⟨Nat.le_of_ble_eq_true rfl, rfl, rfl⟩ ?_
    repeat' (first
      | refine xw_seq ?_
      | refine xw_block ?_
      | (refine ite_two ?_ ?_ <;> intro _ <;> first | (exfalso; omega) | skip)
      | refine ord_split (by kernel_rfl) ?_
      | (refine xw_ret ?_ <;> try simp only [sq, bl, LQ])
      | ((first | refine xw_reg ?_ | refine xw_regd ?_ | refine xw_if ?_ | refine xw_skip ?_ | refine xw_exit ?_ | refine xw_label ?_ | refine post_ret ?_ | refine post_normal ?_ | refine postE_ret ?_ | refine postE_normal ?_ | (((first | refine at_region ?_ | refine at_out ?_ | refine at_cond ?_); split) <;> first | (exfalso; omega; done) | skip)) <;> try simp (config := { maxSteps := 3000000 }) (disch := first | assumption | omega | exact VG.okg (by assumption) | (simp only [List.length_set, List.length_append, List.length_cons, List.length_nil, List.length_replicate]; omega)) only [go_sem, ↓reduceIte, Int.reduceLE, Int.reduceLT, Int.reduceToNat, Int.reduceNeg, Int.reduceAdd, Int.reduceSub, Int.reduceMul, Int.reduceEq, Int.reduceNe, Nat.reduceEqDiff, Nat.reduceAdd, Nat.reduceSub, Nat.reduceMul, Nat.reduceLT, Nat.reduceLeDiff, Nat.reduceBEq, Nat.reduceBNe, UInt8.reduceToNat, Tryz.results6, hdraw, hp, hs, hff, hfl, hsm]))
  rw [if_pos hP] at hp hs
  obtain ⟨hV, hm⟩ := hP
  have hab : 0 ≤ a ∧ a < b ∧ b < n := hV.2.2.2.1 (a, b) hm
  have hn16 := hV.2.1
  have hel := hV.2.2.1
  have hf := c_FormatGraph n es (by omega)
  rw [if_pos hV] at hf
  have hVc : VG n (cutE (a, b) es) := hV.sub List.filter_sublist
  have helc := hVc.2.2.1
  have hf2 := c_FormatGraph n (cutE (a, b) es) (by omega)
  rw [if_pos hVc] at hf2
  have hce : delE (fun e => decide (e.1 = a ∧ e.2 = b)) es = .lst ((cutE (a, b) es).map encE) := delE_mem hm
  rw [hce] at hp
  have hsm := c_GraphSame n n (cutE (a, b) es) (cutE (a, b) es) (by omega)
  have hld := ld hV
  obtain ⟨q1, q2, q3, q4, q5⟩ := ct_ld hV hm
  have h1 := line_two (.inr (.inl rfl)) a b (by omega) (by omega) rfl (c_nl_cut n a b _ _ _ (ldT es) (ld3 hV) hld.lv (by rw [hld.es']; exact hm) ⟨q3, q4⟩)
  have h2 := line_word _ (by decide) (by simp) (c_wl_show n _ _ _ (ctR n (ldT es) (a, b)).1 (LV3.lst _) (by rw [q1]; exact hVc))
  rw [q1] at h1 h2
  have hfo := c_ForestOf n es (by omega)
  rw [if_pos hV] at hfo
  have hffl := (forest_sub hV.okg.ok).length_le
  have hdh := c_dyHas (forestL es) a b (by omega)
  have hib := c_IsBridge n a b es (by omega)
  have hd2 := c_dyNumbers2 a b (by omega) (by omega)
  have l1 := fmtG_len n es
  have l2 := fmtG_len n (cutE (a, b) es)
  have l3 := dgt_len a
  have l4 := dgt_len b
  have l5 := numsT_len [a, b]
  have l6 := numsT_len [(ctR n (ldT es) (a, b)).2.1]
  have l7 : 0 < (numsT [(ctR n (ldT es) (a, b)).2.1]).length := by rw [nums1]; simp
  simp only [List.length_cons, List.length_nil] at l5 l6
  generalize numsT [(ctR n (ldT es) (a, b)).2.1] = M at *
  have hwl : ((if (ctR n (ldT es) (a, b)).2.2 = true then [102, 111, 117, 110, 100] else [99, 117, 116]) : List UInt8).length ≤ 5 := by split <;> simp
  have hr := script2 hV (no10_two (by decide) (by omega) (by omega)) (by simp) (by simp; omega) (by simp only [List.length_append, List.length_cons, List.length_nil]; omega) (by decide) (by simp) (by simp) (by simp; omega) h1 h2
  rw [← nums2] at hr
  generalize numsT [a, b] = Z at *
  generalize hF2 : fmtG n (cutE (a, b) es) = F2 at *
  generalize fmtG n es = F at *
  have e1 : (103 :: 114 :: 97 :: 112 :: 104 :: 32 :: (F ++ 10 :: ([99, 117, 116] ++ Z ++ 10 :: ([115, 104, 111, 119] ++ [10]))) : List UInt8) = 103 :: 114 :: 97 :: 112 :: 104 :: 32 :: (F ++ [10, 99, 117, 116] ++ Z ++ [10, 115, 104, 111, 119, 10]) := by simp
  rw [e1] at hr
  by_cases hfd : (ctR n (ldT es) (a, b)).2.2 = true
  · obtain ⟨g1, g2⟩ := q5.1 hfd
    rw [if_pos hfd] at hr
    rw [decide_eq_true g1] at hdh
    rw [decide_eq_false (show ¬ (VG n es ∧ (a, b) ∈ es ∧ Brg es (a, b)) from fun h => h.2.2 g2)] at hib
    have e2 : (111 :: 107 :: 10 :: ([102, 111, 117, 110, 100] ++ M ++ [10] ++ (F2 ++ [10])) : List UInt8) = 111 :: 107 :: 10 :: 102 :: 111 :: 117 :: 110 :: 100 :: (M ++ 10 :: (F2 ++ [10])) := by simp
    rw [e2] at hr
    refine xw_call (fn := Tryz.f6) rfl Tryz.func6 rfl ⟨Nat.le_of_ble_eq_true rfl, rfl, rfl⟩ ?_
    repeat' (first
      | refine xw_seq ?_
      | refine xw_block ?_
      | (refine ite_two ?_ ?_ <;> intro _ <;> first | (exfalso; omega) | skip)
      | refine ord_split (by kernel_rfl) ?_
      | (refine xw_ret ?_ <;> try simp only [sq, bl, LQ])
      | ((first | refine xw_reg ?_ | refine xw_regd ?_ | refine xw_if ?_ | refine xw_skip ?_ | refine xw_exit ?_ | refine xw_label ?_ | refine post_ret ?_ | refine post_normal ?_ | refine postE_ret ?_ | refine postE_normal ?_ | (((first | refine at_region ?_ | refine at_out ?_ | refine at_cond ?_); split) <;> first | (exfalso; omega; done) | skip)) <;> try simp (config := { maxSteps := 3000000 }) (disch := first | assumption | omega | exact VG.okg (by assumption) | (simp only [List.length_set, List.length_append, List.length_cons, List.length_nil, List.length_replicate]; omega)) only [go_sem, ↓reduceIte, Int.reduceLE, Int.reduceLT, Int.reduceToNat, Int.reduceNeg, Int.reduceAdd, Int.reduceSub, Int.reduceMul, Int.reduceEq, Int.reduceNe, Nat.reduceEqDiff, Nat.reduceAdd, Nat.reduceSub, Nat.reduceMul, Nat.reduceLT, Nat.reduceLeDiff, Nat.reduceBEq, Nat.reduceBNe, UInt8.reduceToNat, Tryz.results6, hdraw, hp, hs, hff, hfl, hsm, hf, hf2, hfo, hdh, hib, hd2, hr, decide_true]))
    exact tail_eq (P := 111 :: 107 :: 10 :: 102 :: 111 :: 117 :: 110 :: 100 :: M) (by simp only [List.length_cons]; omega) (by simp only [List.length_cons, List.length_append, List.length_nil]; omega)
  · rw [if_neg hfd] at hr
    have e2 : (111 :: 107 :: 10 :: ([99, 117, 116] ++ M ++ [10] ++ (F2 ++ [10])) : List UInt8) = 111 :: 107 :: 10 :: 99 :: 117 :: 116 :: (M ++ 10 :: (F2 ++ [10])) := by simp
    rw [e2] at hr
    by_cases g1 : (a, b) ∈ forestL es
    · have g2 : ¬ Conn (cutE (a, b) es) a b := fun h => hfd (q5.2 ⟨g1, h⟩)
      rw [decide_eq_true g1] at hdh
      rw [decide_eq_true (show VG n es ∧ (a, b) ∈ es ∧ Brg es (a, b) from ⟨hV, hm, g2⟩)] at hib
      refine xw_call (fn := Tryz.f6) rfl Tryz.func6 rfl ⟨Nat.le_of_ble_eq_true rfl, rfl, rfl⟩ ?_
      repeat' (first
        | refine xw_seq ?_
        | refine xw_block ?_
        | (refine ite_two ?_ ?_ <;> intro _ <;> first | (exfalso; omega) | skip)
        | refine ord_split (by kernel_rfl) ?_
        | (refine xw_ret ?_ <;> try simp only [sq, bl, LQ])
        | ((first | refine xw_reg ?_ | refine xw_regd ?_ | refine xw_if ?_ | refine xw_skip ?_ | refine xw_exit ?_ | refine xw_label ?_ | refine post_ret ?_ | refine post_normal ?_ | refine postE_ret ?_ | refine postE_normal ?_ | (((first | refine at_region ?_ | refine at_out ?_ | refine at_cond ?_); split) <;> first | (exfalso; omega; done) | skip)) <;> try simp (config := { maxSteps := 3000000 }) (disch := first | assumption | omega | exact VG.okg (by assumption) | (simp only [List.length_set, List.length_append, List.length_cons, List.length_nil, List.length_replicate]; omega)) only [go_sem, ↓reduceIte, Int.reduceLE, Int.reduceLT, Int.reduceToNat, Int.reduceNeg, Int.reduceAdd, Int.reduceSub, Int.reduceMul, Int.reduceEq, Int.reduceNe, Nat.reduceEqDiff, Nat.reduceAdd, Nat.reduceSub, Nat.reduceMul, Nat.reduceLT, Nat.reduceLeDiff, Nat.reduceBEq, Nat.reduceBNe, UInt8.reduceToNat, Tryz.results6, hdraw, hp, hs, hff, hfl, hsm, hf, hf2, hfo, hdh, hib, hd2, hr, decide_true]))
      exact tail_eq (P := 111 :: 107 :: 10 :: 99 :: 117 :: 116 :: M) (by simp only [List.length_cons]; omega) (by simp only [List.length_cons, List.length_append, List.length_nil]; omega)
    · rw [decide_eq_false g1] at hdh
      refine xw_call (fn := Tryz.f6) rfl Tryz.func6 rfl ⟨Nat.le_of_ble_eq_true rfl, rfl, rfl⟩ ?_
      repeat' (first
        | refine xw_seq ?_
        | refine xw_block ?_
        | (refine ite_two ?_ ?_ <;> intro _ <;> first | (exfalso; omega) | skip)
        | refine ord_split (by kernel_rfl) ?_
        | (refine xw_ret ?_ <;> try simp only [sq, bl, LQ])
        | ((first | refine xw_reg ?_ | refine xw_regd ?_ | refine xw_if ?_ | refine xw_skip ?_ | refine xw_exit ?_ | refine xw_label ?_ | refine post_ret ?_ | refine post_normal ?_ | refine postE_ret ?_ | refine postE_normal ?_ | (((first | refine at_region ?_ | refine at_out ?_ | refine at_cond ?_); split) <;> first | (exfalso; omega; done) | skip)) <;> try simp (config := { maxSteps := 3000000 }) (disch := first | assumption | omega | exact VG.okg (by assumption) | (simp only [List.length_set, List.length_append, List.length_cons, List.length_nil, List.length_replicate]; omega)) only [go_sem, ↓reduceIte, Int.reduceLE, Int.reduceLT, Int.reduceToNat, Int.reduceNeg, Int.reduceAdd, Int.reduceSub, Int.reduceMul, Int.reduceEq, Int.reduceNe, Nat.reduceEqDiff, Nat.reduceAdd, Nat.reduceSub, Nat.reduceMul, Nat.reduceLT, Nat.reduceLeDiff, Nat.reduceBEq, Nat.reduceBNe, UInt8.reduceToNat, Tryz.results6, hdraw, hp, hs, hff, hfl, hsm, hf, hf2, hfo, hdh, hd2, hr, decide_true]))
      exact tail_eq (P := 111 :: 107 :: 10 :: 99 :: 117 :: 116 :: M) (by simp only [List.length_cons]; omega) (by simp only [List.length_cons, List.length_append, List.length_nil]; omega)
end Go.Proofs.YtdjdgnabcecdlaaGreatDoor.X
