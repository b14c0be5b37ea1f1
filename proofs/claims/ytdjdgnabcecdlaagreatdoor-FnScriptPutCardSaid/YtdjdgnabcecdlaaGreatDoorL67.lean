/- The law: scripts put edges. -/
import Derived.Test.YtdjdgnabcecdlaaGreatDoorC118
import Derived.Test.YtdjdgnabcecdlaaGreatDoorKAJ
import Derived.Test.YtdjdgnabcecdlaaGreatDoorC20
import Derived.Test.YtdjdgnabcecdlaaGreatDoorC46
set_option linter.unusedSimpArgs false
set_option linter.unusedVariables false
set_option maxHeartbeats 8000000
set_option maxRecDepth 100000
namespace Go.Proofs.YtdjdgnabcecdlaaGreatDoor.X
open Go Go.Proofs
theorem law_ScriptPut (bs : List Int) (hb : ∀ b ∈ bs, 0 ≤ b ∧ b < 256) : KP 5 [LB bs] [] = some (B true, [], []) := by
  by_cases hbig : (1048576 : Int) < bs.length
  · refine xw_call (fn := Tryz.f5) rfl Tryz.func5 rfl ⟨Nat.le_of_ble_eq_true rfl, rfl, rfl⟩ ?_
    repeat' (first
      | refine xw_seq ?_
      | refine xw_block ?_
      | (refine ite_two ?_ ?_ <;> intro _ <;> first | (exfalso; omega) | skip)
      | refine ord_split (by kernel_rfl) ?_
      | (refine xw_ret ?_ <;> try simp only [sq, bl, LQ])
      | ((first | refine xw_reg ?_ | refine xw_regd ?_ | refine xw_if ?_ | refine xw_skip ?_ | refine xw_exit ?_ | refine xw_label ?_ | refine post_ret ?_ | refine post_normal ?_ | refine postE_ret ?_ | refine postE_normal ?_) <;> simp (config := { maxSteps := 3000000 }) (disch := first | assumption | omega | exact VG.okg (by assumption) | (simp only [List.length_set, List.length_append, List.length_cons, List.length_nil, List.length_replicate]; omega)) only [go_sem, ↓reduceIte, Int.reduceLE, Int.reduceLT, Int.reduceToNat, Int.reduceNeg, Int.reduceAdd, Int.reduceSub, Int.reduceMul, Int.reduceEq, Int.reduceNe, Nat.reduceEqDiff, Nat.reduceAdd, Nat.reduceSub, Nat.reduceMul, Nat.reduceLT, Nat.reduceLeDiff, Nat.reduceBEq, Nat.reduceBNe, UInt8.reduceToNat, Tryz.results5])
      | (((first | refine at_region ?_ | refine at_out ?_ | refine at_cond ?_); split) <;> first | (exfalso; omega; done) | simp (config := { maxSteps := 3000000 }) (disch := first | assumption | omega | exact VG.okg (by assumption) | (simp only [List.length_set, List.length_append, List.length_cons, List.length_nil, List.length_replicate]; omega)) only [go_sem, ↓reduceIte, Int.reduceLE, Int.reduceLT, Int.reduceToNat, Int.reduceNeg, Int.reduceAdd, Int.reduceSub, Int.reduceMul, Int.reduceEq, Int.reduceNe, Nat.reduceEqDiff, Nat.reduceAdd, Nat.reduceSub, Nat.reduceMul, Nat.reduceLT, Nat.reduceLeDiff, Nat.reduceBEq, Nat.reduceBNe, UInt8.reduceToNat, Tryz.results5] | skip))
  obtain ⟨n, xv, es, a, b, n0, n1, hl, hx, hdraw⟩ := c_DrawPutEdge bs hb (by omega)
  have hff := hx.f
  have hfl := hx.fl
  have hs := c_sPutEdge n a b es (by omega)
  by_cases hP : PutOK n es (a, b)
  rotate_left
  · have hp := c_PutEdge n a b es (by omega)
    rw [if_neg hP] at hp hs
    have hsm : KP 25 [.agg [I 0, .i (.lst [])], .agg [I 0, .i (.lst [])]] [] = some (B true, [], []) := (c_GraphSame0 0 0).trans (by simp)
    refine xw_call (fn := Tryz.f5) rfl Tryz.func5 rfl ⟨Nat.le_of_ble_eq_true rfl, rfl, rfl⟩ ?_
    repeat' (first
      | refine xw_seq ?_
      | refine xw_block ?_
      | (refine ite_two ?_ ?_ <;> intro _ <;> first | (exfalso; omega) | skip)
      | refine ord_split (by kernel_rfl) ?_
      | (refine xw_ret ?_ <;> try simp only [sq, bl, LQ])
      | ((first | refine xw_reg ?_ | refine xw_regd ?_ | refine xw_if ?_ | refine xw_skip ?_ | refine xw_exit ?_ | refine xw_label ?_ | refine post_ret ?_ | refine post_normal ?_ | refine postE_ret ?_ | refine postE_normal ?_) <;> simp (config := { maxSteps := 3000000 }) (disch := first | assumption | omega | exact VG.okg (by assumption) | (simp only [List.length_set, List.length_append, List.length_cons, List.length_nil, List.length_replicate]; omega)) only [go_sem, ↓reduceIte, Int.reduceLE, Int.reduceLT, Int.reduceToNat, Int.reduceNeg, Int.reduceAdd, Int.reduceSub, Int.reduceMul, Int.reduceEq, Int.reduceNe, Nat.reduceEqDiff, Nat.reduceAdd, Nat.reduceSub, Nat.reduceMul, Nat.reduceLT, Nat.reduceLeDiff, Nat.reduceBEq, Nat.reduceBNe, UInt8.reduceToNat, Tryz.results5, hdraw, hp, hs, hff, hfl, hsm])
      | (((first | refine at_region ?_ | refine at_out ?_ | refine at_cond ?_); split) <;> first | (exfalso; omega; done) | simp (config := { maxSteps := 3000000 }) (disch := first | assumption | omega | exact VG.okg (by assumption) | (simp only [List.length_set, List.length_append, List.length_cons, List.length_nil, List.length_replicate]; omega)) only [go_sem, ↓reduceIte, Int.reduceLE, Int.reduceLT, Int.reduceToNat, Int.reduceNeg, Int.reduceAdd, Int.reduceSub, Int.reduceMul, Int.reduceEq, Int.reduceNe, Nat.reduceEqDiff, Nat.reduceAdd, Nat.reduceSub, Nat.reduceMul, Nat.reduceLT, Nat.reduceLeDiff, Nat.reduceBEq, Nat.reduceBNe, UInt8.reduceToNat, Tryz.results5, hdraw, hp, hs, hff, hfl, hsm] | skip))
  rw [if_pos hP] at hs
  obtain ⟨r, own, hp, him⟩ := c_PutEdgeL n a b es hP (by omega)
  obtain ⟨hV, hnm, hVp⟩ := id hP
  have hab : 0 ≤ a ∧ a < b ∧ b < n := hVp.2.2.2.1 (a, b) (mem_putE.2 (.inl rfl))
  have hn16 := hV.2.1
  have hf := c_FormatGraph n es (by omega)
  rw [if_pos hV] at hf
  have hel := hVp.2.2.1
  have hf2 := c_FormatGraph n (putE (a, b) es) (by omega)
  rw [if_pos hVp] at hf2
  have hsm := c_GraphSame n n (putE (a, b) es) (putE (a, b) es) (by omega)
  have hld := ld hV
  have hPl : PlOK n (ldT es) (a, b) := ⟨hld.lv, by rw [hld.es']; exact hP⟩
  have h1 := line_two (.inl rfl) b a (by omega) (by omega) rfl (c_nl_put n a b _ _ _ (ldT es) (ld3 hV) hPl (by omega))
  have hes : esT (plL (ldT es) (a, b)) = putE (a, b) es := by
    have := putT_es (a, b) (!decide (Conn (esT (ldT es)) a b)) (ldT es)
    exact this.trans (by rw [hld.es'])
  have h2 := line_word _ (by decide) (by simp) (c_wl_show n _ _ _ (plL (ldT es) (a, b)) (LV3.lst _) (by rw [hes]; exact hVp))
  rw [hes] at h1 h2
  rw [hld.es'] at h1
  have hpc := c_PartCount n (putE (a, b) es) (by omega)
  rw [if_pos hVp] at hpc
  have hc16 := cnt_le16 (es := putE (a, b) es) hn16
  have hdc := c_dyNumbers1 (cnt n (putE (a, b) es) : Int) (by omega)
  have hd2 := c_dyNumbers2 b a (by omega) (by omega)
  have l1 := fmtG_len n es
  have l2 := fmtG_len n (putE (a, b) es)
  have l3 := dgt_len a
  have l4 := dgt_len b
  have l5 := numsT_len [b, a]
  have l6 := numsT_len [(cnt n (putE (a, b) es) : Int)]
  simp only [List.length_cons, List.length_nil] at l5 l6
  have hr := script2 hV (no10_two (by decide) (by omega) (by omega)) (by simp) (by simp; omega) (by simp; omega) (by decide) (by simp) (by simp) (by simp; omega) h1 h2
  rw [← nums2] at hr
  generalize numsT [b, a] = Z at *
  generalize numsT [(cnt n (putE (a, b) es) : Int)] = M at *
  generalize (cnt n (putE (a, b) es) : Int) = c at *
  generalize fmtG n (putE (a, b) es) = F2 at *
  generalize fmtG n es = F at *
  generalize putE (a, b) es = us at *
  have e1 : (103 :: 114 :: 97 :: 112 :: 104 :: 32 :: (F ++ 10 :: ([112, 117, 116] ++ Z ++ 10 :: ([115, 104, 111, 119] ++ [10]))) : List UInt8) = 103 :: 114 :: 97 :: 112 :: 104 :: 32 :: (F ++ [10, 112, 117, 116] ++ Z ++ [10, 115, 104, 111, 119, 10]) := by simp
  have e2 : (111 :: 107 :: 10 :: ([112, 97, 114, 116, 115] ++ M ++ [10] ++ (F2 ++ [10])) : List UInt8) = 111 :: 107 :: 10 :: 112 :: 97 :: 114 :: 116 :: 115 :: (M ++ [10] ++ F2 ++ [10]) := by simp
  rw [e1, e2] at hr
  refine xw_call (fn := Tryz.f5) rfl Tryz.func5 rfl ⟨Nat.le_of_ble_eq_true rfl, rfl, rfl⟩ ?_
  repeat' (first
    | refine xw_seq ?_
    | refine xw_block ?_
    | (refine ite_two ?_ ?_ <;> intro _ <;> first | (exfalso; omega) | skip)
    | refine ord_split (by kernel_rfl) ?_
    | (refine xw_ret ?_ <;> try simp only [sq, bl, LQ])
    | ((first | refine xw_reg ?_ | refine xw_regd ?_ | refine xw_if ?_ | refine xw_skip ?_ | refine xw_exit ?_ | refine xw_label ?_ | refine post_ret ?_ | refine post_normal ?_ | refine postE_ret ?_ | refine postE_normal ?_) <;> simp (config := { maxSteps := 3000000 }) (disch := first | assumption | omega | exact VG.okg (by assumption) | (simp only [List.length_set, List.length_append, List.length_cons, List.length_nil, List.length_replicate]; omega)) only [go_sem, ↓reduceIte, Int.reduceLE, Int.reduceLT, Int.reduceToNat, Int.reduceNeg, Int.reduceAdd, Int.reduceSub, Int.reduceMul, Int.reduceEq, Int.reduceNe, Nat.reduceEqDiff, Nat.reduceAdd, Nat.reduceSub, Nat.reduceMul, Nat.reduceLT, Nat.reduceLeDiff, Nat.reduceBEq, Nat.reduceBNe, UInt8.reduceToNat, Tryz.results5, hdraw, hp, him, hs, hff, hfl, hsm, hf, hf2, hpc, hdc, hd2, hr, decide_true])
    | (((first | refine at_region ?_ | refine at_out ?_ | refine at_cond ?_); split) <;> first | (exfalso; omega; done) | simp (config := { maxSteps := 3000000 }) (disch := first | assumption | omega | exact VG.okg (by assumption) | (simp only [List.length_set, List.length_append, List.length_cons, List.length_nil, List.length_replicate]; omega)) only [go_sem, ↓reduceIte, Int.reduceLE, Int.reduceLT, Int.reduceToNat, Int.reduceNeg, Int.reduceAdd, Int.reduceSub, Int.reduceMul, Int.reduceEq, Int.reduceNe, Nat.reduceEqDiff, Nat.reduceAdd, Nat.reduceSub, Nat.reduceMul, Nat.reduceLT, Nat.reduceLeDiff, Nat.reduceBEq, Nat.reduceBNe, UInt8.reduceToNat, Tryz.results5, hdraw, hp, him, hs, hff, hfl, hsm, hf, hf2, hpc, hdc, hd2, hr, decide_true] | skip))
  all_goals trace_state
  all_goals sorry
end Go.Proofs.YtdjdgnabcecdlaaGreatDoor.X
