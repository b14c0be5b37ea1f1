/- The law: scripts tell bridges. -/
import Derived.Test.YtdjdgnabcecdlaaGreatDoorKAN
import Derived.Test.YtdjdgnabcecdlaaGreatDoorC112
import Derived.Test.YtdjdgnabcecdlaaGreatDoorC20
set_option linter.unusedSimpArgs false
set_option linter.unusedVariables false
set_option maxHeartbeats 8000000
set_option maxRecDepth 100000
namespace Go.Proofs.YtdjdgnabcecdlaaGreatDoor.X
open Go Go.Proofs
theorem law_ScriptBridges (bs : List Int) (hb : ∀ b ∈ bs, 0 ≤ b ∧ b < 256) : KP 11 [LB bs] [] = some (B true, [], []) := by
  by_cases hbig : (1048576 : Int) < bs.length
  · refine xw_call (fn := Tryz.f11) rfl Tryz.func11 rfl ⟨Nat.le_of_ble_eq_true rfl, rfl, rfl⟩ ?_
    repeat' (first
      | refine xw_seq ?_
      | refine xw_block ?_
      | (refine ite_two ?_ ?_ <;> intro _ <;> first | (exfalso; omega) | skip)
      | refine ord_split (by kernel_rfl) ?_
      | (refine xw_ret ?_ <;> try simp only [sq, bl, LQ])
      | ((first | refine xw_reg ?_ | refine xw_regd ?_ | refine xw_if ?_ | refine xw_skip ?_ | refine xw_exit ?_ | refine xw_label ?_ | refine post_ret ?_ | refine post_normal ?_ | refine postE_ret ?_ | refine postE_normal ?_ | (((first | refine at_region ?_ | refine at_out ?_ | refine at_cond ?_); split) <;> first | (exfalso; omega; done) | skip)) <;> try simp (config := { maxSteps := 3000000 }) (disch := first | assumption | omega | exact VG.okg (by assumption) | (simp only [List.length_set, List.length_append, List.length_cons, List.length_nil, List.length_replicate]; omega)) only [go_sem, ↓reduceIte, Int.reduceLE, Int.reduceLT, Int.reduceToNat, Int.reduceNeg, Int.reduceAdd, Int.reduceSub, Int.reduceMul, Int.reduceEq, Int.reduceNe, Nat.reduceEqDiff, Nat.reduceAdd, Nat.reduceSub, Nat.reduceMul, Nat.reduceLT, Nat.reduceLeDiff, Nat.reduceBEq, Nat.reduceBNe, UInt8.reduceToNat, Tryz.results11]))
  obtain ⟨n, es, n0, n1, hl, hdraw⟩ := c_DrawBridgesOf bs hb (by omega)
  have hp := c_BridgesOf n es (by omega)
  have hs := c_sBridgesOf n es (by omega)
  have hq := c_CutNodesOf n es (by omega)
  have ht := c_sCutNodesOf n es (by omega)
  have hg := c_GraphValid n es (by omega)
  by_cases hV : VG n es
  rotate_left
  · rw [if_neg hV] at hp hs hq ht
    rw [decide_eq_false hV] at hg
    have hd := c_dyEdges_nil
    have hd2 := c_dyInts_nil
    refine xw_call (fn := Tryz.f11) rfl Tryz.func11 rfl ⟨Nat.le_of_ble_eq_true rfl, rfl, rfl⟩ ?_
    repeat' (first
      | refine xw_seq ?_
      | refine xw_block ?_
      | (refine ite_two ?_ ?_ <;> intro _ <;> first | (exfalso; omega) | skip)
      | refine ord_split (by kernel_rfl) ?_
      | (refine xw_ret ?_ <;> try simp only [sq, bl, LQ])
      | ((first | refine xw_reg ?_ | refine xw_regd ?_ | refine xw_if ?_ | refine xw_skip ?_ | refine xw_exit ?_ | refine xw_label ?_ | refine post_ret ?_ | refine post_normal ?_ | refine postE_ret ?_ | refine postE_normal ?_ | (((first | refine at_region ?_ | refine at_out ?_ | refine at_cond ?_); split) <;> first | (exfalso; omega; done) | skip)) <;> try simp (config := { maxSteps := 3000000 }) (disch := first | assumption | omega | exact VG.okg (by assumption) | (simp only [List.length_set, List.length_append, List.length_cons, List.length_nil, List.length_replicate]; omega)) only [go_sem, ↓reduceIte, Int.reduceLE, Int.reduceLT, Int.reduceToNat, Int.reduceNeg, Int.reduceAdd, Int.reduceSub, Int.reduceMul, Int.reduceEq, Int.reduceNe, Nat.reduceEqDiff, Nat.reduceAdd, Nat.reduceSub, Nat.reduceMul, Nat.reduceLT, Nat.reduceLeDiff, Nat.reduceBEq, Nat.reduceBNe, UInt8.reduceToNat, Tryz.results11, hdraw, hp, hs, hq, ht, hg, hd, hd2, List.map_nil]))
  rw [if_pos hV] at hp hs hq ht
  rw [decide_eq_true hV] at hg
  have hf := c_FormatGraph n es (by omega)
  rw [if_pos hV] at hf
  have hld := ld hV
  have hV' : VG n (esT (ldT es)) := by rw [hld.es']; exact hV
  have h1 := line_word _ (by decide) (by simp) (c_wl_bridges n _ _ _ (ldT es) (ld3 hV) hV')
  have h2 := line_word _ (by decide) (by simp) (c_wl_cuts n _ _ _ (ldT es) (ld3 hV) hV')
  rw [hld.es'] at h1 h2
  have hbr : (es.filter fun e => decide (Brg es e)) = brgs es := rfl
  rw [hbr] at h1
  have hbl : (brgs es).length ≤ es.length := List.length_filter_le _ _
  have hbs : smallE (brgs es) := small_filter hV.small.1 _
  have hin : ∀ v ∈ cutL n es, 0 ≤ v ∧ v < n := fun v hv => mem_iota.1 (List.mem_filter.1 hv).1
  have hcl : (cutL n es).length ≤ 16 := by
    have h1 := List.length_filter_le (fun v => decide (CutN es v)) (iota n)
    have h2 := iota_length n
    have h4 := hV.2.1
    unfold cutL
    omega
  have hd := c_dyEdges (brgs es) (brgs es) (by omega)
  have hd2 := c_dyInts (cutL n es) (cutL n es) (by omega)
  have hdt := c_dyText (brgs es) hbs (by omega)
  have hdn := c_dyNumbers (cutL n es) (small_in hV.2.1 hin) (by omega)
  have l1 := edsT_len (brgs es)
  have l2 := numsT_len (cutL n es)
  have l3 := fmtG_len n es
  have hr := script2 hV (by decide) (by simp) (by simp) (by simp; omega) (by decide) (by simp) (by simp) (by simp; omega) h1 h2
  have hdf : delF (fun e => decide (Brg es e)) es = delF (fun e => decide (Brg es e)) es := rfl
  generalize hB : brgs es = Bs at *
  generalize cutL n es = Cs at *
  generalize fmtG n es = F at *
  have e1 : (103 :: 114 :: 97 :: 112 :: 104 :: 32 :: (F ++ 10 :: ([98, 114, 105, 100, 103, 101, 115] ++ 10 :: ([99, 117, 116, 115] ++ [10]))) : List UInt8) = 103 :: 114 :: 97 :: 112 :: 104 :: 32 :: (F ++ [10, 98, 114, 105, 100, 103, 101, 115, 10, 99, 117, 116, 115, 10]) := by simp
  have e2 : (111 :: 107 :: 10 :: ([98, 114, 105, 100, 103, 101, 115] ++ edsT Bs ++ [10] ++ ([99, 117, 116, 115] ++ numsT Cs ++ [10])) : List UInt8) = 111 :: 107 :: 10 :: 98 :: 114 :: 105 :: 100 :: 103 :: 101 :: 115 :: (edsT Bs ++ [10, 99, 117, 116, 115] ++ numsT Cs ++ [10]) := by simp
  rw [e1, e2] at hr
  generalize edsT Bs = E at *
  generalize numsT Cs = M at *
  refine xw_call (fn := Tryz.f11) rfl Tryz.func11 rfl ⟨Nat.le_of_ble_eq_true rfl, rfl, rfl⟩ ?_
  repeat' (first
    | refine xw_seq ?_
    | refine xw_block ?_
    | (refine ite_two ?_ ?_ <;> intro _ <;> first | (exfalso; omega) | skip)
    | refine ord_split (by kernel_rfl) ?_
    | (refine xw_ret ?_ <;> try simp only [sq, bl, LQ])
    | ((first | refine xw_reg ?_ | refine xw_regd ?_ | refine xw_if ?_ | refine xw_skip ?_ | refine xw_exit ?_ | refine xw_label ?_ | refine post_ret ?_ | refine post_normal ?_ | refine postE_ret ?_ | refine postE_normal ?_ | (((first | refine at_region ?_ | refine at_out ?_ | refine at_cond ?_); split) <;> first | (exfalso; omega; done) | skip)) <;> try simp (config := { maxSteps := 3000000 }) (disch := first | assumption | omega | exact VG.okg (by assumption) | (simp only [List.length_set, List.length_append, List.length_cons, List.length_nil, List.length_replicate]; omega)) only [go_sem, ↓reduceIte, Int.reduceLE, Int.reduceLT, Int.reduceToNat, Int.reduceNeg, Int.reduceAdd, Int.reduceSub, Int.reduceMul, Int.reduceEq, Int.reduceNe, Nat.reduceEqDiff, Nat.reduceAdd, Nat.reduceSub, Nat.reduceMul, Nat.reduceLT, Nat.reduceLeDiff, Nat.reduceBEq, Nat.reduceBNe, UInt8.reduceToNat, Tryz.results11, hdraw, hp, hs, hq, ht, hg, hd, hd2, hdt, hdn, hf, hr, hbr, decide_true]))
  all_goals trace_state
  all_goals sorry
end Go.Proofs.YtdjdgnabcecdlaaGreatDoor.X
