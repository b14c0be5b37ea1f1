/- The law: scripts tell forests. -/
import Derived.Test.YtdjdgnabcecdlaaGreatDoorKAO
import Derived.Test.YtdjdgnabcecdlaaGreatDoorKAP
set_option linter.unusedSimpArgs false
set_option linter.unusedVariables false
set_option maxHeartbeats 8000000
set_option maxRecDepth 100000
namespace Go.Proofs.YtdjdgnabcecdlaaGreatDoor.X
open Go Go.Proofs
theorem law_ScriptForest (bs : List Int) (hb : ∀ b ∈ bs, 0 ≤ b ∧ b < 256) : KP 7 [LB bs] [] = some (B true, [], []) := by
  by_cases hbig : (1048576 : Int) < bs.length
  · refine xw_call (fn := Tryz.f7) rfl Tryz.func7 rfl ⟨Nat.le_of_ble_eq_true rfl, rfl, rfl⟩ ?_
    repeat' (first
      | refine xw_seq ?_
      | refine xw_block ?_
      | (refine ite_two ?_ ?_ <;> intro _ <;> first | (exfalso; omega) | skip)
      | refine ord_split (by kernel_rfl) ?_
      | (refine xw_ret ?_ <;> try simp only [sq, bl, LQ])
      | ((first | refine xw_reg ?_ | refine xw_regd ?_ | refine xw_if ?_ | refine xw_skip ?_ | refine xw_exit ?_ | refine xw_label ?_ | refine post_ret ?_ | refine post_normal ?_ | refine postE_ret ?_ | refine postE_normal ?_ | (((first | refine at_region ?_ | refine at_out ?_ | refine at_cond ?_); split) <;> first | (exfalso; omega; done) | skip)) <;> try simp (config := { maxSteps := 3000000 }) (disch := first | assumption | omega | exact VG.okg (by assumption) | (simp only [List.length_set, List.length_append, List.length_cons, List.length_nil, List.length_replicate]; omega)) only [go_sem, ↓reduceIte, Int.reduceLE, Int.reduceLT, Int.reduceToNat, Int.reduceNeg, Int.reduceAdd, Int.reduceSub, Int.reduceMul, Int.reduceEq, Int.reduceNe, Nat.reduceEqDiff, Nat.reduceAdd, Nat.reduceSub, Nat.reduceMul, Nat.reduceLT, Nat.reduceLeDiff, Nat.reduceBEq, Nat.reduceBNe, UInt8.reduceToNat, Tryz.results7]))
  obtain ⟨n, es, r, hl, r0, r1, hdraw⟩ := c_DrawTourOf bs hb (by omega)
  have hp := c_ForestOf n es (by omega)
  have hs := c_sForestOf n es (by omega)
  have hg := c_GraphValid n es (by omega)
  by_cases hV : VG n es
  rotate_left
  · rw [if_neg hV] at hp hs
    rw [decide_eq_false hV] at hg
    have hd := c_dyEdges_nil
    refine xw_call (fn := Tryz.f7) rfl Tryz.func7 rfl ⟨Nat.le_of_ble_eq_true rfl, rfl, rfl⟩ ?_
    repeat' (first
      | refine xw_seq ?_
      | refine xw_block ?_
      | (refine ite_two ?_ ?_ <;> intro _ <;> first | (exfalso; omega) | skip)
      | refine ord_split (by kernel_rfl) ?_
      | (refine xw_ret ?_ <;> try simp only [sq, bl, LQ])
      | ((first | refine xw_reg ?_ | refine xw_regd ?_ | refine xw_if ?_ | refine xw_skip ?_ | refine xw_exit ?_ | refine xw_label ?_ | refine post_ret ?_ | refine post_normal ?_ | refine postE_ret ?_ | refine postE_normal ?_ | (((first | refine at_region ?_ | refine at_out ?_ | refine at_cond ?_); split) <;> first | (exfalso; omega; done) | skip)) <;> try simp (config := { maxSteps := 3000000 }) (disch := first | assumption | omega | exact VG.okg (by assumption) | (simp only [List.length_set, List.length_append, List.length_cons, List.length_nil, List.length_replicate]; omega)) only [go_sem, ↓reduceIte, Int.reduceLE, Int.reduceLT, Int.reduceToNat, Int.reduceNeg, Int.reduceAdd, Int.reduceSub, Int.reduceMul, Int.reduceEq, Int.reduceNe, Nat.reduceEqDiff, Nat.reduceAdd, Nat.reduceSub, Nat.reduceMul, Nat.reduceLT, Nat.reduceLeDiff, Nat.reduceBEq, Nat.reduceBNe, UInt8.reduceToNat, Tryz.results7, hdraw, hp, hs, hg, hd, List.map_nil]))
  rw [if_pos hV] at hp hs
  rw [decide_eq_true hV] at hg
  have hf := c_FormatGraph n es (by omega)
  rw [if_pos hV] at hf
  have ho := hV.okg.ok
  have hn16 := hV.2.1
  have hfl := (forest_sub ho).length_le
  have hel := hV.2.2.1
  have hd := c_dyEdges (forestL es) (forestL es) (by omega)
  have hto := c_TourOf n r (forestL es) (by omega)
  by_cases hT : TO n (forestL es) r
  rotate_left
  · rw [if_neg hT] at hto
    refine xw_call (fn := Tryz.f7) rfl Tryz.func7 rfl ⟨Nat.le_of_ble_eq_true rfl, rfl, rfl⟩ ?_
    repeat' (first
      | refine xw_seq ?_
      | refine xw_block ?_
      | (refine ite_two ?_ ?_ <;> intro _ <;> first | (exfalso; omega) | skip)
      | refine ord_split (by kernel_rfl) ?_
      | (refine xw_ret ?_ <;> try simp only [sq, bl, LQ])
      | ((first | refine xw_reg ?_ | refine xw_regd ?_ | refine xw_if ?_ | refine xw_skip ?_ | refine xw_exit ?_ | refine xw_label ?_ | refine post_ret ?_ | refine post_normal ?_ | refine postE_ret ?_ | refine postE_normal ?_ | (((first | refine at_region ?_ | refine at_out ?_ | refine at_cond ?_); split) <;> first | (exfalso; omega; done) | skip)) <;> try simp (config := { maxSteps := 3000000 }) (disch := first | assumption | omega | exact VG.okg (by assumption) | (simp only [List.length_set, List.length_append, List.length_cons, List.length_nil, List.length_replicate]; omega)) only [go_sem, ↓reduceIte, Int.reduceLE, Int.reduceLT, Int.reduceToNat, Int.reduceNeg, Int.reduceAdd, Int.reduceSub, Int.reduceMul, Int.reduceEq, Int.reduceNe, Nat.reduceEqDiff, Nat.reduceAdd, Nat.reduceSub, Nat.reduceMul, Nat.reduceLT, Nat.reduceLeDiff, Nat.reduceBEq, Nat.reduceBNe, UInt8.reduceToNat, Tryz.results7, hdraw, hp, hs, hg, hd, hto, decide_true]))
  rw [if_pos hT] at hto
  obtain ⟨f1, f2, f3, f4, f5, f6, f7⟩ := to_facts hT
  have hl31 := f1.l31
  have hsm : smallL (toL n (forestL es) r) := fun v hv => by obtain ⟨h1, h2⟩ := f7 v hv; omega
  have hr0 := hT.2.1
  have hld := ld hV
  have hV' : VG n (esT (ldT es)) := by rw [hld.es']; exact hV
  have h1 := line_word _ (by decide) (by simp) (c_wl_forest n _ _ _ (ldT es) (ld3 hV) hld.lv)
  rw [hld.fo] at h1
  have h2 := line_tour r (by omega) rfl (c_nl_tour n r _ _ _ (ldT es) (ld3 hV) hV' (by rw [hld.es']; exact hT) (by rw [hld.es']; exact hsm) (by rw [hld.es']; omega))
  rw [hld.es'] at h2
  have l1 := edsT_len (forestL es)
  have l2 := numsT_len (toL n (forestL es) r)
  have l3 := dgt_len r
  have l4 := fmtG_len n es
  have hr := script2 hV (by decide) (by simp) (by simp) (by simp; omega) (no10_one (by decide) (by omega)) (by simp) (by simp; omega) (by simp; omega) h1 h2
  rw [← nums1] at hr
  have hdt := c_dyText (forestL es) (fun e he => hV.small.1 e ((forest_sub ho).subset he)) (by omega)
  have hdn := c_dyNumbers (toL n (forestL es) r) hsm (by omega)
  have hd1 := c_dyNumbers1 r (by omega)
  have l5 := numsT_len [r]
  simp only [List.length_cons, List.length_nil] at l5
  generalize numsT [r] = Z at *
  generalize toL n (forestL es) r = P at *
  generalize forestL es = Fo at *
  generalize fmtG n es = F at *
  generalize edsT Fo = E at *
  generalize numsT P = M at *
  have e1 : (103 :: 114 :: 97 :: 112 :: 104 :: 32 :: (F ++ 10 :: ([102, 111, 114, 101, 115, 116] ++ 10 :: ([116, 111, 117, 114] ++ Z ++ [10]))) : List UInt8) = 103 :: 114 :: 97 :: 112 :: 104 :: 32 :: (F ++ [10, 102, 111, 114, 101, 115, 116, 10, 116, 111, 117, 114] ++ Z ++ [10]) := by simp
  have e2 : (111 :: 107 :: 10 :: ([102, 111, 114, 101, 115, 116] ++ E ++ [10] ++ ([116, 111, 117, 114] ++ M ++ [10])) : List UInt8) = 111 :: 107 :: 10 :: 102 :: 111 :: 114 :: 101 :: 115 :: 116 :: (E ++ [10, 116, 111, 117, 114] ++ M ++ [10]) := by simp
  rw [e1, e2] at hr
  refine xw_call (fn := Tryz.f7) rfl Tryz.func7 rfl ⟨Nat.le_of_ble_eq_true rfl, rfl, rfl⟩ ?_
  repeat' (first
    | refine xw_seq ?_
    | refine xw_block ?_
    | (refine ite_two ?_ ?_ <;> intro _ <;> first | (exfalso; omega) | skip)
    | refine ord_split (by kernel_rfl) ?_
    | (refine xw_ret ?_ <;> try simp only [sq, bl, LQ])
    | ((first | refine xw_reg ?_ | refine xw_regd ?_ | refine xw_if ?_ | refine xw_skip ?_ | refine xw_exit ?_ | refine xw_label ?_ | refine post_ret ?_ | refine post_normal ?_ | refine postE_ret ?_ | refine postE_normal ?_ | (((first | refine at_region ?_ | refine at_out ?_ | refine at_cond ?_); split) <;> first | (exfalso; omega; done) | skip)) <;> try simp (config := { maxSteps := 3000000 }) (disch := first | assumption | omega | exact VG.okg (by assumption) | (simp only [List.length_set, List.length_append, List.length_cons, List.length_nil, List.length_replicate]; omega)) only [go_sem, ↓reduceIte, Int.reduceLE, Int.reduceLT, Int.reduceToNat, Int.reduceNeg, Int.reduceAdd, Int.reduceSub, Int.reduceMul, Int.reduceEq, Int.reduceNe, Nat.reduceEqDiff, Nat.reduceAdd, Nat.reduceSub, Nat.reduceMul, Nat.reduceLT, Nat.reduceLeDiff, Nat.reduceBEq, Nat.reduceBNe, UInt8.reduceToNat, Tryz.results7, hdraw, hp, hs, hg, hd, hto, hdt, hdn, hd1, hf, hr, decide_true]))
end Go.Proofs.YtdjdgnabcecdlaaGreatDoor.X
