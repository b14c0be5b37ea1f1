/- The law: scripts tell what is between. -/
import Derived.Test.YtdjdgnabcecdlaaGreatDoorC115
import Derived.Test.YtdjdgnabcecdlaaGreatDoorC20
set_option linter.unusedSimpArgs false
set_option linter.unusedVariables false
set_option maxHeartbeats 8000000
set_option maxRecDepth 100000
namespace Go.Proofs.YtdjdgnabcecdlaaGreatDoor.X
open Go Go.Proofs
theorem law_ScriptBetween (bs : List Int) (hb : ∀ b ∈ bs, 0 ≤ b ∧ b < 256) : KP 8 [LB bs] [] = some (B true, [], []) := by
  by_cases hbig : (1048576 : Int) < bs.length
  · refine xw_call (fn := Tryz.f8) rfl Tryz.func8 rfl ⟨Nat.le_of_ble_eq_true rfl, rfl, rfl⟩ ?_
    repeat' (first
      | refine xw_seq ?_
      | refine xw_block ?_
      | (refine ite_two ?_ ?_ <;> intro _ <;> first | (exfalso; omega) | skip)
      | refine ord_split (by kernel_rfl) ?_
      | (refine xw_ret ?_ <;> try simp only [sq, bl, LQ])
      | ((first | refine xw_reg ?_ | refine xw_regd ?_ | refine xw_if ?_ | refine xw_skip ?_ | refine xw_exit ?_ | refine xw_label ?_ | refine post_ret ?_ | refine post_normal ?_ | refine postE_ret ?_ | refine postE_normal ?_ | (((first | refine at_region ?_ | refine at_out ?_ | refine at_cond ?_); split) <;> first | (exfalso; omega; done) | skip)) <;> try simp (config := { maxSteps := 3000000 }) (disch := first | assumption | omega | exact VG.okg (by assumption) | (simp only [List.length_set, List.length_append, List.length_cons, List.length_nil, List.length_replicate]; omega)) only [go_sem, ↓reduceIte, Int.reduceLE, Int.reduceLT, Int.reduceToNat, Int.reduceNeg, Int.reduceAdd, Int.reduceSub, Int.reduceMul, Int.reduceEq, Int.reduceNe, Nat.reduceEqDiff, Nat.reduceAdd, Nat.reduceSub, Nat.reduceMul, Nat.reduceLT, Nat.reduceLeDiff, Nat.reduceBEq, Nat.reduceBNe, UInt8.reduceToNat, Tryz.results8]))
  obtain ⟨n, es, x, y, n0, n1, hl, hx0, hx1, hy0, hy1, hdraw⟩ := c_DrawBridgesBetween bs hb (by omega)
  have hp := c_BridgesBetween n x y es (by omega)
  have hs := c_sBridgesBetween n x y es (by omega)
  have hq := c_CutNodesBetween n x y es (by omega)
  by_cases h : VG n es ∧ 0 ≤ x ∧ x < n ∧ 0 ≤ y ∧ y < n ∧ Conn es x y
  rotate_left
  · rw [if_neg h] at hp hs
    have hd := c_dyEdges_nil
    refine xw_call (fn := Tryz.f8) rfl Tryz.func8 rfl ⟨Nat.le_of_ble_eq_true rfl, rfl, rfl⟩ ?_
    repeat' (first
      | refine xw_seq ?_
      | refine xw_block ?_
      | (refine ite_two ?_ ?_ <;> intro _ <;> first | (exfalso; omega) | skip)
      | refine ord_split (by kernel_rfl) ?_
      | (refine xw_ret ?_ <;> try simp only [sq, bl, LQ])
      | ((first | refine xw_reg ?_ | refine xw_regd ?_ | refine xw_if ?_ | refine xw_skip ?_ | refine xw_exit ?_ | refine xw_label ?_ | refine post_ret ?_ | refine post_normal ?_ | refine postE_ret ?_ | refine postE_normal ?_ | (((first | refine at_region ?_ | refine at_out ?_ | refine at_cond ?_); split) <;> first | (exfalso; omega; done) | skip)) <;> try simp (config := { maxSteps := 3000000 }) (disch := first | assumption | omega | exact VG.okg (by assumption) | (simp only [List.length_set, List.length_append, List.length_cons, List.length_nil, List.length_replicate]; omega)) only [go_sem, ↓reduceIte, Int.reduceLE, Int.reduceLT, Int.reduceToNat, Int.reduceNeg, Int.reduceAdd, Int.reduceSub, Int.reduceMul, Int.reduceEq, Int.reduceNe, Nat.reduceEqDiff, Nat.reduceAdd, Nat.reduceSub, Nat.reduceMul, Nat.reduceLT, Nat.reduceLeDiff, Nat.reduceBEq, Nat.reduceBNe, UInt8.reduceToNat, Tryz.results8, hdraw, hp, hs, hd, List.map_nil]))
  rw [if_pos h] at hp hs hq
  obtain ⟨hV, x0, x1, y0, y1, hc⟩ := h
  have hf := c_FormatGraph n es (by omega)
  rw [if_pos hV] at hf
  have hn16 := hV.2.1
  have hld := ld hV
  have hV' : VG n (esT (ldT es)) := by rw [hld.es']; exact hV
  have h1 := line_two (.inr (.inr (.inr (.inl rfl)))) x y (by omega) (by omega) rfl (c_nl_between n x y _ _ _ (ldT es) (ld3 hV) hV' ⟨x0, x1⟩ ⟨y0, y1⟩ (by rw [hld.es']; exact hc))
  rw [hld.es'] at h1
  have hbr : (es.filter fun e => !decide (Conn (cutE e es) x y)) = brgsB x y es := rfl
  rw [hbr] at h1
  have hbl : (brgsB x y es).length ≤ es.length := List.length_filter_le _ _
  have hbs : smallE (brgsB x y es) := small_filter hV.small.1 _
  have hin : ∀ v ∈ cutsB n x y es, 0 ≤ v ∧ v < n := fun v hv => mem_iota.1 (List.mem_filter.1 hv).1
  have hcl : (cutsB n x y es).length ≤ 16 := by
    have h1 := List.length_filter_le (fun v => decide (v ≠ x ∧ v ≠ y ∧ ¬ Conn (alone v es) x y)) (iota n)
    have h2 := iota_length n
    unfold cutsB
    omega
  have l1 := edsT_len (brgsB x y es)
  have l6 := numsT_len (cutsB n x y es)
  have l2 := dgt_len x
  have l3 := dgt_len y
  have l4 := fmtG_len n es
  have hr := script1 hV (no10_two (by decide) (by omega) (by omega)) (by simp) (by simp; omega) (by simp; omega) h1
  rw [← nums2] at hr
  have hd := c_dyEdges (brgsB x y es) (brgsB x y es) (by omega)
  have hdt := c_dyText (brgsB x y es) hbs (by omega)
  have hdn := c_dyNumbers (cutsB n x y es) (small_in hV.2.1 hin) (by omega)
  have hd2 := c_dyNumbers2 x y (by omega) (by omega)
  have l5 := numsT_len [x, y]
  simp only [List.length_cons, List.length_nil] at l5
  generalize numsT [x, y] = Z at *
  generalize brgsB x y es = P at *
  generalize cutsB n x y es = Q at *
  generalize fmtG n es = F at *
  generalize edsT P = E at *
  generalize numsT Q = M at *
  have e1 : (103 :: 114 :: 97 :: 112 :: 104 :: 32 :: (F ++ 10 :: ([98, 101, 116, 119, 101, 101, 110] ++ Z ++ [10])) : List UInt8) = 103 :: 114 :: 97 :: 112 :: 104 :: 32 :: (F ++ [10, 98, 101, 116, 119, 101, 101, 110] ++ Z ++ [10]) := by simp
  have e2 : (111 :: 107 :: 10 :: ([98, 114, 105, 100, 103, 101, 115] ++ E ++ [10] ++ ([99, 117, 116, 115] ++ M ++ [10])) : List UInt8) = 111 :: 107 :: 10 :: 98 :: 114 :: 105 :: 100 :: 103 :: 101 :: 115 :: (E ++ [10, 99, 117, 116, 115] ++ M ++ [10]) := by simp
  rw [e1, e2] at hr
  refine xw_call (fn := Tryz.f8) rfl Tryz.func8 rfl ⟨Nat.le_of_ble_eq_true rfl, rfl, rfl⟩ ?_
  repeat' (first
    | refine xw_seq ?_
    | refine xw_block ?_
    | (refine ite_two ?_ ?_ <;> intro _ <;> first | (exfalso; omega) | skip)
    | refine ord_split (by kernel_rfl) ?_
    | (refine xw_ret ?_ <;> try simp only [sq, bl, LQ])
    | ((first | refine xw_reg ?_ | refine xw_regd ?_ | refine xw_if ?_ | refine xw_skip ?_ | refine xw_exit ?_ | refine xw_label ?_ | refine post_ret ?_ | refine post_normal ?_ | refine postE_ret ?_ | refine postE_normal ?_ | (((first | refine at_region ?_ | refine at_out ?_ | refine at_cond ?_); split) <;> first | (exfalso; omega; done) | skip)) <;> try simp (config := { maxSteps := 3000000 }) (disch := first | assumption | omega | exact VG.okg (by assumption) | (simp only [List.length_set, List.length_append, List.length_cons, List.length_nil, List.length_replicate]; omega)) only [go_sem, ↓reduceIte, Int.reduceLE, Int.reduceLT, Int.reduceToNat, Int.reduceNeg, Int.reduceAdd, Int.reduceSub, Int.reduceMul, Int.reduceEq, Int.reduceNe, Nat.reduceEqDiff, Nat.reduceAdd, Nat.reduceSub, Nat.reduceMul, Nat.reduceLT, Nat.reduceLeDiff, Nat.reduceBEq, Nat.reduceBNe, UInt8.reduceToNat, Tryz.results8, hdraw, hp, hs, hq, hd, hdt, hdn, hd2, hf, hr, hbr, decide_true]))
end Go.Proofs.YtdjdgnabcecdlaaGreatDoor.X
