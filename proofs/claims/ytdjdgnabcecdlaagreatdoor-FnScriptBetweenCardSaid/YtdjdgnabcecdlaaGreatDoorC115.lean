/- What functions compute: the line of what is between. -/
import Derived.Test.YtdjdgnabcecdlaaGreatDoorKAJ
import Derived.Test.YtdjdgnabcecdlaaGreatDoorC19
set_option linter.unusedSimpArgs false
set_option linter.unusedVariables false
set_option maxHeartbeats 8000000
set_option maxRecDepth 100000
namespace Go.Proofs.YtdjdgnabcecdlaaGreatDoor.X
open Go Go.Proofs
theorem c_nl_between (n a b : Int) (x y z : IV) (ts : List Tl) (h3 : LV3 x y z ts) (hV : VG n (esT ts)) (ha : 0 ≤ a ∧ a < n) (hb : 0 ≤ b ∧ b < n) (hc : Conn (esT ts) a b) :
    KP 140 [.ptr 1000 0 0 0, S [98, 101, 116, 119, 101, 101, 110], .i (.lst [[.v (.int .i64 a)], [.v (.int .i64 b)]])] [.box 0 [I n, .i x, .i y, .i z]] =
      some (S ([98, 114, 105, 100, 103, 101, 115] ++ edsT ((esT ts).filter fun e => !decide (Conn (cutE e (esT ts)) a b)) ++ [10] ++ ([99, 117, 116, 115] ++ numsT (cutsB n a b (esT ts)) ++ [10])), [.box 0 [I n, .i x, .i y, .i z]], []) := by
  have hfx := h3.fx
  have hlx := h3.lx
  have hel := hV.2.2.1
  have hp := c_BridgesBetween n a b (esT ts) (by omega)
  rw [if_pos ⟨hV, ha.1, ha.2, hb.1, hb.2, hc⟩] at hp
  have hq := c_CutNodesBetween n a b (esT ts) (by omega)
  rw [if_pos ⟨hV, ha.1, ha.2, hb.1, hb.2, hc⟩] at hq
  have he := c_EdgeOf a b
  have hfl := List.length_filter_le (fun e => !decide (Conn (cutE e (esT ts)) a b)) (esT ts)
  have hne := c_edgesText [98, 114, 105, 100, 103, 101, 115] ((esT ts).filter fun e => !decide (Conn (cutE e (esT ts)) a b)) (small_filter hV.small.1 _) (by simp) (by omega)
  have hle := edsT_len ((esT ts).filter fun e => !decide (Conn (cutE e (esT ts)) a b))
  have hin : ∀ v ∈ cutsB n a b (esT ts), 0 ≤ v ∧ v < n := fun v hv => mem_iota.1 (List.mem_filter.1 hv).1
  have hcl : (cutsB n a b (esT ts)).length ≤ 16 := by
    have h1 := List.length_filter_le (fun v => decide (v ≠ a ∧ v ≠ b ∧ ¬ Conn (alone v (esT ts)) a b)) (iota n)
    have h2 := iota_length n
    have h4 := hV.2.1
    unfold cutsB
    omega
  have hnt := c_numbersText [99, 117, 116, 115] (cutsB n a b (esT ts)) (small_in hV.2.1 hin) (by simp) (by omega)
  have hnl := numsT_len (cutsB n a b (esT ts))
  generalize cutsB n a b (esT ts) = C at *
  generalize hE : ([98, 114, 105, 100, 103, 101, 115] : List UInt8) ++ edsT ((esT ts).filter fun e => !decide (Conn (cutE e (esT ts)) a b)) = E at *
  generalize hR : ([99, 117, 116, 115] : List UInt8) ++ numsT C ++ [10] = R at *
  have hEl : E.length ≤ 1000 := by rw [← hE]; simp only [List.length_append, List.length_cons, List.length_nil]; omega
  have hRl : R.length ≤ 1000 := by rw [← hR]; simp only [List.length_append, List.length_cons, List.length_nil]; omega
  by_cases hE : eOk a b
  · rw [if_pos hE] at he
    refine xw_call (fn := Tryz.f140) rfl Tryz.func140 rfl ⟨Nat.le_of_ble_eq_true rfl, rfl, rfl⟩ ?_
    repeat' (first
      | refine xw_seq ?_
      | refine xw_block ?_
      | (refine ite_two ?_ ?_ <;> intro _ <;> first | (exfalso; omega) | skip)
      | refine ord_split (by kernel_rfl) ?_
      | (refine xw_ret ?_ <;> try simp only [sq, bl, LQ])
      | ((first | refine xw_reg ?_ | refine xw_regd ?_ | refine xw_if ?_ | refine xw_skip ?_ | refine xw_exit ?_ | refine xw_label ?_ | refine post_ret ?_ | refine post_normal ?_ | refine postE_ret ?_ | refine postE_normal ?_ | (((first | refine at_region ?_ | refine at_out ?_ | refine at_cond ?_); split) <;> first | (exfalso; omega; done) | skip)) <;> try simp (config := { maxSteps := 3000000 }) (disch := first | assumption | omega | exact VG.okg (by assumption) | (simp only [List.length_set, List.length_append, List.length_cons, List.length_nil, List.length_replicate]; omega)) only [go_sem, ↓reduceIte, Int.reduceLE, Int.reduceLT, Int.reduceToNat, Int.reduceNeg, Int.reduceAdd, Int.reduceSub, Int.reduceMul, Int.reduceEq, Int.reduceNe, Nat.reduceEqDiff, Nat.reduceAdd, Nat.reduceSub, Nat.reduceMul, Nat.reduceLT, Nat.reduceLeDiff, Nat.reduceBEq, Nat.reduceBNe, UInt8.reduceToNat, Tryz.results140, hfx, hlx, he, hp, hq, hne, hnt]))
  · rw [if_neg hE] at he
    refine xw_call (fn := Tryz.f140) rfl Tryz.func140 rfl ⟨Nat.le_of_ble_eq_true rfl, rfl, rfl⟩ ?_
    repeat' (first
      | refine xw_seq ?_
      | refine xw_block ?_
      | (refine ite_two ?_ ?_ <;> intro _ <;> first | (exfalso; omega) | skip)
      | refine ord_split (by kernel_rfl) ?_
      | (refine xw_ret ?_ <;> try simp only [sq, bl, LQ])
      | ((first | refine xw_reg ?_ | refine xw_regd ?_ | refine xw_if ?_ | refine xw_skip ?_ | refine xw_exit ?_ | refine xw_label ?_ | refine post_ret ?_ | refine post_normal ?_ | refine postE_ret ?_ | refine postE_normal ?_ | (((first | refine at_region ?_ | refine at_out ?_ | refine at_cond ?_); split) <;> first | (exfalso; omega; done) | skip)) <;> try simp (config := { maxSteps := 3000000 }) (disch := first | assumption | omega | exact VG.okg (by assumption) | (simp only [List.length_set, List.length_append, List.length_cons, List.length_nil, List.length_replicate]; omega)) only [go_sem, ↓reduceIte, Int.reduceLE, Int.reduceLT, Int.reduceToNat, Int.reduceNeg, Int.reduceAdd, Int.reduceSub, Int.reduceMul, Int.reduceEq, Int.reduceNe, Nat.reduceEqDiff, Nat.reduceAdd, Nat.reduceSub, Nat.reduceMul, Nat.reduceLT, Nat.reduceLeDiff, Nat.reduceBEq, Nat.reduceBNe, UInt8.reduceToNat, Tryz.results140, hfx, hlx, he, hp, hq, hne, hnt]))
end Go.Proofs.YtdjdgnabcecdlaaGreatDoor.X
