/- What functions compute: lines of bridges and of cut nodes. -/
import Derived.Test.YtdjdgnabcecdlaaGreatDoorKAN
import Derived.Test.YtdjdgnabcecdlaaGreatDoorC44
set_option linter.unusedSimpArgs false
set_option linter.unusedVariables false
set_option maxHeartbeats 8000000
set_option maxRecDepth 100000
namespace Go.Proofs.YtdjdgnabcecdlaaGreatDoor.X
open Go Go.Proofs
theorem c_wl_cuts (n : Int) (x y z : IV) (ts : List Tl) (h3 : LV3 x y z ts) (hV : VG n (esT ts)) :
    KP 137 [.ptr 1000 0 0 0, S [99, 117, 116, 115]] [.box 0 [I n, .i x, .i y, .i z]] = some (S ([99, 117, 116, 115] ++ numsT (cutL n (esT ts)) ++ [10]), [.box 0 [I n, .i x, .i y, .i z]], []) := by
  have hfx := h3.fx
  have hlx := h3.lx
  have hel := hV.2.2.1
  have hc := c_CutNodesOf n (esT ts) (by omega)
  rw [if_pos hV] at hc
  have hin : ∀ v ∈ cutL n (esT ts), 0 ≤ v ∧ v < n := fun v hv => mem_iota.1 (List.mem_filter.1 hv).1
  have hcl : (cutL n (esT ts)).length ≤ 16 := by
    have h1 := List.length_filter_le (fun v => decide (CutN (esT ts) v)) (iota n)
    have h2 := iota_length n
    have h4 := hV.2.1
    unfold cutL
    omega
  have hnt := c_numbersText [99, 117, 116, 115] (cutL n (esT ts)) (small_in hV.2.1 hin) (by simp) (by omega)
  generalize cutL n (esT ts) = C at *
  generalize hR : ([99, 117, 116, 115] : List UInt8) ++ numsT C ++ [10] = R at *
  refine xw_call (fn := Tryz.f137) rfl Tryz.func137 rfl ⟨Nat.le_of_ble_eq_true rfl, rfl, rfl⟩ ?_
  repeat' (first
    | refine xw_seq ?_
    | refine xw_block ?_
    | (refine ite_two ?_ ?_ <;> intro _ <;> first | (exfalso; omega) | skip)
    | refine ord_split (by kernel_rfl) ?_
    | (refine xw_ret ?_ <;> try simp only [sq, bl, LQ])
    | ((first | refine xw_reg ?_ | refine xw_regd ?_ | refine xw_if ?_ | refine xw_skip ?_ | refine xw_exit ?_ | refine xw_label ?_ | refine post_ret ?_ | refine post_normal ?_ | refine postE_ret ?_ | refine postE_normal ?_ | (((first | refine at_region ?_ | refine at_out ?_ | refine at_cond ?_); split) <;> first | (exfalso; omega; done) | skip)) <;> try simp (config := { maxSteps := 3000000 }) (disch := first | assumption | omega | exact VG.okg (by assumption) | (simp only [List.length_set, List.length_append, List.length_cons, List.length_nil, List.length_replicate]; omega)) only [go_sem, ↓reduceIte, Int.reduceLE, Int.reduceLT, Int.reduceToNat, Int.reduceNeg, Int.reduceAdd, Int.reduceSub, Int.reduceMul, Int.reduceEq, Int.reduceNe, Nat.reduceEqDiff, Nat.reduceAdd, Nat.reduceSub, Nat.reduceMul, Nat.reduceLT, Nat.reduceLeDiff, Nat.reduceBEq, Nat.reduceBNe, UInt8.reduceToNat, Tryz.results137, hfx, hlx, hc, hnt]))
theorem c_wl_bridges (n : Int) (x y z : IV) (ts : List Tl) (h3 : LV3 x y z ts) (hV : VG n (esT ts)) :
    KP 137 [.ptr 1000 0 0 0, S [98, 114, 105, 100, 103, 101, 115]] [.box 0 [I n, .i x, .i y, .i z]] =
      some (S ([98, 114, 105, 100, 103, 101, 115] ++ edsT ((esT ts).filter fun e => decide (Brg (esT ts) e)) ++ [10]), [.box 0 [I n, .i x, .i y, .i z]], []) := by
  have hfx := h3.fx
  have hlx := h3.lx
  have hel := hV.2.2.1
  have hc := c_BridgesOf n (esT ts) (by omega)
  rw [if_pos hV] at hc
  have hfl := List.length_filter_le (fun e => decide (Brg (esT ts) e)) (esT ts)
  have hnt := c_edgesText [98, 114, 105, 100, 103, 101, 115] ((esT ts).filter fun e => decide (Brg (esT ts) e)) (small_filter hV.small.1 _) (by simp) (by omega)
  have hle := edsT_len ((esT ts).filter fun e => decide (Brg (esT ts) e))
  generalize hR : ([98, 114, 105, 100, 103, 101, 115] : List UInt8) ++ edsT ((esT ts).filter fun e => decide (Brg (esT ts) e)) = R at *
  have hRl : R.length ≤ 1000 := by rw [← hR]; simp only [List.length_append, List.length_cons, List.length_nil]; omega
  refine xw_call (fn := Tryz.f137) rfl Tryz.func137 rfl ⟨Nat.le_of_ble_eq_true rfl, rfl, rfl⟩ ?_
  repeat' (first
    | refine xw_seq ?_
    | refine xw_block ?_
    | (refine ite_two ?_ ?_ <;> intro _ <;> first | (exfalso; omega) | skip)
    | refine ord_split (by kernel_rfl) ?_
    | (refine xw_ret ?_ <;> try simp only [sq, bl, LQ])
    | ((first | refine xw_reg ?_ | refine xw_regd ?_ | refine xw_if ?_ | refine xw_skip ?_ | refine xw_exit ?_ | refine xw_label ?_ | refine post_ret ?_ | refine post_normal ?_ | refine postE_ret ?_ | refine postE_normal ?_ | (((first | refine at_region ?_ | refine at_out ?_ | refine at_cond ?_); split) <;> first | (exfalso; omega; done) | skip)) <;> try simp (config := { maxSteps := 3000000 }) (disch := first | assumption | omega | exact VG.okg (by assumption) | (simp only [List.length_set, List.length_append, List.length_cons, List.length_nil, List.length_replicate]; omega)) only [go_sem, ↓reduceIte, Int.reduceLE, Int.reduceLT, Int.reduceToNat, Int.reduceNeg, Int.reduceAdd, Int.reduceSub, Int.reduceMul, Int.reduceEq, Int.reduceNe, Nat.reduceEqDiff, Nat.reduceAdd, Nat.reduceSub, Nat.reduceMul, Nat.reduceLT, Nat.reduceLeDiff, Nat.reduceBEq, Nat.reduceBNe, UInt8.reduceToNat, Tryz.results137, hfx, hlx, hc, hnt]))
end Go.Proofs.YtdjdgnabcecdlaaGreatDoor.X
