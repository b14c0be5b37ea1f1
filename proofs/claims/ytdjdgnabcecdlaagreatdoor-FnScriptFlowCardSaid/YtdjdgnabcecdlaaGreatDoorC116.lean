/- What functions compute: the line of disjoint paths. -/
import Derived.Test.YtdjdgnabcecdlaaGreatDoorKAM
import Derived.Test.YtdjdgnabcecdlaaGreatDoorKAN
import Derived.Test.YtdjdgnabcecdlaaGreatDoorC29
set_option linter.unusedSimpArgs false
set_option linter.unusedVariables false
set_option maxHeartbeats 8000000
set_option maxRecDepth 100000
namespace Go.Proofs.YtdjdgnabcecdlaaGreatDoor.X
open Go Go.Proofs
theorem dps_small {n : Int} {es : List (Int × Int)} {a b : Int} (hP : Pr n a b es) : (∀ p ∈ dpPs n es a b (flN n es a b), smallL p ∧ p.length ≤ 100) ∧ (dpPs n es a b (flN n es a b)).length ≤ 40 := by
  obtain ⟨hV, hxn, hyn, hxy⟩ := hP
  have ho := hV.okg.ok
  have hnd := hV.nodup
  have hn16 := hV.2.1
  have hel := hV.2.2.1
  refine ⟨fun p hp => ?_, ?_⟩
  · obtain ⟨i, hi, rfl⟩ := List.mem_map.1 hp
    have hw := dp_way ho hnd hxn hyn hxy (List.mem_range.1 hi)
    have h1 := way_len ho hw hyn hn16
    refine ⟨fun v hv => ?_, by omega⟩
    obtain ⟨j, hj, rfl⟩ := List.getElem_of_mem hv
    have h2 := way_in ho hw hyn j hj
    have e : (dpP n es a b i).getD j 0 = (dpP n es a b i)[j] := by simp [hj]
    rw [e] at h2
    omega
  · rw [dpPs_len]
    have h1 := (flow_deg ho hnd hxn hyn hxy).1
    have h2 := alone_length a es
    omega
theorem c_nl_flow (n a b : Int) (x y z : IV) (ts : List Tl) (h3 : LV3 x y z ts) (hP : Pr n a b (esT ts)) (hl : (esT ts).length ≤ 40) :
    KP 140 [.ptr 1000 0 0 0, S [102, 108, 111, 119], .i (.lst [[.v (.int .i64 a)], [.v (.int .i64 b)]])] [.box 0 [I n, .i x, .i y, .i z]] =
      some (S ([102, 108, 111, 119] ++ numsT [((dpPs n (esT ts) a b (flN n (esT ts) a b)).length : Int)] ++ [10] ++ linesT [112, 97, 116, 104] (dpPs n (esT ts) a b (flN n (esT ts) a b))), [.box 0 [I n, .i x, .i y, .i z]], []) := by
  have hfx := h3.fx
  have hlx := h3.lx
  obtain ⟨hs, hk⟩ := dps_small hP
  have hp := c_DisjointPaths n a b (esT ts) (by omega)
  rw [if_pos hP] at hp
  have he := c_EdgeOf a b
  generalize dpPs n (esT ts) a b (flN n (esT ts) a b) = P at *
  have hnt : KP 175 [S [102, 108, 111, 119], .i (.lst [[.v (.int .i64 (P.length : Int))]])] [] = _ := c_numbersText [102, 108, 111, 119] [(P.length : Int)] (fun v hv => by simp at hv; omega) (by simp) (by simp)
  have hll := c_listsText [112, 97, 116, 104] P (fun p hp => (hs p hp).1) (fun p hp => (hs p hp).2) (by simp) (by omega)
  have hb1 := linesT_len [112, 97, 116, 104] 100 P (fun p hp => (hs p hp).2)
  have hb2 : (linesT [112, 97, 116, 104] P).length ≤ 40 * 305 := Nat.le_trans hb1 (Nat.mul_le_mul hk (by simp))
  have hb3 := numsT_len [(P.length : Int)]
  generalize hR : ([102, 108, 111, 119] : List UInt8) ++ numsT [(P.length : Int)] ++ [10] = R at *
  have hRl : R.length ≤ 1000 := by rw [← hR]; simp only [List.length_cons, List.length_nil] at hb3; simp; omega
  generalize linesT [112, 97, 116, 104] P = Q at *
  by_cases hE : eOk a b
  · rw [if_pos hE] at he
    refine xw_call (fn := Tryz.f140) rfl Tryz.func140 rfl ⟨Nat.le_of_ble_eq_true rfl, rfl, rfl⟩ ?_
    repeat' (first
      | refine xw_seq ?_
      | refine xw_block ?_
      | (refine ite_two ?_ ?_ <;> intro _ <;> first | (exfalso; omega) | skip)
      | refine ord_split (by kernel_rfl) ?_
      | (refine xw_ret ?_ <;> try simp only [sq, bl, LQ])
      | ((first | refine xw_reg ?_ | refine xw_regd ?_ | refine xw_if ?_ | refine xw_skip ?_ | refine xw_exit ?_ | refine xw_label ?_ | refine post_ret ?_ | refine post_normal ?_ | refine postE_ret ?_ | refine postE_normal ?_ | (((first | refine at_region ?_ | refine at_out ?_ | refine at_cond ?_); split) <;> first | (exfalso; omega; done) | skip)) <;> try simp (config := { maxSteps := 3000000 }) (disch := first | assumption | omega | exact VG.okg (by assumption) | (simp only [List.length_set, List.length_append, List.length_cons, List.length_nil, List.length_replicate]; omega)) only [go_sem, ↓reduceIte, Int.reduceLE, Int.reduceLT, Int.reduceToNat, Int.reduceNeg, Int.reduceAdd, Int.reduceSub, Int.reduceMul, Int.reduceEq, Int.reduceNe, Nat.reduceEqDiff, Nat.reduceAdd, Nat.reduceSub, Nat.reduceMul, Nat.reduceLT, Nat.reduceLeDiff, Nat.reduceBEq, Nat.reduceBNe, UInt8.reduceToNat, Tryz.results140, hfx, hlx, he, hp, hnt, hll]))
  · rw [if_neg hE] at he
    refine xw_call (fn := Tryz.f140) rfl Tryz.func140 rfl ⟨Nat.le_of_ble_eq_true rfl, rfl, rfl⟩ ?_
    repeat' (first
      | refine xw_seq ?_
      | refine xw_block ?_
      | (refine ite_two ?_ ?_ <;> intro _ <;> first | (exfalso; omega) | skip)
      | refine ord_split (by kernel_rfl) ?_
      | (refine xw_ret ?_ <;> try simp only [sq, bl, LQ])
      | ((first | refine xw_reg ?_ | refine xw_regd ?_ | refine xw_if ?_ | refine xw_skip ?_ | refine xw_exit ?_ | refine xw_label ?_ | refine post_ret ?_ | refine post_normal ?_ | refine postE_ret ?_ | refine postE_normal ?_ | (((first | refine at_region ?_ | refine at_out ?_ | refine at_cond ?_); split) <;> first | (exfalso; omega; done) | skip)) <;> try simp (config := { maxSteps := 3000000 }) (disch := first | assumption | omega | exact VG.okg (by assumption) | (simp only [List.length_set, List.length_append, List.length_cons, List.length_nil, List.length_replicate]; omega)) only [go_sem, ↓reduceIte, Int.reduceLE, Int.reduceLT, Int.reduceToNat, Int.reduceNeg, Int.reduceAdd, Int.reduceSub, Int.reduceMul, Int.reduceEq, Int.reduceNe, Nat.reduceEqDiff, Nat.reduceAdd, Nat.reduceSub, Nat.reduceMul, Nat.reduceLT, Nat.reduceLeDiff, Nat.reduceBEq, Nat.reduceBNe, UInt8.reduceToNat, Tryz.results140, hfx, hlx, he, hp, hnt, hll]))
end Go.Proofs.YtdjdgnabcecdlaaGreatDoor.X
