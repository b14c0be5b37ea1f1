/- The law: scripts tell paths. -/
import Derived.Test.YtdjdgnabcecdlaaGreatDoorC116
import Derived.Test.YtdjdgnabcecdlaaGreatDoorKAO
set_option linter.unusedSimpArgs false
set_option linter.unusedVariables false
set_option maxHeartbeats 8000000
set_option maxRecDepth 100000
namespace Go.Proofs.YtdjdgnabcecdlaaGreatDoor.X
open Go Go.Proofs
theorem law_ScriptFlow (bs : List Int) (hb : ∀ b ∈ bs, 0 ≤ b ∧ b < 256) : KP 3 [LB bs] [] = some (B true, [], []) := by
  by_cases hbig : (1048576 : Int) < bs.length
  · refine xw_call (fn := Tryz.f3) rfl Tryz.func3 rfl ⟨Nat.le_of_ble_eq_true rfl, rfl, rfl⟩ ?_
    repeat' (first
      | refine xw_seq ?_
      | refine xw_block ?_
      | (refine ite_two ?_ ?_ <;> intro _ <;> first | (exfalso; omega) | skip)
      | refine ord_split (by kernel_rfl) ?_
      | (refine xw_ret ?_ <;> try simp only [sq, bl, LQ])
      | ((first | refine xw_reg ?_ | refine xw_regd ?_ | refine xw_if ?_ | refine xw_skip ?_ | refine xw_exit ?_ | refine xw_label ?_ | refine post_ret ?_ | refine post_normal ?_ | refine postE_ret ?_ | refine postE_normal ?_ | (((first | refine at_region ?_ | refine at_out ?_ | refine at_cond ?_); split) <;> first | (exfalso; omega; done) | skip)) <;> try simp (config := { maxSteps := 3000000 }) (disch := first | assumption | omega | exact VG.okg (by assumption) | (simp only [List.length_set, List.length_append, List.length_cons, List.length_nil, List.length_replicate]; omega)) only [go_sem, ↓reduceIte, Int.reduceLE, Int.reduceLT, Int.reduceToNat, Int.reduceNeg, Int.reduceAdd, Int.reduceSub, Int.reduceMul, Int.reduceEq, Int.reduceNe, Nat.reduceEqDiff, Nat.reduceAdd, Nat.reduceSub, Nat.reduceMul, Nat.reduceLT, Nat.reduceLeDiff, Nat.reduceBEq, Nat.reduceBNe, UInt8.reduceToNat, Tryz.results3]))
  obtain ⟨n, xv, es, x, y, n0, n1, hl, hx, a0, a1, b0, b1, hdraw⟩ := c_DrawDisjointPaths bs hb (by omega)
  have hff := hx.f
  have hfl := hx.fl
  have hp := c_DisjointPaths n x y es (by omega)
  have hs := c_sDisjointPaths n x y es (by omega)
  by_cases h : Pr n x y es
  rotate_left
  · rw [if_neg h] at hp hs
    have hd := c_dyLists_nil
    refine xw_call (fn := Tryz.f3) rfl Tryz.func3 rfl ⟨Nat.le_of_ble_eq_true rfl, rfl, rfl⟩ ?_
    repeat' (first
      | refine xw_seq ?_
      | refine xw_block ?_
      | (refine ite_two ?_ ?_ <;> intro _ <;> first | (exfalso; omega) | skip)
      | refine ord_split (by kernel_rfl) ?_
      | (refine xw_ret ?_ <;> try simp only [sq, bl, LQ])
      | ((first | refine xw_reg ?_ | refine xw_regd ?_ | refine xw_if ?_ | refine xw_skip ?_ | refine xw_exit ?_ | refine xw_label ?_ | refine post_ret ?_ | refine post_normal ?_ | refine postE_ret ?_ | refine postE_normal ?_ | (((first | refine at_region ?_ | refine at_out ?_ | refine at_cond ?_); split) <;> first | (exfalso; omega; done) | skip)) <;> try simp (config := { maxSteps := 3000000 }) (disch := first | assumption | omega | exact VG.okg (by assumption) | (simp only [List.length_set, List.length_append, List.length_cons, List.length_nil, List.length_replicate]; omega)) only [go_sem, ↓reduceIte, Int.reduceLE, Int.reduceLT, Int.reduceToNat, Int.reduceNeg, Int.reduceAdd, Int.reduceSub, Int.reduceMul, Int.reduceEq, Int.reduceNe, Nat.reduceEqDiff, Nat.reduceAdd, Nat.reduceSub, Nat.reduceMul, Nat.reduceLT, Nat.reduceLeDiff, Nat.reduceBEq, Nat.reduceBNe, UInt8.reduceToNat, Tryz.results3, hdraw, hp, hs, hff, hfl, hd, List.map_nil]))
  rw [if_pos h] at hp hs
  obtain ⟨hV, hxn, hyn, hxy⟩ := id h
  have hf := c_FormatGraph n es (by omega)
  rw [if_pos hV] at hf
  have hn16 := hV.2.1
  have hld := ld hV
  have hP' : Pr n x y (esT (ldT es)) := by rw [hld.es']; exact h
  have h1 := line_two (.inr (.inr (.inr (.inr rfl)))) x y (by omega) (by omega) rfl (c_nl_flow n x y _ _ _ (ldT es) (ld3 hV) hP' (by rw [hld.es']; exact hl))
  rw [hld.es'] at h1
  obtain ⟨hs1, hs2⟩ := dps_small h
  have l2 := dgt_len x
  have l3 := dgt_len y
  have l4 := fmtG_len n es
  have l5 := numsT_len [x, y]
  simp only [List.length_cons, List.length_nil] at l5
  have hd := c_dyLists (dpPs n es x y (flN n es x y)) (dpPs n es x y (flN n es x y)) (by omega) (fun p hp => by have := (hs1 p hp).2; omega)
  generalize dpPs n es x y (flN n es x y) = ps at *
  have hb1 := fun k : Nat => linesT_len [112, 97, 116, 104] 100 (ps.take k) (fun p hp => (hs1 p (List.mem_of_mem_take hp)).2)
  have hb2 : ∀ k : Nat, (linesT [112, 97, 116, 104] (ps.take k)).length ≤ 40 * 305 := fun k => Nat.le_trans (hb1 k) (Nat.mul_le_mul (by rw [List.length_take]; omega) (by simp))
  have hb3 := hb2 ps.length
  rw [List.take_length] at hb3
  have l6 := numsT_len [(ps.length : Int)]
  simp only [List.length_cons, List.length_nil] at l6
  have hr := script1 hV (no10_two (by decide) (by omega) (by omega)) (by simp) (by simp; omega) (by simp only [List.length_append, List.length_cons, List.length_nil]; omega) h1
  rw [← nums2] at hr
  have hdn := c_dyNumbers1 (ps.length : Int) (by omega)
  have hd2 := c_dyNumbers2 x y (by omega) (by omega)
  have hdp : ∀ p ∈ ps, KP 17 [LI p] [] = some (S (numsT p), [], []) := fun p hp => c_dyNumbers p (hs1 p hp).1 (by have := (hs1 p hp).2; omega)
  generalize numsT [x, y] = Z at *
  generalize fmtG n es = F at *
  generalize numsT [(ps.length : Int)] = M at *
  have e1 : (103 :: 114 :: 97 :: 112 :: 104 :: 32 :: (F ++ 10 :: ([102, 108, 111, 119] ++ Z ++ [10])) : List UInt8) = 103 :: 114 :: 97 :: 112 :: 104 :: 32 :: (F ++ [10, 102, 108, 111, 119] ++ Z ++ [10]) := by simp
  have e2 : (111 :: 107 :: 10 :: ([102, 108, 111, 119] ++ M ++ [10] ++ linesT [112, 97, 116, 104] ps) : List UInt8) = 111 :: 107 :: 10 :: 102 :: 108 :: 111 :: 119 :: (M ++ [10] ++ linesT [112, 97, 116, 104] ps) := by simp
  rw [e1, e2] at hr
  refine xw_call (fn := Tryz.f3) rfl Tryz.func3 rfl ⟨Nat.le_of_ble_eq_true rfl, rfl, rfl⟩ ?_
  repeat' (first
    | refine xw_seq ?_
    | refine xw_block ?_
    | (refine ite_two ?_ ?_ <;> intro _ <;> first | (exfalso; omega) | skip)
    | refine ord_split (by kernel_rfl) ?_
    | (refine xw_ret ?_ <;> try simp only [sq, bl, LQ])
    | ((first | refine xw_reg ?_ | refine xw_regd ?_ | refine xw_if ?_ | refine xw_skip ?_ | refine xw_exit ?_ | refine xw_label ?_ | refine post_ret ?_ | refine post_normal ?_ | refine postE_ret ?_ | refine postE_normal ?_ | (((first | refine at_region ?_ | refine at_out ?_ | refine at_cond ?_); split) <;> first | (exfalso; omega; done) | skip)) <;> try simp (config := { maxSteps := 3000000 }) (disch := first | assumption | omega | exact VG.okg (by assumption) | (simp only [List.length_set, List.length_append, List.length_cons, List.length_nil, List.length_replicate]; omega)) only [go_sem, ↓reduceIte, Int.reduceLE, Int.reduceLT, Int.reduceToNat, Int.reduceNeg, Int.reduceAdd, Int.reduceSub, Int.reduceMul, Int.reduceEq, Int.reduceNe, Nat.reduceEqDiff, Nat.reduceAdd, Nat.reduceSub, Nat.reduceMul, Nat.reduceLT, Nat.reduceLeDiff, Nat.reduceBEq, Nat.reduceBNe, UInt8.reduceToNat, Tryz.results3, hdraw, hp, hs, hff, hfl, hd, hdn, decide_true]))
  refine xw_loopR (fun (i : Int) s => s.m 3 = some (.box 0 [I n, .i xv]) ∧ s.ρ 3 = .ptr 3 0 0 0 ∧ s.ρ 4 = I x ∧ s.ρ 5 = I y ∧ s.ρ 6 = LL ps ∧ s.ρ 10 = S (102 :: 108 :: 111 :: 119 :: (M ++ [10] ++ linesT [112, 97, 116, 104] (ps.take i.toNat))) ∧ s.ρ 11 = I i ∧ 0 ≤ i ∧ i ≤ ps.length) (fun i => (ps.length - i).toNat) 0 ?_ ?_
  · refine ⟨?_, ?_, ?_, ?_, ?_, ?_, ?_, by omega, by omega⟩
    all_goals (simp [upd, linesT]; done)
  rintro i ⟨ρ, m⟩ ⟨m3, e3, e4, e5, e6, e10, e11, g0, g1⟩
  simp only at m3 e3 e4 e5 e6 e10 e11 g0 g1
  by_cases hi : i < ps.length
  rotate_left
  · rw [take_all (by omega)] at e10
    repeat' (first
      | refine xw_seq ?_
      | refine xw_block ?_
      | (refine ite_two ?_ ?_ <;> intro _ <;> first | (exfalso; omega) | skip)
      | refine ord_split (by kernel_rfl) ?_
      | (refine xw_ret ?_ <;> try simp only [sq, bl, LQ])
      | ((first | refine xw_reg ?_ | refine xw_regd ?_ | refine xw_if ?_ | refine xw_skip ?_ | refine xw_exit ?_ | refine xw_label ?_ | refine post_ret ?_ | refine post_normal ?_ | refine postE_ret ?_ | refine postE_normal ?_ | (((first | refine at_region ?_ | refine at_out ?_ | refine at_cond ?_); split) <;> first | (exfalso; omega; done) | skip)) <;> try simp (config := { maxSteps := 3000000 }) (disch := first | assumption | omega | exact VG.okg (by assumption) | (simp only [List.length_set, List.length_append, List.length_cons, List.length_nil, List.length_replicate]; omega)) only [go_sem, ↓reduceIte, Int.reduceLE, Int.reduceLT, Int.reduceToNat, Int.reduceNeg, Int.reduceAdd, Int.reduceSub, Int.reduceMul, Int.reduceEq, Int.reduceNe, Nat.reduceEqDiff, Nat.reduceAdd, Nat.reduceSub, Nat.reduceMul, Nat.reduceLT, Nat.reduceLeDiff, Nat.reduceBEq, Nat.reduceBNe, UInt8.reduceToNat, Tryz.results3, m3, e3, e4, e5, e6, e10, e11, hff, hfl, hd2, hf, hr]))
  have hbi := hb2 i.toNat
  have hm := getD_mem (d := []) (show i.toNat < ps.length by omega)
  have hgi : (ps.map encL)[i.toNat]? = some [.lst ((ps.getD i.toNat []).map encI)] := by
    have : i.toNat < ps.length := by omega
    simp [encL, this]
  have hnx : linesT [112, 97, 116, 104] (ps.take (i + 1).toNat) = linesT [112, 97, 116, 104] (ps.take i.toNat) ++ ([112, 97, 116, 104] ++ numsT (ps.getD i.toNat []) ++ [10]) := by
    rw [take_int [] g0 hi, linesT_snoc]
  have hdn' := hdp _ hm
  have hl7 := numsT_len (ps.getD i.toNat [])
  have hl8 := (hs1 _ hm).2
  generalize linesT [112, 97, 116, 104] (ps.take i.toNat) = T at *
  generalize ps.getD i.toNat [] = p at *
  generalize numsT p = Q at *
  repeat' (first
    | refine xw_seq ?_
    | refine xw_block ?_
    | (refine ite_two ?_ ?_ <;> intro _ <;> first | (exfalso; omega) | skip)
    | refine ord_split (by kernel_rfl) ?_
    | (refine xw_ret ?_ <;> try simp only [sq, bl, LQ])
    | ((first | refine xw_reg ?_ | refine xw_regd ?_ | refine xw_if ?_ | refine xw_skip ?_ | refine xw_exit ?_ | refine xw_label ?_ | refine post_ret ?_ | refine post_normal ?_ | refine postE_ret ?_ | refine postE_normal ?_ | (((first | refine at_region ?_ | refine at_out ?_ | refine at_cond ?_); split) <;> first | (exfalso; omega; done) | skip)) <;> try simp (config := { maxSteps := 3000000 }) (disch := first | assumption | omega | exact VG.okg (by assumption) | (simp only [List.length_set, List.length_append, List.length_cons, List.length_nil, List.length_replicate]; omega)) only [go_sem, ↓reduceIte, Int.reduceLE, Int.reduceLT, Int.reduceToNat, Int.reduceNeg, Int.reduceAdd, Int.reduceSub, Int.reduceMul, Int.reduceEq, Int.reduceNe, Nat.reduceEqDiff, Nat.reduceAdd, Nat.reduceSub, Nat.reduceMul, Nat.reduceLT, Nat.reduceLeDiff, Nat.reduceBEq, Nat.reduceBNe, UInt8.reduceToNat, Tryz.results3, m3, e3, e4, e5, e6, e10, e11, hgi, hdn']))
  exact ⟨i + 1, by rw [hnx]; simp, rfl, by omega, by omega, by omega⟩
end Go.Proofs.YtdjdgnabcecdlaaGreatDoor.X
