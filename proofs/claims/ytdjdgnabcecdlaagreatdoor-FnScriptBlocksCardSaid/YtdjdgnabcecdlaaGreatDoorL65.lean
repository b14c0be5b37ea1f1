/- The law: scripts tell blocks. -/
import Derived.Test.YtdjdgnabcecdlaaGreatDoorC110
set_option linter.unusedSimpArgs false
set_option linter.unusedVariables false
set_option maxHeartbeats 8000000
set_option maxRecDepth 100000
namespace Go.Proofs.YtdjdgnabcecdlaaGreatDoor.X
open Go Go.Proofs
theorem law_ScriptBlocks (bs : List Int) (hb : ∀ b ∈ bs, 0 ≤ b ∧ b < 256) : KP 12 [LB bs] [] = some (B true, [], []) := by
  by_cases hbig : (1048576 : Int) < bs.length
  · refine xw_call (fn := Tryz.f12) rfl Tryz.func12 rfl ⟨Nat.le_of_ble_eq_true rfl, rfl, rfl⟩ ?_
    repeat' (first
      | refine xw_seq ?_
      | refine xw_block ?_
      | (refine ite_two ?_ ?_ <;> intro _ <;> first | (exfalso; omega) | skip)
      | refine ord_split (by kernel_rfl) ?_
      | (refine xw_ret ?_ <;> try simp only [sq, bl, LQ])
      | ((first | refine xw_reg ?_ | refine xw_regd ?_ | refine xw_if ?_ | refine xw_skip ?_ | refine xw_exit ?_ | refine xw_label ?_ | refine post_ret ?_ | refine post_normal ?_ | refine postE_ret ?_ | refine postE_normal ?_ | (((first | refine at_region ?_ | refine at_out ?_ | refine at_cond ?_); split) <;> first | (exfalso; omega; done) | skip)) <;> try simp (config := { maxSteps := 3000000 }) (disch := first | assumption | omega | exact VG.okg (by assumption) | (simp only [List.length_set, List.length_append, List.length_cons, List.length_nil, List.length_replicate]; omega)) only [go_sem, ↓reduceIte, Int.reduceLE, Int.reduceLT, Int.reduceToNat, Int.reduceNeg, Int.reduceAdd, Int.reduceSub, Int.reduceMul, Int.reduceEq, Int.reduceNe, Nat.reduceEqDiff, Nat.reduceAdd, Nat.reduceSub, Nat.reduceMul, Nat.reduceLT, Nat.reduceLeDiff, Nat.reduceBEq, Nat.reduceBNe, UInt8.reduceToNat, Tryz.results12]))
  obtain ⟨n, es, n0, n1, hl, hdraw⟩ := c_DrawBlocksOf bs hb (by omega)
  have hp := c_BlocksOf n es (by omega)
  have hs := c_sBlocksOf n es (by omega)
  have hg := c_GraphValid n es (by omega)
  by_cases hV : VG n es
  rotate_left
  · rw [if_neg hV] at hp hs
    rw [decide_eq_false hV] at hg
    have hd : KP 58 [.i (.lst []), .i (.lst [])] [] = some (B true, [], []) := c_dyBlocks [] (by simp) (by simp)
    refine xw_call (fn := Tryz.f12) rfl Tryz.func12 rfl ⟨Nat.le_of_ble_eq_true rfl, rfl, rfl⟩ ?_
    repeat' (first
      | refine xw_seq ?_
      | refine xw_block ?_
      | (refine ite_two ?_ ?_ <;> intro _ <;> first | (exfalso; omega) | skip)
      | refine ord_split (by kernel_rfl) ?_
      | (refine xw_ret ?_ <;> try simp only [sq, bl, LQ])
      | ((first | refine xw_reg ?_ | refine xw_regd ?_ | refine xw_if ?_ | refine xw_skip ?_ | refine xw_exit ?_ | refine xw_label ?_ | refine post_ret ?_ | refine post_normal ?_ | refine postE_ret ?_ | refine postE_normal ?_ | (((first | refine at_region ?_ | refine at_out ?_ | refine at_cond ?_); split) <;> first | (exfalso; omega; done) | skip)) <;> try simp (config := { maxSteps := 3000000 }) (disch := first | assumption | omega | exact VG.okg (by assumption) | (simp only [List.length_set, List.length_append, List.length_cons, List.length_nil, List.length_replicate]; omega)) only [go_sem, ↓reduceIte, Int.reduceLE, Int.reduceLT, Int.reduceToNat, Int.reduceNeg, Int.reduceAdd, Int.reduceSub, Int.reduceMul, Int.reduceEq, Int.reduceNe, Nat.reduceEqDiff, Nat.reduceAdd, Nat.reduceSub, Nat.reduceMul, Nat.reduceLT, Nat.reduceLeDiff, Nat.reduceBEq, Nat.reduceBNe, UInt8.reduceToNat, Tryz.results12, hdraw, hp, hs, hg, hd, List.map_nil]))
  rw [if_pos hV] at hp hs
  rw [decide_eq_true hV] at hg
  have hf := c_FormatGraph n es (by omega)
  rw [if_pos hV] at hf
  have hld := ld hV
  have hV' : VG n (esT (ldT es)) := by rw [hld.es']; exact hV
  have h1 := line_word _ (by decide) (by simp) (c_wl_blocks n _ _ _ (ldT es) (ld3 hV) hV')
  rw [hld.es'] at h1
  obtain ⟨hs1, hs2⟩ := blocks_small hV
  have l4 := fmtG_len n es
  have hd := c_dyBlocks (blocksL es) (by omega) (fun p hp => by have := (hs1 p hp).2; omega)
  generalize blocksL es = ps at *
  have hb1 := fun k : Nat => linesE_len [98, 108, 111, 99, 107] 40 (ps.take k) (fun p hp => (hs1 p (List.mem_of_mem_take hp)).2)
  have hb2 : ∀ k : Nat, (linesE [98, 108, 111, 99, 107] (ps.take k)).length ≤ 40 * 246 := fun k => Nat.le_trans (hb1 k) (Nat.mul_le_mul (by rw [List.length_take]; omega) (by simp))
  have hb3 := hb2 ps.length
  rw [List.take_length] at hb3
  have hr := script1 hV (by decide) (by simp) (by simp) (by simp only [List.length_append, List.length_cons, List.length_nil]; omega) h1
  have hdp : ∀ p ∈ ps, KP 38 [LE p] [] = some (S (edsT p), [], []) := fun p hp => c_dyText p (hs1 p hp).1 (by have := (hs1 p hp).2; omega)
  generalize fmtG n es = F at *
  have e1 : (103 :: 114 :: 97 :: 112 :: 104 :: 32 :: (F ++ 10 :: ([98, 108, 111, 99, 107, 115] ++ [10])) : List UInt8) = 103 :: 114 :: 97 :: 112 :: 104 :: 32 :: (F ++ [10, 98, 108, 111, 99, 107, 115, 10]) := by simp
  rw [e1] at hr
  refine xw_call (fn := Tryz.f12) rfl Tryz.func12 rfl ⟨Nat.le_of_ble_eq_true rfl, rfl, rfl⟩ ?_
  repeat' (first
    | refine xw_seq ?_
    | refine xw_block ?_
    | (refine ite_two ?_ ?_ <;> intro _ <;> first | (exfalso; omega) | skip)
    | refine ord_split (by kernel_rfl) ?_
    | (refine xw_ret ?_ <;> try simp only [sq, bl, LQ])
    | ((first | refine xw_reg ?_ | refine xw_regd ?_ | refine xw_if ?_ | refine xw_skip ?_ | refine xw_exit ?_ | refine xw_label ?_ | refine post_ret ?_ | refine post_normal ?_ | refine postE_ret ?_ | refine postE_normal ?_ | (((first | refine at_region ?_ | refine at_out ?_ | refine at_cond ?_); split) <;> first | (exfalso; omega; done) | skip)) <;> try simp (config := { maxSteps := 3000000 }) (disch := first | assumption | omega | exact VG.okg (by assumption) | (simp only [List.length_set, List.length_append, List.length_cons, List.length_nil, List.length_replicate]; omega)) only [go_sem, ↓reduceIte, Int.reduceLE, Int.reduceLT, Int.reduceToNat, Int.reduceNeg, Int.reduceAdd, Int.reduceSub, Int.reduceMul, Int.reduceEq, Int.reduceNe, Nat.reduceEqDiff, Nat.reduceAdd, Nat.reduceSub, Nat.reduceMul, Nat.reduceLT, Nat.reduceLeDiff, Nat.reduceBEq, Nat.reduceBNe, UInt8.reduceToNat, Tryz.results12, hdraw, hp, hs, hg, hd]))
  refine xw_loopR (fun (i : Int) s => s.m 3 = some (.box 0 [I n, LE es]) ∧ s.ρ 3 = .ptr 3 0 0 0 ∧ s.ρ 4 = LLE ps ∧ s.ρ 5 = S (linesE [98, 108, 111, 99, 107] (ps.take i.toNat)) ∧ s.ρ 6 = I i ∧ 0 ≤ i ∧ i ≤ ps.length) (fun i => (ps.length - i).toNat) 0 ?_ ?_
  · refine ⟨?_, ?_, ?_, ?_, ?_, by omega, by omega⟩
    all_goals (simp [upd, linesE]; done)
  rintro i ⟨ρ, m⟩ ⟨m3, e3, e4, e5, e6, g0, g1⟩
  simp only at m3 e3 e4 e5 e6 g0 g1
  have hbi := hb2 i.toNat
  by_cases hi : i < ps.length
  rotate_left
  · rw [take_all (by omega)] at e5
    repeat' (first
      | refine xw_seq ?_
      | refine xw_block ?_
      | (refine ite_two ?_ ?_ <;> intro _ <;> first | (exfalso; omega) | skip)
      | refine ord_split (by kernel_rfl) ?_
      | (refine xw_ret ?_ <;> try simp only [sq, bl, LQ])
      | ((first | refine xw_reg ?_ | refine xw_regd ?_ | refine xw_if ?_ | refine xw_skip ?_ | refine xw_exit ?_ | refine xw_label ?_ | refine post_ret ?_ | refine post_normal ?_ | refine postE_ret ?_ | refine postE_normal ?_ | (((first | refine at_region ?_ | refine at_out ?_ | refine at_cond ?_); split) <;> first | (exfalso; omega; done) | skip)) <;> try simp (config := { maxSteps := 3000000 }) (disch := first | assumption | omega | exact VG.okg (by assumption) | (simp only [List.length_set, List.length_append, List.length_cons, List.length_nil, List.length_replicate]; omega)) only [go_sem, ↓reduceIte, Int.reduceLE, Int.reduceLT, Int.reduceToNat, Int.reduceNeg, Int.reduceAdd, Int.reduceSub, Int.reduceMul, Int.reduceEq, Int.reduceNe, Nat.reduceEqDiff, Nat.reduceAdd, Nat.reduceSub, Nat.reduceMul, Nat.reduceLT, Nat.reduceLeDiff, Nat.reduceBEq, Nat.reduceBNe, UInt8.reduceToNat, Tryz.results12, m3, e3, e4, e5, e6, hf, hr]))
  have hm := getD_mem (d := []) (show i.toNat < ps.length by omega)
  have hgi : (ps.map encLE)[i.toNat]? = some [.lst ((ps.getD i.toNat []).map encE)] := by
    have : i.toNat < ps.length := by omega
    simp [encLE, this]
  have hnx : linesE [98, 108, 111, 99, 107] (ps.take (i + 1).toNat) = linesE [98, 108, 111, 99, 107] (ps.take i.toNat) ++ ([98, 108, 111, 99, 107] ++ edsT (ps.getD i.toNat []) ++ [10]) := by
    rw [take_int [] g0 hi, linesE_snoc]
  have hdn' := hdp _ hm
  have hl7 := edsT_len (ps.getD i.toNat [])
  have hl8 := (hs1 _ hm).2
  generalize linesE [98, 108, 111, 99, 107] (ps.take i.toNat) = T at *
  generalize ps.getD i.toNat [] = p at *
  generalize edsT p = Q at *
  repeat' (first
    | refine xw_seq ?_
    | refine xw_block ?_
    | (refine ite_two ?_ ?_ <;> intro _ <;> first | (exfalso; omega) | skip)
    | refine ord_split (by kernel_rfl) ?_
    | (refine xw_ret ?_ <;> try simp only [sq, bl, LQ])
    | ((first | refine xw_reg ?_ | refine xw_regd ?_ | refine xw_if ?_ | refine xw_skip ?_ | refine xw_exit ?_ | refine xw_label ?_ | refine post_ret ?_ | refine post_normal ?_ | refine postE_ret ?_ | refine postE_normal ?_ | (((first | refine at_region ?_ | refine at_out ?_ | refine at_cond ?_); split) <;> first | (exfalso; omega; done) | skip)) <;> try simp (config := { maxSteps := 3000000 }) (disch := first | assumption | omega | exact VG.okg (by assumption) | (simp only [List.length_set, List.length_append, List.length_cons, List.length_nil, List.length_replicate]; omega)) only [go_sem, ↓reduceIte, Int.reduceLE, Int.reduceLT, Int.reduceToNat, Int.reduceNeg, Int.reduceAdd, Int.reduceSub, Int.reduceMul, Int.reduceEq, Int.reduceNe, Nat.reduceEqDiff, Nat.reduceAdd, Nat.reduceSub, Nat.reduceMul, Nat.reduceLT, Nat.reduceLeDiff, Nat.reduceBEq, Nat.reduceBNe, UInt8.reduceToNat, Tryz.results12, m3, e3, e4, e5, e6, hgi, hdn']))
  exact ⟨i + 1, by rw [hnx]; simp, rfl, by omega, by omega, by omega⟩
end Go.Proofs.YtdjdgnabcecdlaaGreatDoor.X
