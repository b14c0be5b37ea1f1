/- What functions compute: draws of graphs, and of a graph and an edge. -/
import Derived.Test.YtdjdgnabcecdlaaGreatDoorKAH
set_option linter.unusedSimpArgs false
set_option linter.unusedVariables false
set_option maxHeartbeats 8000000
namespace Go.Proofs.YtdjdgnabcecdlaaGreatDoor.X
open Go Go.Proofs
theorem c_DrawGraphValid (bs : List Int) (hb : ∀ b ∈ bs, 0 ≤ b ∧ b < 256) (hl : bs.length ≤ 1000000000) :
    ∃ (n : Int) (es : List (Int × Int)), 0 ≤ n ∧ n ≤ 17 ∧ es.length ≤ 40 ∧ KP 75 [LB bs] [] = some (GL n es, [], []) := by
  obtain ⟨cs, hcs, hopen⟩ := c_l14Open bs hb hl
  obtain ⟨n, es, p, hn1, hn2, ho, hes, hel, hp1, hp2, hdraw⟩ := c_l1Draw cs 0 hcs (by omega)
  obtain ⟨n1, es1, p1, a1, a2, a3, a4, a5, hw1⟩ := c_l1Wrong cs p n (qe es) es hcs (by omega) (EL.qe es) (by omega) (by omega)
  obtain ⟨n2, es2, p2, b1, b2, b3, b4, b5, hw2⟩ := c_l1Wrong cs p1 n1 (.lst (es1.map encE)) es1 hcs (by omega) (EL.lst es1) (by omega) (by omega)
  obtain ⟨n3, es3, p3, d1, d2, d3, d4, d5, hw3⟩ := c_l1Wrong cs p2 n2 (.lst (es2.map encE)) es2 hcs (by omega) (EL.lst es2) (by omega) (by omega)
  refine ⟨n3, es3, d1, d2, by omega, xw_call (fn := Tryz.f75) rfl Tryz.func75 rfl ⟨Nat.le_of_ble_eq_true rfl, rfl, rfl⟩ ?_⟩
  repeat' (first
    | refine xw_seq ?_
    | refine xw_block ?_
    | (refine ite_two ?_ ?_ <;> intro _ <;> first | (exfalso; omega) | skip)
    | refine ord_split (by kernel_rfl) ?_
    | (refine xw_ret ?_ <;> try simp only [sq, bl, LQ])
    | ((first | refine xw_reg ?_ | refine xw_regd ?_ | refine xw_if ?_ | refine xw_skip ?_ | refine xw_exit ?_ | refine xw_label ?_ | refine post_ret ?_ | refine post_normal ?_ | refine postE_ret ?_ | refine postE_normal ?_ | (((first | refine at_region ?_ | refine at_out ?_ | refine at_cond ?_); split) <;> first | (exfalso; omega; done) | skip)) <;> try simp (config := { maxSteps := 3000000 }) (disch := first | assumption | omega | exact VG.okg (by assumption) | (simp only [List.length_set, List.length_append, List.length_cons, List.length_nil, List.length_replicate]; omega)) only [go_sem, ↓reduceIte, Int.reduceLE, Int.reduceLT, Int.reduceToNat, Int.reduceNeg, Int.reduceAdd, Int.reduceSub, Int.reduceMul, Int.reduceEq, Int.reduceNe, Nat.reduceEqDiff, Nat.reduceAdd, Nat.reduceSub, Nat.reduceMul, Nat.reduceLT, Nat.reduceLeDiff, Nat.reduceBEq, Nat.reduceBNe, UInt8.reduceToNat, Tryz.results75, hopen, hdraw, hw1, hw2, hw3]))
theorem c_DrawBridgesOf (bs : List Int) (hb : ∀ b ∈ bs, 0 ≤ b ∧ b < 256) (hl : bs.length ≤ 1000000000) :
    ∃ (n : Int) (es : List (Int × Int)), 0 ≤ n ∧ n ≤ 17 ∧ es.length ≤ 40 ∧ KP 51 [LB bs] [] = some (GL n es, [], []) := by
  obtain ⟨n, es, h1, h2, h3, hd⟩ := c_DrawGraphValid bs hb hl
  refine ⟨n, es, h1, h2, h3, xw_call (fn := Tryz.f51) rfl Tryz.func51 rfl ⟨Nat.le_of_ble_eq_true rfl, rfl, rfl⟩ ?_⟩
  repeat' (first
    | refine xw_seq ?_
    | refine xw_block ?_
    | (refine ite_two ?_ ?_ <;> intro _ <;> first | (exfalso; omega) | skip)
    | refine ord_split (by kernel_rfl) ?_
    | (refine xw_ret ?_ <;> try simp only [sq, bl, LQ])
    | ((first | refine xw_reg ?_ | refine xw_regd ?_ | refine xw_if ?_ | refine xw_skip ?_ | refine xw_exit ?_ | refine xw_label ?_ | refine post_ret ?_ | refine post_normal ?_ | refine postE_ret ?_ | refine postE_normal ?_ | (((first | refine at_region ?_ | refine at_out ?_ | refine at_cond ?_); split) <;> first | (exfalso; omega; done) | skip)) <;> try simp (config := { maxSteps := 3000000 }) (disch := first | assumption | omega | exact VG.okg (by assumption) | (simp only [List.length_set, List.length_append, List.length_cons, List.length_nil, List.length_replicate]; omega)) only [go_sem, ↓reduceIte, Int.reduceLE, Int.reduceLT, Int.reduceToNat, Int.reduceNeg, Int.reduceAdd, Int.reduceSub, Int.reduceMul, Int.reduceEq, Int.reduceNe, Nat.reduceEqDiff, Nat.reduceAdd, Nat.reduceSub, Nat.reduceMul, Nat.reduceLT, Nat.reduceLeDiff, Nat.reduceBEq, Nat.reduceBNe, UInt8.reduceToNat, Tryz.results51, hd]))
end Go.Proofs.YtdjdgnabcecdlaaGreatDoor.X
