/- What functions compute: draws of two edges, all cases. -/
import Derived.Test.YtbaholclcfpknaaC42
set_option linter.unusedSimpArgs false
set_option linter.unusedVariables false
set_option maxHeartbeats 8000000
namespace Go.Proofs.Ytbaholclcfpknaa.X
open Go Go.Proofs

theorem dsb_own {bs cs : List Int} {n p : Int} {es : List (Int × Int)} (hopen : KP 94 [LB bs] [] = some (.ptr 2000 0 0 0, [], [Rd cs 0])) (n0 : 0 ≤ n) (n1 : n ≤ 17) (hel : es.length ≤ 40) (p0 : 0 ≤ p) (p1 : p ≤ 0 + 100) (hsm : KP 93 [.ptr 1000 0 0 0] [Rd cs 0] = some (GL n es, [Rd cs p], [])) (hz : es.length ≠ 0) {j k w : Int} (hj' : 0 ≤ j ∧ j < es.length) (hk' : 0 ≤ k ∧ k < es.length) (hpj : KP 145 [.ptr 1000 0 0 0, I es.length] [Rd cs p] = some (I j, [Rd cs (p + 1)], [])) (hpk : KP 145 [.ptr 1000 0 0 0, I es.length] [Rd cs (p + 1)] = some (I k, [Rd cs (p + 1 + 1)], [])) (hpw : KP 145 [.ptr 1000 0 0 0, I 12] [Rd cs (p + 1 + 1)] = some (I w, [Rd cs (p + 1 + 1 + 1)], [])) (hw0 : w ≠ 0) : KP 82 [LB bs] [] = some (.tup [GL n es, PE (es.getD j.toNat (0, 0)).1 (es.getD j.toNat (0, 0)).2, PE (es.getD k.toNat (0, 0)).1 (es.getD k.toNat (0, 0)).2], [], []) := by
  refine xw_call (fn := Try.f82) rfl Try.func82 rfl ⟨Nat.le_of_ble_eq_true rfl, rfl, rfl⟩ ?_
  repeat' (first
    | refine xw_seq ?_
    | refine xw_block ?_
    | (refine ite_two ?_ ?_ <;> intro _ <;> first | (exfalso; omega) | skip)
    | refine ord_split (by kernel_rfl) ?_
    | (refine xw_ret ?_ <;> try simp only [sq, bl, LQ])
    | ((first | refine xw_reg ?_ | refine xw_regd ?_ | refine xw_if ?_ | refine xw_skip ?_ | refine xw_exit ?_ | refine xw_label ?_) <;> simp (config := { maxSteps := 3000000 }) (disch := first | assumption | omega | exact VG.okg (by assumption) | (simp only [List.length_set, List.length_append, List.length_cons, List.length_nil, List.length_replicate]; omega)) only [go_sem, ↓reduceIte, Int.reduceLE, Int.reduceLT, Int.reduceToNat, Int.reduceNeg, Int.reduceAdd, Int.reduceSub, Int.reduceMul, Int.reduceEq, Int.reduceNe, Nat.reduceEqDiff, Nat.reduceAdd, Nat.reduceSub, Nat.reduceMul, Nat.reduceLT, Nat.reduceLeDiff, Nat.reduceBEq, Nat.reduceBNe, Try.results82, hopen, hsm, hpj, hpk, hpw, hw0])
    | (((first | refine at_region ?_ | refine at_out ?_ | refine at_cond ?_); split) <;> first | (exfalso; omega; done) | simp (config := { maxSteps := 3000000 }) (disch := first | assumption | omega | exact VG.okg (by assumption) | (simp only [List.length_set, List.length_append, List.length_cons, List.length_nil, List.length_replicate]; omega)) only [go_sem, ↓reduceIte, Int.reduceLE, Int.reduceLT, Int.reduceToNat, Int.reduceNeg, Int.reduceAdd, Int.reduceSub, Int.reduceMul, Int.reduceEq, Int.reduceNe, Nat.reduceEqDiff, Nat.reduceAdd, Nat.reduceSub, Nat.reduceMul, Nat.reduceLT, Nat.reduceLeDiff, Nat.reduceBEq, Nat.reduceBNe, Try.results82, hopen, hsm, hpj, hpk, hpw, hw0] | skip))
  all_goals
    refine post_ret3 (GL n es) (PE (es.getD j.toNat (0, 0)).1 (es.getD j.toNat (0, 0)).2) (PE (es.getD k.toNat (0, 0)).1 (es.getD k.toNat (0, 0)).2) rfl ?_ ?_ ?_ ?_
    all_goals simp only [go_sem, ↓reduceIte, Int.reduceLE, Int.reduceLT, Int.reduceToNat, Int.reduceNeg, Int.reduceAdd, Int.reduceSub, Int.reduceMul, Int.reduceEq, Int.reduceNe, Nat.reduceEqDiff, Nat.reduceAdd, Nat.reduceSub, Nat.reduceMul, Nat.reduceLT, Nat.reduceLeDiff, Nat.reduceBEq, Nat.reduceBNe, resP, outRest, tupR, lookBack]

theorem dsb_new {bs cs : List Int} {n p : Int} {es : List (Int × Int)} (hopen : KP 94 [LB bs] [] = some (.ptr 2000 0 0 0, [], [Rd cs 0])) (n0 : 0 ≤ n) (n1 : n ≤ 17) (hel : es.length ≤ 40) (p0 : 0 ≤ p) (p1 : p ≤ 0 + 100) (hsm : KP 93 [.ptr 1000 0 0 0] [Rd cs 0] = some (GL n es, [Rd cs p], [])) (hz : es.length ≠ 0) {j k w : Int} (hj' : 0 ≤ j ∧ j < es.length) (hk' : 0 ≤ k ∧ k < es.length) (hpj : KP 145 [.ptr 1000 0 0 0, I es.length] [Rd cs p] = some (I j, [Rd cs (p + 1)], [])) (hpk : KP 145 [.ptr 1000 0 0 0, I es.length] [Rd cs (p + 1)] = some (I k, [Rd cs (p + 1 + 1)], [])) (hpw : KP 145 [.ptr 1000 0 0 0, I 12] [Rd cs (p + 1 + 1)] = some (I w, [Rd cs (p + 1 + 1 + 1)], [])) (hw0 : w = 0) {x y : Int} (hnx : KP 137 [.ptr 1000 0 0 0, .ref 1001 0 0 3] [Rd cs (p + 1 + 1 + 1), .arr 0 1 [[.v (.int .i64 0)], [.v (.int .i64 1)], [.v (.int .i64 (-1))]]] = some (I x, [Rd cs (p + 1 + 1 + 1 + 1), .arr 0 1 [[.v (.int .i64 0)], [.v (.int .i64 1)], [.v (.int .i64 (-1))]]], [])) (hny : KP 137 [.ptr 1000 0 0 0, .ref 1001 0 0 3] [Rd cs (p + 1 + 1 + 1 + 1), .arr 0 1 [[.v (.int .i64 3)], [.v (.int .i64 16)], [.v (.int .i64 2)]]] = some (I y, [Rd cs (p + 1 + 1 + 1 + 1 + 1), .arr 0 1 [[.v (.int .i64 3)], [.v (.int .i64 16)], [.v (.int .i64 2)]]], [])) : KP 82 [LB bs] [] = some (.tup [GL n es, PE (es.getD j.toNat (0, 0)).1 (es.getD j.toNat (0, 0)).2, PE x y], [], []) := by
  subst hw0
  refine xw_call (fn := Try.f82) rfl Try.func82 rfl ⟨Nat.le_of_ble_eq_true rfl, rfl, rfl⟩ ?_
  repeat' (first
    | refine xw_seq ?_
    | refine xw_block ?_
    | (refine ite_two ?_ ?_ <;> intro _ <;> first | (exfalso; omega) | skip)
    | refine ord_split (by kernel_rfl) ?_
    | (refine xw_ret ?_ <;> try simp only [sq, bl, LQ])
    | ((first | refine xw_reg ?_ | refine xw_regd ?_ | refine xw_if ?_ | refine xw_skip ?_ | refine xw_exit ?_ | refine xw_label ?_) <;> simp (config := { maxSteps := 3000000 }) (disch := first | assumption | omega | exact VG.okg (by assumption) | (simp only [List.length_set, List.length_append, List.length_cons, List.length_nil, List.length_replicate]; omega)) only [go_sem, ↓reduceIte, Int.reduceLE, Int.reduceLT, Int.reduceToNat, Int.reduceNeg, Int.reduceAdd, Int.reduceSub, Int.reduceMul, Int.reduceEq, Int.reduceNe, Nat.reduceEqDiff, Nat.reduceAdd, Nat.reduceSub, Nat.reduceMul, Nat.reduceLT, Nat.reduceLeDiff, Nat.reduceBEq, Nat.reduceBNe, Try.results82, hopen, hsm, hpj, hpk, hpw, hnx, hny])
    | (((first | refine at_region ?_ | refine at_out ?_ | refine at_cond ?_); split) <;> first | (exfalso; omega; done) | simp (config := { maxSteps := 3000000 }) (disch := first | assumption | omega | exact VG.okg (by assumption) | (simp only [List.length_set, List.length_append, List.length_cons, List.length_nil, List.length_replicate]; omega)) only [go_sem, ↓reduceIte, Int.reduceLE, Int.reduceLT, Int.reduceToNat, Int.reduceNeg, Int.reduceAdd, Int.reduceSub, Int.reduceMul, Int.reduceEq, Int.reduceNe, Nat.reduceEqDiff, Nat.reduceAdd, Nat.reduceSub, Nat.reduceMul, Nat.reduceLT, Nat.reduceLeDiff, Nat.reduceBEq, Nat.reduceBNe, Try.results82, hopen, hsm, hpj, hpk, hpw, hnx, hny] | skip))
  all_goals
    refine post_ret3 (GL n es) (PE (es.getD j.toNat (0, 0)).1 (es.getD j.toNat (0, 0)).2) (PE x y) rfl ?_ ?_ ?_ ?_
    all_goals simp only [go_sem, ↓reduceIte, Int.reduceLE, Int.reduceLT, Int.reduceToNat, Int.reduceNeg, Int.reduceAdd, Int.reduceSub, Int.reduceMul, Int.reduceEq, Int.reduceNe, Nat.reduceEqDiff, Nat.reduceAdd, Nat.reduceSub, Nat.reduceMul, Nat.reduceLT, Nat.reduceLeDiff, Nat.reduceBEq, Nat.reduceBNe, resP, outRest, tupR, lookBack]

theorem c_DrawSameBlock (bs : List Int) (hb : ∀ b ∈ bs, 0 ≤ b ∧ b < 256) (hl : bs.length ≤ 1000000000) :
    ∃ (n : Int) (es : List (Int × Int)) (a b c d : Int), 0 ≤ n ∧ n ≤ 17 ∧ es.length ≤ 40 ∧ KP 82 [LB bs] [] = some (.tup [GL n es, PE a b, PE c d], [], []) := by
  obtain ⟨cs, hcs, hopen⟩ := c_l14Open bs hb hl
  obtain ⟨n, es, p, n0, n1, hel, p0, p1, hsm⟩ := c_l5Small cs 0 hcs (by omega)
  by_cases hz : es.length = 0
  · exact ⟨n, es, 0, 1, 0, 1, n0, n1, hel, dsb_nil hopen n0 n1 hel p0 p1 hsm hz⟩
  obtain ⟨j, hj, _, hpj⟩ := c_pick cs p es.length hcs (by omega) (by omega)
  have hj' := hj (by omega)
  obtain ⟨k, hk, _, hpk⟩ := c_pick cs (p + 1) es.length hcs (by omega) (by omega)
  have hk' := hk (by omega)
  obtain ⟨w, hw, _, hpw⟩ := c_pick cs (p + 1 + 1) 12 hcs (by omega) (by omega)
  by_cases hw0 : w = 0
  · obtain ⟨x, _, hnx⟩ := c_num cs (p + 1 + 1 + 1) [0, 1, -1] hcs (by omega) (by simp) (by simp)
    obtain ⟨y, _, hny⟩ := c_num cs (p + 1 + 1 + 1 + 1) [3, 16, 2] hcs (by omega) (by simp) (by simp)
    exact ⟨n, es, _, _, x, y, n0, n1, hel, dsb_new hopen n0 n1 hel p0 p1 hsm hz hj' hk' hpj hpk hpw hw0 hnx hny⟩
  · exact ⟨n, es, _, _, _, _, n0, n1, hel, dsb_own hopen n0 n1 hel p0 p1 hsm hz hj' hk' hpj hpk hpw hw0⟩
end Go.Proofs.Ytbaholclcfpknaa.X

