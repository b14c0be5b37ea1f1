/- What functions compute: draws of graphs, and of a graph and an edge. -/
import Derived.Test.YtdjdgnabcecdlaaGreatDoorKAE
set_option linter.unusedSimpArgs false
set_option linter.unusedVariables false
set_option maxHeartbeats 8000000
namespace Go.Proofs.YtdjdgnabcecdlaaGreatDoor.X
open Go Go.Proofs
theorem case1 {bs cs : List Int} {n p : Int} {es : List (Int × Int)} (hcs : bytes cs) (hopen : KP 94 [LB bs] [] = some (.ptr 2000 0 0 0, [], [Rd cs 0])) (hn1 : 1 ≤ n) (hn2 : n ≤ 16) (hel : es.length ≤ 30) (hp1 : 0 ≤ p) (hp2 : p ≤ 0 + 100)
    (hdraw : KP 142 [.ptr 1000 0 0 0] [Rd cs 0] = some (.agg [I n, .i (qe es)], [Rd cs p], []))
    (hz : 0 < es.length) {w : Int} (w0 : 0 ≤ w) (w1 : ¬ w = 0) (hpw : KP 96 [.ptr 1000 0 0 0, I 2] [Rd cs p] = some (I w, [Rd cs (p + 1)], [])) {u : Int} (hu : u = 0) (hpu : KP 96 [.ptr 1000 0 0 0, I 16] [Rd cs (p + 1)] = some (I u, [Rd cs (p + 1 + 1)], [])) :
    ∃ (n : Int) (x : IV) (es : List (Int × Int)) (a b : Int), 0 ≤ n ∧ n ≤ 17 ∧ es.length ≤ 40 ∧ EQ x es ∧ KP 79 [LB bs] [] = some (.tup [.agg [I n, .i x], PE a b], [], []) := by
  have hll := lenP_qe (es := es)
  have hia := (EQ.qe es).ia
  have hfq := (EL.qe es).f
  have hflq := (EL.qe es).fl
  obtain ⟨a, ha, hna⟩ := c_num cs (p + 1 + 1) [1, -1, 3] hcs (by omega) (by simp) (by simp)
  obtain ⟨b, hb', hnb⟩ := c_num cs (p + 1 + 1 + 1) [0, 16, 1] hcs (by omega) (by simp) (by simp)
  simp only [List.map_cons, List.map_nil, encI, List.length_cons, List.length_nil, Nat.reduceAdd] at hna hnb
  refine ⟨n, qe es, es, a, b, by omega, by omega, by omega, EQ.qe es, xw_call (fn := Tryz.f79) rfl Tryz.func79 rfl ⟨Nat.le_of_ble_eq_true rfl, rfl, rfl⟩ ?_⟩
  repeat' (first
    | refine xw_seq ?_
    | refine xw_block ?_
    | (refine ite_two ?_ ?_ <;> intro _ <;> first | (exfalso; omega) | skip)
    | refine ord_split (by kernel_rfl) ?_
    | (refine xw_ret ?_ <;> try simp only [sq, bl, LQ])
    | ((first | refine xw_reg ?_ | refine xw_regd ?_ | refine xw_if ?_ | refine xw_skip ?_ | refine xw_exit ?_ | refine xw_label ?_ | refine post_ret ?_ | refine post_normal ?_ | refine postE_ret ?_ | refine postE_normal ?_) <;> simp (config := { maxSteps := 3000000 }) (disch := first | assumption | omega | exact VG.okg (by assumption) | (simp only [List.length_set, List.length_append, List.length_cons, List.length_nil, List.length_replicate]; omega)) only [go_sem, ↓reduceIte, Int.reduceLE, Int.reduceLT, Int.reduceToNat, Int.reduceNeg, Int.reduceAdd, Int.reduceSub, Int.reduceMul, Int.reduceEq, Int.reduceNe, Nat.reduceEqDiff, Nat.reduceAdd, Nat.reduceSub, Nat.reduceMul, Nat.reduceLT, Nat.reduceLeDiff, Nat.reduceBEq, Nat.reduceBNe, UInt8.reduceToNat, Tryz.results79, hopen, hdraw, hll, hpw, hpu, hna, hnb, hfq, hflq])
    | (((first | refine at_region ?_ | refine at_out ?_ | refine at_cond ?_); split) <;> first | (exfalso; omega; done) | simp (config := { maxSteps := 3000000 }) (disch := first | assumption | omega | exact VG.okg (by assumption) | (simp only [List.length_set, List.length_append, List.length_cons, List.length_nil, List.length_replicate]; omega)) only [go_sem, ↓reduceIte, Int.reduceLE, Int.reduceLT, Int.reduceToNat, Int.reduceNeg, Int.reduceAdd, Int.reduceSub, Int.reduceMul, Int.reduceEq, Int.reduceNe, Nat.reduceEqDiff, Nat.reduceAdd, Nat.reduceSub, Nat.reduceMul, Nat.reduceLT, Nat.reduceLeDiff, Nat.reduceBEq, Nat.reduceBNe, UInt8.reduceToNat, Tryz.results79, hopen, hdraw, hll, hpw, hpu, hna, hnb, hfq, hflq] | skip))
theorem case2 {bs cs : List Int} {n p : Int} {es : List (Int × Int)} (hcs : bytes cs) (hopen : KP 94 [LB bs] [] = some (.ptr 2000 0 0 0, [], [Rd cs 0])) (hn1 : 1 ≤ n) (hn2 : n ≤ 16) (hel : es.length ≤ 30) (hp1 : 0 ≤ p) (hp2 : p ≤ 0 + 100)
    (hdraw : KP 142 [.ptr 1000 0 0 0] [Rd cs 0] = some (.agg [I n, .i (qe es)], [Rd cs p], []))
    (hz : 0 < es.length) {w : Int} (w0 : 0 ≤ w) (w1 : ¬ w = 0) (hpw : KP 96 [.ptr 1000 0 0 0, I 2] [Rd cs p] = some (I w, [Rd cs (p + 1)], [])) {u : Int} (hu : 0 < u) (hpu : KP 96 [.ptr 1000 0 0 0, I 16] [Rd cs (p + 1)] = some (I u, [Rd cs (p + 1 + 1)], [])) :
    ∃ (n : Int) (x : IV) (es : List (Int × Int)) (a b : Int), 0 ≤ n ∧ n ≤ 17 ∧ es.length ≤ 40 ∧ EQ x es ∧ KP 79 [LB bs] [] = some (.tup [.agg [I n, .i x], PE a b], [], []) := by
  have hll := lenP_qe (es := es)
  have hia := (EQ.qe es).ia
  have hfq := (EL.qe es).f
  have hflq := (EL.qe es).fl
  obtain ⟨v, hv, _, hpv⟩ := c_pick cs (p + 1 + 1) n hcs (by omega) (by omega)
  obtain ⟨v', hv', _, hpv'⟩ := c_pick cs (p + 1 + 1 + 1) n hcs (by omega) (by omega)
  obtain ⟨n1, es1, p1, a1, a2, a3, a4, a5, hw1⟩ := c_l1Wrong cs (p + 1 + 1 + 1 + 1) n (qe es) es hcs (by omega) (EL.qe es) (by omega) (by omega)
  refine ⟨n1, .lst (es1.map encE), es1, (edgeOf v v').1, (edgeOf v v').2, by omega, by omega, by omega, EQ.lst es1, xw_call (fn := Tryz.f79) rfl Tryz.func79 rfl ⟨Nat.le_of_ble_eq_true rfl, rfl, rfl⟩ ?_⟩
  repeat' (first
    | refine xw_seq ?_
    | refine xw_block ?_
    | (refine ite_two ?_ ?_ <;> intro _ <;> first | (exfalso; omega) | skip)
    | refine ord_split (by kernel_rfl) ?_
    | (refine xw_ret ?_ <;> try simp only [sq, bl, LQ])
    | ((first | refine xw_reg ?_ | refine xw_regd ?_ | refine xw_if ?_ | refine xw_skip ?_ | refine xw_exit ?_ | refine xw_label ?_ | refine post_ret ?_ | refine post_normal ?_ | refine postE_ret ?_ | refine postE_normal ?_) <;> simp (config := { maxSteps := 3000000 }) (disch := first | assumption | omega | exact VG.okg (by assumption) | (simp only [List.length_set, List.length_append, List.length_cons, List.length_nil, List.length_replicate]; omega)) only [go_sem, ↓reduceIte, Int.reduceLE, Int.reduceLT, Int.reduceToNat, Int.reduceNeg, Int.reduceAdd, Int.reduceSub, Int.reduceMul, Int.reduceEq, Int.reduceNe, Nat.reduceEqDiff, Nat.reduceAdd, Nat.reduceSub, Nat.reduceMul, Nat.reduceLT, Nat.reduceLeDiff, Nat.reduceBEq, Nat.reduceBNe, UInt8.reduceToNat, Tryz.results79, hopen, hdraw, hll, hpw, hpu, hpv, hpv', hw1, hfq, hflq])
    | (((first | refine at_region ?_ | refine at_out ?_ | refine at_cond ?_); split) <;> first | (exfalso; omega; done) | simp (config := { maxSteps := 3000000 }) (disch := first | assumption | omega | exact VG.okg (by assumption) | (simp only [List.length_set, List.length_append, List.length_cons, List.length_nil, List.length_replicate]; omega)) only [go_sem, ↓reduceIte, Int.reduceLE, Int.reduceLT, Int.reduceToNat, Int.reduceNeg, Int.reduceAdd, Int.reduceSub, Int.reduceMul, Int.reduceEq, Int.reduceNe, Nat.reduceEqDiff, Nat.reduceAdd, Nat.reduceSub, Nat.reduceMul, Nat.reduceLT, Nat.reduceLeDiff, Nat.reduceBEq, Nat.reduceBNe, UInt8.reduceToNat, Tryz.results79, hopen, hdraw, hll, hpw, hpu, hpv, hpv', hw1, hfq, hflq] | skip))
theorem case3 {bs cs : List Int} {n p : Int} {es : List (Int × Int)} (hcs : bytes cs) (hopen : KP 94 [LB bs] [] = some (.ptr 2000 0 0 0, [], [Rd cs 0])) (hn1 : 1 ≤ n) (hn2 : n ≤ 16) (hel : es.length ≤ 30) (hp1 : 0 ≤ p) (hp2 : p ≤ 0 + 100)
    (hdraw : KP 142 [.ptr 1000 0 0 0] [Rd cs 0] = some (.agg [I n, .i (qe es)], [Rd cs p], []))
    (hz : ¬ 0 < es.length) {u : Int} (hu : u = 0) (hpu : KP 96 [.ptr 1000 0 0 0, I 16] [Rd cs (p)] = some (I u, [Rd cs (p + 1)], [])) :
    ∃ (n : Int) (x : IV) (es : List (Int × Int)) (a b : Int), 0 ≤ n ∧ n ≤ 17 ∧ es.length ≤ 40 ∧ EQ x es ∧ KP 79 [LB bs] [] = some (.tup [.agg [I n, .i x], PE a b], [], []) := by
  have hll := lenP_qe (es := es)
  have hia := (EQ.qe es).ia
  have hfq := (EL.qe es).f
  have hflq := (EL.qe es).fl
  obtain ⟨a, ha, hna⟩ := c_num cs (p + 1) [1, -1, 3] hcs (by omega) (by simp) (by simp)
  obtain ⟨b, hb', hnb⟩ := c_num cs (p + 1 + 1) [0, 16, 1] hcs (by omega) (by simp) (by simp)
  simp only [List.map_cons, List.map_nil, encI, List.length_cons, List.length_nil, Nat.reduceAdd] at hna hnb
  refine ⟨n, qe es, es, a, b, by omega, by omega, by omega, EQ.qe es, xw_call (fn := Tryz.f79) rfl Tryz.func79 rfl ⟨Nat.le_of_ble_eq_true rfl, rfl, rfl⟩ ?_⟩
  repeat' (first
    | refine xw_seq ?_
    | refine xw_block ?_
    | (refine ite_two ?_ ?_ <;> intro _ <;> first | (exfalso; omega) | skip)
    | refine ord_split (by kernel_rfl) ?_
    | (refine xw_ret ?_ <;> try simp only [sq, bl, LQ])
    | ((first | refine xw_reg ?_ | refine xw_regd ?_ | refine xw_if ?_ | refine xw_skip ?_ | refine xw_exit ?_ | refine xw_label ?_ | refine post_ret ?_ | refine post_normal ?_ | refine postE_ret ?_ | refine postE_normal ?_) <;> simp (config := { maxSteps := 3000000 }) (disch := first | assumption | omega | exact VG.okg (by assumption) | (simp only [List.length_set, List.length_append, List.length_cons, List.length_nil, List.length_replicate]; omega)) only [go_sem, ↓reduceIte, Int.reduceLE, Int.reduceLT, Int.reduceToNat, Int.reduceNeg, Int.reduceAdd, Int.reduceSub, Int.reduceMul, Int.reduceEq, Int.reduceNe, Nat.reduceEqDiff, Nat.reduceAdd, Nat.reduceSub, Nat.reduceMul, Nat.reduceLT, Nat.reduceLeDiff, Nat.reduceBEq, Nat.reduceBNe, UInt8.reduceToNat, Tryz.results79, hopen, hdraw, hll, hpu, hna, hnb, hfq, hflq])
    | (((first | refine at_region ?_ | refine at_out ?_ | refine at_cond ?_); split) <;> first | (exfalso; omega; done) | simp (config := { maxSteps := 3000000 }) (disch := first | assumption | omega | exact VG.okg (by assumption) | (simp only [List.length_set, List.length_append, List.length_cons, List.length_nil, List.length_replicate]; omega)) only [go_sem, ↓reduceIte, Int.reduceLE, Int.reduceLT, Int.reduceToNat, Int.reduceNeg, Int.reduceAdd, Int.reduceSub, Int.reduceMul, Int.reduceEq, Int.reduceNe, Nat.reduceEqDiff, Nat.reduceAdd, Nat.reduceSub, Nat.reduceMul, Nat.reduceLT, Nat.reduceLeDiff, Nat.reduceBEq, Nat.reduceBNe, UInt8.reduceToNat, Tryz.results79, hopen, hdraw, hll, hpu, hna, hnb, hfq, hflq] | skip))
theorem case4 {bs cs : List Int} {n p : Int} {es : List (Int × Int)} (hcs : bytes cs) (hopen : KP 94 [LB bs] [] = some (.ptr 2000 0 0 0, [], [Rd cs 0])) (hn1 : 1 ≤ n) (hn2 : n ≤ 16) (hel : es.length ≤ 30) (hp1 : 0 ≤ p) (hp2 : p ≤ 0 + 100)
    (hdraw : KP 142 [.ptr 1000 0 0 0] [Rd cs 0] = some (.agg [I n, .i (qe es)], [Rd cs p], []))
    (hz : ¬ 0 < es.length) {u : Int} (hu : 0 < u) (hpu : KP 96 [.ptr 1000 0 0 0, I 16] [Rd cs (p)] = some (I u, [Rd cs (p + 1)], [])) :
    ∃ (n : Int) (x : IV) (es : List (Int × Int)) (a b : Int), 0 ≤ n ∧ n ≤ 17 ∧ es.length ≤ 40 ∧ EQ x es ∧ KP 79 [LB bs] [] = some (.tup [.agg [I n, .i x], PE a b], [], []) := by
  have hll := lenP_qe (es := es)
  have hia := (EQ.qe es).ia
  have hfq := (EL.qe es).f
  have hflq := (EL.qe es).fl
  obtain ⟨v, hv, _, hpv⟩ := c_pick cs (p + 1) n hcs (by omega) (by omega)
  obtain ⟨v', hv', _, hpv'⟩ := c_pick cs (p + 1 + 1) n hcs (by omega) (by omega)
  obtain ⟨n1, es1, p1, a1, a2, a3, a4, a5, hw1⟩ := c_l1Wrong cs (p + 1 + 1 + 1) n (qe es) es hcs (by omega) (EL.qe es) (by omega) (by omega)
  refine ⟨n1, .lst (es1.map encE), es1, (edgeOf v v').1, (edgeOf v v').2, by omega, by omega, by omega, EQ.lst es1, xw_call (fn := Tryz.f79) rfl Tryz.func79 rfl ⟨Nat.le_of_ble_eq_true rfl, rfl, rfl⟩ ?_⟩
  repeat' (first
    | refine xw_seq ?_
    | refine xw_block ?_
    | (refine ite_two ?_ ?_ <;> intro _ <;> first | (exfalso; omega) | skip)
    | refine ord_split (by kernel_rfl) ?_
    | (refine xw_ret ?_ <;> try simp only [sq, bl, LQ])
    | ((first | refine xw_reg ?_ | refine xw_regd ?_ | refine xw_if ?_ | refine xw_skip ?_ | refine xw_exit ?_ | refine xw_label ?_ | refine post_ret ?_ | refine post_normal ?_ | refine postE_ret ?_ | refine postE_normal ?_) <;> simp (config := { maxSteps := 3000000 }) (disch := first | assumption | omega | exact VG.okg (by assumption) | (simp only [List.length_set, List.length_append, List.length_cons, List.length_nil, List.length_replicate]; omega)) only [go_sem, ↓reduceIte, Int.reduceLE, Int.reduceLT, Int.reduceToNat, Int.reduceNeg, Int.reduceAdd, Int.reduceSub, Int.reduceMul, Int.reduceEq, Int.reduceNe, Nat.reduceEqDiff, Nat.reduceAdd, Nat.reduceSub, Nat.reduceMul, Nat.reduceLT, Nat.reduceLeDiff, Nat.reduceBEq, Nat.reduceBNe, UInt8.reduceToNat, Tryz.results79, hopen, hdraw, hll, hpu, hpv, hpv', hw1, hfq, hflq])
    | (((first | refine at_region ?_ | refine at_out ?_ | refine at_cond ?_); split) <;> first | (exfalso; omega; done) | simp (config := { maxSteps := 3000000 }) (disch := first | assumption | omega | exact VG.okg (by assumption) | (simp only [List.length_set, List.length_append, List.length_cons, List.length_nil, List.length_replicate]; omega)) only [go_sem, ↓reduceIte, Int.reduceLE, Int.reduceLT, Int.reduceToNat, Int.reduceNeg, Int.reduceAdd, Int.reduceSub, Int.reduceMul, Int.reduceEq, Int.reduceNe, Nat.reduceEqDiff, Nat.reduceAdd, Nat.reduceSub, Nat.reduceMul, Nat.reduceLT, Nat.reduceLeDiff, Nat.reduceBEq, Nat.reduceBNe, UInt8.reduceToNat, Tryz.results79, hopen, hdraw, hll, hpu, hpv, hpv', hw1, hfq, hflq] | skip))
theorem case5 {bs cs : List Int} {n p : Int} {es : List (Int × Int)} (hcs : bytes cs) (hopen : KP 94 [LB bs] [] = some (.ptr 2000 0 0 0, [], [Rd cs 0])) (hn1 : 1 ≤ n) (hn2 : n ≤ 16) (hel : es.length ≤ 30) (hp1 : 0 ≤ p) (hp2 : p ≤ 0 + 100)
    (hdraw : KP 142 [.ptr 1000 0 0 0] [Rd cs 0] = some (.agg [I n, .i (qe es)], [Rd cs p], []))
    (hz : 0 < es.length) (hpw : KP 96 [.ptr 1000 0 0 0, I 2] [Rd cs p] = some (I 0, [Rd cs (p + 1)], [])) :
    ∃ (n : Int) (x : IV) (es : List (Int × Int)) (a b : Int), 0 ≤ n ∧ n ≤ 17 ∧ es.length ≤ 40 ∧ EQ x es ∧ KP 79 [LB bs] [] = some (.tup [.agg [I n, .i x], PE a b], [], []) := by
  have hll := lenP_qe (es := es)
  have hia := (EQ.qe es).ia
  have hfq := (EL.qe es).f
  have hflq := (EL.qe es).fl
  obtain ⟨n1, es1, p1, a1, a2, a3, a4, a5, hw1⟩ := c_l1Wrong cs (p + 1) n (qe es) es hcs (by omega) (EL.qe es) (by omega) (by omega)
  obtain ⟨k, hk, _, hpk⟩ := c_pick cs p1 es.length hcs (by omega) (by omega)
  have hk' := hk (by omega)
  refine ⟨n1, .lst (es1.map encE), es1, (es.getD k.toNat (0, 0)).1, (es.getD k.toNat (0, 0)).2, by omega, by omega, by omega, EQ.lst es1, xw_call (fn := Tryz.f79) rfl Tryz.func79 rfl ⟨Nat.le_of_ble_eq_true rfl, rfl, rfl⟩ ?_⟩
  repeat' (first
    | refine xw_seq ?_
    | refine xw_block ?_
    | (refine ite_two ?_ ?_ <;> intro _ <;> first | (exfalso; omega) | skip)
    | refine ord_split (by kernel_rfl) ?_
    | (refine xw_ret ?_ <;> try simp only [sq, bl, LQ])
    | ((first | refine xw_reg ?_ | refine xw_regd ?_ | refine xw_if ?_ | refine xw_skip ?_ | refine xw_exit ?_ | refine xw_label ?_ | refine post_ret ?_ | refine post_normal ?_ | refine postE_ret ?_ | refine postE_normal ?_) <;> simp (config := { maxSteps := 3000000 }) (disch := first | assumption | omega | exact VG.okg (by assumption) | (simp only [List.length_set, List.length_append, List.length_cons, List.length_nil, List.length_replicate]; omega)) only [go_sem, ↓reduceIte, Int.reduceLE, Int.reduceLT, Int.reduceToNat, Int.reduceNeg, Int.reduceAdd, Int.reduceSub, Int.reduceMul, Int.reduceEq, Int.reduceNe, Nat.reduceEqDiff, Nat.reduceAdd, Nat.reduceSub, Nat.reduceMul, Nat.reduceLT, Nat.reduceLeDiff, Nat.reduceBEq, Nat.reduceBNe, UInt8.reduceToNat, Tryz.results79, hopen, hdraw, hll, hpw, hw1, hpk, hia, hfq, hflq])
    | (((first | refine at_region ?_ | refine at_out ?_ | refine at_cond ?_); split) <;> first | (exfalso; omega; done) | simp (config := { maxSteps := 3000000 }) (disch := first | assumption | omega | exact VG.okg (by assumption) | (simp only [List.length_set, List.length_append, List.length_cons, List.length_nil, List.length_replicate]; omega)) only [go_sem, ↓reduceIte, Int.reduceLE, Int.reduceLT, Int.reduceToNat, Int.reduceNeg, Int.reduceAdd, Int.reduceSub, Int.reduceMul, Int.reduceEq, Int.reduceNe, Nat.reduceEqDiff, Nat.reduceAdd, Nat.reduceSub, Nat.reduceMul, Nat.reduceLT, Nat.reduceLeDiff, Nat.reduceBEq, Nat.reduceBNe, UInt8.reduceToNat, Tryz.results79, hopen, hdraw, hll, hpw, hw1, hpk, hia, hfq, hflq] | skip))
theorem c_l1Case (bs : List Int) (hb : ∀ b ∈ bs, 0 ≤ b ∧ b < 256) (hl : bs.length ≤ 1000000000) :
    ∃ (n : Int) (x : IV) (es : List (Int × Int)) (a b : Int), 0 ≤ n ∧ n ≤ 17 ∧ es.length ≤ 40 ∧ EQ x es ∧ KP 79 [LB bs] [] = some (.tup [.agg [I n, .i x], PE a b], [], []) := by
  obtain ⟨cs, hcs, hopen⟩ := c_l14Open bs hb hl
  obtain ⟨n, es, p, hn1, hn2, ho, hes, hel, hp1, hp2, hdraw⟩ := c_l1Draw cs 0 hcs (by omega)
  by_cases hz : 0 < es.length
  · obtain ⟨w, hw, _, hpw⟩ := c_pick cs p 2 hcs (by omega) (by omega)
    have hw' := hw (by omega)
    by_cases hw0 : w = 0
    · subst hw0
      exact case5 hcs hopen hn1 hn2 hel hp1 hp2 hdraw hz hpw
    · obtain ⟨u, hu, _, hpu⟩ := c_pick cs (p + 1) 16 hcs (by omega) (by omega)
      have hu' := hu (by omega)
      by_cases hu0 : u = 0
      · exact case1 hcs hopen hn1 hn2 hel hp1 hp2 hdraw hz hw'.1 hw0 hpw hu0 hpu
      · exact case2 hcs hopen hn1 hn2 hel hp1 hp2 hdraw hz hw'.1 hw0 hpw (by omega) hpu
  · obtain ⟨u, hu, _, hpu⟩ := c_pick cs p 16 hcs (by omega) (by omega)
    have hu' := hu (by omega)
    by_cases hu0 : u = 0
    · exact case3 hcs hopen hn1 hn2 hel hp1 hp2 hdraw hz hu0 hpu
    · exact case4 hcs hopen hn1 hn2 hel hp1 hp2 hdraw hz (by omega) hpu
theorem c_DrawPutEdge (bs : List Int) (hb : ∀ b ∈ bs, 0 ≤ b ∧ b < 256) (hl : bs.length ≤ 1000000000) :
    ∃ (n : Int) (x : IV) (es : List (Int × Int)) (a b : Int), 0 ≤ n ∧ n ≤ 17 ∧ es.length ≤ 40 ∧ EQ x es ∧ KP 22 [LB bs] [] = some (.tup [.agg [I n, .i x], PE a b], [], []) := by
  obtain ⟨n, x, es, a, b, n0, n1, hel, hx, hcase⟩ := c_l1Case bs hb hl
  have hf := hx.f
  have hfl := hx.fl
  refine ⟨n, x, es, a, b, n0, n1, hel, hx, xw_call (fn := Tryz.f22) rfl Tryz.func22 rfl ⟨Nat.le_of_ble_eq_true rfl, rfl, rfl⟩ ?_⟩
  repeat' (first
    | refine xw_seq ?_
    | refine xw_block ?_
    | (refine ite_two ?_ ?_ <;> intro _ <;> first | (exfalso; omega) | skip)
    | refine ord_split (by kernel_rfl) ?_
    | (refine xw_ret ?_ <;> try simp only [sq, bl, LQ])
    | ((first | refine xw_reg ?_ | refine xw_regd ?_ | refine xw_if ?_ | refine xw_skip ?_ | refine xw_exit ?_ | refine xw_label ?_ | refine post_ret ?_ | refine post_normal ?_ | refine postE_ret ?_ | refine postE_normal ?_) <;> simp (config := { maxSteps := 3000000 }) (disch := first | assumption | omega | exact VG.okg (by assumption) | (simp only [List.length_set, List.length_append, List.length_cons, List.length_nil, List.length_replicate]; omega)) only [go_sem, ↓reduceIte, Int.reduceLE, Int.reduceLT, Int.reduceToNat, Int.reduceNeg, Int.reduceAdd, Int.reduceSub, Int.reduceMul, Int.reduceEq, Int.reduceNe, Nat.reduceEqDiff, Nat.reduceAdd, Nat.reduceSub, Nat.reduceMul, Nat.reduceLT, Nat.reduceLeDiff, Nat.reduceBEq, Nat.reduceBNe, UInt8.reduceToNat, Tryz.results22, hcase, hf, hfl])
    | (((first | refine at_region ?_ | refine at_out ?_ | refine at_cond ?_); split) <;> first | (exfalso; omega; done) | simp (config := { maxSteps := 3000000 }) (disch := first | assumption | omega | exact VG.okg (by assumption) | (simp only [List.length_set, List.length_append, List.length_cons, List.length_nil, List.length_replicate]; omega)) only [go_sem, ↓reduceIte, Int.reduceLE, Int.reduceLT, Int.reduceToNat, Int.reduceNeg, Int.reduceAdd, Int.reduceSub, Int.reduceMul, Int.reduceEq, Int.reduceNe, Nat.reduceEqDiff, Nat.reduceAdd, Nat.reduceSub, Nat.reduceMul, Nat.reduceLT, Nat.reduceLeDiff, Nat.reduceBEq, Nat.reduceBNe, UInt8.reduceToNat, Tryz.results22, hcase, hf, hfl] | skip))
theorem c_DrawBridgesBetween (bs : List Int) (hb : ∀ b ∈ bs, 0 ≤ b ∧ b < 256) (hl : bs.length ≤ 1000000000) :
    ∃ (n : Int) (es : List (Int × Int)) (x y : Int), 0 ≤ n ∧ n ≤ 17 ∧ es.length ≤ 40 ∧ -1 ≤ x ∧ x ≤ 16 ∧ -1 ≤ y ∧ y ≤ 16 ∧ KP 39 [LB bs] [] = some (.tup [GL n es, I x, I y], [], []) := by
  obtain ⟨n, es, x, y, h1, h2, h3, h4, h5, h6, h7, hd⟩ := c_l2Two bs hb hl
  refine ⟨n, es, x, y, h1, h2, h3, h4, h5, h6, h7, xw_call (fn := Tryz.f39) rfl Tryz.func39 rfl ⟨Nat.le_of_ble_eq_true rfl, rfl, rfl⟩ ?_⟩
  repeat' (first
    | refine xw_seq ?_
    | refine xw_block ?_
    | (refine ite_two ?_ ?_ <;> intro _ <;> first | (exfalso; omega) | skip)
    | refine ord_split (by kernel_rfl) ?_
    | (refine xw_ret ?_ <;> try simp only [sq, bl, LQ])
    | ((first | refine xw_reg ?_ | refine xw_regd ?_ | refine xw_if ?_ | refine xw_skip ?_ | refine xw_exit ?_ | refine xw_label ?_ | refine post_ret ?_ | refine post_normal ?_ | refine postE_ret ?_ | refine postE_normal ?_) <;> simp (config := { maxSteps := 3000000 }) (disch := first | assumption | omega | exact VG.okg (by assumption) | (simp only [List.length_set, List.length_append, List.length_cons, List.length_nil, List.length_replicate]; omega)) only [go_sem, ↓reduceIte, Int.reduceLE, Int.reduceLT, Int.reduceToNat, Int.reduceNeg, Int.reduceAdd, Int.reduceSub, Int.reduceMul, Int.reduceEq, Int.reduceNe, Nat.reduceEqDiff, Nat.reduceAdd, Nat.reduceSub, Nat.reduceMul, Nat.reduceLT, Nat.reduceLeDiff, Nat.reduceBEq, Nat.reduceBNe, UInt8.reduceToNat, Tryz.results39, hd])
    | (((first | refine at_region ?_ | refine at_out ?_ | refine at_cond ?_); split) <;> first | (exfalso; omega; done) | simp (config := { maxSteps := 3000000 }) (disch := first | assumption | omega | exact VG.okg (by assumption) | (simp only [List.length_set, List.length_append, List.length_cons, List.length_nil, List.length_replicate]; omega)) only [go_sem, ↓reduceIte, Int.reduceLE, Int.reduceLT, Int.reduceToNat, Int.reduceNeg, Int.reduceAdd, Int.reduceSub, Int.reduceMul, Int.reduceEq, Int.reduceNe, Nat.reduceEqDiff, Nat.reduceAdd, Nat.reduceSub, Nat.reduceMul, Nat.reduceLT, Nat.reduceLeDiff, Nat.reduceBEq, Nat.reduceBNe, UInt8.reduceToNat, Tryz.results39, hd] | skip))
end Go.Proofs.YtdjdgnabcecdlaaGreatDoor.X
