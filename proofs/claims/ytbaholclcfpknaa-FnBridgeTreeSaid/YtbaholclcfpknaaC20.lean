/- What functions compute: draws of graphs, and of a graph and an edge. -/
import Derived.Test.YtbaholclcfpknaaKF
set_option linter.unusedSimpArgs false
set_option linter.unusedVariables false
set_option maxHeartbeats 8000000
namespace Go.Proofs.Ytbaholclcfpknaa.X
open Go Go.Proofs

theorem c_DrawGraphValid (bs : List Int) (hb : ∀ b ∈ bs, 0 ≤ b ∧ b < 256) (hl : bs.length ≤ 1000000000) :
    ∃ (n : Int) (es : List (Int × Int)), 0 ≤ n ∧ n ≤ 17 ∧ es.length ≤ 40 ∧ KP 61 [LB bs] [] = some (GL n es, [], []) := by
  obtain ⟨cs, hcs, hopen⟩ := c_l14Open bs hb hl
  obtain ⟨n, es, p, hn1, hn2, ho, hes, hel, hp1, hp2, hdraw⟩ := c_l1Draw cs 0 hcs (by omega)
  obtain ⟨n1, es1, p1, a1, a2, a3, a4, a5, hw1⟩ := c_l1Wrong cs p n (qe es) es hcs (by omega) (EL.qe es) (by omega) (by omega)
  obtain ⟨n2, es2, p2, b1, b2, b3, b4, b5, hw2⟩ := c_l1Wrong cs p1 n1 (.lst (es1.map encE)) es1 hcs (by omega) (EL.lst es1) (by omega) (by omega)
  obtain ⟨n3, es3, p3, d1, d2, d3, d4, d5, hw3⟩ := c_l1Wrong cs p2 n2 (.lst (es2.map encE)) es2 hcs (by omega) (EL.lst es2) (by omega) (by omega)
  refine ⟨n3, es3, d1, d2, by omega, xw_call (fn := Try.f61) rfl Try.func61 rfl ⟨Nat.le_of_ble_eq_true rfl, rfl, rfl⟩ ?_⟩
  repeat' (first
    | refine xw_seq ?_
    | refine xw_block ?_
    | (refine ite_two ?_ ?_ <;> intro _ <;> first | (exfalso; omega) | skip)
    | refine ord_split (by kernel_rfl) ?_
    | (refine xw_ret ?_ <;> try simp only [sq, bl, LQ])
    | ((first | refine xw_reg ?_ | refine xw_regd ?_ | refine xw_if ?_ | refine xw_skip ?_ | refine xw_exit ?_ | refine xw_label ?_ | refine post_ret ?_ | refine post_normal ?_ | refine postE_ret ?_ | refine postE_normal ?_) <;> simp (config := { maxSteps := 3000000 }) (disch := first | assumption | omega | exact VG.okg (by assumption) | (simp only [List.length_set, List.length_append, List.length_cons, List.length_nil, List.length_replicate]; omega)) only [go_sem, ↓reduceIte, Int.reduceLE, Int.reduceLT, Int.reduceToNat, Int.reduceNeg, Int.reduceAdd, Int.reduceSub, Int.reduceMul, Int.reduceEq, Int.reduceNe, Nat.reduceEqDiff, Nat.reduceAdd, Nat.reduceSub, Nat.reduceMul, Nat.reduceLT, Nat.reduceLeDiff, Nat.reduceBEq, Nat.reduceBNe, Try.results61, hopen, hdraw, hw1, hw2, hw3])
    | (((first | refine at_region ?_ | refine at_out ?_ | refine at_cond ?_); split) <;> first | (exfalso; omega; done) | simp (config := { maxSteps := 3000000 }) (disch := first | assumption | omega | exact VG.okg (by assumption) | (simp only [List.length_set, List.length_append, List.length_cons, List.length_nil, List.length_replicate]; omega)) only [go_sem, ↓reduceIte, Int.reduceLE, Int.reduceLT, Int.reduceToNat, Int.reduceNeg, Int.reduceAdd, Int.reduceSub, Int.reduceMul, Int.reduceEq, Int.reduceNe, Nat.reduceEqDiff, Nat.reduceAdd, Nat.reduceSub, Nat.reduceMul, Nat.reduceLT, Nat.reduceLeDiff, Nat.reduceBEq, Nat.reduceBNe, Try.results61, hopen, hdraw, hw1, hw2, hw3] | skip))

theorem case1 {bs cs : List Int} {n p : Int} {es : List (Int × Int)} (hcs : bytes cs) (hopen : KP 94 [LB bs] [] = some (.ptr 2000 0 0 0, [], [Rd cs 0])) (hn1 : 1 ≤ n) (hn2 : n ≤ 16) (hel : es.length ≤ 30) (hp1 : 0 ≤ p) (hp2 : p ≤ 0 + 100)
    (hdraw : KP 125 [.ptr 1000 0 0 0] [Rd cs 0] = some (.agg [I n, .i (qe es)], [Rd cs p], []))
    (hz : 0 < es.length) {w : Int} (w0 : 0 ≤ w) (w1 : ¬ w = 0) (hpw : KP 145 [.ptr 1000 0 0 0, I 2] [Rd cs p] = some (I w, [Rd cs (p + 1)], [])) {u : Int} (hu : u = 0) (hpu : KP 145 [.ptr 1000 0 0 0, I 16] [Rd cs (p + 1)] = some (I u, [Rd cs (p + 1 + 1)], [])) :
    ∃ (n : Int) (x : IV) (es : List (Int × Int)) (a b : Int), 0 ≤ n ∧ n ≤ 17 ∧ es.length ≤ 40 ∧ EQ x es ∧ KP 100 [LB bs] [] = some (.tup [.agg [I n, .i x], PE a b], [], []) := by
  have hll := lenP_qe (es := es)
  have hia := (EQ.qe es).ia
  have hfq := (EL.qe es).f
  have hflq := (EL.qe es).fl
  obtain ⟨a, ha, hna⟩ := c_num cs (p + 1 + 1) [1, -1, 3] hcs (by omega) (by simp) (by simp)
  obtain ⟨b, hb', hnb⟩ := c_num cs (p + 1 + 1 + 1) [0, 16, 1] hcs (by omega) (by simp) (by simp)
  simp only [List.map_cons, List.map_nil, encI, List.length_cons, List.length_nil, Nat.reduceAdd] at hna hnb
  refine ⟨n, qe es, es, a, b, by omega, by omega, by omega, EQ.qe es, xw_call (fn := Try.f100) rfl Try.func100 rfl ⟨Nat.le_of_ble_eq_true rfl, rfl, rfl⟩ ?_⟩
  repeat' (first
    | refine xw_seq ?_
    | refine xw_block ?_
    | (refine ite_two ?_ ?_ <;> intro _ <;> first | (exfalso; omega) | skip)
    | refine ord_split (by kernel_rfl) ?_
    | (refine xw_ret ?_ <;> try simp only [sq, bl, LQ])
    | ((first | refine xw_reg ?_ | refine xw_regd ?_ | refine xw_if ?_ | refine xw_skip ?_ | refine xw_exit ?_ | refine xw_label ?_ | refine post_ret ?_ | refine post_normal ?_ | refine postE_ret ?_ | refine postE_normal ?_) <;> simp (config := { maxSteps := 3000000 }) (disch := first | assumption | omega | exact VG.okg (by assumption) | (simp only [List.length_set, List.length_append, List.length_cons, List.length_nil, List.length_replicate]; omega)) only [go_sem, ↓reduceIte, Int.reduceLE, Int.reduceLT, Int.reduceToNat, Int.reduceNeg, Int.reduceAdd, Int.reduceSub, Int.reduceMul, Int.reduceEq, Int.reduceNe, Nat.reduceEqDiff, Nat.reduceAdd, Nat.reduceSub, Nat.reduceMul, Nat.reduceLT, Nat.reduceLeDiff, Nat.reduceBEq, Nat.reduceBNe, Try.results100, hopen, hdraw, hll, hpw, hpu, hna, hnb, hfq, hflq])
    | (((first | refine at_region ?_ | refine at_out ?_ | refine at_cond ?_); split) <;> first | (exfalso; omega; done) | simp (config := { maxSteps := 3000000 }) (disch := first | assumption | omega | exact VG.okg (by assumption) | (simp only [List.length_set, List.length_append, List.length_cons, List.length_nil, List.length_replicate]; omega)) only [go_sem, ↓reduceIte, Int.reduceLE, Int.reduceLT, Int.reduceToNat, Int.reduceNeg, Int.reduceAdd, Int.reduceSub, Int.reduceMul, Int.reduceEq, Int.reduceNe, Nat.reduceEqDiff, Nat.reduceAdd, Nat.reduceSub, Nat.reduceMul, Nat.reduceLT, Nat.reduceLeDiff, Nat.reduceBEq, Nat.reduceBNe, Try.results100, hopen, hdraw, hll, hpw, hpu, hna, hnb, hfq, hflq] | skip))

theorem case2 {bs cs : List Int} {n p : Int} {es : List (Int × Int)} (hcs : bytes cs) (hopen : KP 94 [LB bs] [] = some (.ptr 2000 0 0 0, [], [Rd cs 0])) (hn1 : 1 ≤ n) (hn2 : n ≤ 16) (hel : es.length ≤ 30) (hp1 : 0 ≤ p) (hp2 : p ≤ 0 + 100)
    (hdraw : KP 125 [.ptr 1000 0 0 0] [Rd cs 0] = some (.agg [I n, .i (qe es)], [Rd cs p], []))
    (hz : 0 < es.length) {w : Int} (w0 : 0 ≤ w) (w1 : ¬ w = 0) (hpw : KP 145 [.ptr 1000 0 0 0, I 2] [Rd cs p] = some (I w, [Rd cs (p + 1)], [])) {u : Int} (hu : 0 < u) (hpu : KP 145 [.ptr 1000 0 0 0, I 16] [Rd cs (p + 1)] = some (I u, [Rd cs (p + 1 + 1)], [])) :
    ∃ (n : Int) (x : IV) (es : List (Int × Int)) (a b : Int), 0 ≤ n ∧ n ≤ 17 ∧ es.length ≤ 40 ∧ EQ x es ∧ KP 100 [LB bs] [] = some (.tup [.agg [I n, .i x], PE a b], [], []) := by
  have hll := lenP_qe (es := es)
  have hia := (EQ.qe es).ia
  have hfq := (EL.qe es).f
  have hflq := (EL.qe es).fl
  obtain ⟨v, hv, _, hpv⟩ := c_pick cs (p + 1 + 1) n hcs (by omega) (by omega)
  obtain ⟨v', hv', _, hpv'⟩ := c_pick cs (p + 1 + 1 + 1) n hcs (by omega) (by omega)
  obtain ⟨n1, es1, p1, a1, a2, a3, a4, a5, hw1⟩ := c_l1Wrong cs (p + 1 + 1 + 1 + 1) n (qe es) es hcs (by omega) (EL.qe es) (by omega) (by omega)
  refine ⟨n1, .lst (es1.map encE), es1, (edgeOf v v').1, (edgeOf v v').2, by omega, by omega, by omega, EQ.lst es1, xw_call (fn := Try.f100) rfl Try.func100 rfl ⟨Nat.le_of_ble_eq_true rfl, rfl, rfl⟩ ?_⟩
  repeat' (first
    | refine xw_seq ?_
    | refine xw_block ?_
    | (refine ite_two ?_ ?_ <;> intro _ <;> first | (exfalso; omega) | skip)
    | refine ord_split (by kernel_rfl) ?_
    | (refine xw_ret ?_ <;> try simp only [sq, bl, LQ])
    | ((first | refine xw_reg ?_ | refine xw_regd ?_ | refine xw_if ?_ | refine xw_skip ?_ | refine xw_exit ?_ | refine xw_label ?_ | refine post_ret ?_ | refine post_normal ?_ | refine postE_ret ?_ | refine postE_normal ?_) <;> simp (config := { maxSteps := 3000000 }) (disch := first | assumption | omega | exact VG.okg (by assumption) | (simp only [List.length_set, List.length_append, List.length_cons, List.length_nil, List.length_replicate]; omega)) only [go_sem, ↓reduceIte, Int.reduceLE, Int.reduceLT, Int.reduceToNat, Int.reduceNeg, Int.reduceAdd, Int.reduceSub, Int.reduceMul, Int.reduceEq, Int.reduceNe, Nat.reduceEqDiff, Nat.reduceAdd, Nat.reduceSub, Nat.reduceMul, Nat.reduceLT, Nat.reduceLeDiff, Nat.reduceBEq, Nat.reduceBNe, Try.results100, hopen, hdraw, hll, hpw, hpu, hpv, hpv', hw1, hfq, hflq])
    | (((first | refine at_region ?_ | refine at_out ?_ | refine at_cond ?_); split) <;> first | (exfalso; omega; done) | simp (config := { maxSteps := 3000000 }) (disch := first | assumption | omega | exact VG.okg (by assumption) | (simp only [List.length_set, List.length_append, List.length_cons, List.length_nil, List.length_replicate]; omega)) only [go_sem, ↓reduceIte, Int.reduceLE, Int.reduceLT, Int.reduceToNat, Int.reduceNeg, Int.reduceAdd, Int.reduceSub, Int.reduceMul, Int.reduceEq, Int.reduceNe, Nat.reduceEqDiff, Nat.reduceAdd, Nat.reduceSub, Nat.reduceMul, Nat.reduceLT, Nat.reduceLeDiff, Nat.reduceBEq, Nat.reduceBNe, Try.results100, hopen, hdraw, hll, hpw, hpu, hpv, hpv', hw1, hfq, hflq] | skip))

theorem case3 {bs cs : List Int} {n p : Int} {es : List (Int × Int)} (hcs : bytes cs) (hopen : KP 94 [LB bs] [] = some (.ptr 2000 0 0 0, [], [Rd cs 0])) (hn1 : 1 ≤ n) (hn2 : n ≤ 16) (hel : es.length ≤ 30) (hp1 : 0 ≤ p) (hp2 : p ≤ 0 + 100)
    (hdraw : KP 125 [.ptr 1000 0 0 0] [Rd cs 0] = some (.agg [I n, .i (qe es)], [Rd cs p], []))
    (hz : ¬ 0 < es.length) {u : Int} (hu : u = 0) (hpu : KP 145 [.ptr 1000 0 0 0, I 16] [Rd cs (p)] = some (I u, [Rd cs (p + 1)], [])) :
    ∃ (n : Int) (x : IV) (es : List (Int × Int)) (a b : Int), 0 ≤ n ∧ n ≤ 17 ∧ es.length ≤ 40 ∧ EQ x es ∧ KP 100 [LB bs] [] = some (.tup [.agg [I n, .i x], PE a b], [], []) := by
  have hll := lenP_qe (es := es)
  have hia := (EQ.qe es).ia
  have hfq := (EL.qe es).f
  have hflq := (EL.qe es).fl
  obtain ⟨a, ha, hna⟩ := c_num cs (p + 1) [1, -1, 3] hcs (by omega) (by simp) (by simp)
  obtain ⟨b, hb', hnb⟩ := c_num cs (p + 1 + 1) [0, 16, 1] hcs (by omega) (by simp) (by simp)
  simp only [List.map_cons, List.map_nil, encI, List.length_cons, List.length_nil, Nat.reduceAdd] at hna hnb
  refine ⟨n, qe es, es, a, b, by omega, by omega, by omega, EQ.qe es, xw_call (fn := Try.f100) rfl Try.func100 rfl ⟨Nat.le_of_ble_eq_true rfl, rfl, rfl⟩ ?_⟩
  repeat' (first
    | refine xw_seq ?_
    | refine xw_block ?_
    | (refine ite_two ?_ ?_ <;> intro _ <;> first | (exfalso; omega) | skip)
    | refine ord_split (by kernel_rfl) ?_
    | (refine xw_ret ?_ <;> try simp only [sq, bl, LQ])
    | ((first | refine xw_reg ?_ | refine xw_regd ?_ | refine xw_if ?_ | refine xw_skip ?_ | refine xw_exit ?_ | refine xw_label ?_ | refine post_ret ?_ | refine post_normal ?_ | refine postE_ret ?_ | refine postE_normal ?_) <;> simp (config := { maxSteps := 3000000 }) (disch := first | assumption | omega | exact VG.okg (by assumption) | (simp only [List.length_set, List.length_append, List.length_cons, List.length_nil, List.length_replicate]; omega)) only [go_sem, ↓reduceIte, Int.reduceLE, Int.reduceLT, Int.reduceToNat, Int.reduceNeg, Int.reduceAdd, Int.reduceSub, Int.reduceMul, Int.reduceEq, Int.reduceNe, Nat.reduceEqDiff, Nat.reduceAdd, Nat.reduceSub, Nat.reduceMul, Nat.reduceLT, Nat.reduceLeDiff, Nat.reduceBEq, Nat.reduceBNe, Try.results100, hopen, hdraw, hll, hpu, hna, hnb, hfq, hflq])
    | (((first | refine at_region ?_ | refine at_out ?_ | refine at_cond ?_); split) <;> first | (exfalso; omega; done) | simp (config := { maxSteps := 3000000 }) (disch := first | assumption | omega | exact VG.okg (by assumption) | (simp only [List.length_set, List.length_append, List.length_cons, List.length_nil, List.length_replicate]; omega)) only [go_sem, ↓reduceIte, Int.reduceLE, Int.reduceLT, Int.reduceToNat, Int.reduceNeg, Int.reduceAdd, Int.reduceSub, Int.reduceMul, Int.reduceEq, Int.reduceNe, Nat.reduceEqDiff, Nat.reduceAdd, Nat.reduceSub, Nat.reduceMul, Nat.reduceLT, Nat.reduceLeDiff, Nat.reduceBEq, Nat.reduceBNe, Try.results100, hopen, hdraw, hll, hpu, hna, hnb, hfq, hflq] | skip))

theorem case4 {bs cs : List Int} {n p : Int} {es : List (Int × Int)} (hcs : bytes cs) (hopen : KP 94 [LB bs] [] = some (.ptr 2000 0 0 0, [], [Rd cs 0])) (hn1 : 1 ≤ n) (hn2 : n ≤ 16) (hel : es.length ≤ 30) (hp1 : 0 ≤ p) (hp2 : p ≤ 0 + 100)
    (hdraw : KP 125 [.ptr 1000 0 0 0] [Rd cs 0] = some (.agg [I n, .i (qe es)], [Rd cs p], []))
    (hz : ¬ 0 < es.length) {u : Int} (hu : 0 < u) (hpu : KP 145 [.ptr 1000 0 0 0, I 16] [Rd cs (p)] = some (I u, [Rd cs (p + 1)], [])) :
    ∃ (n : Int) (x : IV) (es : List (Int × Int)) (a b : Int), 0 ≤ n ∧ n ≤ 17 ∧ es.length ≤ 40 ∧ EQ x es ∧ KP 100 [LB bs] [] = some (.tup [.agg [I n, .i x], PE a b], [], []) := by
  have hll := lenP_qe (es := es)
  have hia := (EQ.qe es).ia
  have hfq := (EL.qe es).f
  have hflq := (EL.qe es).fl
  obtain ⟨v, hv, _, hpv⟩ := c_pick cs (p + 1) n hcs (by omega) (by omega)
  obtain ⟨v', hv', _, hpv'⟩ := c_pick cs (p + 1 + 1) n hcs (by omega) (by omega)
  obtain ⟨n1, es1, p1, a1, a2, a3, a4, a5, hw1⟩ := c_l1Wrong cs (p + 1 + 1 + 1) n (qe es) es hcs (by omega) (EL.qe es) (by omega) (by omega)
  refine ⟨n1, .lst (es1.map encE), es1, (edgeOf v v').1, (edgeOf v v').2, by omega, by omega, by omega, EQ.lst es1, xw_call (fn := Try.f100) rfl Try.func100 rfl ⟨Nat.le_of_ble_eq_true rfl, rfl, rfl⟩ ?_⟩
  repeat' (first
    | refine xw_seq ?_
    | refine xw_block ?_
    | (refine ite_two ?_ ?_ <;> intro _ <;> first | (exfalso; omega) | skip)
    | refine ord_split (by kernel_rfl) ?_
    | (refine xw_ret ?_ <;> try simp only [sq, bl, LQ])
    | ((first | refine xw_reg ?_ | refine xw_regd ?_ | refine xw_if ?_ | refine xw_skip ?_ | refine xw_exit ?_ | refine xw_label ?_ | refine post_ret ?_ | refine post_normal ?_ | refine postE_ret ?_ | refine postE_normal ?_) <;> simp (config := { maxSteps := 3000000 }) (disch := first | assumption | omega | exact VG.okg (by assumption) | (simp only [List.length_set, List.length_append, List.length_cons, List.length_nil, List.length_replicate]; omega)) only [go_sem, ↓reduceIte, Int.reduceLE, Int.reduceLT, Int.reduceToNat, Int.reduceNeg, Int.reduceAdd, Int.reduceSub, Int.reduceMul, Int.reduceEq, Int.reduceNe, Nat.reduceEqDiff, Nat.reduceAdd, Nat.reduceSub, Nat.reduceMul, Nat.reduceLT, Nat.reduceLeDiff, Nat.reduceBEq, Nat.reduceBNe, Try.results100, hopen, hdraw, hll, hpu, hpv, hpv', hw1, hfq, hflq])
    | (((first | refine at_region ?_ | refine at_out ?_ | refine at_cond ?_); split) <;> first | (exfalso; omega; done) | simp (config := { maxSteps := 3000000 }) (disch := first | assumption | omega | exact VG.okg (by assumption) | (simp only [List.length_set, List.length_append, List.length_cons, List.length_nil, List.length_replicate]; omega)) only [go_sem, ↓reduceIte, Int.reduceLE, Int.reduceLT, Int.reduceToNat, Int.reduceNeg, Int.reduceAdd, Int.reduceSub, Int.reduceMul, Int.reduceEq, Int.reduceNe, Nat.reduceEqDiff, Nat.reduceAdd, Nat.reduceSub, Nat.reduceMul, Nat.reduceLT, Nat.reduceLeDiff, Nat.reduceBEq, Nat.reduceBNe, Try.results100, hopen, hdraw, hll, hpu, hpv, hpv', hw1, hfq, hflq] | skip))

theorem case5 {bs cs : List Int} {n p : Int} {es : List (Int × Int)} (hcs : bytes cs) (hopen : KP 94 [LB bs] [] = some (.ptr 2000 0 0 0, [], [Rd cs 0])) (hn1 : 1 ≤ n) (hn2 : n ≤ 16) (hel : es.length ≤ 30) (hp1 : 0 ≤ p) (hp2 : p ≤ 0 + 100)
    (hdraw : KP 125 [.ptr 1000 0 0 0] [Rd cs 0] = some (.agg [I n, .i (qe es)], [Rd cs p], []))
    (hz : 0 < es.length) (hpw : KP 145 [.ptr 1000 0 0 0, I 2] [Rd cs p] = some (I 0, [Rd cs (p + 1)], [])) :
    ∃ (n : Int) (x : IV) (es : List (Int × Int)) (a b : Int), 0 ≤ n ∧ n ≤ 17 ∧ es.length ≤ 40 ∧ EQ x es ∧ KP 100 [LB bs] [] = some (.tup [.agg [I n, .i x], PE a b], [], []) := by
  have hll := lenP_qe (es := es)
  have hia := (EQ.qe es).ia
  have hfq := (EL.qe es).f
  have hflq := (EL.qe es).fl
  obtain ⟨n1, es1, p1, a1, a2, a3, a4, a5, hw1⟩ := c_l1Wrong cs (p + 1) n (qe es) es hcs (by omega) (EL.qe es) (by omega) (by omega)
  obtain ⟨k, hk, _, hpk⟩ := c_pick cs p1 es.length hcs (by omega) (by omega)
  have hk' := hk (by omega)
  refine ⟨n1, .lst (es1.map encE), es1, (es.getD k.toNat (0, 0)).1, (es.getD k.toNat (0, 0)).2, by omega, by omega, by omega, EQ.lst es1, xw_call (fn := Try.f100) rfl Try.func100 rfl ⟨Nat.le_of_ble_eq_true rfl, rfl, rfl⟩ ?_⟩
  repeat' (first
    | refine xw_seq ?_
    | refine xw_block ?_
    | (refine ite_two ?_ ?_ <;> intro _ <;> first | (exfalso; omega) | skip)
    | refine ord_split (by kernel_rfl) ?_
    | (refine xw_ret ?_ <;> try simp only [sq, bl, LQ])
    | ((first | refine xw_reg ?_ | refine xw_regd ?_ | refine xw_if ?_ | refine xw_skip ?_ | refine xw_exit ?_ | refine xw_label ?_ | refine post_ret ?_ | refine post_normal ?_ | refine postE_ret ?_ | refine postE_normal ?_) <;> simp (config := { maxSteps := 3000000 }) (disch := first | assumption | omega | exact VG.okg (by assumption) | (simp only [List.length_set, List.length_append, List.length_cons, List.length_nil, List.length_replicate]; omega)) only [go_sem, ↓reduceIte, Int.reduceLE, Int.reduceLT, Int.reduceToNat, Int.reduceNeg, Int.reduceAdd, Int.reduceSub, Int.reduceMul, Int.reduceEq, Int.reduceNe, Nat.reduceEqDiff, Nat.reduceAdd, Nat.reduceSub, Nat.reduceMul, Nat.reduceLT, Nat.reduceLeDiff, Nat.reduceBEq, Nat.reduceBNe, Try.results100, hopen, hdraw, hll, hpw, hw1, hpk, hia, hfq, hflq])
    | (((first | refine at_region ?_ | refine at_out ?_ | refine at_cond ?_); split) <;> first | (exfalso; omega; done) | simp (config := { maxSteps := 3000000 }) (disch := first | assumption | omega | exact VG.okg (by assumption) | (simp only [List.length_set, List.length_append, List.length_cons, List.length_nil, List.length_replicate]; omega)) only [go_sem, ↓reduceIte, Int.reduceLE, Int.reduceLT, Int.reduceToNat, Int.reduceNeg, Int.reduceAdd, Int.reduceSub, Int.reduceMul, Int.reduceEq, Int.reduceNe, Nat.reduceEqDiff, Nat.reduceAdd, Nat.reduceSub, Nat.reduceMul, Nat.reduceLT, Nat.reduceLeDiff, Nat.reduceBEq, Nat.reduceBNe, Try.results100, hopen, hdraw, hll, hpw, hw1, hpk, hia, hfq, hflq] | skip))

theorem c_l1Case (bs : List Int) (hb : ∀ b ∈ bs, 0 ≤ b ∧ b < 256) (hl : bs.length ≤ 1000000000) :
    ∃ (n : Int) (x : IV) (es : List (Int × Int)) (a b : Int), 0 ≤ n ∧ n ≤ 17 ∧ es.length ≤ 40 ∧ EQ x es ∧ KP 100 [LB bs] [] = some (.tup [.agg [I n, .i x], PE a b], [], []) := by
  obtain ⟨cs, hcs, hopen⟩ := c_l14Open bs hb hl
  obtain ⟨n, es, p, hn1, hn2, ho, hes, hel, hp1, hp2, hdraw⟩ := c_l1Draw cs 0 hcs (by omega)
  by_cases hz : 0 < es.length
  · obtain ⟨w, hw, _, hpw⟩ := c_pick cs p 2 hcs (by omega) (by omega)
    have hw' := hw (by omega)
    by_cases hw0 : w = 0
    · subst hw0
      exact case5 hcs hopen hn1 hn2 hel hp1 hp2 hdraw hz hpw
    · obtain ⟨u, hu, _, hpu⟩ := c_pick cs (p + 1) 16 hcs (by omega) (by omega)
      have hu' := hu (by omega)
      by_cases hu0 : u = 0
      · exact case1 hcs hopen hn1 hn2 hel hp1 hp2 hdraw hz hw'.1 hw0 hpw hu0 hpu
      · exact case2 hcs hopen hn1 hn2 hel hp1 hp2 hdraw hz hw'.1 hw0 hpw (by omega) hpu
  · obtain ⟨u, hu, _, hpu⟩ := c_pick cs p 16 hcs (by omega) (by omega)
    have hu' := hu (by omega)
    by_cases hu0 : u = 0
    · exact case3 hcs hopen hn1 hn2 hel hp1 hp2 hdraw hz hu0 hpu
    · exact case4 hcs hopen hn1 hn2 hel hp1 hp2 hdraw hz (by omega) hpu

theorem c_DrawPutEdge (bs : List Int) (hb : ∀ b ∈ bs, 0 ≤ b ∧ b < 256) (hl : bs.length ≤ 1000000000) :
    ∃ (n : Int) (x : IV) (es : List (Int × Int)) (a b : Int), 0 ≤ n ∧ n ≤ 17 ∧ es.length ≤ 40 ∧ EQ x es ∧ KP 44 [LB bs] [] = some (.tup [.agg [I n, .i x], PE a b], [], []) := by
  obtain ⟨n, x, es, a, b, n0, n1, hel, hx, hcase⟩ := c_l1Case bs hb hl
  have hf := hx.f
  have hfl := hx.fl
  refine ⟨n, x, es, a, b, n0, n1, hel, hx, xw_call (fn := Try.f44) rfl Try.func44 rfl ⟨Nat.le_of_ble_eq_true rfl, rfl, rfl⟩ ?_⟩
  repeat' (first
    | refine xw_seq ?_
    | refine xw_block ?_
    | (refine ite_two ?_ ?_ <;> intro _ <;> first | (exfalso; omega) | skip)
    | refine ord_split (by kernel_rfl) ?_
    | (refine xw_ret ?_ <;> try simp only [sq, bl, LQ])
    | ((first | refine xw_reg ?_ | refine xw_regd ?_ | refine xw_if ?_ | refine xw_skip ?_ | refine xw_exit ?_ | refine xw_label ?_ | refine post_ret ?_ | refine post_normal ?_ | refine postE_ret ?_ | refine postE_normal ?_) <;> simp (config := { maxSteps := 3000000 }) (disch := first | assumption | omega | exact VG.okg (by assumption) | (simp only [List.length_set, List.length_append, List.length_cons, List.length_nil, List.length_replicate]; omega)) only [go_sem, ↓reduceIte, Int.reduceLE, Int.reduceLT, Int.reduceToNat, Int.reduceNeg, Int.reduceAdd, Int.reduceSub, Int.reduceMul, Int.reduceEq, Int.reduceNe, Nat.reduceEqDiff, Nat.reduceAdd, Nat.reduceSub, Nat.reduceMul, Nat.reduceLT, Nat.reduceLeDiff, Nat.reduceBEq, Nat.reduceBNe, Try.results44, hcase, hf, hfl])
    | (((first | refine at_region ?_ | refine at_out ?_ | refine at_cond ?_); split) <;> first | (exfalso; omega; done) | simp (config := { maxSteps := 3000000 }) (disch := first | assumption | omega | exact VG.okg (by assumption) | (simp only [List.length_set, List.length_append, List.length_cons, List.length_nil, List.length_replicate]; omega)) only [go_sem, ↓reduceIte, Int.reduceLE, Int.reduceLT, Int.reduceToNat, Int.reduceNeg, Int.reduceAdd, Int.reduceSub, Int.reduceMul, Int.reduceEq, Int.reduceNe, Nat.reduceEqDiff, Nat.reduceAdd, Nat.reduceSub, Nat.reduceMul, Nat.reduceLT, Nat.reduceLeDiff, Nat.reduceBEq, Nat.reduceBNe, Try.results44, hcase, hf, hfl] | skip))

theorem c_DrawBridgeTree (bs : List Int) (hb : ∀ b ∈ bs, 0 ≤ b ∧ b < 256) (hl : bs.length ≤ 1000000000) :
    ∃ (n : Int) (es : List (Int × Int)), 0 ≤ n ∧ n ≤ 17 ∧ es.length ≤ 40 ∧ KP 13 [LB bs] [] = some (GL n es, [], []) := by
  obtain ⟨n, es, h1, h2, h3, hd⟩ := c_DrawGraphValid bs hb hl
  refine ⟨n, es, h1, h2, h3, xw_call (fn := Try.f13) rfl Try.func13 rfl ⟨Nat.le_of_ble_eq_true rfl, rfl, rfl⟩ ?_⟩
  repeat' (first
    | refine xw_seq ?_
    | refine xw_block ?_
    | (refine ite_two ?_ ?_ <;> intro _ <;> first | (exfalso; omega) | skip)
    | refine ord_split (by kernel_rfl) ?_
    | (refine xw_ret ?_ <;> try simp only [sq, bl, LQ])
    | ((first | refine xw_reg ?_ | refine xw_regd ?_ | refine xw_if ?_ | refine xw_skip ?_ | refine xw_exit ?_ | refine xw_label ?_ | refine post_ret ?_ | refine post_normal ?_ | refine postE_ret ?_ | refine postE_normal ?_) <;> simp (config := { maxSteps := 3000000 }) (disch := first | assumption | omega | exact VG.okg (by assumption) | (simp only [List.length_set, List.length_append, List.length_cons, List.length_nil, List.length_replicate]; omega)) only [go_sem, ↓reduceIte, Int.reduceLE, Int.reduceLT, Int.reduceToNat, Int.reduceNeg, Int.reduceAdd, Int.reduceSub, Int.reduceMul, Int.reduceEq, Int.reduceNe, Nat.reduceEqDiff, Nat.reduceAdd, Nat.reduceSub, Nat.reduceMul, Nat.reduceLT, Nat.reduceLeDiff, Nat.reduceBEq, Nat.reduceBNe, Try.results13, hd])
    | (((first | refine at_region ?_ | refine at_out ?_ | refine at_cond ?_); split) <;> first | (exfalso; omega; done) | simp (config := { maxSteps := 3000000 }) (disch := first | assumption | omega | exact VG.okg (by assumption) | (simp only [List.length_set, List.length_append, List.length_cons, List.length_nil, List.length_replicate]; omega)) only [go_sem, ↓reduceIte, Int.reduceLE, Int.reduceLT, Int.reduceToNat, Int.reduceNeg, Int.reduceAdd, Int.reduceSub, Int.reduceMul, Int.reduceEq, Int.reduceNe, Nat.reduceEqDiff, Nat.reduceAdd, Nat.reduceSub, Nat.reduceMul, Nat.reduceLT, Nat.reduceLeDiff, Nat.reduceBEq, Nat.reduceBNe, Try.results13, hd] | skip))

end Go.Proofs.Ytbaholclcfpknaa.X