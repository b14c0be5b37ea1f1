/- What functions answer, and the plain laws behind it. -/
import Derived.Test.YtdjdgnabcecdlaaGreatDoorKAL
import Derived.Test.YtdjdgnabcecdlaaGreatDoorKAM
import Derived.Test.YtdjdgnabcecdlaaGreatDoorKAE
import Derived.Test.YtdjdgnabcecdlaaGreatDoorKAF
/- What functions compute: the line that cuts an edge. -/
set_option linter.unusedSimpArgs false
set_option linter.unusedVariables false
set_option maxHeartbeats 8000000
set_option maxRecDepth 100000
namespace Go.Proofs.YtdjdgnabcecdlaaGreatDoor.X
open Go Go.Proofs
theorem ct_ld {n : Int} {es : List (Int × Int)} (hV : VG n es) {e : Int × Int} (hm : e ∈ es) : esT (ctR n (ldT es) e).1 = cutE e es ∧ LV n (ctR n (ldT es) e).1 ∧ 0 ≤ (ctR n (ldT es) e).2.1 ∧ (ctR n (ldT es) e).2.1 < 100 ∧ ((ctR n (ldT es) e).2.2 = true ↔ e ∈ forestL es ∧ Conn (cutE e es) e.1 e.2) := by
  have hld := ld hV
  have hL := hld.lv
  have hm' : e ∈ esT (ldT es) := by rw [hld.es']; exact hm
  obtain ⟨c1, c2, c3, c4, -⟩ := ct_spec hL hm'
  rw [hld.es'] at c1
  refine ⟨c1, c2, c4, ?_⟩
  have hV' := hL.vg
  have hel := hV'.2.2.1
  rw [esT_len'] at hel
  obtain ⟨k, l, q, hk, hf, hg, hsp⟩ := find_split hm'
  have hces := cut_es hV' hsp
  rw [hld.es'] at hces
  have hct0 : ctR n (ldT es) e = if q = true then cutR n e.1 e.2 (l + 1).toNat ((ldT es).take k ++ (ldT es).drop (k + 1)) else ((ldT es).take k ++ (ldT es).drop (k + 1), 0, false) := by
    unfold ctR
    rw [hf]
    simp only [Int.toNat_natCast]
    rw [hg]
  have hbl : ((ldT es).take k ++ (ldT es).drop (k + 1)).length = (ldT es).length - 1 := by simp; omega
  have hLb := hL
  rw [hsp] at hLb
  have hmem : (e, l, q) ∈ ldT es := by rw [hsp]; simp
  have hl0 : l = 0 := hld.z _ hmem
  subst hl0
  rw [hct0]
  cases q with
  | false =>
    rw [if_neg (by simp)]
    refine ⟨by simp, ?_⟩
    constructor
    · intro h; cases h
    · rintro ⟨h, -⟩
      exfalso
      rw [← hld.fo] at h
      obtain ⟨l', b', h1, -, h2⟩ := mem_abT.1 h
      obtain rfl := h2 rfl
      have hnd := hV'.nodup
      rw [hsp] at hnd h1
      unfold esT at hnd
      rw [List.map_append, List.map_cons, List.nodup_append, List.nodup_cons] at hnd
      rcases List.mem_append.1 h1 with h1 | h1
      · exact hnd.2.2 e (List.mem_map.2 ⟨_, h1, rfl⟩) e (by simp) rfl
      · rcases List.mem_cons.1 h1 with h1 | h1
        · cases h1
        · exact hnd.2.1.1 (List.mem_map.2 ⟨_, h1, rfl⟩)
  | true =>
    rw [if_pos rfl]
    obtain ⟨hMV, hl0⟩ := LV.cutT hLb
    obtain ⟨d1, d2, d3, -, d5, d6⟩ := cutR_spec (n := n) (a := e.1) (b := e.2) ((0 : Int) + 1).toNat (ts := (ldT es).take k ++ (ldT es).drop (k + 1)) (by rw [show (((((0 : Int) + 1).toNat : Nat)) : Int) - 1 = 0 by omega]; exact hMV)
    have h1 : ((((0 : Int) + 1).toNat : Nat) : Int) = 1 := by omega
    rw [h1] at d6
    refine ⟨by omega, ?_⟩
    rw [d3, hces]
    constructor
    · intro h
      refine ⟨?_, h⟩
      rw [← hld.fo]
      exact mem_abT.2 ⟨0, true, hmem, Int.le_refl _, fun _ => rfl⟩
    · exact fun h => h.2
theorem c_nl_cut (n a b : Int) (x y z : IV) (ts : List Tl) (h3 : LV3 x y z ts) (hL : LV n ts) (hm : (a, b) ∈ esT ts) (hr : 0 ≤ (ctR n ts (a, b)).2.1 ∧ (ctR n ts (a, b)).2.1 < 100) :
    KP 140 [.ptr 1000 0 0 0, S [99, 117, 116], .i (.lst [[.v (.int .i64 a)], [.v (.int .i64 b)]])] [.box 0 [I n, .i x, .i y, .i z]] =
      some (S ((if (ctR n ts (a, b)).2.2 = true then [102, 111, 117, 110, 100] else [99, 117, 116]) ++ numsT [(ctR n ts (a, b)).2.1] ++ [10]),
        [.box 0 [I n, .i (.lst ((esT (ctR n ts (a, b)).1).map encE)), .i (.lst ((lvT (ctR n ts (a, b)).1).map encI)), .i (.lst ((trT (ctR n ts (a, b)).1).map encT))]], []) := by
  have hfx := h3.fx
  have hlx := h3.lx
  have hfy := h3.fy
  have hly := h3.ly
  have hfz := h3.fz
  have hlz := h3.lz
  have hV := hL.vg
  have hab : 0 ≤ a ∧ a < b ∧ b < n := hV.2.2.2.1 (a, b) hm
  have hn16 := hV.2.1
  obtain ⟨r, own, hcl, him⟩ := c_CutLevelL n a b ts hL hm
  have he := c_EdgeOf a b
  have hef : edgeOf a b = (a, b) := by unfold edgeOf; rw [if_pos hab.2.1]
  rw [if_pos (show eOk a b by unfold eOk; omega), hef] at he
  have hn1 : KP 175 [S [99, 117, 116], .i (.lst [[.v (.int .i64 (ctR n ts (a, b)).2.1)]])] [] = _ := c_numbersText [99, 117, 116] [(ctR n ts (a, b)).2.1] (fun v hv => by simp at hv; omega) (by simp) (by simp)
  have hn2 : KP 175 [S [102, 111, 117, 110, 100], .i (.lst [[.v (.int .i64 (ctR n ts (a, b)).2.1)]])] [] = _ := c_numbersText [102, 111, 117, 110, 100] [(ctR n ts (a, b)).2.1] (fun v hv => by simp at hv; omega) (by simp) (by simp)
  generalize ctR n ts (a, b) = R at *
  obtain ⟨us, rs, fd⟩ := R
  simp only at him hn1 hn2 hr ⊢
  generalize hR1 : ([99, 117, 116] : List UInt8) ++ numsT [rs] ++ [10] = R1 at *
  generalize hR2 : ([102, 111, 117, 110, 100] : List UInt8) ++ numsT [rs] ++ [10] = R2 at *
  cases fd with
  | false =>
    rw [if_neg (by simp), hR1]
    refine xw_call (fn := Tryz.f140) rfl Tryz.func140 rfl ⟨Nat.le_of_ble_eq_true rfl, rfl, rfl⟩ ?_
    repeat' (first
      | refine xw_seq ?_
      | refine xw_block ?_
      | (refine ite_two ?_ ?_ <;> intro _ <;> first | (exfalso; omega) | skip)
      | refine ord_split (by kernel_rfl) ?_
      | (refine xw_ret ?_ <;> try simp only [sq, bl, LQ])
      | ((first | refine xw_reg ?_ | refine xw_regd ?_ | refine xw_if ?_ | refine xw_skip ?_ | refine xw_exit ?_ | refine xw_label ?_ | refine post_ret ?_ | refine post_normal ?_ | refine postE_ret ?_ | refine postE_normal ?_ | (((first | refine at_region ?_ | refine at_out ?_ | refine at_cond ?_); split) <;> first | (exfalso; omega; done) | skip)) <;> try simp (config := { maxSteps := 3000000 }) (disch := first | assumption | omega | exact VG.okg (by assumption) | (simp only [List.length_set, List.length_append, List.length_cons, List.length_nil, List.length_replicate]; omega)) only [go_sem, ↓reduceIte, Int.reduceLE, Int.reduceLT, Int.reduceToNat, Int.reduceNeg, Int.reduceAdd, Int.reduceSub, Int.reduceMul, Int.reduceEq, Int.reduceNe, Nat.reduceEqDiff, Nat.reduceAdd, Nat.reduceSub, Nat.reduceMul, Nat.reduceLT, Nat.reduceLeDiff, Nat.reduceBEq, Nat.reduceBNe, UInt8.reduceToNat, Tryz.results140, hfx, hlx, hfy, hly, hfz, hlz, he, hcl, him, hn1, hn2]))
  | true =>
    rw [if_pos rfl, hR2]
    refine xw_call (fn := Tryz.f140) rfl Tryz.func140 rfl ⟨Nat.le_of_ble_eq_true rfl, rfl, rfl⟩ ?_
    repeat' (first
      | refine xw_seq ?_
      | refine xw_block ?_
      | (refine ite_two ?_ ?_ <;> intro _ <;> first | (exfalso; omega) | skip)
      | refine ord_split (by kernel_rfl) ?_
      | (refine xw_ret ?_ <;> try simp only [sq, bl, LQ])
      | ((first | refine xw_reg ?_ | refine xw_regd ?_ | refine xw_if ?_ | refine xw_skip ?_ | refine xw_exit ?_ | refine xw_label ?_ | refine post_ret ?_ | refine post_normal ?_ | refine postE_ret ?_ | refine postE_normal ?_ | (((first | refine at_region ?_ | refine at_out ?_ | refine at_cond ?_); split) <;> first | (exfalso; omega; done) | skip)) <;> try simp (config := { maxSteps := 3000000 }) (disch := first | assumption | omega | exact VG.okg (by assumption) | (simp only [List.length_set, List.length_append, List.length_cons, List.length_nil, List.length_replicate]; omega)) only [go_sem, ↓reduceIte, Int.reduceLE, Int.reduceLT, Int.reduceToNat, Int.reduceNeg, Int.reduceAdd, Int.reduceSub, Int.reduceMul, Int.reduceEq, Int.reduceNe, Nat.reduceEqDiff, Nat.reduceAdd, Nat.reduceSub, Nat.reduceMul, Nat.reduceLT, Nat.reduceLeDiff, Nat.reduceBEq, Nat.reduceBNe, UInt8.reduceToNat, Tryz.results140, hfx, hlx, hfy, hly, hfz, hlz, he, hcl, him, hn1, hn2]))
end Go.Proofs.YtdjdgnabcecdlaaGreatDoor.X

/- What functions compute: lines with numbers. -/
set_option linter.unusedSimpArgs false
set_option linter.unusedVariables false
set_option maxHeartbeats 8000000
set_option maxRecDepth 100000
namespace Go.Proofs.YtdjdgnabcecdlaaGreatDoor.X
open Go Go.Proofs
theorem dgt_len (a : Int) : (dgt a).length ≤ 2 := (dec2_len (n := a.toNat)).2
theorem no10_two {w : List UInt8} (h : (10 : UInt8) ∉ w) {a b : Int} (ha : 0 ≤ a ∧ a < 100) (hb : 0 ≤ b ∧ b < 100) : (10 : UInt8) ∉ w ++ 32 :: (dgt a ++ 32 :: dgt b) := by
  simp only [List.mem_append, List.mem_cons, not_or]
  exact ⟨h, by decide, dec2_no (by omega) (by decide), by decide, dec2_no (by omega) (by decide)⟩
theorem nums2 (a b : Int) : numsT [a, b] = 32 :: (dgt a ++ 32 :: dgt b) := by simp [numsT]
theorem nums1 (a : Int) : numsT [a] = 32 :: dgt a := by simp [numsT]
theorem c_dyNumbers2 (a b : Int) (ha : 0 ≤ a ∧ a < 100) (hb : 0 ≤ b ∧ b < 100) : KP 17 [.i (.lst [[.v (.int .i64 a)], [.v (.int .i64 b)]])] [] = some (S (numsT [a, b]), [], []) :=
  c_dyNumbers [a, b] (fun x hx => by simp at hx; rcases hx with rfl | rfl <;> assumption) (by simp)
end Go.Proofs.YtdjdgnabcecdlaaGreatDoor.X

/- What functions compute: draws of graphs, and of a graph and an edge. -/
set_option linter.unusedSimpArgs false
set_option linter.unusedVariables false
set_option maxHeartbeats 8000000
namespace Go.Proofs.YtdjdgnabcecdlaaGreatDoor.X
open Go Go.Proofs
theorem case1 {bs cs : List Int} {n p : Int} {es : List (Int × Int)} (hcs : bytes cs) (hopen : KP 94 [LB bs] [] = some (.ptr 2000 0 0 0, [], [Rd cs 0])) (hn1 : 1 ≤ n) (hn2 : n ≤ 16) (hel : es.length ≤ 30) (hp1 : 0 ≤ p) (hp2 : p ≤ 0 + 100)
    (hdraw : KP 142 [.ptr 1000 0 0 0] [Rd cs 0] = some (.agg [I n, .i (qe es)], [Rd cs p], []))
    (hz : 0 < es.length) {w : Int} (w0 : 0 ≤ w) (w1 : ¬ w = 0) (hpw : KP 96 [.ptr 1000 0 0 0, I 2] [Rd cs p] = some (I w, [Rd cs (p + 1)], [])) {u : Int} (hu : u = 0) (hpu : KP 96 [.ptr 1000 0 0 0, I 16] [Rd cs (p + 1)] = some (I u, [Rd cs (p + 1 + 1)], [])) :
    ∃ (n : Int) (x : IV) (es : List (Int × Int)) (a b : Int), 0 ≤ n ∧ n ≤ 17 ∧ es.length ≤ 40 ∧ EQ x es ∧ KP 79 [LB bs] [] = some (.tup [.agg [I n, .i x], PE a b], [], []) := by
  have hll := lenP_qe (es := es)
  have hia := (EQ.qe es).ia
  have hfq := (EL.qe es).f
  have hflq := (EL.qe es).fl
  obtain ⟨a, ha, hna⟩ := c_num cs (p + 1 + 1) [1, -1, 3] hcs (by omega) (by simp) (by simp)
  obtain ⟨b, hb', hnb⟩ := c_num cs (p + 1 + 1 + 1) [0, 16, 1] hcs (by omega) (by simp) (by simp)
  simp only [List.map_cons, List.map_nil, encI, List.length_cons, List.length_nil, Nat.reduceAdd] at hna hnb
  refine ⟨n, qe es, es, a, b, by omega, by omega, by omega, EQ.qe es, xw_call (fn := Tryz.f79) rfl Tryz.func79 rfl ⟨Nat.le_of_ble_eq_true rfl, rfl, rfl⟩ ?_⟩
  repeat' (first
    | refine xw_seq ?_
    | refine xw_block ?_
    | (refine ite_two ?_ ?_ <;> intro _ <;> first | (exfalso; omega) | skip)
    | refine ord_split (by kernel_rfl) ?_
    | (refine xw_ret ?_ <;> try simp only [sq, bl, LQ])
    | ((first | refine xw_reg ?_ | refine xw_regd ?_ | refine xw_if ?_ | refine xw_skip ?_ | refine xw_exit ?_ | refine xw_label ?_ | refine post_ret ?_ | refine post_normal ?_ | refine postE_ret ?_ | refine postE_normal ?_ | (((first | refine at_region ?_ | refine at_out ?_ | refine at_cond ?_); split) <;> first | (exfalso; omega; done) | skip)) <;> try simp (config := { maxSteps := 3000000 }) (disch := first | assumption | omega | exact VG.okg (by assumption) | (simp only [List.length_set, List.length_append, List.length_cons, List.length_nil, List.length_replicate]; omega)) only [go_sem, ↓reduceIte, Int.reduceLE, Int.reduceLT, Int.reduceToNat, Int.reduceNeg, Int.reduceAdd, Int.reduceSub, Int.reduceMul, Int.reduceEq, Int.reduceNe, Nat.reduceEqDiff, Nat.reduceAdd, Nat.reduceSub, Nat.reduceMul, Nat.reduceLT, Nat.reduceLeDiff, Nat.reduceBEq, Nat.reduceBNe, UInt8.reduceToNat, Tryz.results79, hopen, hdraw, hll, hpw, hpu, hna, hnb, hfq, hflq]))
theorem case2 {bs cs : List Int} {n p : Int} {es : List (Int × Int)} (hcs : bytes cs) (hopen : KP 94 [LB bs] [] = some (.ptr 2000 0 0 0, [], [Rd cs 0])) (hn1 : 1 ≤ n) (hn2 : n ≤ 16) (hel : es.length ≤ 30) (hp1 : 0 ≤ p) (hp2 : p ≤ 0 + 100)
    (hdraw : KP 142 [.ptr 1000 0 0 0] [Rd cs 0] = some (.agg [I n, .i (qe es)], [Rd cs p], []))
    (hz : 0 < es.length) {w : Int} (w0 : 0 ≤ w) (w1 : ¬ w = 0) (hpw : KP 96 [.ptr 1000 0 0 0, I 2] [Rd cs p] = some (I w, [Rd cs (p + 1)], [])) {u : Int} (hu : 0 < u) (hpu : KP 96 [.ptr 1000 0 0 0, I 16] [Rd cs (p + 1)] = some (I u, [Rd cs (p + 1 + 1)], [])) :
    ∃ (n : Int) (x : IV) (es : List (Int × Int)) (a b : Int), 0 ≤ n ∧ n ≤ 17 ∧ es.length ≤ 40 ∧ EQ x es ∧ KP 79 [LB bs] [] = some (.tup [.agg [I n, .i x], PE a b], [], []) := by
  have hll := lenP_qe (es := es)
  have hia := (EQ.qe es).ia
  have hfq := (EL.qe es).f
  have hflq := (EL.qe es).fl
  obtain ⟨v, hv, _, hpv⟩ := c_pick cs (p + 1 + 1) n hcs (by omega) (by omega)
  obtain ⟨v', hv', _, hpv'⟩ := c_pick cs (p + 1 + 1 + 1) n hcs (by omega) (by omega)
  obtain ⟨n1, es1, p1, a1, a2, a3, a4, a5, hw1⟩ := c_l1Wrong cs (p + 1 + 1 + 1 + 1) n (qe es) es hcs (by omega) (EL.qe es) (by omega) (by omega)
  refine ⟨n1, .lst (es1.map encE), es1, (edgeOf v v').1, (edgeOf v v').2, by omega, by omega, by omega, EQ.lst es1, xw_call (fn := Tryz.f79) rfl Tryz.func79 rfl ⟨Nat.le_of_ble_eq_true rfl, rfl, rfl⟩ ?_⟩
  repeat' (first
    | refine xw_seq ?_
    | refine xw_block ?_
    | (refine ite_two ?_ ?_ <;> intro _ <;> first | (exfalso; omega) | skip)
    | refine ord_split (by kernel_rfl) ?_
    | (refine xw_ret ?_ <;> try simp only [sq, bl, LQ])
    | ((first | refine xw_reg ?_ | refine xw_regd ?_ | refine xw_if ?_ | refine xw_skip ?_ | refine xw_exit ?_ | refine xw_label ?_ | refine post_ret ?_ | refine post_normal ?_ | refine postE_ret ?_ | refine postE_normal ?_ | (((first | refine at_region ?_ | refine at_out ?_ | refine at_cond ?_); split) <;> first | (exfalso; omega; done) | skip)) <;> try simp (config := { maxSteps := 3000000 }) (disch := first | assumption | omega | exact VG.okg (by assumption) | (simp only [List.length_set, List.length_append, List.length_cons, List.length_nil, List.length_replicate]; omega)) only [go_sem, ↓reduceIte, Int.reduceLE, Int.reduceLT, Int.reduceToNat, Int.reduceNeg, Int.reduceAdd, Int.reduceSub, Int.reduceMul, Int.reduceEq, Int.reduceNe, Nat.reduceEqDiff, Nat.reduceAdd, Nat.reduceSub, Nat.reduceMul, Nat.reduceLT, Nat.reduceLeDiff, Nat.reduceBEq, Nat.reduceBNe, UInt8.reduceToNat, Tryz.results79, hopen, hdraw, hll, hpw, hpu, hpv, hpv', hw1, hfq, hflq]))
theorem case3 {bs cs : List Int} {n p : Int} {es : List (Int × Int)} (hcs : bytes cs) (hopen : KP 94 [LB bs] [] = some (.ptr 2000 0 0 0, [], [Rd cs 0])) (hn1 : 1 ≤ n) (hn2 : n ≤ 16) (hel : es.length ≤ 30) (hp1 : 0 ≤ p) (hp2 : p ≤ 0 + 100)
    (hdraw : KP 142 [.ptr 1000 0 0 0] [Rd cs 0] = some (.agg [I n, .i (qe es)], [Rd cs p], []))
    (hz : ¬ 0 < es.length) {u : Int} (hu : u = 0) (hpu : KP 96 [.ptr 1000 0 0 0, I 16] [Rd cs (p)] = some (I u, [Rd cs (p + 1)], [])) :
    ∃ (n : Int) (x : IV) (es : List (Int × Int)) (a b : Int), 0 ≤ n ∧ n ≤ 17 ∧ es.length ≤ 40 ∧ EQ x es ∧ KP 79 [LB bs] [] = some (.tup [.agg [I n, .i x], PE a b], [], []) := by
  have hll := lenP_qe (es := es)
  have hia := (EQ.qe es).ia
  have hfq := (EL.qe es).f
  have hflq := (EL.qe es).fl
  obtain ⟨a, ha, hna⟩ := c_num cs (p + 1) [1, -1, 3] hcs (by omega) (by simp) (by simp)
  obtain ⟨b, hb', hnb⟩ := c_num cs (p + 1 + 1) [0, 16, 1] hcs (by omega) (by simp) (by simp)
  simp only [List.map_cons, List.map_nil, encI, List.length_cons, List.length_nil, Nat.reduceAdd] at hna hnb
  refine ⟨n, qe es, es, a, b, by omega, by omega, by omega, EQ.qe es, xw_call (fn := Tryz.f79) rfl Tryz.func79 rfl ⟨Nat.le_of_ble_eq_true rfl, rfl, rfl⟩ ?_⟩
  repeat' (first
    | refine xw_seq ?_
    | refine xw_block ?_
    | (refine ite_two ?_ ?_ <;> intro _ <;> first | (exfalso; omega) | skip)
    | refine ord_split (by kernel_rfl) ?_
    | (refine xw_ret ?_ <;> try simp only [sq, bl, LQ])
    | ((first | refine xw_reg ?_ | refine xw_regd ?_ | refine xw_if ?_ | refine xw_skip ?_ | refine xw_exit ?_ | refine xw_label ?_ | refine post_ret ?_ | refine post_normal ?_ | refine postE_ret ?_ | refine postE_normal ?_ | (((first | refine at_region ?_ | refine at_out ?_ | refine at_cond ?_); split) <;> first | (exfalso; omega; done) | skip)) <;> try simp (config := { maxSteps := 3000000 }) (disch := first | assumption | omega | exact VG.okg (by assumption) | (simp only [List.length_set, List.length_append, List.length_cons, List.length_nil, List.length_replicate]; omega)) only [go_sem, ↓reduceIte, Int.reduceLE, Int.reduceLT, Int.reduceToNat, Int.reduceNeg, Int.reduceAdd, Int.reduceSub, Int.reduceMul, Int.reduceEq, Int.reduceNe, Nat.reduceEqDiff, Nat.reduceAdd, Nat.reduceSub, Nat.reduceMul, Nat.reduceLT, Nat.reduceLeDiff, Nat.reduceBEq, Nat.reduceBNe, UInt8.reduceToNat, Tryz.results79, hopen, hdraw, hll, hpu, hna, hnb, hfq, hflq]))
theorem case4 {bs cs : List Int} {n p : Int} {es : List (Int × Int)} (hcs : bytes cs) (hopen : KP 94 [LB bs] [] = some (.ptr 2000 0 0 0, [], [Rd cs 0])) (hn1 : 1 ≤ n) (hn2 : n ≤ 16) (hel : es.length ≤ 30) (hp1 : 0 ≤ p) (hp2 : p ≤ 0 + 100)
    (hdraw : KP 142 [.ptr 1000 0 0 0] [Rd cs 0] = some (.agg [I n, .i (qe es)], [Rd cs p], []))
    (hz : ¬ 0 < es.length) {u : Int} (hu : 0 < u) (hpu : KP 96 [.ptr 1000 0 0 0, I 16] [Rd cs (p)] = some (I u, [Rd cs (p + 1)], [])) :
    ∃ (n : Int) (x : IV) (es : List (Int × Int)) (a b : Int), 0 ≤ n ∧ n ≤ 17 ∧ es.length ≤ 40 ∧ EQ x es ∧ KP 79 [LB bs] [] = some (.tup [.agg [I n, .i x], PE a b], [], []) := by
  have hll := lenP_qe (es := es)
  have hia := (EQ.qe es).ia
  have hfq := (EL.qe es).f
  have hflq := (EL.qe es).fl
  obtain ⟨v, hv, _, hpv⟩ := c_pick cs (p + 1) n hcs (by omega) (by omega)
  obtain ⟨v', hv', _, hpv'⟩ := c_pick cs (p + 1 + 1) n hcs (by omega) (by omega)
  obtain ⟨n1, es1, p1, a1, a2, a3, a4, a5, hw1⟩ := c_l1Wrong cs (p + 1 + 1 + 1) n (qe es) es hcs (by omega) (EL.qe es) (by omega) (by omega)
  refine ⟨n1, .lst (es1.map encE), es1, (edgeOf v v').1, (edgeOf v v').2, by omega, by omega, by omega, EQ.lst es1, xw_call (fn := Tryz.f79) rfl Tryz.func79 rfl ⟨Nat.le_of_ble_eq_true rfl, rfl, rfl⟩ ?_⟩
  repeat' (first
    | refine xw_seq ?_
    | refine xw_block ?_
    | (refine ite_two ?_ ?_ <;> intro _ <;> first | (exfalso; omega) | skip)
    | refine ord_split (by kernel_rfl) ?_
    | (refine xw_ret ?_ <;> try simp only [sq, bl, LQ])
    | ((first | refine xw_reg ?_ | refine xw_regd ?_ | refine xw_if ?_ | refine xw_skip ?_ | refine xw_exit ?_ | refine xw_label ?_ | refine post_ret ?_ | refine post_normal ?_ | refine postE_ret ?_ | refine postE_normal ?_ | (((first | refine at_region ?_ | refine at_out ?_ | refine at_cond ?_); split) <;> first | (exfalso; omega; done) | skip)) <;> try simp (config := { maxSteps := 3000000 }) (disch := first | assumption | omega | exact VG.okg (by assumption) | (simp only [List.length_set, List.length_append, List.length_cons, List.length_nil, List.length_replicate]; omega)) only [go_sem, ↓reduceIte, Int.reduceLE, Int.reduceLT, Int.reduceToNat, Int.reduceNeg, Int.reduceAdd, Int.reduceSub, Int.reduceMul, Int.reduceEq, Int.reduceNe, Nat.reduceEqDiff, Nat.reduceAdd, Nat.reduceSub, Nat.reduceMul, Nat.reduceLT, Nat.reduceLeDiff, Nat.reduceBEq, Nat.reduceBNe, UInt8.reduceToNat, Tryz.results79, hopen, hdraw, hll, hpu, hpv, hpv', hw1, hfq, hflq]))
theorem case5 {bs cs : List Int} {n p : Int} {es : List (Int × Int)} (hcs : bytes cs) (hopen : KP 94 [LB bs] [] = some (.ptr 2000 0 0 0, [], [Rd cs 0])) (hn1 : 1 ≤ n) (hn2 : n ≤ 16) (hel : es.length ≤ 30) (hp1 : 0 ≤ p) (hp2 : p ≤ 0 + 100)
    (hdraw : KP 142 [.ptr 1000 0 0 0] [Rd cs 0] = some (.agg [I n, .i (qe es)], [Rd cs p], []))
    (hz : 0 < es.length) (hpw : KP 96 [.ptr 1000 0 0 0, I 2] [Rd cs p] = some (I 0, [Rd cs (p + 1)], [])) :
    ∃ (n : Int) (x : IV) (es : List (Int × Int)) (a b : Int), 0 ≤ n ∧ n ≤ 17 ∧ es.length ≤ 40 ∧ EQ x es ∧ KP 79 [LB bs] [] = some (.tup [.agg [I n, .i x], PE a b], [], []) := by
  have hll := lenP_qe (es := es)
  have hia := (EQ.qe es).ia
  have hfq := (EL.qe es).f
  have hflq := (EL.qe es).fl
  obtain ⟨n1, es1, p1, a1, a2, a3, a4, a5, hw1⟩ := c_l1Wrong cs (p + 1) n (qe es) es hcs (by omega) (EL.qe es) (by omega) (by omega)
  obtain ⟨k, hk, _, hpk⟩ := c_pick cs p1 es.length hcs (by omega) (by omega)
  have hk' := hk (by omega)
  refine ⟨n1, .lst (es1.map encE), es1, (es.getD k.toNat (0, 0)).1, (es.getD k.toNat (0, 0)).2, by omega, by omega, by omega, EQ.lst es1, xw_call (fn := Tryz.f79) rfl Tryz.func79 rfl ⟨Nat.le_of_ble_eq_true rfl, rfl, rfl⟩ ?_⟩
  repeat' (first
    | refine xw_seq ?_
    | refine xw_block ?_
    | (refine ite_two ?_ ?_ <;> intro _ <;> first | (exfalso; omega) | skip)
    | refine ord_split (by kernel_rfl) ?_
    | (refine xw_ret ?_ <;> try simp only [sq, bl, LQ])
    | ((first | refine xw_reg ?_ | refine xw_regd ?_ | refine xw_if ?_ | refine xw_skip ?_ | refine xw_exit ?_ | refine xw_label ?_ | refine post_ret ?_ | refine post_normal ?_ | refine postE_ret ?_ | refine postE_normal ?_ | (((first | refine at_region ?_ | refine at_out ?_ | refine at_cond ?_); split) <;> first | (exfalso; omega; done) | skip)) <;> try simp (config := { maxSteps := 3000000 }) (disch := first | assumption | omega | exact VG.okg (by assumption) | (simp only [List.length_set, List.length_append, List.length_cons, List.length_nil, List.length_replicate]; omega)) only [go_sem, ↓reduceIte, Int.reduceLE, Int.reduceLT, Int.reduceToNat, Int.reduceNeg, Int.reduceAdd, Int.reduceSub, Int.reduceMul, Int.reduceEq, Int.reduceNe, Nat.reduceEqDiff, Nat.reduceAdd, Nat.reduceSub, Nat.reduceMul, Nat.reduceLT, Nat.reduceLeDiff, Nat.reduceBEq, Nat.reduceBNe, UInt8.reduceToNat, Tryz.results79, hopen, hdraw, hll, hpw, hw1, hpk, hia, hfq, hflq]))
theorem c_l1Case (bs : List Int) (hb : ∀ b ∈ bs, 0 ≤ b ∧ b < 256) (hl : bs.length ≤ 1000000000) :
    ∃ (n : Int) (x : IV) (es : List (Int × Int)) (a b : Int), 0 ≤ n ∧ n ≤ 17 ∧ es.length ≤ 40 ∧ EQ x es ∧ KP 79 [LB bs] [] = some (.tup [.agg [I n, .i x], PE a b], [], []) := by
  obtain ⟨cs, hcs, hopen⟩ := c_l14Open bs hb hl
  obtain ⟨n, es, p, hn1, hn2, ho, hes, hel, hp1, hp2, hdraw⟩ := c_l1Draw cs 0 hcs (by omega)
  by_cases hz : 0 < es.length
  · obtain ⟨w, hw, _, hpw⟩ := c_pick cs p 2 hcs (by omega) (by omega)
    have hw' := hw (by omega)
    by_cases hw0 : w = 0
    · subst hw0
      exact case5 hcs hopen hn1 hn2 hel hp1 hp2 hdraw hz hpw
    · obtain ⟨u, hu, _, hpu⟩ := c_pick cs (p + 1) 16 hcs (by omega) (by omega)
      have hu' := hu (by omega)
      by_cases hu0 : u = 0
      · exact case1 hcs hopen hn1 hn2 hel hp1 hp2 hdraw hz hw'.1 hw0 hpw hu0 hpu
      · exact case2 hcs hopen hn1 hn2 hel hp1 hp2 hdraw hz hw'.1 hw0 hpw (by omega) hpu
  · obtain ⟨u, hu, _, hpu⟩ := c_pick cs p 16 hcs (by omega) (by omega)
    have hu' := hu (by omega)
    by_cases hu0 : u = 0
    · exact case3 hcs hopen hn1 hn2 hel hp1 hp2 hdraw hz hu0 hpu
    · exact case4 hcs hopen hn1 hn2 hel hp1 hp2 hdraw hz (by omega) hpu
end Go.Proofs.YtdjdgnabcecdlaaGreatDoor.X

/- Rows of rows of numbers. -/
set_option linter.unusedSimpArgs false
set_option linter.unusedVariables false
set_option maxHeartbeats 4000000
namespace Go.Proofs.YtdjdgnabcecdlaaGreatDoor.X
open Go Go.Proofs
/-- Rows of rows of numbers. -/
def encL (p : List Int) : List IV := [.lst (p.map encI)]
abbrev LL (ps : List (List Int)) : PV := .i (.lst (ps.map encL))
theorem getLs (ps : List (List Int)) (i : Nat) (h : i < ps.length) : (ps.map encL)[i]? = some [.lst ((ps.getD i []).map encI)] := by simp [encL, h]
theorem appLs (ps : List (List Int)) (p : List Int) : ps.map encL ++ [[.lst (p.map encI)]] = (ps ++ [p]).map encL := by simp [encL]
attribute [go_sem] getLs appLs
theorem c_dyHas (es : List (Int × Int)) (a b : Int) (hl : es.length ≤ 1048576) : KP 30 [LE es, PE a b] [] = some (B (decide ((a, b) ∈ es)), [], []) := by
  refine xw_call (fn := Tryz.f30) rfl Tryz.func30 rfl ⟨Nat.le_of_ble_eq_true rfl, rfl, rfl⟩ ?_
  repeat' (first
    | refine xw_seq ?_
    | refine xw_block ?_
    | (refine ite_two ?_ ?_ <;> intro _ <;> first | (exfalso; omega) | skip)
    | refine ord_split (by kernel_rfl) ?_
    | (refine xw_ret ?_ <;> try simp only [sq, bl, LQ])
    | ((first | refine xw_reg ?_ | refine xw_regd ?_ | refine xw_if ?_ | refine xw_skip ?_ | refine xw_exit ?_ | refine xw_label ?_ | refine post_ret ?_ | refine post_normal ?_ | refine postE_ret ?_ | refine postE_normal ?_ | (((first | refine at_region ?_ | refine at_out ?_ | refine at_cond ?_); split) <;> first | (exfalso; omega; done) | skip)) <;> try simp (config := { maxSteps := 3000000 }) (disch := first | assumption | omega | exact VG.okg (by assumption) | (simp only [List.length_set, List.length_append, List.length_cons, List.length_nil, List.length_replicate]; omega)) only [go_sem, ↓reduceIte, Int.reduceLE, Int.reduceLT, Int.reduceToNat, Int.reduceNeg, Int.reduceAdd, Int.reduceSub, Int.reduceMul, Int.reduceEq, Int.reduceNe, Nat.reduceEqDiff, Nat.reduceAdd, Nat.reduceSub, Nat.reduceMul, Nat.reduceLT, Nat.reduceLeDiff, Nat.reduceBEq, Nat.reduceBNe, UInt8.reduceToNat, Tryz.results30]))
  refine xw_loopR (fun (i : Int) s => s.ρ 0 = LE es ∧ s.ρ 3 = .ptr 3 0 0 0 ∧ s.m 3 = some (.box 0 [I a, I b]) ∧ s.ρ 5 = I i ∧ 0 ≤ i ∧ i ≤ es.length ∧ (a, b) ∉ es.take i.toNat) (fun i => (es.length - i).toNat) 0 (by simp [upd, initP]) ?_
  rintro i ⟨ρ, m⟩ ⟨h0, h3, m3, h5, g0, g1, g2⟩
  simp only at h0 h3 m3 h5 g0 g1 g2
  by_cases hi : i < es.length
  rotate_left
  · rw [take_all (by omega)] at g2
    rw [decide_eq_false g2]
    repeat' (first
      | refine xw_seq ?_
      | refine xw_block ?_
      | (refine ite_two ?_ ?_ <;> intro _ <;> first | (exfalso; omega) | skip)
      | refine ord_split (by kernel_rfl) ?_
      | (refine xw_ret ?_ <;> try simp only [sq, bl, LQ])
      | ((first | refine xw_reg ?_ | refine xw_regd ?_ | refine xw_if ?_ | refine xw_skip ?_ | refine xw_exit ?_ | refine xw_label ?_ | refine post_ret ?_ | refine post_normal ?_ | refine postE_ret ?_ | refine postE_normal ?_ | (((first | refine at_region ?_ | refine at_out ?_ | refine at_cond ?_); split) <;> first | (exfalso; omega; done) | skip)) <;> try simp (config := { maxSteps := 3000000 }) (disch := first | assumption | omega | exact VG.okg (by assumption) | (simp only [List.length_set, List.length_append, List.length_cons, List.length_nil, List.length_replicate]; omega)) only [go_sem, ↓reduceIte, Int.reduceLE, Int.reduceLT, Int.reduceToNat, Int.reduceNeg, Int.reduceAdd, Int.reduceSub, Int.reduceMul, Int.reduceEq, Int.reduceNe, Nat.reduceEqDiff, Nat.reduceAdd, Nat.reduceSub, Nat.reduceMul, Nat.reduceLT, Nat.reduceLeDiff, Nat.reduceBEq, Nat.reduceBNe, UInt8.reduceToNat, Tryz.results30, h0, h3, m3, h5]))
  have hm := getD_mem (d := (0, 0)) (show i.toNat < es.length by omega)
  have htk := take_int (0, 0) g0 hi
  generalize hve : es.getD i.toNat (0, 0) = q at hm htk
  by_cases h : q = (a, b)
  · subst h
    rw [decide_eq_true hm]
    repeat' (first
      | refine xw_seq ?_
      | refine xw_block ?_
      | (refine ite_two ?_ ?_ <;> intro _ <;> first | (exfalso; omega) | skip)
      | refine ord_split (by kernel_rfl) ?_
      | (refine xw_ret ?_ <;> try simp only [sq, bl, LQ])
      | ((first | refine xw_reg ?_ | refine xw_regd ?_ | refine xw_if ?_ | refine xw_skip ?_ | refine xw_exit ?_ | refine xw_label ?_ | refine post_ret ?_ | refine post_normal ?_ | refine postE_ret ?_ | refine postE_normal ?_ | (((first | refine at_region ?_ | refine at_out ?_ | refine at_cond ?_); split) <;> first | (exfalso; omega; done) | skip)) <;> try simp (config := { maxSteps := 3000000 }) (disch := first | assumption | omega | exact VG.okg (by assumption) | (simp only [List.length_set, List.length_append, List.length_cons, List.length_nil, List.length_replicate]; omega)) only [go_sem, ↓reduceIte, Int.reduceLE, Int.reduceLT, Int.reduceToNat, Int.reduceNeg, Int.reduceAdd, Int.reduceSub, Int.reduceMul, Int.reduceEq, Int.reduceNe, Nat.reduceEqDiff, Nat.reduceAdd, Nat.reduceSub, Nat.reduceMul, Nat.reduceLT, Nat.reduceLeDiff, Nat.reduceBEq, Nat.reduceBNe, UInt8.reduceToNat, Tryz.results30, h0, h3, m3, h5, hve]))
  · have h' : ¬ (q.1 = a ∧ q.2 = b) := fun k => h (Prod.ext k.1 k.2)
    repeat' (first
      | refine xw_seq ?_
      | refine xw_block ?_
      | (refine ite_two ?_ ?_ <;> intro _ <;> first | (exfalso; omega) | skip)
      | refine ord_split (by kernel_rfl) ?_
      | (refine xw_ret ?_ <;> try simp only [sq, bl, LQ])
      | ((first | refine xw_reg ?_ | refine xw_regd ?_ | refine xw_if ?_ | refine xw_skip ?_ | refine xw_exit ?_ | refine xw_label ?_ | refine post_ret ?_ | refine post_normal ?_ | refine postE_ret ?_ | refine postE_normal ?_ | (((first | refine at_region ?_ | refine at_out ?_ | refine at_cond ?_); split) <;> first | (exfalso; omega; done) | skip)) <;> try simp (config := { maxSteps := 3000000 }) (disch := first | assumption | omega | exact VG.okg (by assumption) | (simp only [List.length_set, List.length_append, List.length_cons, List.length_nil, List.length_replicate]; omega)) only [go_sem, ↓reduceIte, Int.reduceLE, Int.reduceLT, Int.reduceToNat, Int.reduceNeg, Int.reduceAdd, Int.reduceSub, Int.reduceMul, Int.reduceEq, Int.reduceNe, Nat.reduceEqDiff, Nat.reduceAdd, Nat.reduceSub, Nat.reduceMul, Nat.reduceLT, Nat.reduceLeDiff, Nat.reduceBEq, Nat.reduceBNe, UInt8.reduceToNat, Tryz.results30, h0, h3, m3, h5, hve]))
    refine ⟨by omega, by omega, ?_, by omega⟩
    rw [htk, List.mem_append, List.mem_singleton]
    exact fun k => k.elim g2 fun k => h k.symm
end Go.Proofs.YtdjdgnabcecdlaaGreatDoor.X
