/- The law: single edges are graphs. -/
import Derived.Test.YtdjdgnabcecdlaaDoorC105
import Derived.Test.YtdjdgnabcecdlaaDoorC46
import Derived.Test.YtdjdgnabcecdlaaDoorC13
set_option linter.unusedSimpArgs false
set_option linter.unusedVariables false
set_option maxHeartbeats 8000000
set_option maxRecDepth 100000
namespace Go.Proofs.YtdjdgnabcecdlaaDoor.X
open Go Go.Proofs
theorem c_DrawEdgeOf (bs : List Int) (hb : ∀ b ∈ bs, 0 ≤ b ∧ b < 256) (hl : bs.length ≤ 1000000000) :
    ∃ x y : Int, -1 ≤ x ∧ x ≤ 16 ∧ -1 ≤ y ∧ y ≤ 16 ∧ KP 4 [LB bs] [] = some (.tup [I x, I y], [], []) := by
  obtain ⟨cs, hcs, hopen⟩ := c_l14Open bs hb hl
  obtain ⟨x, hx, h1⟩ := c_num cs 0 [3, 0, 7, 15, 1, 16, -1] hcs (by omega) (by simp) (by simp)
  obtain ⟨y, hy, h2⟩ := c_num cs 1 [5, 1, 0, 15, 3, 16, -1] hcs (by omega) (by simp) (by simp)
  simp only [List.map_cons, List.map_nil, encI, List.length_cons, List.length_nil, Nat.reduceAdd] at h1 h2
  have hx' : -1 ≤ x ∧ x ≤ 16 := by
    have : ∀ v ∈ [3, 0, 7, 15, 1, 16, (-1 : Int)], -1 ≤ v ∧ v ≤ 16 := by decide
    exact this x hx
  have hy' : -1 ≤ y ∧ y ≤ 16 := by
    have : ∀ v ∈ [5, 1, 0, 15, 3, 16, (-1 : Int)], -1 ≤ v ∧ v ≤ 16 := by decide
    exact this y hy
  refine ⟨x, y, hx'.1, hx'.2, hy'.1, hy'.2, xw_call (fn := Tryd.f4) rfl Tryd.func4 rfl ⟨Nat.le_of_ble_eq_true rfl, rfl, rfl⟩ ?_⟩
  repeat' (first
    | refine xw_seq ?_
    | refine xw_block ?_
    | (refine ite_two ?_ ?_ <;> intro _ <;> first | (exfalso; omega) | skip)
    | refine ord_split (by kernel_rfl) ?_
    | (refine xw_ret ?_ <;> try simp only [sq, bl, LQ])
    | ((first | refine xw_reg ?_ | refine xw_regd ?_ | refine xw_if ?_ | refine xw_skip ?_ | refine xw_exit ?_ | refine xw_label ?_ | refine post_ret ?_ | refine post_normal ?_ | refine postE_ret ?_ | refine postE_normal ?_ | (((first | refine at_region ?_ | refine at_out ?_ | refine at_cond ?_); split) <;> first | (exfalso; omega; done) | skip)) <;> try simp (config := { maxSteps := 3000000 }) (disch := first | assumption | omega | exact VG.okg (by assumption) | (simp only [List.length_set, List.length_append, List.length_cons, List.length_nil, List.length_replicate]; omega)) only [go_sem, ↓reduceIte, Int.reduceLE, Int.reduceLT, Int.reduceToNat, Int.reduceNeg, Int.reduceAdd, Int.reduceSub, Int.reduceMul, Int.reduceEq, Int.reduceNe, Nat.reduceEqDiff, Nat.reduceAdd, Nat.reduceSub, Nat.reduceMul, Nat.reduceLT, Nat.reduceLeDiff, Nat.reduceBEq, Nat.reduceBNe, UInt8.reduceToNat, Tryd.results4, hopen, h1, h2]))
theorem c_sEdgeOf (x y : Int) : KP 6 [I x, I y] [] = some (if eOk x y then .tup [PE (edgeOf x y).1 (edgeOf x y).2, B true] else .tup [PE 0 0, B false], [], []) := by
  by_cases h : eOk x y
  · rw [if_pos h]
    have h' := h
    unfold eOk at h'
    refine xw_call (fn := Tryd.f6) rfl Tryd.func6 rfl ⟨Nat.le_of_ble_eq_true rfl, rfl, rfl⟩ ?_
    repeat' (first
      | refine xw_seq ?_
      | refine xw_block ?_
      | (refine ite_two ?_ ?_ <;> intro _ <;> first | (exfalso; omega) | skip)
      | refine ord_split (by kernel_rfl) ?_
      | (refine xw_ret ?_ <;> try simp only [sq, bl, LQ])
      | ((first | refine xw_reg ?_ | refine xw_regd ?_ | refine xw_if ?_ | refine xw_skip ?_ | refine xw_exit ?_ | refine xw_label ?_ | refine post_ret ?_ | refine post_normal ?_ | refine postE_ret ?_ | refine postE_normal ?_ | (((first | refine at_region ?_ | refine at_out ?_ | refine at_cond ?_); split) <;> first | (exfalso; omega; done) | skip)) <;> try simp (config := { maxSteps := 3000000 }) (disch := first | assumption | omega | exact VG.okg (by assumption) | (simp only [List.length_set, List.length_append, List.length_cons, List.length_nil, List.length_replicate]; omega)) only [go_sem, ↓reduceIte, Int.reduceLE, Int.reduceLT, Int.reduceToNat, Int.reduceNeg, Int.reduceAdd, Int.reduceSub, Int.reduceMul, Int.reduceEq, Int.reduceNe, Nat.reduceEqDiff, Nat.reduceAdd, Nat.reduceSub, Nat.reduceMul, Nat.reduceLT, Nat.reduceLeDiff, Nat.reduceBEq, Nat.reduceBNe, UInt8.reduceToNat, Tryd.results6]))
    all_goals grind
  · rw [if_neg h]
    unfold eOk at h
    refine xw_call (fn := Tryd.f6) rfl Tryd.func6 rfl ⟨Nat.le_of_ble_eq_true rfl, rfl, rfl⟩ ?_
    repeat' (first
      | refine xw_seq ?_
      | refine xw_block ?_
      | (refine ite_two ?_ ?_ <;> intro _ <;> first | (exfalso; omega) | skip)
      | refine ord_split (by kernel_rfl) ?_
      | (refine xw_ret ?_ <;> try simp only [sq, bl, LQ])
      | ((first | refine xw_reg ?_ | refine xw_regd ?_ | refine xw_if ?_ | refine xw_skip ?_ | refine xw_exit ?_ | refine xw_label ?_ | refine post_ret ?_ | refine post_normal ?_ | refine postE_ret ?_ | refine postE_normal ?_ | (((first | refine at_region ?_ | refine at_out ?_ | refine at_cond ?_); split) <;> first | (exfalso; omega; done) | skip)) <;> try simp (config := { maxSteps := 3000000 }) (disch := first | assumption | omega | exact VG.okg (by assumption) | (simp only [List.length_set, List.length_append, List.length_cons, List.length_nil, List.length_replicate]; omega)) only [go_sem, ↓reduceIte, Int.reduceLE, Int.reduceLT, Int.reduceToNat, Int.reduceNeg, Int.reduceAdd, Int.reduceSub, Int.reduceMul, Int.reduceEq, Int.reduceNe, Nat.reduceEqDiff, Nat.reduceAdd, Nat.reduceSub, Nat.reduceMul, Nat.reduceLT, Nat.reduceLeDiff, Nat.reduceBEq, Nat.reduceBNe, UInt8.reduceToNat, Tryd.results6]))
    all_goals grind
theorem edgeOf_vg {x y : Int} (h : eOk x y) : VG 16 [edgeOf x y] := by
  unfold eOk at h
  refine ⟨by omega, by omega, by simp, fun e he => ?_, by simp [Ord]⟩
  rw [List.mem_singleton.1 he]
  unfold okE edgeOf
  split <;> (simp only; omega)
theorem list_one {l : List Int} {y : Int} (hp : l.Pairwise (· < ·)) (hm : ∀ z, z ∈ l ↔ z = y) : l = [y] := by
  match l with
  | [] => exact absurd ((hm y).2 rfl) (by simp)
  | [a] => rw [(hm a).1 (by simp)]
  | a :: b :: r =>
    have h1 := (hm a).1 (by simp)
    have h2 := (hm b).1 (by simp)
    rw [List.pairwise_cons] at hp
    have := hp.1 b (by simp)
    omega
theorem law_ParseEdge (bs : List Int) (hb : ∀ b ∈ bs, 0 ≤ b ∧ b < 256) : KP 3 [LB bs] [] = some (B true, [], []) := by
  by_cases hbig : (1048576 : Int) < bs.length
  · refine xw_call (fn := Tryd.f3) rfl Tryd.func3 rfl ⟨Nat.le_of_ble_eq_true rfl, rfl, rfl⟩ ?_
    repeat' (first
      | refine xw_seq ?_
      | refine xw_block ?_
      | (refine ite_two ?_ ?_ <;> intro _ <;> first | (exfalso; omega) | skip)
      | refine ord_split (by kernel_rfl) ?_
      | (refine xw_ret ?_ <;> try simp only [sq, bl, LQ])
      | ((first | refine xw_reg ?_ | refine xw_regd ?_ | refine xw_if ?_ | refine xw_skip ?_ | refine xw_exit ?_ | refine xw_label ?_ | refine post_ret ?_ | refine post_normal ?_ | refine postE_ret ?_ | refine postE_normal ?_ | (((first | refine at_region ?_ | refine at_out ?_ | refine at_cond ?_); split) <;> first | (exfalso; omega; done) | skip)) <;> try simp (config := { maxSteps := 3000000 }) (disch := first | assumption | omega | exact VG.okg (by assumption) | (simp only [List.length_set, List.length_append, List.length_cons, List.length_nil, List.length_replicate]; omega)) only [go_sem, ↓reduceIte, Int.reduceLE, Int.reduceLT, Int.reduceToNat, Int.reduceNeg, Int.reduceAdd, Int.reduceSub, Int.reduceMul, Int.reduceEq, Int.reduceNe, Nat.reduceEqDiff, Nat.reduceAdd, Nat.reduceSub, Nat.reduceMul, Nat.reduceLT, Nat.reduceLeDiff, Nat.reduceBEq, Nat.reduceBNe, UInt8.reduceToNat, Tryd.results3]))
  obtain ⟨x, y, x0, x1, y0, y1, hdraw⟩ := c_DrawEdgeOf bs hb (by omega)
  have hp := c_EdgeOf x y
  have hs := c_sEdgeOf x y
  by_cases hE : eOk x y
  rotate_left
  · rw [if_neg hE] at hp hs
    refine xw_call (fn := Tryd.f3) rfl Tryd.func3 rfl ⟨Nat.le_of_ble_eq_true rfl, rfl, rfl⟩ ?_
    repeat' (first
      | refine xw_seq ?_
      | refine xw_block ?_
      | (refine ite_two ?_ ?_ <;> intro _ <;> first | (exfalso; omega) | skip)
      | refine ord_split (by kernel_rfl) ?_
      | (refine xw_ret ?_ <;> try simp only [sq, bl, LQ])
      | ((first | refine xw_reg ?_ | refine xw_regd ?_ | refine xw_if ?_ | refine xw_skip ?_ | refine xw_exit ?_ | refine xw_label ?_ | refine post_ret ?_ | refine post_normal ?_ | refine postE_ret ?_ | refine postE_normal ?_ | (((first | refine at_region ?_ | refine at_out ?_ | refine at_cond ?_); split) <;> first | (exfalso; omega; done) | skip)) <;> try simp (config := { maxSteps := 3000000 }) (disch := first | assumption | omega | exact VG.okg (by assumption) | (simp only [List.length_set, List.length_append, List.length_cons, List.length_nil, List.length_replicate]; omega)) only [go_sem, ↓reduceIte, Int.reduceLE, Int.reduceLT, Int.reduceToNat, Int.reduceNeg, Int.reduceAdd, Int.reduceSub, Int.reduceMul, Int.reduceEq, Int.reduceNe, Nat.reduceEqDiff, Nat.reduceAdd, Nat.reduceSub, Nat.reduceMul, Nat.reduceLT, Nat.reduceLeDiff, Nat.reduceBEq, Nat.reduceBNe, UInt8.reduceToNat, Tryd.results3, hdraw, hp, hs]))
  rw [if_pos hE] at hp hs
  have hV := edgeOf_vg hE
  have hP : PutOK 16 [] (edgeOf x y) := ⟨hV.sub (List.nil_sublist _), by simp, hV⟩
  have hnb : nbS x [edgeOf x y] = [y] := by
    have hok := hV.2.2.2.1
    refine list_one (sorted_nbS hok (by simp) x) fun z => ?_
    rw [mem_nbS hok]
    unfold eOk at hE
    unfold Adj edgeOf
    by_cases hxy : x < y
    · rw [if_pos hxy]; simp only [List.mem_singleton, Prod.mk.injEq, true_and]
      exact ⟨fun h => by rcases h with h | h <;> omega, fun h => .inl h⟩
    · rw [if_neg hxy]; simp only [List.mem_singleton, Prod.mk.injEq, and_true]
      exact ⟨fun h => by rcases h with h | h <;> omega, fun h => .inr h⟩
  have hx16 : 0 ≤ x ∧ x < 16 := by unfold eOk at hE; omega
  generalize edgeOf x y = e at *
  obtain ⟨a, b⟩ := e
  obtain ⟨r, own, hpe, hpi⟩ := c_PutEdgeL 16 a b [] hP (by simp)
  have hpe' : KP 7 [.agg [I 16, .i (.lst [])], PE a b] [] = some (r, [], own) := hpe
  have hpi' : imm 2 own r = some (.tup [.agg [I 16, .i (.lst [[.v (.int .i64 a), .v (.int .i64 b)]])], B true]) := hpi
  have hf := c_FormatGraph 16 [(a, b)] (by simp)
  rw [if_pos hV] at hf
  obtain ⟨r2, own2, hpg, hgi⟩ := c_ParseGraphL 16 [(a, b)] hV
  have hf' : KP 8 [.agg [I 16, .i (.lst [[.v (.int .i64 a), .v (.int .i64 b)]])]] [] = _ := hf
  have hgi' : imm 2 own2 r2 = some (.tup [.agg [I 16, .i (.lst [[.v (.int .i64 a), .v (.int .i64 b)]])], B true]) := hgi
  have hng := c_NeighborsOf 16 x [(a, b)] (by simp)
  rw [if_pos ⟨hV, hx16⟩, hnb] at hng
  have hng' : KP 10 [.agg [I 16, .i (.lst [[.v (.int .i64 a), .v (.int .i64 b)]])], I x] [] = some (.i (.lst [[.v (.int .i64 y)]]), [], []) := hng
  generalize fmtG 16 [(a, b)] = T at *
  refine xw_call (fn := Tryd.f3) rfl Tryd.func3 rfl ⟨Nat.le_of_ble_eq_true rfl, rfl, rfl⟩ ?_
  repeat' (first
    | refine xw_seq ?_
    | refine xw_block ?_
    | (refine ite_two ?_ ?_ <;> intro _ <;> first | (exfalso; omega) | skip)
    | refine ord_split (by kernel_rfl) ?_
    | (refine xw_ret ?_ <;> try simp only [sq, bl, LQ])
    | ((first | refine xw_reg ?_ | refine xw_regd ?_ | refine xw_if ?_ | refine xw_skip ?_ | refine xw_exit ?_ | refine xw_label ?_ | refine post_ret ?_ | refine post_normal ?_ | refine postE_ret ?_ | refine postE_normal ?_ | (((first | refine at_region ?_ | refine at_out ?_ | refine at_cond ?_); split) <;> first | (exfalso; omega; done) | skip)) <;> try simp (config := { maxSteps := 3000000 }) (disch := first | assumption | omega | exact VG.okg (by assumption) | (simp only [List.length_set, List.length_append, List.length_cons, List.length_nil, List.length_replicate]; omega)) only [go_sem, ↓reduceIte, Int.reduceLE, Int.reduceLT, Int.reduceToNat, Int.reduceNeg, Int.reduceAdd, Int.reduceSub, Int.reduceMul, Int.reduceEq, Int.reduceNe, Nat.reduceEqDiff, Nat.reduceAdd, Nat.reduceSub, Nat.reduceMul, Nat.reduceLT, Nat.reduceLeDiff, Nat.reduceBEq, Nat.reduceBNe, UInt8.reduceToNat, Tryd.results3, hdraw, hp, hs, hpe', hpi', hf', hpg, hgi', hng']))
end Go.Proofs.YtdjdgnabcecdlaaDoor.X
