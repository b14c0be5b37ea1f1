/- What functions answer, and the plain laws behind it. -/
import Derived.Test.YtdjdgnabcecdlaaGreatDoorKAN
import Derived.Test.YtdjdgnabcecdlaaGreatDoorKAI
import Derived.Test.YtdjdgnabcecdlaaGreatDoorKAH
/- What functions compute: numbers of paths, sides and sizes of cuts. -/
set_option linter.unusedSimpArgs false
set_option linter.unusedVariables false
set_option maxHeartbeats 8000000
namespace Go.Proofs.YtdjdgnabcecdlaaGreatDoor.X
open Go Go.Proofs
def Pr (n x y : Int) (es : List (Int × Int)) : Prop := VG n es ∧ (0 ≤ x ∧ x < n) ∧ (0 ≤ y ∧ y < n) ∧ x ≠ y
noncomputable instance (n x y : Int) (es : List (Int × Int)) : Decidable (Pr n x y es) := by unfold Pr; infer_instance
@[go_sem] theorem c_isPair (n x y : Int) (es : List (Int × Int)) (hl : es.length ≤ 1048576) : KP 61 [GL n es, I x, I y] [] = some (B (decide (Pr n x y es)), [], []) := by
  unfold Pr
  refine xw_call (fn := Tryz.f61) rfl Tryz.func61 rfl ⟨Nat.le_of_ble_eq_true rfl, rfl, rfl⟩ ?_
  repeat' (first
    | refine xw_seq ?_
    | refine xw_block ?_
    | (refine ite_two ?_ ?_ <;> intro _ <;> first | (exfalso; omega) | skip)
    | refine ord_split (by kernel_rfl) ?_
    | (refine xw_ret ?_ <;> try simp only [sq, bl, LQ])
    | ((first | refine xw_reg ?_ | refine xw_regd ?_ | refine xw_if ?_ | refine xw_skip ?_ | refine xw_exit ?_ | refine xw_label ?_ | refine post_ret ?_ | refine post_normal ?_ | refine postE_ret ?_ | refine postE_normal ?_ | (((first | refine at_region ?_ | refine at_out ?_ | refine at_cond ?_); split) <;> first | (exfalso; omega; done) | skip)) <;> try simp (config := { maxSteps := 3000000 }) (disch := first | assumption | omega | exact VG.okg (by assumption) | (simp only [List.length_set, List.length_append, List.length_cons, List.length_nil, List.length_replicate]; omega)) only [go_sem, ↓reduceIte, Int.reduceLE, Int.reduceLT, Int.reduceToNat, Int.reduceNeg, Int.reduceAdd, Int.reduceSub, Int.reduceMul, Int.reduceEq, Int.reduceNe, Nat.reduceEqDiff, Nat.reduceAdd, Nat.reduceSub, Nat.reduceMul, Nat.reduceLT, Nat.reduceLeDiff, Nat.reduceBEq, Nat.reduceBNe, UInt8.reduceToNat, Tryz.results61]))
  all_goals grind
@[go_sem] theorem c_l10Right (n x y : Int) (es : List (Int × Int)) (hl : es.length ≤ 1048576) : KP 66 [GL n es, I x, I y] [] = some (B (decide (Pr n x y es)), [], []) := by
  unfold Pr
  refine xw_call (fn := Tryz.f66) rfl Tryz.func66 rfl ⟨Nat.le_of_ble_eq_true rfl, rfl, rfl⟩ ?_
  repeat' (first
    | refine xw_seq ?_
    | refine xw_block ?_
    | (refine ite_two ?_ ?_ <;> intro _ <;> first | (exfalso; omega) | skip)
    | refine ord_split (by kernel_rfl) ?_
    | (refine xw_ret ?_ <;> try simp only [sq, bl, LQ])
    | ((first | refine xw_reg ?_ | refine xw_regd ?_ | refine xw_if ?_ | refine xw_skip ?_ | refine xw_exit ?_ | refine xw_label ?_ | refine post_ret ?_ | refine post_normal ?_ | refine postE_ret ?_ | refine postE_normal ?_ | (((first | refine at_region ?_ | refine at_out ?_ | refine at_cond ?_); split) <;> first | (exfalso; omega; done) | skip)) <;> try simp (config := { maxSteps := 3000000 }) (disch := first | assumption | omega | exact VG.okg (by assumption) | (simp only [List.length_set, List.length_append, List.length_cons, List.length_nil, List.length_replicate]; omega)) only [go_sem, ↓reduceIte, Int.reduceLE, Int.reduceLT, Int.reduceToNat, Int.reduceNeg, Int.reduceAdd, Int.reduceSub, Int.reduceMul, Int.reduceEq, Int.reduceNe, Nat.reduceEqDiff, Nat.reduceAdd, Nat.reduceSub, Nat.reduceMul, Nat.reduceLT, Nat.reduceLeDiff, Nat.reduceBEq, Nat.reduceBNe, UInt8.reduceToNat, Tryz.results66]))
  all_goals grind
/-- The side of a cut, in order. -/
def sideL (n : Int) (es : List (Int × Int)) (x y : Int) : List Int := (iota n).filter fun v => decide (v ∈ sideO n es x y)
theorem getT_set {l : List Bool} {i j : Nat} {x : Bool} (h : j < l.length) : (l.set i x).getD j false = if i = j then x else l.getD j false := by
  simp only [List.getD_eq_getElem?_getD, List.getElem?_set]
  split
  · rename_i e; subst e; simp [h]
  · rfl
/-- Different nodes. -/
def Nds (n : Int) (xs : List Int) : Prop := (∀ v ∈ xs, 0 ≤ v ∧ v < n) ∧ xs.Nodup
instance (n : Int) (xs : List Int) : Decidable (Nds n xs) := by unfold Nds; infer_instance
def inS (xs : List Int) : Int → Bool := fun v => decide (v ∈ xs)
end Go.Proofs.YtdjdgnabcecdlaaGreatDoor.X

/- What functions compute: draws of graphs with more edges. -/
set_option linter.unusedSimpArgs false
set_option linter.unusedVariables false
set_option maxHeartbeats 8000000
namespace Go.Proofs.YtdjdgnabcecdlaaGreatDoor.X
open Go Go.Proofs
theorem c_l10Draw (bs : List Int) (p : Int) (hb : bytes bs) (hp : 0 ≤ p ∧ p ≤ 100000) :
    ∃ n es p', 3 ≤ n ∧ n ≤ 7 ∧ Ord es ∧ (∀ e ∈ es, 0 ≤ e.1 ∧ e.1 < e.2 ∧ e.2 < n) ∧ es.length ≤ 12 ∧ p ≤ p' ∧ p' ≤ p + 100 ∧
      KP 125 [.ptr 1000 0 0 0] [Rd bs p] = some (.agg [I n, .i (qe es)], [Rd bs p'], []) := by
  obtain ⟨N, hN, hnum⟩ := c_num bs p [5, 4, 6, 3, 7] hb (by omega) (by simp) (by simp)
  have hN' : 3 ≤ N ∧ N ≤ 7 := by
    have : ∀ x ∈ [5, 4, 6, 3, (7 : Int)], 3 ≤ x ∧ x ≤ 7 := by decide
    exact this N hN
  obtain ⟨x, hx, hnum2⟩ := c_num bs (p + 1) [9, 7, 12, 5, 3] hb (by omega) (by simp) (by simp)
  have hx' : 0 ≤ x ∧ x ≤ 12 := by
    have : ∀ x ∈ [9, 7, 12, 5, (3 : Int)], 0 ≤ x ∧ x ≤ 12 := by decide
    exact this x hx
  simp only [List.map_cons, List.map_nil, encI, List.length_cons, List.length_nil, Nat.reduceAdd] at hnum hnum2
  suffices h : ∃ res, (∃ (es : List (Int × Int)) (p' : Int), Ord es ∧ (∀ e ∈ es, 0 ≤ e.1 ∧ e.1 < e.2 ∧ e.2 < N) ∧ es.length ≤ 12 ∧ p ≤ p' ∧ p' ≤ p + 100 ∧ res = (PV.agg [I N, .i (qe es)], [Rd bs p'], [])) ∧
      KP 125 [.ptr 1000 0 0 0] [Rd bs p] = some res by
    obtain ⟨res, ⟨es, p', h1, h2, h3, h4, h5, rfl⟩, h6⟩ := h
    exact ⟨N, es, p', hN'.1, hN'.2, h1, h2, h3, h4, h5, h6⟩
  refine xw_callE (fn := Tryz.f125) rfl Tryz.func125 rfl ⟨Nat.le_of_ble_eq_true rfl, rfl, rfl⟩ ?_
  repeat' (first
    | refine xw_seq ?_
    | refine xw_block ?_
    | (refine ite_two ?_ ?_ <;> intro _ <;> first | (exfalso; omega) | skip)
    | refine ord_split (by kernel_rfl) ?_
    | (refine xw_ret ?_ <;> try simp only [sq, bl, LQ])
    | ((first | refine xw_reg ?_ | refine xw_regd ?_ | refine xw_if ?_ | refine xw_skip ?_ | refine xw_exit ?_ | refine xw_label ?_ | refine post_ret ?_ | refine post_normal ?_ | refine postE_ret ?_ | refine postE_normal ?_ | (((first | refine at_region ?_ | refine at_out ?_ | refine at_cond ?_); split) <;> first | (exfalso; omega; done) | skip)) <;> try simp (config := { maxSteps := 3000000 }) (disch := first | assumption | omega | exact VG.okg (by assumption) | (simp only [List.length_set, List.length_append, List.length_cons, List.length_nil, List.length_replicate]; omega)) only [go_sem, ↓reduceIte, Int.reduceLE, Int.reduceLT, Int.reduceToNat, Int.reduceNeg, Int.reduceAdd, Int.reduceSub, Int.reduceMul, Int.reduceEq, Int.reduceNe, Nat.reduceEqDiff, Nat.reduceAdd, Nat.reduceSub, Nat.reduceMul, Nat.reduceLT, Nat.reduceLeDiff, Nat.reduceBEq, Nat.reduceBNe, UInt8.reduceToNat, Tryz.results125, hnum, hnum2]))
  refine xw_loopR (fun (u : Int × Int × List (Int × Int)) s => s.ρ 0 = .ptr 1000 0 0 0 ∧ s.m 1000 = some (Rd bs u.2.1) ∧ s.ρ 2 = .ptr 2 0 0 0 ∧ s.m 2 = some (.box 0 [I 0, .i .emp]) ∧ s.ρ 3 = .ptr 3 0 0 0 ∧ s.m 3 = some (.box 0 [I N, .i (qe u.2.2)]) ∧ s.ρ 4 = I u.1 ∧
    0 ≤ u.1 ∧ u.1 ≤ x ∧ Ord u.2.2 ∧ (∀ e ∈ u.2.2, 0 ≤ e.1 ∧ e.1 < e.2 ∧ e.2 < N) ∧ (u.2.2.length : Int) ≤ x - u.1 ∧ p ≤ u.2.1 ∧ u.2.1 ≤ p + 2 + 2 * (x - u.1)) (fun u => u.1.toNat) (x, p + 1 + 1, []) ?_ ?_
  · refine ⟨by simp [upd], by simp [upd], by simp [upd], by simp [upd], by simp [upd], by simp [upd, qe], by simp [upd], by simp only; omega, by simp, by simp [Ord], by simp, by simp, by simp only; omega, by simp only; omega⟩
  rintro ⟨k, p2, es⟩ ⟨ρ, m⟩ ⟨h0, m1, h2, m2, h3, m3, h4, g0, g1, g2, g3, g4, g5, g6⟩
  simp only at h0 m1 h2 m2 h3 m3 h4 g0 g1 g2 g3 g4 g5 g6
  by_cases hk : 0 < k
  rotate_left
  · repeat' (first
      | refine xw_seq ?_
      | refine xw_block ?_
      | (refine ite_two ?_ ?_ <;> intro _ <;> first | (exfalso; omega) | skip)
      | refine ord_split (by kernel_rfl) ?_
      | (refine xw_ret ?_ <;> try simp only [sq, bl, LQ])
      | ((first | refine xw_reg ?_ | refine xw_regd ?_ | refine xw_if ?_ | refine xw_skip ?_ | refine xw_exit ?_ | refine xw_label ?_ | refine post_ret ?_ | refine post_normal ?_ | refine postE_ret ?_ | refine postE_normal ?_ | (((first | refine at_region ?_ | refine at_out ?_ | refine at_cond ?_); split) <;> first | (exfalso; omega; done) | skip)) <;> try simp (config := { maxSteps := 3000000 }) (disch := first | assumption | omega | exact VG.okg (by assumption) | (simp only [List.length_set, List.length_append, List.length_cons, List.length_nil, List.length_replicate]; omega)) only [go_sem, ↓reduceIte, Int.reduceLE, Int.reduceLT, Int.reduceToNat, Int.reduceNeg, Int.reduceAdd, Int.reduceSub, Int.reduceMul, Int.reduceEq, Int.reduceNe, Nat.reduceEqDiff, Nat.reduceAdd, Nat.reduceSub, Nat.reduceMul, Nat.reduceLT, Nat.reduceLeDiff, Nat.reduceBEq, Nat.reduceBNe, UInt8.reduceToNat, Tryz.results125, h0, m1, h2, m2, h3, m3, h4]))
    exact ⟨es, g2, g3, by omega, p2, by omega, by omega, rfl, rfl⟩
  obtain ⟨y, hy, _, hpk⟩ := c_pick bs p2 N hb (by omega) (by omega)
  have hy' := hy (by omega)
  obtain ⟨z, hz, _, hpk2⟩ := c_pick bs (p2 + 1) N hb (by omega) (by omega)
  have hz' := hz (by omega)
  have hedge := c_l1Edge y z
  have hfind := c_l1Find es (edgeOf y z).1 (edgeOf y z).2 (by omega)
  have hput := c_l1Put es (edgeOf y z).1 (edgeOf y z).2 (by omega)
  by_cases hyz : y = z
  · repeat' (first
      | refine xw_seq ?_
      | refine xw_block ?_
      | (refine ite_two ?_ ?_ <;> intro _ <;> first | (exfalso; omega) | skip)
      | refine ord_split (by kernel_rfl) ?_
      | (refine xw_ret ?_ <;> try simp only [sq, bl, LQ])
      | ((first | refine xw_reg ?_ | refine xw_regd ?_ | refine xw_if ?_ | refine xw_skip ?_ | refine xw_exit ?_ | refine xw_label ?_ | refine post_ret ?_ | refine post_normal ?_ | refine postE_ret ?_ | refine postE_normal ?_ | (((first | refine at_region ?_ | refine at_out ?_ | refine at_cond ?_); split) <;> first | (exfalso; omega; done) | skip)) <;> try simp (config := { maxSteps := 3000000 }) (disch := first | assumption | omega | exact VG.okg (by assumption) | (simp only [List.length_set, List.length_append, List.length_cons, List.length_nil, List.length_replicate]; omega)) only [go_sem, ↓reduceIte, Int.reduceLE, Int.reduceLT, Int.reduceToNat, Int.reduceNeg, Int.reduceAdd, Int.reduceSub, Int.reduceMul, Int.reduceEq, Int.reduceNe, Nat.reduceEqDiff, Nat.reduceAdd, Nat.reduceSub, Nat.reduceMul, Nat.reduceLT, Nat.reduceLeDiff, Nat.reduceBEq, Nat.reduceBNe, UInt8.reduceToNat, Tryz.results125, h0, m1, h2, m2, h3, m3, h4, hpk, hpk2]))
    exact ⟨k - 1, p2 + 1 + 1, rfl, es, rfl, rfl, by omega, by omega, g2, g3, by omega, by omega, by omega, by omega⟩
  have he2 : 0 ≤ (edgeOf y z).1 ∧ (edgeOf y z).1 < (edgeOf y z).2 ∧ (edgeOf y z).2 < N := by unfold edgeOf; split <;> (simp only; omega)
  by_cases hf : findE es ((edgeOf y z).1, (edgeOf y z).2) < 0
  rotate_left
  · repeat' (first
      | refine xw_seq ?_
      | refine xw_block ?_
      | (refine ite_two ?_ ?_ <;> intro _ <;> first | (exfalso; omega) | skip)
      | refine ord_split (by kernel_rfl) ?_
      | (refine xw_ret ?_ <;> try simp only [sq, bl, LQ])
      | ((first | refine xw_reg ?_ | refine xw_regd ?_ | refine xw_if ?_ | refine xw_skip ?_ | refine xw_exit ?_ | refine xw_label ?_ | refine post_ret ?_ | refine post_normal ?_ | refine postE_ret ?_ | refine postE_normal ?_ | (((first | refine at_region ?_ | refine at_out ?_ | refine at_cond ?_); split) <;> first | (exfalso; omega; done) | skip)) <;> try simp (config := { maxSteps := 3000000 }) (disch := first | assumption | omega | exact VG.okg (by assumption) | (simp only [List.length_set, List.length_append, List.length_cons, List.length_nil, List.length_replicate]; omega)) only [go_sem, ↓reduceIte, Int.reduceLE, Int.reduceLT, Int.reduceToNat, Int.reduceNeg, Int.reduceAdd, Int.reduceSub, Int.reduceMul, Int.reduceEq, Int.reduceNe, Nat.reduceEqDiff, Nat.reduceAdd, Nat.reduceSub, Nat.reduceMul, Nat.reduceLT, Nat.reduceLeDiff, Nat.reduceBEq, Nat.reduceBNe, UInt8.reduceToNat, Tryz.results125, h0, m1, h2, m2, h3, m3, h4, hpk, hpk2, hedge, hfind, hput]))
    exact ⟨k - 1, p2 + 1 + 1, rfl, es, rfl, rfl, by omega, by omega, g2, g3, by omega, by omega, by omega, by omega⟩
  have hnin : edgeOf y z ∉ es := fun h => by
    have : 0 ≤ findE es (edgeOf y z) := findE_pos.2 h
    have hf' : findE es (edgeOf y z) < 0 := hf
    omega
  repeat' (first
    | refine xw_seq ?_
    | refine xw_block ?_
    | (refine ite_two ?_ ?_ <;> intro _ <;> first | (exfalso; omega) | skip)
    | refine ord_split (by kernel_rfl) ?_
    | (refine xw_ret ?_ <;> try simp only [sq, bl, LQ])
    | ((first | refine xw_reg ?_ | refine xw_regd ?_ | refine xw_if ?_ | refine xw_skip ?_ | refine xw_exit ?_ | refine xw_label ?_ | refine post_ret ?_ | refine post_normal ?_ | refine postE_ret ?_ | refine postE_normal ?_ | (((first | refine at_region ?_ | refine at_out ?_ | refine at_cond ?_); split) <;> first | (exfalso; omega; done) | skip)) <;> try simp (config := { maxSteps := 3000000 }) (disch := first | assumption | omega | exact VG.okg (by assumption) | (simp only [List.length_set, List.length_append, List.length_cons, List.length_nil, List.length_replicate]; omega)) only [go_sem, ↓reduceIte, Int.reduceLE, Int.reduceLT, Int.reduceToNat, Int.reduceNeg, Int.reduceAdd, Int.reduceSub, Int.reduceMul, Int.reduceEq, Int.reduceNe, Nat.reduceEqDiff, Nat.reduceAdd, Nat.reduceSub, Nat.reduceMul, Nat.reduceLT, Nat.reduceLeDiff, Nat.reduceBEq, Nat.reduceBNe, UInt8.reduceToNat, Tryz.results125, h0, m1, h2, m2, h3, m3, h4, hpk, hpk2, hedge, hfind, hput]))
  refine ⟨k - 1, p2 + 1 + 1, rfl, putE (edgeOf y z) es, by rw [← qe_putE], rfl, by omega, by omega, g2.put hnin, fun e h => ?_, by rw [putE_length]; omega, by omega, by omega, by omega⟩
  rcases mem_putE.1 h with rfl | h
  · exact he2
  · exact g3 e h
theorem c_l10Case (bs : List Int) (hb : ∀ b ∈ bs, 0 ≤ b ∧ b < 256) (hl : bs.length ≤ 1000000000) :
    ∃ (n : Int) (x : IV) (es : List (Int × Int)) (a b : Int), 0 ≤ n ∧ n ≤ 17 ∧ es.length ≤ 40 ∧ EQ x es ∧ -1 ≤ a ∧ a ≤ 16 ∧ -1 ≤ b ∧ b ≤ 16 ∧ KP 60 [LB bs] [] = some (.tup [.agg [I n, .i x], I a, I b], [], []) := by
  obtain ⟨cs, hcs, hopen⟩ := c_l14Open bs hb hl
  obtain ⟨n, es, p, hn1, hn2, ho, hes, hel, hp1, hp2, hdraw⟩ := c_l10Draw cs 0 hcs (by omega)
  have hf := (EQ.qe es).f
  have hfl := (EQ.qe es).fl
  obtain ⟨v, hv, _, hpv⟩ := c_pick cs p n hcs (by omega) (by omega)
  obtain ⟨u, hu, _, hpu⟩ := c_pick cs (p + 1) n hcs (by omega) (by omega)
  obtain ⟨w, hw, _, hpw⟩ := c_pick cs (p + 1 + 1) 24 hcs (by omega) (by omega)
  have hv' := hv (by omega)
  have hu' := hu (by omega)
  have hw' := hw (by omega)
  by_cases hw0 : w = 0
  · obtain ⟨n1, es1, p1, a1, a2, a3, a4, a5, hw1⟩ := c_l1Wrong cs (p + 1 + 1 + 1) n (qe es) es hcs (by omega) (EL.qe es) (by omega) (by omega)
    obtain ⟨q, hq, hnq⟩ := c_num cs p1 [-1, 16, v] hcs (by omega) (by simp) (by simp)
    have hq' : -1 ≤ q ∧ q ≤ 16 := by
      simp only [List.mem_cons, List.not_mem_nil, or_false] at hq
      omega
    simp only [List.map_cons, List.map_nil, encI, List.length_cons, List.length_nil, Nat.reduceAdd] at hnq
    refine ⟨n1, .lst (es1.map encE), es1, q, u, by omega, by omega, by omega, EQ.lst es1, by omega, by omega, by omega, by omega, xw_call (fn := Tryz.f60) rfl Tryz.func60 rfl ⟨Nat.le_of_ble_eq_true rfl, rfl, rfl⟩ ?_⟩
    repeat' (first
      | refine xw_seq ?_
      | refine xw_block ?_
      | (refine ite_two ?_ ?_ <;> intro _ <;> first | (exfalso; omega) | skip)
      | refine ord_split (by kernel_rfl) ?_
      | (refine xw_ret ?_ <;> try simp only [sq, bl, LQ])
      | ((first | refine xw_reg ?_ | refine xw_regd ?_ | refine xw_if ?_ | refine xw_skip ?_ | refine xw_exit ?_ | refine xw_label ?_ | refine post_ret ?_ | refine post_normal ?_ | refine postE_ret ?_ | refine postE_normal ?_ | (((first | refine at_region ?_ | refine at_out ?_ | refine at_cond ?_); split) <;> first | (exfalso; omega; done) | skip)) <;> try simp (config := { maxSteps := 3000000 }) (disch := first | assumption | omega | exact VG.okg (by assumption) | (simp only [List.length_set, List.length_append, List.length_cons, List.length_nil, List.length_replicate]; omega)) only [go_sem, ↓reduceIte, Int.reduceLE, Int.reduceLT, Int.reduceToNat, Int.reduceNeg, Int.reduceAdd, Int.reduceSub, Int.reduceMul, Int.reduceEq, Int.reduceNe, Nat.reduceEqDiff, Nat.reduceAdd, Nat.reduceSub, Nat.reduceMul, Nat.reduceLT, Nat.reduceLeDiff, Nat.reduceBEq, Nat.reduceBNe, UInt8.reduceToNat, Tryz.results60, hopen, hdraw, hpv, hpu, hpw, hw1, hnq, hf, hfl]))
  obtain ⟨t, ht, _, hpt⟩ := c_pick cs (p + 1 + 1 + 1) 4 hcs (by omega) (by omega)
  have ht' := ht (by omega)
  by_cases hd : v = u ∧ 0 < t
  · obtain ⟨rfl, ht0⟩ := hd
    have hr : 0 ≤ (v + 1) % n ∧ (v + 1) % n < n := ⟨Int.emod_nonneg _ (by omega), Int.emod_lt_of_pos _ (by omega)⟩
    refine ⟨n, qe es, es, v, (v + 1) % n, by omega, by omega, by omega, EQ.qe es, by omega, by omega, by omega, by omega, xw_call (fn := Tryz.f60) rfl Tryz.func60 rfl ⟨Nat.le_of_ble_eq_true rfl, rfl, rfl⟩ ?_⟩
    repeat' (first
      | refine xw_seq ?_
      | refine xw_block ?_
      | (refine ite_two ?_ ?_ <;> intro _ <;> first | (exfalso; omega) | skip)
      | refine ord_split (by kernel_rfl) ?_
      | (refine xw_ret ?_ <;> try simp only [sq, bl, LQ])
      | ((first | refine xw_reg ?_ | refine xw_regd ?_ | refine xw_if ?_ | refine xw_skip ?_ | refine xw_exit ?_ | refine xw_label ?_ | refine post_ret ?_ | refine post_normal ?_ | refine postE_ret ?_ | refine postE_normal ?_ | (((first | refine at_region ?_ | refine at_out ?_ | refine at_cond ?_); split) <;> first | (exfalso; omega; done) | skip)) <;> try simp (config := { maxSteps := 3000000 }) (disch := first | assumption | omega | exact VG.okg (by assumption) | (simp only [List.length_set, List.length_append, List.length_cons, List.length_nil, List.length_replicate]; omega)) only [go_sem, ↓reduceIte, Int.reduceLE, Int.reduceLT, Int.reduceToNat, Int.reduceNeg, Int.reduceAdd, Int.reduceSub, Int.reduceMul, Int.reduceEq, Int.reduceNe, Nat.reduceEqDiff, Nat.reduceAdd, Nat.reduceSub, Nat.reduceMul, Nat.reduceLT, Nat.reduceLeDiff, Nat.reduceBEq, Nat.reduceBNe, UInt8.reduceToNat, Tryz.results60, hopen, hdraw, hpv, hpu, hpw, hpt, hf, hfl]))
    rw [Int.tmod_eq_emod_of_nonneg (by omega)]
  · refine ⟨n, qe es, es, v, u, by omega, by omega, by omega, EQ.qe es, by omega, by omega, by omega, by omega, xw_call (fn := Tryz.f60) rfl Tryz.func60 rfl ⟨Nat.le_of_ble_eq_true rfl, rfl, rfl⟩ ?_⟩
    by_cases hvu : v = u
    · have ht0 : ¬ 0 < t := fun k => hd ⟨hvu, k⟩
      repeat' (first
        | refine xw_seq ?_
        | refine xw_block ?_
        | (refine ite_two ?_ ?_ <;> intro _ <;> first | (exfalso; omega) | skip)
        | refine ord_split (by kernel_rfl) ?_
        | (refine xw_ret ?_ <;> try simp only [sq, bl, LQ])
        | ((first | refine xw_reg ?_ | refine xw_regd ?_ | refine xw_if ?_ | refine xw_skip ?_ | refine xw_exit ?_ | refine xw_label ?_ | refine post_ret ?_ | refine post_normal ?_ | refine postE_ret ?_ | refine postE_normal ?_ | (((first | refine at_region ?_ | refine at_out ?_ | refine at_cond ?_); split) <;> first | (exfalso; omega; done) | skip)) <;> try simp (config := { maxSteps := 3000000 }) (disch := first | assumption | omega | exact VG.okg (by assumption) | (simp only [List.length_set, List.length_append, List.length_cons, List.length_nil, List.length_replicate]; omega)) only [go_sem, ↓reduceIte, Int.reduceLE, Int.reduceLT, Int.reduceToNat, Int.reduceNeg, Int.reduceAdd, Int.reduceSub, Int.reduceMul, Int.reduceEq, Int.reduceNe, Nat.reduceEqDiff, Nat.reduceAdd, Nat.reduceSub, Nat.reduceMul, Nat.reduceLT, Nat.reduceLeDiff, Nat.reduceBEq, Nat.reduceBNe, UInt8.reduceToNat, Tryz.results60, hopen, hdraw, hpv, hpu, hpw, hpt, hf, hfl]))
    · repeat' (first
        | refine xw_seq ?_
        | refine xw_block ?_
        | (refine ite_two ?_ ?_ <;> intro _ <;> first | (exfalso; omega) | skip)
        | refine ord_split (by kernel_rfl) ?_
        | (refine xw_ret ?_ <;> try simp only [sq, bl, LQ])
        | ((first | refine xw_reg ?_ | refine xw_regd ?_ | refine xw_if ?_ | refine xw_skip ?_ | refine xw_exit ?_ | refine xw_label ?_ | refine post_ret ?_ | refine post_normal ?_ | refine postE_ret ?_ | refine postE_normal ?_ | (((first | refine at_region ?_ | refine at_out ?_ | refine at_cond ?_); split) <;> first | (exfalso; omega; done) | skip)) <;> try simp (config := { maxSteps := 3000000 }) (disch := first | assumption | omega | exact VG.okg (by assumption) | (simp only [List.length_set, List.length_append, List.length_cons, List.length_nil, List.length_replicate]; omega)) only [go_sem, ↓reduceIte, Int.reduceLE, Int.reduceLT, Int.reduceToNat, Int.reduceNeg, Int.reduceAdd, Int.reduceSub, Int.reduceMul, Int.reduceEq, Int.reduceNe, Nat.reduceEqDiff, Nat.reduceAdd, Nat.reduceSub, Nat.reduceMul, Nat.reduceLT, Nat.reduceLeDiff, Nat.reduceBEq, Nat.reduceBNe, UInt8.reduceToNat, Tryz.results60, hopen, hdraw, hpv, hpu, hpw, hf, hfl]))
theorem c_DrawDisjointPaths (bs : List Int) (hb : ∀ b ∈ bs, 0 ≤ b ∧ b < 256) (hl : bs.length ≤ 1000000000) :
    ∃ (n : Int) (x : IV) (es : List (Int × Int)) (a b : Int), 0 ≤ n ∧ n ≤ 17 ∧ es.length ≤ 40 ∧ EQ x es ∧ -1 ≤ a ∧ a ≤ 16 ∧ -1 ≤ b ∧ b ≤ 16 ∧ KP 13 [LB bs] [] = some (.tup [.agg [I n, .i x], I a, I b], [], []) := by
  obtain ⟨n, x, es, a, b, n0, n1, hel, hx, a0, a1, b0, b1, hcase⟩ := c_l10Case bs hb hl
  have hf := hx.f
  have hfl := hx.fl
  refine ⟨n, x, es, a, b, n0, n1, hel, hx, a0, a1, b0, b1, xw_call (fn := Tryz.f13) rfl Tryz.func13 rfl ⟨Nat.le_of_ble_eq_true rfl, rfl, rfl⟩ ?_⟩
  repeat' (first
    | refine xw_seq ?_
    | refine xw_block ?_
    | (refine ite_two ?_ ?_ <;> intro _ <;> first | (exfalso; omega) | skip)
    | refine ord_split (by kernel_rfl) ?_
    | (refine xw_ret ?_ <;> try simp only [sq, bl, LQ])
    | ((first | refine xw_reg ?_ | refine xw_regd ?_ | refine xw_if ?_ | refine xw_skip ?_ | refine xw_exit ?_ | refine xw_label ?_ | refine post_ret ?_ | refine post_normal ?_ | refine postE_ret ?_ | refine postE_normal ?_ | (((first | refine at_region ?_ | refine at_out ?_ | refine at_cond ?_); split) <;> first | (exfalso; omega; done) | skip)) <;> try simp (config := { maxSteps := 3000000 }) (disch := first | assumption | omega | exact VG.okg (by assumption) | (simp only [List.length_set, List.length_append, List.length_cons, List.length_nil, List.length_replicate]; omega)) only [go_sem, ↓reduceIte, Int.reduceLE, Int.reduceLT, Int.reduceToNat, Int.reduceNeg, Int.reduceAdd, Int.reduceSub, Int.reduceMul, Int.reduceEq, Int.reduceNe, Nat.reduceEqDiff, Nat.reduceAdd, Nat.reduceSub, Nat.reduceMul, Nat.reduceLT, Nat.reduceLeDiff, Nat.reduceBEq, Nat.reduceBNe, UInt8.reduceToNat, Tryz.results13, hcase, hf, hfl]))
end Go.Proofs.YtdjdgnabcecdlaaGreatDoor.X
