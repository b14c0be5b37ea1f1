/- What functions answer, and the plain laws behind it. -/
import Derived.Test.YtdjdgnabcecdlaaGreatDoorKAO
import Derived.Test.YtdjdgnabcecdlaaGreatDoorKAG
import Derived.Test.YtdjdgnabcecdlaaGreatDoorM23
/- What functions compute: draws of forests and of lists. -/
set_option linter.unusedSimpArgs false
set_option linter.unusedVariables false
set_option maxHeartbeats 8000000
set_option maxRecDepth 100000
namespace Go.Proofs.YtdjdgnabcecdlaaGreatDoor.X
open Go Go.Proofs
theorem c_l6Draw (bs : List Int) (p : Int) (hb : bytes bs) (hp : 0 ≤ p ∧ p ≤ 100000) :
    ∃ n es p', VG n es ∧ Tree n es ∧ p ≤ p' ∧ p' ≤ p + 100 ∧ KP 95 [.ptr 1000 0 0 0] [Rd bs p] = some (.agg [I n, LE es], [Rd bs p'], []) := by
  obtain ⟨n, es, p', hn1, hn2, ho, hes, hel, hp1, hp2, hdraw⟩ := c_l1Draw bs p hb hp
  have hV : VG n es := ⟨hn1, hn2, by omega, hes, ho⟩
  have hf := c_l2Forest n es hV.okg
  have hTf : Tree n (forestL es) := forest_cnt hV.okg.ok
  refine ⟨n, forestL es, p', hV.sub (forest_sub hV.okg.ok), hTf, hp1, hp2, xw_call (fn := Tryz.f95) rfl Tryz.func95 rfl ⟨Nat.le_of_ble_eq_true rfl, rfl, rfl⟩ ?_⟩
  repeat' (first
    | refine xw_seq ?_
    | refine xw_block ?_
    | (refine ite_two ?_ ?_ <;> intro _ <;> first | (exfalso; omega) | skip)
    | refine ord_split (by kernel_rfl) ?_
    | (refine xw_ret ?_ <;> try simp only [sq, bl, LQ])
    | ((first | refine xw_reg ?_ | refine xw_regd ?_ | refine xw_if ?_ | refine xw_skip ?_ | refine xw_exit ?_ | refine xw_label ?_ | refine post_ret ?_ | refine post_normal ?_ | refine postE_ret ?_ | refine postE_normal ?_ | (((first | refine at_region ?_ | refine at_out ?_ | refine at_cond ?_); split) <;> first | (exfalso; omega; done) | skip)) <;> try simp (config := { maxSteps := 3000000 }) (disch := first | assumption | omega | exact VG.okg (by assumption) | (simp only [List.length_set, List.length_append, List.length_cons, List.length_nil, List.length_replicate]; omega)) only [go_sem, ↓reduceIte, Int.reduceLE, Int.reduceLT, Int.reduceToNat, Int.reduceNeg, Int.reduceAdd, Int.reduceSub, Int.reduceMul, Int.reduceEq, Int.reduceNe, Nat.reduceEqDiff, Nat.reduceAdd, Nat.reduceSub, Nat.reduceMul, Nat.reduceLT, Nat.reduceLeDiff, Nat.reduceBEq, Nat.reduceBNe, UInt8.reduceToNat, Tryz.results95, hdraw, hf]))
theorem c_DrawTourOf (bs : List Int) (hb : ∀ b ∈ bs, 0 ≤ b ∧ b < 256) (hl : bs.length ≤ 1000000000) :
    ∃ (n : Int) (es : List (Int × Int)) (v : Int), es.length ≤ 40 ∧ -1 ≤ v ∧ v ≤ 16 ∧ KP 33 [LB bs] [] = some (.tup [GL n es, I v], [], []) := by
  obtain ⟨cs, hcs, hopen⟩ := c_l14Open bs hb hl
  obtain ⟨n, es, p, hV, hT, hp1, hp2, hdraw⟩ := c_l6Draw cs 0 hcs (by omega)
  obtain ⟨w, hw, _, hpw⟩ := c_pick cs p 8 hcs (by omega) (by omega)
  have hn1 := hV.1
  have hn2 := hV.2.1
  have hel := hV.2.2.1
  by_cases hw0 : w = 0
  · obtain ⟨n', es', v, h1, h2, h3, h4, h5, hn⟩ := c_l1Node bs hb hl
    refine ⟨n', es', v, h3, h4, h5, xw_call (fn := Tryz.f33) rfl Tryz.func33 rfl ⟨Nat.le_of_ble_eq_true rfl, rfl, rfl⟩ ?_⟩
    repeat' (first
      | refine xw_seq ?_
      | refine xw_block ?_
      | (refine ite_two ?_ ?_ <;> intro _ <;> first | (exfalso; omega) | skip)
      | refine ord_split (by kernel_rfl) ?_
      | (refine xw_ret ?_ <;> try simp only [sq, bl, LQ])
      | ((first | refine xw_reg ?_ | refine xw_regd ?_ | refine xw_if ?_ | refine xw_skip ?_ | refine xw_exit ?_ | refine xw_label ?_ | refine post_ret ?_ | refine post_normal ?_ | refine postE_ret ?_ | refine postE_normal ?_ | (((first | refine at_region ?_ | refine at_out ?_ | refine at_cond ?_); split) <;> first | (exfalso; omega; done) | skip)) <;> try simp (config := { maxSteps := 3000000 }) (disch := first | assumption | omega | exact VG.okg (by assumption) | (simp only [List.length_set, List.length_append, List.length_cons, List.length_nil, List.length_replicate]; omega)) only [go_sem, ↓reduceIte, Int.reduceLE, Int.reduceLT, Int.reduceToNat, Int.reduceNeg, Int.reduceAdd, Int.reduceSub, Int.reduceMul, Int.reduceEq, Int.reduceNe, Nat.reduceEqDiff, Nat.reduceAdd, Nat.reduceSub, Nat.reduceMul, Nat.reduceLT, Nat.reduceLeDiff, Nat.reduceBEq, Nat.reduceBNe, UInt8.reduceToNat, Tryz.results33, hopen, hdraw, hpw, hw0, hn]))
  · obtain ⟨v, hv, _, hpv⟩ := c_pick cs (p + 1) n hcs (by omega) (by omega)
    have hv' := hv hn1
    refine ⟨n, es, v, hel, by omega, by omega, xw_call (fn := Tryz.f33) rfl Tryz.func33 rfl ⟨Nat.le_of_ble_eq_true rfl, rfl, rfl⟩ ?_⟩
    repeat' (first
      | refine xw_seq ?_
      | refine xw_block ?_
      | (refine ite_two ?_ ?_ <;> intro _ <;> first | (exfalso; omega) | skip)
      | refine ord_split (by kernel_rfl) ?_
      | (refine xw_ret ?_ <;> try simp only [sq, bl, LQ])
      | ((first | refine xw_reg ?_ | refine xw_regd ?_ | refine xw_if ?_ | refine xw_skip ?_ | refine xw_exit ?_ | refine xw_label ?_ | refine post_ret ?_ | refine post_normal ?_ | refine postE_ret ?_ | refine postE_normal ?_ | (((first | refine at_region ?_ | refine at_out ?_ | refine at_cond ?_); split) <;> first | (exfalso; omega; done) | skip)) <;> try simp (config := { maxSteps := 3000000 }) (disch := first | assumption | omega | exact VG.okg (by assumption) | (simp only [List.length_set, List.length_append, List.length_cons, List.length_nil, List.length_replicate]; omega)) only [go_sem, ↓reduceIte, Int.reduceLE, Int.reduceLT, Int.reduceToNat, Int.reduceNeg, Int.reduceAdd, Int.reduceSub, Int.reduceMul, Int.reduceEq, Int.reduceNe, Nat.reduceEqDiff, Nat.reduceAdd, Nat.reduceSub, Nat.reduceMul, Nat.reduceLT, Nat.reduceLeDiff, Nat.reduceBEq, Nat.reduceBNe, UInt8.reduceToNat, Tryz.results33, hopen, hdraw, hpw, hw0, hpv]))
def l5T : List Int := [0, 1, 0, 2, 0]
end Go.Proofs.YtdjdgnabcecdlaaGreatDoor.X

/- What functions compute: the nodes of a part. -/
set_option linter.unusedSimpArgs false
set_option linter.unusedVariables false
set_option maxHeartbeats 8000000
set_option maxRecDepth 100000
namespace Go.Proofs.YtdjdgnabcecdlaaGreatDoor.X
open Go Go.Proofs
noncomputable def ptL (n : Int) (es : List (Int × Int)) (r : Int) : List Int := (iota n).filter fun v => decide (Conn es r v)
theorem mem_ptL {n : Int} {es : List (Int × Int)} {r v : Int} : v ∈ ptL n es r ↔ inN n v ∧ Conn es r v := by
  rw [ptL, List.mem_filter, mem_iota, decide_eq_true_eq]
theorem ptL_nodup (n : Int) (es : List (Int × Int)) (r : Int) : (ptL n es r).Nodup := (nodup_iota n).sublist List.filter_sublist
end Go.Proofs.YtdjdgnabcecdlaaGreatDoor.X

/- The law: tours go everywhere. -/
set_option linter.unusedSimpArgs false
set_option linter.unusedVariables false
set_option maxHeartbeats 8000000
set_option maxRecDepth 100000
namespace Go.Proofs.YtdjdgnabcecdlaaGreatDoor.X
open Go Go.Proofs
theorem subE_in {n : Int} {es : List (Int × Int)} (hV : VG n es) {l : List Int} {r : Int} (h : TO n es r) : ∀ e ∈ csL (toL n es r), e ∈ es := fun e he => by
  have h0 : 0 ≤ n := by have := h.1.1; omega
  rw [tour_cs h.1.okg.ok h.1.nodup h0 h.2.2 h.at'.1 h.at'.2, mem_sortEs] at he
  exact subE_sub h.1.okg.ok _ he
theorem to_facts {n : Int} {es : List (Int × Int)} {r : Int} (h : TO n es r) : TV (toL n es r) ∧ (toL n es r).length + 1 = 2 * (ptL n es r).length ∧ (csL (toL n es r)).length + 1 = (ptL n es r).length ∧ (∀ v ∈ ptL n es r, v ∈ toL n es r) ∧ (toL n es r).getD 0 0 = r ∧ (∀ e ∈ csL (toL n es r), e ∈ es) ∧ ∀ v ∈ toL n es r, inN n v := by
  have hV := h.1
  have ho := hV.okg.ok
  have h0 : 0 ≤ n := by have := hV.1; omega
  have ht := h.2.2
  obtain ⟨ha, hf⟩ := h.at'
  have hne : alone (-1) es = es := by
    unfold alone
    refine List.filter_eq_self.2 fun e he => ?_
    have := ho e he
    unfold okE at this
    simp only [decide_eq_true_eq]
    omega
  have hm : ∀ v, v ∈ subN es n.toNat r (-1) ↔ Conn es r v := fun v => by rw [mem_sub ho h0 ht _ ha hf, hne]
  have hlen : (subN es n.toNat r (-1)).length = (ptL n es r).length := Nat.le_antisymm
    (len_le_of_sub (sub_nodup ho hV.nodup h0 ht _ ha hf) fun v hv => mem_ptL.2 ⟨sub_in ho h0 ht ha hf hv, (hm v).1 hv⟩)
    (len_le_of_sub (ptL_nodup n es r) fun v hv => (hm v).2 (mem_ptL.1 hv).2)
  have htl := tour_len (es := es) n.toNat (x := r) (p := -1)
  have hsl := subE_len (es := es) n.toNat (x := r) (p := -1)
  refine ⟨tour_tv ho hV.nodup h0 ht hV.2.1 ha hf, by rw [← hlen]; exact htl, ?_, fun v hv => (mem_tour _).2 ((hm v).2 (mem_ptL.1 hv).2), ?_, subE_in hV (l := []) h, fun v hv => sub_in ho h0 ht ha hf ((mem_tour _).1 hv)⟩
  · rw [tour_cs ho hV.nodup h0 ht ha hf, sortEs_length, hsl, hlen]
  · obtain ⟨q, hq⟩ := tour_head (es := es) n.toNat (x := r) (p := -1)
    show (tourL es n.toNat r (-1)).getD 0 0 = r
    rw [hq]; rfl
end Go.Proofs.YtdjdgnabcecdlaaGreatDoor.X
