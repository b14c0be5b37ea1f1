/- The law: tours go everywhere. -/
import Derived.Test.YtagpdfbgimnljaaC75
import Derived.Test.YtagpdfbgimnljaaC79
import Derived.Test.YtagpdfbgimnljaaC82
set_option linter.unusedSimpArgs false
set_option linter.unusedVariables false
set_option maxHeartbeats 8000000
set_option maxRecDepth 100000
namespace Go.Proofs.Ytagpdfbgimnljaa.X
open Go Go.Proofs
theorem subE_in {n : Int} {es : List (Int × Int)} (hV : VG n es) {l : List Int} {r : Int} (h : TO n es r) : ∀ e ∈ csL (toL n es r), e ∈ es := fun e he => by
  have h0 : 0 ≤ n := by have := h.1.1; omega
  rw [tour_cs h.1.okg.ok h.1.nodup h0 h.2.2 h.at'.1 h.at'.2, mem_sortEs] at he
  exact subE_sub h.1.okg.ok _ he
theorem to_facts {n : Int} {es : List (Int × Int)} {r : Int} (h : TO n es r) : TV (toL n es r) ∧ (toL n es r).length + 1 = 2 * (ptL n es r).length ∧ (csL (toL n es r)).length + 1 = (ptL n es r).length ∧ (∀ v ∈ ptL n es r, v ∈ toL n es r) ∧ (toL n es r).getD 0 0 = r ∧ (∀ e ∈ csL (toL n es r), e ∈ es) ∧ ∀ v ∈ toL n es r, inN n v := by
  have hV := h.1
  have ho := hV.okg.ok
  have h0 : 0 ≤ n := by have := hV.1; omega
  have ht := h.2.2
  obtain ⟨ha, hf⟩ := h.at'
  have hne : alone (-1) es = es := by
    unfold alone
    refine List.filter_eq_self.2 fun e he => ?_
    have := ho e he
    unfold okE at this
    simp only [decide_eq_true_eq]
    omega
  have hm : ∀ v, v ∈ subN es n.toNat r (-1) ↔ Conn es r v := fun v => by rw [mem_sub ho h0 ht _ ha hf, hne]
  have hlen : (subN es n.toNat r (-1)).length = (ptL n es r).length := Nat.le_antisymm
    (len_le_of_sub (sub_nodup ho hV.nodup h0 ht _ ha hf) fun v hv => mem_ptL.2 ⟨sub_in ho h0 ht ha hf hv, (hm v).1 hv⟩)
    (len_le_of_sub (ptL_nodup n es r) fun v hv => (hm v).2 (mem_ptL.1 hv).2)
  have htl := tour_len (es := es) n.toNat (x := r) (p := -1)
  have hsl := subE_len (es := es) n.toNat (x := r) (p := -1)
  refine ⟨tour_tv ho hV.nodup h0 ht hV.2.1 ha hf, by rw [← hlen]; exact htl, ?_, fun v hv => (mem_tour _).2 ((hm v).2 (mem_ptL.1 hv).2), ?_, subE_in hV (l := []) h, fun v hv => sub_in ho h0 ht ha hf ((mem_tour _).1 hv)⟩
  · rw [tour_cs ho hV.nodup h0 ht ha hf, sortEs_length, hsl, hlen]
  · obtain ⟨q, hq⟩ := tour_head (es := es) n.toNat (x := r) (p := -1)
    show (tourL es n.toNat r (-1)).getD 0 0 = r
    rw [hq]; rfl
theorem law_TourOf (bs : List Int) (hb : ∀ b ∈ bs, 0 ≤ b ∧ b < 256) : KP 9 [LB bs] [] = some (B true, [], []) := by
  by_cases hbig : (1048576 : Int) < bs.length
  · refine xw_call (fn := Try.f9) rfl Try.func9 rfl ⟨Nat.le_of_ble_eq_true rfl, rfl, rfl⟩ ?_
    repeat' (first
      | refine xw_seq ?_
      | refine xw_block ?_
      | (refine ite_two ?_ ?_ <;> intro _ <;> first | (exfalso; omega) | skip)
      | refine ord_split (by kernel_rfl) ?_
      | (refine xw_ret ?_ <;> try simp only [sq, bl, LQ])
      | ((first | refine xw_reg ?_ | refine xw_regd ?_ | refine xw_if ?_ | refine xw_skip ?_ | refine xw_exit ?_ | refine xw_label ?_ | refine post_ret ?_ | refine post_normal ?_ | refine postE_ret ?_ | refine postE_normal ?_) <;> simp (config := { maxSteps := 3000000 }) (disch := first | assumption | omega | exact VG.okg (by assumption) | (simp only [List.length_set, List.length_append, List.length_cons, List.length_nil, List.length_replicate]; omega)) only [go_sem, ↓reduceIte, Int.reduceLE, Int.reduceLT, Int.reduceToNat, Int.reduceNeg, Int.reduceAdd, Int.reduceSub, Int.reduceMul, Int.reduceEq, Int.reduceNe, Nat.reduceEqDiff, Nat.reduceAdd, Nat.reduceSub, Nat.reduceMul, Nat.reduceLT, Nat.reduceLeDiff, Nat.reduceBEq, Nat.reduceBNe, Try.results9])
      | (((first | refine at_region ?_ | refine at_out ?_ | refine at_cond ?_); split) <;> first | (exfalso; omega; done) | simp (config := { maxSteps := 3000000 }) (disch := first | assumption | omega | exact VG.okg (by assumption) | (simp only [List.length_set, List.length_append, List.length_cons, List.length_nil, List.length_replicate]; omega)) only [go_sem, ↓reduceIte, Int.reduceLE, Int.reduceLT, Int.reduceToNat, Int.reduceNeg, Int.reduceAdd, Int.reduceSub, Int.reduceMul, Int.reduceEq, Int.reduceNe, Nat.reduceEqDiff, Nat.reduceAdd, Nat.reduceSub, Nat.reduceMul, Nat.reduceLT, Nat.reduceLeDiff, Nat.reduceBEq, Nat.reduceBNe, Try.results9] | skip))
  obtain ⟨n, es, r, hl, r0, r1, hdraw⟩ := c_DrawTourOf bs hb (by omega)
  have hp := c_TourOf n r es (by omega)
  have hs := c_sTourOf n r es (by omega)
  by_cases hT : TO n es r
  rotate_left
  · rw [if_neg hT] at hp hs
    have hd := c_dyInts_nil
    refine xw_call (fn := Try.f9) rfl Try.func9 rfl ⟨Nat.le_of_ble_eq_true rfl, rfl, rfl⟩ ?_
    repeat' (first
      | refine xw_seq ?_
      | refine xw_block ?_
      | (refine ite_two ?_ ?_ <;> intro _ <;> first | (exfalso; omega) | skip)
      | refine ord_split (by kernel_rfl) ?_
      | (refine xw_ret ?_ <;> try simp only [sq, bl, LQ])
      | ((first | refine xw_reg ?_ | refine xw_regd ?_ | refine xw_if ?_ | refine xw_skip ?_ | refine xw_exit ?_ | refine xw_label ?_ | refine post_ret ?_ | refine post_normal ?_ | refine postE_ret ?_ | refine postE_normal ?_) <;> simp (config := { maxSteps := 3000000 }) (disch := first | assumption | omega | exact VG.okg (by assumption) | (simp only [List.length_set, List.length_append, List.length_cons, List.length_nil, List.length_replicate]; omega)) only [go_sem, ↓reduceIte, Int.reduceLE, Int.reduceLT, Int.reduceToNat, Int.reduceNeg, Int.reduceAdd, Int.reduceSub, Int.reduceMul, Int.reduceEq, Int.reduceNe, Nat.reduceEqDiff, Nat.reduceAdd, Nat.reduceSub, Nat.reduceMul, Nat.reduceLT, Nat.reduceLeDiff, Nat.reduceBEq, Nat.reduceBNe, Try.results9, hdraw, hp, hs, hd])
      | (((first | refine at_region ?_ | refine at_out ?_ | refine at_cond ?_); split) <;> first | (exfalso; omega; done) | simp (config := { maxSteps := 3000000 }) (disch := first | assumption | omega | exact VG.okg (by assumption) | (simp only [List.length_set, List.length_append, List.length_cons, List.length_nil, List.length_replicate]; omega)) only [go_sem, ↓reduceIte, Int.reduceLE, Int.reduceLT, Int.reduceToNat, Int.reduceNeg, Int.reduceAdd, Int.reduceSub, Int.reduceMul, Int.reduceEq, Int.reduceNe, Nat.reduceEqDiff, Nat.reduceAdd, Nat.reduceSub, Nat.reduceMul, Nat.reduceLT, Nat.reduceLeDiff, Nat.reduceBEq, Nat.reduceBNe, Try.results9, hdraw, hp, hs, hd] | skip))
  rw [if_pos hT] at hp hs
  obtain ⟨f1, f2, f3, f4, f5, f6, f7⟩ := to_facts hT
  have hl31 := f1.l31
  have hl1 := f1.l1
  have hd := c_dyInts (toL n es r) (toL n es r) (by omega)
  have hpn := c_PartNodes n r es hT.1 hT.2.1
  have hte := c_TourEdges (toL n es r) (by omega)
  have htv := c_TourValid (toL n es r) (by omega)
  rw [if_pos f1, decide_eq_true f1] at hte
  rw [decide_eq_true f1] at htv
  have hg0 := getI (toL n es r) 0 (by omega)
  rw [f5] at hg0
  have hlq := lenP_qe (es := csL (toL n es r))
  have hn16 := hT.1.2.1
  have hptl := ptL_len n es r
  have hV := hT.1
  clear hp hs
  have hp := c_TourOf n r es (by omega)
  have hs := c_sTourOf n r es (by omega)
  rw [if_pos hT] at hp hs
  generalize toL n es r = L at *
  generalize hC : csL L = C at *
  generalize ptL n es r = Q at *
  have hiaq := (EQ.qe C).ia
  refine xw_call (fn := Try.f9) rfl Try.func9 rfl ⟨Nat.le_of_ble_eq_true rfl, rfl, rfl⟩ ?_
  repeat' (first
    | refine xw_seq ?_
    | refine xw_block ?_
    | (refine ite_two ?_ ?_ <;> intro _ <;> first | (exfalso; omega) | skip)
    | refine ord_split (by kernel_rfl) ?_
    | (refine xw_ret ?_ <;> try simp only [sq, bl, LQ])
    | ((first | refine xw_reg ?_ | refine xw_regd ?_ | refine xw_if ?_ | refine xw_skip ?_ | refine xw_exit ?_ | refine xw_label ?_ | refine post_ret ?_ | refine post_normal ?_ | refine postE_ret ?_ | refine postE_normal ?_) <;> simp (config := { maxSteps := 3000000 }) (disch := first | assumption | omega | exact VG.okg (by assumption) | (simp only [List.length_set, List.length_append, List.length_cons, List.length_nil, List.length_replicate]; omega)) only [go_sem, ↓reduceIte, Int.reduceLE, Int.reduceLT, Int.reduceToNat, Int.reduceNeg, Int.reduceAdd, Int.reduceSub, Int.reduceMul, Int.reduceEq, Int.reduceNe, Nat.reduceEqDiff, Nat.reduceAdd, Nat.reduceSub, Nat.reduceMul, Nat.reduceLT, Nat.reduceLeDiff, Nat.reduceBEq, Nat.reduceBNe, Try.results9, hdraw, hp, hs, hd, hpn, hte, decide_true])
    | (((first | refine at_region ?_ | refine at_out ?_ | refine at_cond ?_); split) <;> first | (exfalso; omega; done) | simp (config := { maxSteps := 3000000 }) (disch := first | assumption | omega | exact VG.okg (by assumption) | (simp only [List.length_set, List.length_append, List.length_cons, List.length_nil, List.length_replicate]; omega)) only [go_sem, ↓reduceIte, Int.reduceLE, Int.reduceLT, Int.reduceToNat, Int.reduceNeg, Int.reduceAdd, Int.reduceSub, Int.reduceMul, Int.reduceEq, Int.reduceNe, Nat.reduceEqDiff, Nat.reduceAdd, Nat.reduceSub, Nat.reduceMul, Nat.reduceLT, Nat.reduceLeDiff, Nat.reduceBEq, Nat.reduceBNe, Try.results9, hdraw, hp, hs, hd, hpn, hte, decide_true] | skip))
  refine xw_loopR (fun (i : Int) s => s.m 3 = some (.box 0 [I n, LE es]) ∧ s.ρ 3 = .ptr 3 0 0 0 ∧ s.ρ 4 = I r ∧ s.ρ 5 = LI L ∧ s.ρ 9 = LI Q ∧ s.ρ 10 = .i (qe C) ∧ s.ρ 11 = B true ∧ s.ρ 12 = I i ∧ 0 ≤ i ∧ i ≤ C.length) (fun i => (C.length - i).toNat) 0 ?_ ?_
  · refine ⟨rfl, rfl, rfl, ?_, ?_, rfl, rfl, rfl, by omega, by omega⟩
    all_goals (simp [upd]; done)
  rintro i ⟨ρ, m⟩ ⟨m3, e3, e4, e5, e9, e10, e11, e12, g0, g1⟩
  simp only at m3 e3 e4 e5 e9 e10 e11 e12 g0 g1
  by_cases hi : i < C.length
  · have hgi := getE C i.toNat (by omega)
    have hm := f6 _ (getD_mem (d := (0, 0)) (show i.toNat < C.length by omega))
    generalize C.getD i.toNat (0, 0) = e at hgi hm
    have hhe := c_HasEdge n es e.1 e.2 (by omega)
    rw [decide_eq_true (show VG n es ∧ (e.1, e.2) ∈ es from ⟨hV, hm⟩)] at hhe
    repeat' (first
      | refine xw_seq ?_
      | refine xw_block ?_
      | (refine ite_two ?_ ?_ <;> intro _ <;> first | (exfalso; omega) | skip)
      | refine ord_split (by kernel_rfl) ?_
      | (refine xw_ret ?_ <;> try simp only [sq, bl, LQ])
      | ((first | refine xw_reg ?_ | refine xw_regd ?_ | refine xw_if ?_ | refine xw_skip ?_ | refine xw_exit ?_ | refine xw_label ?_ | refine post_ret ?_ | refine post_normal ?_ | refine postE_ret ?_ | refine postE_normal ?_) <;> simp (config := { maxSteps := 3000000 }) (disch := first | assumption | omega | exact VG.okg (by assumption) | (simp only [List.length_set, List.length_append, List.length_cons, List.length_nil, List.length_replicate]; omega)) only [go_sem, ↓reduceIte, Int.reduceLE, Int.reduceLT, Int.reduceToNat, Int.reduceNeg, Int.reduceAdd, Int.reduceSub, Int.reduceMul, Int.reduceEq, Int.reduceNe, Nat.reduceEqDiff, Nat.reduceAdd, Nat.reduceSub, Nat.reduceMul, Nat.reduceLT, Nat.reduceLeDiff, Nat.reduceBEq, Nat.reduceBNe, Try.results9, m3, e3, e4, e5, e9, e10, e11, e12, hlq, hiaq, hgi, hhe])
      | (((first | refine at_region ?_ | refine at_out ?_ | refine at_cond ?_); split) <;> first | (exfalso; omega; done) | simp (config := { maxSteps := 3000000 }) (disch := first | assumption | omega | exact VG.okg (by assumption) | (simp only [List.length_set, List.length_append, List.length_cons, List.length_nil, List.length_replicate]; omega)) only [go_sem, ↓reduceIte, Int.reduceLE, Int.reduceLT, Int.reduceToNat, Int.reduceNeg, Int.reduceAdd, Int.reduceSub, Int.reduceMul, Int.reduceEq, Int.reduceNe, Nat.reduceEqDiff, Nat.reduceAdd, Nat.reduceSub, Nat.reduceMul, Nat.reduceLT, Nat.reduceLeDiff, Nat.reduceBEq, Nat.reduceBNe, Try.results9, m3, e3, e4, e5, e9, e10, e11, e12, hlq, hiaq, hgi, hhe] | skip))
    exact ⟨by omega, by omega, by omega⟩
  repeat' (first
    | refine xw_seq ?_
    | refine xw_block ?_
    | (refine ite_two ?_ ?_ <;> intro _ <;> first | (exfalso; omega) | skip)
    | refine ord_split (by kernel_rfl) ?_
    | (refine xw_ret ?_ <;> try simp only [sq, bl, LQ])
    | ((first | refine xw_reg ?_ | refine xw_regd ?_ | refine xw_if ?_ | refine xw_skip ?_ | refine xw_exit ?_ | refine xw_label ?_ | refine post_ret ?_ | refine post_normal ?_ | refine postE_ret ?_ | refine postE_normal ?_) <;> simp (config := { maxSteps := 3000000 }) (disch := first | assumption | omega | exact VG.okg (by assumption) | (simp only [List.length_set, List.length_append, List.length_cons, List.length_nil, List.length_replicate]; omega)) only [go_sem, ↓reduceIte, Int.reduceLE, Int.reduceLT, Int.reduceToNat, Int.reduceNeg, Int.reduceAdd, Int.reduceSub, Int.reduceMul, Int.reduceEq, Int.reduceNe, Nat.reduceEqDiff, Nat.reduceAdd, Nat.reduceSub, Nat.reduceMul, Nat.reduceLT, Nat.reduceLeDiff, Nat.reduceBEq, Nat.reduceBNe, Try.results9, m3, e3, e4, e5, e9, e10, e11, e12, hlq])
    | (((first | refine at_region ?_ | refine at_out ?_ | refine at_cond ?_); split) <;> first | (exfalso; omega; done) | simp (config := { maxSteps := 3000000 }) (disch := first | assumption | omega | exact VG.okg (by assumption) | (simp only [List.length_set, List.length_append, List.length_cons, List.length_nil, List.length_replicate]; omega)) only [go_sem, ↓reduceIte, Int.reduceLE, Int.reduceLT, Int.reduceToNat, Int.reduceNeg, Int.reduceAdd, Int.reduceSub, Int.reduceMul, Int.reduceEq, Int.reduceNe, Nat.reduceEqDiff, Nat.reduceAdd, Nat.reduceSub, Nat.reduceMul, Nat.reduceLT, Nat.reduceLeDiff, Nat.reduceBEq, Nat.reduceBNe, Try.results9, m3, e3, e4, e5, e9, e10, e11, e12, hlq] | skip))
  refine xw_loopR (fun (i : Int) s => s.m 3 = some (.box 0 [I n, LE es]) ∧ s.ρ 3 = .ptr 3 0 0 0 ∧ s.ρ 4 = I r ∧ s.ρ 5 = LI L ∧ s.ρ 9 = LI Q ∧ s.ρ 10 = .i (qe C) ∧ s.ρ 11 = B true ∧ s.ρ 13 = I i ∧ 0 ≤ i ∧ i ≤ Q.length) (fun i => (Q.length - i).toNat) 0 ?_ ?_
  · exact ⟨m3, e3, e4, e5, e9, e10, e11, rfl, by omega, by omega⟩
  clear m3 e3 e4 e5 e9 e10 e11 e12 g0 g1 hi
  rintro i ⟨ρ, m⟩ ⟨m3, e3, e4, e5, e9, e10, e11, e13, g0, g1⟩
  simp only at m3 e3 e4 e5 e9 e10 e11 e13 g0 g1
  by_cases hi : i < Q.length
  · have hgi := getI Q i.toNat (by omega)
    have hm := f4 _ (getD_mem (d := 0) (show i.toNat < Q.length by omega))
    generalize Q.getD i.toNat 0 = v at hgi hm
    have hin := c_dyIn L v (by omega)
    rw [decide_eq_true hm] at hin
    repeat' (first
      | refine xw_seq ?_
      | refine xw_block ?_
      | (refine ite_two ?_ ?_ <;> intro _ <;> first | (exfalso; omega) | skip)
      | refine ord_split (by kernel_rfl) ?_
      | (refine xw_ret ?_ <;> try simp only [sq, bl, LQ])
      | ((first | refine xw_reg ?_ | refine xw_regd ?_ | refine xw_if ?_ | refine xw_skip ?_ | refine xw_exit ?_ | refine xw_label ?_ | refine post_ret ?_ | refine post_normal ?_ | refine postE_ret ?_ | refine postE_normal ?_) <;> simp (config := { maxSteps := 3000000 }) (disch := first | assumption | omega | exact VG.okg (by assumption) | (simp only [List.length_set, List.length_append, List.length_cons, List.length_nil, List.length_replicate]; omega)) only [go_sem, ↓reduceIte, Int.reduceLE, Int.reduceLT, Int.reduceToNat, Int.reduceNeg, Int.reduceAdd, Int.reduceSub, Int.reduceMul, Int.reduceEq, Int.reduceNe, Nat.reduceEqDiff, Nat.reduceAdd, Nat.reduceSub, Nat.reduceMul, Nat.reduceLT, Nat.reduceLeDiff, Nat.reduceBEq, Nat.reduceBNe, Try.results9, m3, e3, e4, e5, e9, e10, e11, e13, hgi, hin])
      | (((first | refine at_region ?_ | refine at_out ?_ | refine at_cond ?_); split) <;> first | (exfalso; omega; done) | simp (config := { maxSteps := 3000000 }) (disch := first | assumption | omega | exact VG.okg (by assumption) | (simp only [List.length_set, List.length_append, List.length_cons, List.length_nil, List.length_replicate]; omega)) only [go_sem, ↓reduceIte, Int.reduceLE, Int.reduceLT, Int.reduceToNat, Int.reduceNeg, Int.reduceAdd, Int.reduceSub, Int.reduceMul, Int.reduceEq, Int.reduceNe, Nat.reduceEqDiff, Nat.reduceAdd, Nat.reduceSub, Nat.reduceMul, Nat.reduceLT, Nat.reduceLeDiff, Nat.reduceBEq, Nat.reduceBNe, Try.results9, m3, e3, e4, e5, e9, e10, e11, e13, hgi, hin] | skip))
    exact ⟨by omega, by omega, by omega⟩
  have hz1 : (L.length : Int) = 2 * Q.length - 1 := by omega
  have hz2 : (C.length : Int) = Q.length - 1 := by omega
  repeat' (first
    | refine xw_seq ?_
    | refine xw_block ?_
    | (refine ite_two ?_ ?_ <;> intro _ <;> first | (exfalso; omega) | skip)
    | refine ord_split (by kernel_rfl) ?_
    | (refine xw_ret ?_ <;> try simp only [sq, bl, LQ])
    | ((first | refine xw_reg ?_ | refine xw_regd ?_ | refine xw_if ?_ | refine xw_skip ?_ | refine xw_exit ?_ | refine xw_label ?_ | refine post_ret ?_ | refine post_normal ?_ | refine postE_ret ?_ | refine postE_normal ?_) <;> simp (config := { maxSteps := 3000000 }) (disch := first | assumption | omega | exact VG.okg (by assumption) | (simp only [List.length_set, List.length_append, List.length_cons, List.length_nil, List.length_replicate]; omega)) only [go_sem, ↓reduceIte, Int.reduceLE, Int.reduceLT, Int.reduceToNat, Int.reduceNeg, Int.reduceAdd, Int.reduceSub, Int.reduceMul, Int.reduceEq, Int.reduceNe, Nat.reduceEqDiff, Nat.reduceAdd, Nat.reduceSub, Nat.reduceMul, Nat.reduceLT, Nat.reduceLeDiff, Nat.reduceBEq, Nat.reduceBNe, Try.results9, m3, e3, e4, e5, e9, e10, e11, e13, htv, hg0, hlq, hz1, hz2])
    | (((first | refine at_region ?_ | refine at_out ?_ | refine at_cond ?_); split) <;> first | (exfalso; omega; done) | simp (config := { maxSteps := 3000000 }) (disch := first | assumption | omega | exact VG.okg (by assumption) | (simp only [List.length_set, List.length_append, List.length_cons, List.length_nil, List.length_replicate]; omega)) only [go_sem, ↓reduceIte, Int.reduceLE, Int.reduceLT, Int.reduceToNat, Int.reduceNeg, Int.reduceAdd, Int.reduceSub, Int.reduceMul, Int.reduceEq, Int.reduceNe, Nat.reduceEqDiff, Nat.reduceAdd, Nat.reduceSub, Nat.reduceMul, Nat.reduceLT, Nat.reduceLeDiff, Nat.reduceBEq, Nat.reduceBNe, Try.results9, m3, e3, e4, e5, e9, e10, e11, e13, htv, hg0, hlq, hz1, hz2] | skip))
end Go.Proofs.Ytagpdfbgimnljaa.X
