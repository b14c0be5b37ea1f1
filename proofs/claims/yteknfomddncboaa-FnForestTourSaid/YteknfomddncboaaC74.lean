/- What functions compute: whether a list is a tour. -/
import Derived.Test.YteknfomddncboaaC73
import Derived.Test.YteknfomddncboaaC69
set_option linter.unusedSimpArgs false
set_option linter.unusedVariables false
set_option maxHeartbeats 8000000
set_option maxRecDepth 100000
namespace Go.Proofs.Yteknfomddncboaa.X
open Go Go.Proofs
theorem tmod2 {i : Int} (h : 0 ≤ i) : i.tmod 2 = i % 2 := Int.tmod_eq_emod_of_nonneg h
theorem tdiv2 {i : Int} (h : 0 ≤ i) : i.tdiv 2 = i / 2 := Int.tdiv_eq_ediv_of_nonneg h
theorem stOk_of {l : List Int} (hr : ∀ x ∈ l, inN 16 x) : stOk l ↔ ∀ i, i + 1 < l.length → l.getD i 0 ≠ l.getD (i + 1) 0 := by
  constructor
  · intro h i hi
    have := h i hi
    unfold eOk at this
    exact this.2.2.2.2
  · intro h i hi
    have h1 := hr _ (getD_mem (d := 0) (show i < l.length by omega))
    have h2 := hr _ (getD_mem (d := 0) hi)
    exact ⟨h1.1, h1.2, h2.1, h2.2, h i hi⟩
theorem tv_pr {l : List Int} : (∀ e ∈ stepsL l, (stepsL l).count e = 2) ↔ prOk (sortEs (stepsL l)) ∧ (sortEs (stepsL l)).length % 2 = 0 := by
  rw [pr_iff _ (Nat.le_refl _) (sortEs_le _)]
  have hp : (sortEs (stepsL l)).Perm (stepsL l) := List.mergeSort_perm _ _
  constructor
  · intro h e he
    rw [hp.count_eq]; exact h e (mem_sortEs.1 he)
  · intro h e he
    rw [← hp.count_eq]; exact h e (mem_sortEs.2 he)
theorem c_TourValid (l : List Int) (hl : l.length ≤ 1000) : KP 98 [LI l] [] = some (B (decide (TV l)), [], []) := by
  by_cases h1 : (l.length : Int) < 1
  · have hno : ¬ TV l := fun h => by have := h.l1; omega
    rw [decide_eq_false hno]
    refine xw_call (fn := Try.f98) rfl Try.func98 rfl ⟨Nat.le_of_ble_eq_true rfl, rfl, rfl⟩ ?_
    repeat' (first
      | refine xw_seq ?_
      | refine xw_block ?_
      | (refine ite_two ?_ ?_ <;> intro _ <;> first | (exfalso; omega) | skip)
      | refine ord_split (by kernel_rfl) ?_
      | (refine xw_ret ?_ <;> try simp only [sq, bl, LQ])
      | ((first | refine xw_reg ?_ | refine xw_regd ?_ | refine xw_if ?_ | refine xw_skip ?_ | refine xw_exit ?_ | refine xw_label ?_ | refine post_ret ?_ | refine post_normal ?_ | refine postE_ret ?_ | refine postE_normal ?_) <;> simp (config := { maxSteps := 3000000 }) (disch := first | assumption | omega | exact VG.okg (by assumption) | (simp only [List.length_set, List.length_append, List.length_cons, List.length_nil, List.length_replicate]; omega)) only [go_sem, ↓reduceIte, Int.reduceLE, Int.reduceLT, Int.reduceToNat, Int.reduceNeg, Int.reduceAdd, Int.reduceSub, Int.reduceMul, Int.reduceEq, Int.reduceNe, Nat.reduceEqDiff, Nat.reduceAdd, Nat.reduceSub, Nat.reduceMul, Nat.reduceLT, Nat.reduceLeDiff, Nat.reduceBEq, Nat.reduceBNe, Try.results98, h1])
      | (((first | refine at_region ?_ | refine at_out ?_ | refine at_cond ?_); split) <;> first | (exfalso; omega; done) | simp (config := { maxSteps := 3000000 }) (disch := first | assumption | omega | exact VG.okg (by assumption) | (simp only [List.length_set, List.length_append, List.length_cons, List.length_nil, List.length_replicate]; omega)) only [go_sem, ↓reduceIte, Int.reduceLE, Int.reduceLT, Int.reduceToNat, Int.reduceNeg, Int.reduceAdd, Int.reduceSub, Int.reduceMul, Int.reduceEq, Int.reduceNe, Nat.reduceEqDiff, Nat.reduceAdd, Nat.reduceSub, Nat.reduceMul, Nat.reduceLT, Nat.reduceLeDiff, Nat.reduceBEq, Nat.reduceBNe, Try.results98, h1] | skip))
  by_cases h2 : 31 < (l.length : Int)
  · have hno : ¬ TV l := fun h => by have := h.l31; omega
    rw [decide_eq_false hno]
    refine xw_call (fn := Try.f98) rfl Try.func98 rfl ⟨Nat.le_of_ble_eq_true rfl, rfl, rfl⟩ ?_
    repeat' (first
      | refine xw_seq ?_
      | refine xw_block ?_
      | (refine ite_two ?_ ?_ <;> intro _ <;> first | (exfalso; omega) | skip)
      | refine ord_split (by kernel_rfl) ?_
      | (refine xw_ret ?_ <;> try simp only [sq, bl, LQ])
      | ((first | refine xw_reg ?_ | refine xw_regd ?_ | refine xw_if ?_ | refine xw_skip ?_ | refine xw_exit ?_ | refine xw_label ?_ | refine post_ret ?_ | refine post_normal ?_ | refine postE_ret ?_ | refine postE_normal ?_) <;> simp (config := { maxSteps := 3000000 }) (disch := first | assumption | omega | exact VG.okg (by assumption) | (simp only [List.length_set, List.length_append, List.length_cons, List.length_nil, List.length_replicate]; omega)) only [go_sem, ↓reduceIte, Int.reduceLE, Int.reduceLT, Int.reduceToNat, Int.reduceNeg, Int.reduceAdd, Int.reduceSub, Int.reduceMul, Int.reduceEq, Int.reduceNe, Nat.reduceEqDiff, Nat.reduceAdd, Nat.reduceSub, Nat.reduceMul, Nat.reduceLT, Nat.reduceLeDiff, Nat.reduceBEq, Nat.reduceBNe, Try.results98, h1, h2])
      | (((first | refine at_region ?_ | refine at_out ?_ | refine at_cond ?_); split) <;> first | (exfalso; omega; done) | simp (config := { maxSteps := 3000000 }) (disch := first | assumption | omega | exact VG.okg (by assumption) | (simp only [List.length_set, List.length_append, List.length_cons, List.length_nil, List.length_replicate]; omega)) only [go_sem, ↓reduceIte, Int.reduceLE, Int.reduceLT, Int.reduceToNat, Int.reduceNeg, Int.reduceAdd, Int.reduceSub, Int.reduceMul, Int.reduceEq, Int.reduceNe, Nat.reduceEqDiff, Nat.reduceAdd, Nat.reduceSub, Nat.reduceMul, Nat.reduceLT, Nat.reduceLeDiff, Nat.reduceBEq, Nat.reduceBNe, Try.results98, h1, h2] | skip))
  have hcf := c_containsFuncI clo_TV1 l (fun _ _ => trivial) (by omega)
  have hany : l.any (fun x => !decide (0 ≤ x ∧ x < 16)) = !decide (∀ x ∈ l, inN 16 x) := by
    rw [Bool.eq_iff_iff, List.any_eq_true, Bool.not_eq_true', decide_eq_false_iff_not]
    constructor
    · rintro ⟨x, hx, hp⟩ h
      simp only [Bool.not_eq_true', decide_eq_false_iff_not] at hp
      exact hp (h x hx)
    · intro h
      refine Classical.byContradiction fun hn => h fun x hx => ?_
      refine Classical.byContradiction fun hb => hn ⟨x, hx, by simp only [Bool.not_eq_true', decide_eq_false_iff_not]; exact hb⟩
  rw [hany] at hcf
  by_cases h3 : ∀ x ∈ l, inN 16 x
  rotate_left
  · have hno : ¬ TV l := fun h => h3 h.rg
    rw [decide_eq_false hno]
    rw [decide_eq_false h3] at hcf
    refine xw_call (fn := Try.f98) rfl Try.func98 rfl ⟨Nat.le_of_ble_eq_true rfl, rfl, rfl⟩ ?_
    repeat' (first
      | refine xw_seq ?_
      | refine xw_block ?_
      | (refine ite_two ?_ ?_ <;> intro _ <;> first | (exfalso; omega) | skip)
      | refine ord_split (by kernel_rfl) ?_
      | (refine xw_ret ?_ <;> try simp only [sq, bl, LQ])
      | ((first | refine xw_reg ?_ | refine xw_regd ?_ | refine xw_if ?_ | refine xw_skip ?_ | refine xw_exit ?_ | refine xw_label ?_ | refine post_ret ?_ | refine post_normal ?_ | refine postE_ret ?_ | refine postE_normal ?_) <;> simp (config := { maxSteps := 3000000 }) (disch := first | assumption | omega | exact VG.okg (by assumption) | (simp only [List.length_set, List.length_append, List.length_cons, List.length_nil, List.length_replicate]; omega)) only [go_sem, ↓reduceIte, Int.reduceLE, Int.reduceLT, Int.reduceToNat, Int.reduceNeg, Int.reduceAdd, Int.reduceSub, Int.reduceMul, Int.reduceEq, Int.reduceNe, Nat.reduceEqDiff, Nat.reduceAdd, Nat.reduceSub, Nat.reduceMul, Nat.reduceLT, Nat.reduceLeDiff, Nat.reduceBEq, Nat.reduceBNe, Try.results98, h1, h2, hcf])
      | (((first | refine at_region ?_ | refine at_out ?_ | refine at_cond ?_); split) <;> first | (exfalso; omega; done) | simp (config := { maxSteps := 3000000 }) (disch := first | assumption | omega | exact VG.okg (by assumption) | (simp only [List.length_set, List.length_append, List.length_cons, List.length_nil, List.length_replicate]; omega)) only [go_sem, ↓reduceIte, Int.reduceLE, Int.reduceLT, Int.reduceToNat, Int.reduceNeg, Int.reduceAdd, Int.reduceSub, Int.reduceMul, Int.reduceEq, Int.reduceNe, Nat.reduceEqDiff, Nat.reduceAdd, Nat.reduceSub, Nat.reduceMul, Nat.reduceLT, Nat.reduceLeDiff, Nat.reduceBEq, Nat.reduceBNe, Try.results98, h1, h2, hcf] | skip))
  rw [decide_eq_true h3] at hcf
  have hg0 := getI l 0 (by omega)
  have hgn := getI l ((l.length : Int) - 1).toNat (by omega)
  have hn1 : ((l.length : Int) - 1).toNat = l.length - 1 := by omega
  by_cases h4 : l.getD 0 0 = l.getD (l.length - 1) 0
  rotate_left
  · have hno : ¬ TV l := fun h => h4 h.cl
    rw [decide_eq_false hno]
    rw [hn1] at hgn
    refine xw_call (fn := Try.f98) rfl Try.func98 rfl ⟨Nat.le_of_ble_eq_true rfl, rfl, rfl⟩ ?_
    repeat' (first
      | refine xw_seq ?_
      | refine xw_block ?_
      | (refine ite_two ?_ ?_ <;> intro _ <;> first | (exfalso; omega) | skip)
      | refine ord_split (by kernel_rfl) ?_
      | (refine xw_ret ?_ <;> try simp only [sq, bl, LQ])
      | ((first | refine xw_reg ?_ | refine xw_regd ?_ | refine xw_if ?_ | refine xw_skip ?_ | refine xw_exit ?_ | refine xw_label ?_ | refine post_ret ?_ | refine post_normal ?_ | refine postE_ret ?_ | refine postE_normal ?_) <;> simp (config := { maxSteps := 3000000 }) (disch := first | assumption | omega | exact VG.okg (by assumption) | (simp only [List.length_set, List.length_append, List.length_cons, List.length_nil, List.length_replicate]; omega)) only [go_sem, ↓reduceIte, Int.reduceLE, Int.reduceLT, Int.reduceToNat, Int.reduceNeg, Int.reduceAdd, Int.reduceSub, Int.reduceMul, Int.reduceEq, Int.reduceNe, Nat.reduceEqDiff, Nat.reduceAdd, Nat.reduceSub, Nat.reduceMul, Nat.reduceLT, Nat.reduceLeDiff, Nat.reduceBEq, Nat.reduceBNe, Try.results98, h1, h2, hcf, hg0, hgn, hn1, h4])
      | (((first | refine at_region ?_ | refine at_out ?_ | refine at_cond ?_); split) <;> first | (exfalso; omega; done) | simp (config := { maxSteps := 3000000 }) (disch := first | assumption | omega | exact VG.okg (by assumption) | (simp only [List.length_set, List.length_append, List.length_cons, List.length_nil, List.length_replicate]; omega)) only [go_sem, ↓reduceIte, Int.reduceLE, Int.reduceLT, Int.reduceToNat, Int.reduceNeg, Int.reduceAdd, Int.reduceSub, Int.reduceMul, Int.reduceEq, Int.reduceNe, Nat.reduceEqDiff, Nat.reduceAdd, Nat.reduceSub, Nat.reduceMul, Nat.reduceLT, Nat.reduceLeDiff, Nat.reduceBEq, Nat.reduceBNe, Try.results98, h1, h2, hcf, hg0, hgn, hn1, h4] | skip))
  have hst := c_steps l hl
  by_cases h5 : stOk l
  rotate_left
  · have hno : ¬ TV l := fun h => h5 ((stOk_of h3).2 h.ne)
    rw [decide_eq_false hno]
    rw [if_neg h5] at hst
    rw [hn1, ← h4] at hgn
    refine xw_call (fn := Try.f98) rfl Try.func98 rfl ⟨Nat.le_of_ble_eq_true rfl, rfl, rfl⟩ ?_
    repeat' (first
      | refine xw_seq ?_
      | refine xw_block ?_
      | (refine ite_two ?_ ?_ <;> intro _ <;> first | (exfalso; omega) | skip)
      | refine ord_split (by kernel_rfl) ?_
      | (refine xw_ret ?_ <;> try simp only [sq, bl, LQ])
      | ((first | refine xw_reg ?_ | refine xw_regd ?_ | refine xw_if ?_ | refine xw_skip ?_ | refine xw_exit ?_ | refine xw_label ?_ | refine post_ret ?_ | refine post_normal ?_ | refine postE_ret ?_ | refine postE_normal ?_) <;> simp (config := { maxSteps := 3000000 }) (disch := first | assumption | omega | exact VG.okg (by assumption) | (simp only [List.length_set, List.length_append, List.length_cons, List.length_nil, List.length_replicate]; omega)) only [go_sem, ↓reduceIte, Int.reduceLE, Int.reduceLT, Int.reduceToNat, Int.reduceNeg, Int.reduceAdd, Int.reduceSub, Int.reduceMul, Int.reduceEq, Int.reduceNe, Nat.reduceEqDiff, Nat.reduceAdd, Nat.reduceSub, Nat.reduceMul, Nat.reduceLT, Nat.reduceLeDiff, Nat.reduceBEq, Nat.reduceBNe, Try.results98, h1, h2, hcf, hg0, hgn, hn1, hst])
      | (((first | refine at_region ?_ | refine at_out ?_ | refine at_cond ?_); split) <;> first | (exfalso; omega; done) | simp (config := { maxSteps := 3000000 }) (disch := first | assumption | omega | exact VG.okg (by assumption) | (simp only [List.length_set, List.length_append, List.length_cons, List.length_nil, List.length_replicate]; omega)) only [go_sem, ↓reduceIte, Int.reduceLE, Int.reduceLT, Int.reduceToNat, Int.reduceNeg, Int.reduceAdd, Int.reduceSub, Int.reduceMul, Int.reduceEq, Int.reduceNe, Nat.reduceEqDiff, Nat.reduceAdd, Nat.reduceSub, Nat.reduceMul, Nat.reduceLT, Nat.reduceLeDiff, Nat.reduceBEq, Nat.reduceBNe, Try.results98, h1, h2, hcf, hg0, hgn, hn1, hst] | skip))
  rw [if_pos h5] at hst
  rw [hn1, ← h4] at hgn
  have hTV : TV l ↔ (prOk (sortEs (stepsL l)) ∧ (stepsL l).length % 2 = 0) ∧ (stepsL l).length / 2 + 1 = (vsL l).length := by
    have hsl := sortEs_length (stepsL l)
    constructor
    · intro h
      have hp := tv_pr.1 h.two
      rw [hsl] at hp
      refine ⟨hp, ?_⟩
      have := cs_two h.two
      have := h.cn
      omega
    · rintro ⟨h, hc⟩
      have ht := tv_pr.2 (by rw [hsl]; exact h)
      refine ⟨by omega, by omega, h3, h4, (stOk_of h3).1 h5, ht, ?_⟩
      have := cs_two ht
      omega
  have hsl : (sortEs (stepsL l)).length = (stepsL l).length := sortEs_length _
  have hstl := steps_len l
  have hcs := c_sortEs (stepsL l) (stepsL l).length rfl (by omega)
  generalize hS : sortEs (stepsL l) = S at *
  generalize hK : (stepsL l).length = K at *
  refine xw_call (fn := Try.f98) rfl Try.func98 rfl ⟨Nat.le_of_ble_eq_true rfl, rfl, rfl⟩ ?_
  repeat' (first
    | refine xw_seq ?_
    | refine xw_block ?_
    | (refine ite_two ?_ ?_ <;> intro _ <;> first | (exfalso; omega) | skip)
    | refine ord_split (by kernel_rfl) ?_
    | (refine xw_ret ?_ <;> try simp only [sq, bl, LQ])
    | ((first | refine xw_reg ?_ | refine xw_regd ?_ | refine xw_if ?_ | refine xw_skip ?_ | refine xw_exit ?_ | refine xw_label ?_ | refine post_ret ?_ | refine post_normal ?_ | refine postE_ret ?_ | refine postE_normal ?_) <;> simp (config := { maxSteps := 3000000 }) (disch := first | assumption | omega | exact VG.okg (by assumption) | (simp only [List.length_set, List.length_append, List.length_cons, List.length_nil, List.length_replicate]; omega)) only [go_sem, ↓reduceIte, Int.reduceLE, Int.reduceLT, Int.reduceToNat, Int.reduceNeg, Int.reduceAdd, Int.reduceSub, Int.reduceMul, Int.reduceEq, Int.reduceNe, Nat.reduceEqDiff, Nat.reduceAdd, Nat.reduceSub, Nat.reduceMul, Nat.reduceLT, Nat.reduceLeDiff, Nat.reduceBEq, Nat.reduceBNe, Try.results98, h1, h2, hcf, hg0, hgn, hn1, hst, hK, hcs])
    | (((first | refine at_region ?_ | refine at_out ?_ | refine at_cond ?_); split) <;> first | (exfalso; omega; done) | simp (config := { maxSteps := 3000000 }) (disch := first | assumption | omega | exact VG.okg (by assumption) | (simp only [List.length_set, List.length_append, List.length_cons, List.length_nil, List.length_replicate]; omega)) only [go_sem, ↓reduceIte, Int.reduceLE, Int.reduceLT, Int.reduceToNat, Int.reduceNeg, Int.reduceAdd, Int.reduceSub, Int.reduceMul, Int.reduceEq, Int.reduceNe, Nat.reduceEqDiff, Nat.reduceAdd, Nat.reduceSub, Nat.reduceMul, Nat.reduceLT, Nat.reduceLeDiff, Nat.reduceBEq, Nat.reduceBNe, Try.results98, h1, h2, hcf, hg0, hgn, hn1, hst, hK, hcs] | skip))
  refine xw_loopR (fun (i : Int) s => s.m 3272 = some (.arr 0 2 (S.map encE)) ∧ s.ρ 41 = .ref 3272 0 0 K ∧ s.ρ 4 = .ref 3272 0 0 K ∧ s.ρ 42 = I K ∧ s.ρ 43 = I i ∧ s.ρ 0 = LI l ∧ 0 ≤ i ∧ i ≤ K ∧ ∀ j : Nat, (j : Int) < i → (j % 2 = 1 → S.getD (j - 1) (0, 0) = S.getD j (0, 0)) ∧ (j % 2 = 0 → 0 < j → S.getD (j - 1) (0, 0) ≠ S.getD j (0, 0))) (fun i => (K - i).toNat) 0 ?_ ?_
  · exact ⟨rfl, rfl, rfl, rfl, rfl, rfl, by omega, by omega, fun j hj => by omega⟩
  rintro i ⟨ρ, m⟩ ⟨m1, e41, e4, e42, e43, e0, g0, g1, g2⟩
  simp only at m1 e41 e4 e42 e43 e0 g0 g1 g2
  have htm := tmod2 g0
  by_cases hi : i < K
  · have hgi := getE S i.toNat (by omega)
    have hext : ∀ j : Nat, (j : Int) < i + 1 → (j : Int) < i ∨ j = i.toNat := fun j hj => by omega
    by_cases ho : i % 2 = 1
    · rw [ho] at htm
      have hgp := getE S (i - 1).toNat (by omega)
      have hnj : i.toNat - 1 = (i - 1).toNat := by omega
      by_cases hq : S.getD (i - 1).toNat (0, 0) = S.getD i.toNat (0, 0)
      · have hkeep : ∀ j : Nat, (j : Int) < i + 1 → (j % 2 = 1 → S.getD (j - 1) (0, 0) = S.getD j (0, 0)) ∧ (j % 2 = 0 → 0 < j → S.getD (j - 1) (0, 0) ≠ S.getD j (0, 0)) := fun j hj => by
          rcases hext j hj with h | rfl
          · exact g2 j h
          · exact ⟨fun _ => by rw [hnj]; exact hq, fun h => by omega⟩
        rw [hq] at hgp
        repeat' (first
          | refine xw_seq ?_
          | refine xw_block ?_
          | (refine ite_two ?_ ?_ <;> intro _ <;> first | (exfalso; omega) | skip)
          | refine ord_split (by kernel_rfl) ?_
          | (refine xw_ret ?_ <;> try simp only [sq, bl, LQ])
          | ((first | refine xw_reg ?_ | refine xw_regd ?_ | refine xw_if ?_ | refine xw_skip ?_ | refine xw_exit ?_ | refine xw_label ?_ | refine post_ret ?_ | refine post_normal ?_ | refine postE_ret ?_ | refine postE_normal ?_) <;> simp (config := { maxSteps := 3000000 }) (disch := first | assumption | omega | exact VG.okg (by assumption) | (simp only [List.length_set, List.length_append, List.length_cons, List.length_nil, List.length_replicate]; omega)) only [go_sem, ↓reduceIte, Int.reduceLE, Int.reduceLT, Int.reduceToNat, Int.reduceNeg, Int.reduceAdd, Int.reduceSub, Int.reduceMul, Int.reduceEq, Int.reduceNe, Nat.reduceEqDiff, Nat.reduceAdd, Nat.reduceSub, Nat.reduceMul, Nat.reduceLT, Nat.reduceLeDiff, Nat.reduceBEq, Nat.reduceBNe, Try.results98, m1, e41, e4, e42, e43, e0, htm, hgi, hgp])
          | (((first | refine at_region ?_ | refine at_out ?_ | refine at_cond ?_); split) <;> first | (exfalso; omega; done) | simp (config := { maxSteps := 3000000 }) (disch := first | assumption | omega | exact VG.okg (by assumption) | (simp only [List.length_set, List.length_append, List.length_cons, List.length_nil, List.length_replicate]; omega)) only [go_sem, ↓reduceIte, Int.reduceLE, Int.reduceLT, Int.reduceToNat, Int.reduceNeg, Int.reduceAdd, Int.reduceSub, Int.reduceMul, Int.reduceEq, Int.reduceNe, Nat.reduceEqDiff, Nat.reduceAdd, Nat.reduceSub, Nat.reduceMul, Nat.reduceLT, Nat.reduceLeDiff, Nat.reduceBEq, Nat.reduceBNe, Try.results98, m1, e41, e4, e42, e43, e0, htm, hgi, hgp] | skip))
        exact ⟨by omega, by omega, hkeep, by omega⟩
      · have hne : ¬ ((S.getD (i - 1).toNat (0, 0)).1 = (S.getD i.toNat (0, 0)).1 ∧ (S.getD (i - 1).toNat (0, 0)).2 = (S.getD i.toNat (0, 0)).2) := fun q => hq (Prod.ext q.1 q.2)
        have hno : ¬ TV l := fun h => hq (by rw [← hnj]; exact ((hTV.1 h).1.1 i.toNat (by omega)).1 (by omega))
        rw [decide_eq_false hno]
        repeat' (first
          | refine xw_seq ?_
          | refine xw_block ?_
          | (refine ite_two ?_ ?_ <;> intro _ <;> first | (exfalso; omega) | skip)
          | refine ord_split (by kernel_rfl) ?_
          | (refine xw_ret ?_ <;> try simp only [sq, bl, LQ])
          | ((first | refine xw_reg ?_ | refine xw_regd ?_ | refine xw_if ?_ | refine xw_skip ?_ | refine xw_exit ?_ | refine xw_label ?_ | refine post_ret ?_ | refine post_normal ?_ | refine postE_ret ?_ | refine postE_normal ?_) <;> simp (config := { maxSteps := 3000000 }) (disch := first | assumption | omega | exact VG.okg (by assumption) | (simp only [List.length_set, List.length_append, List.length_cons, List.length_nil, List.length_replicate]; omega)) only [go_sem, ↓reduceIte, Int.reduceLE, Int.reduceLT, Int.reduceToNat, Int.reduceNeg, Int.reduceAdd, Int.reduceSub, Int.reduceMul, Int.reduceEq, Int.reduceNe, Nat.reduceEqDiff, Nat.reduceAdd, Nat.reduceSub, Nat.reduceMul, Nat.reduceLT, Nat.reduceLeDiff, Nat.reduceBEq, Nat.reduceBNe, Try.results98, m1, e41, e4, e42, e43, e0, htm, hgi, hgp, hne])
          | (((first | refine at_region ?_ | refine at_out ?_ | refine at_cond ?_); split) <;> first | (exfalso; omega; done) | simp (config := { maxSteps := 3000000 }) (disch := first | assumption | omega | exact VG.okg (by assumption) | (simp only [List.length_set, List.length_append, List.length_cons, List.length_nil, List.length_replicate]; omega)) only [go_sem, ↓reduceIte, Int.reduceLE, Int.reduceLT, Int.reduceToNat, Int.reduceNeg, Int.reduceAdd, Int.reduceSub, Int.reduceMul, Int.reduceEq, Int.reduceNe, Nat.reduceEqDiff, Nat.reduceAdd, Nat.reduceSub, Nat.reduceMul, Nat.reduceLT, Nat.reduceLeDiff, Nat.reduceBEq, Nat.reduceBNe, Try.results98, m1, e41, e4, e42, e43, e0, htm, hgi, hgp, hne] | skip))
    · rw [show i % 2 = 0 by omega] at htm
      by_cases hz : i = 0
      · subst hz
        have hgi' := getE S 0 (by omega)
        repeat' (first
          | refine xw_seq ?_
          | refine xw_block ?_
          | (refine ite_two ?_ ?_ <;> intro _ <;> first | (exfalso; omega) | skip)
          | refine ord_split (by kernel_rfl) ?_
          | (refine xw_ret ?_ <;> try simp only [sq, bl, LQ])
          | ((first | refine xw_reg ?_ | refine xw_regd ?_ | refine xw_if ?_ | refine xw_skip ?_ | refine xw_exit ?_ | refine xw_label ?_ | refine post_ret ?_ | refine post_normal ?_ | refine postE_ret ?_ | refine postE_normal ?_) <;> simp (config := { maxSteps := 3000000 }) (disch := first | assumption | omega | exact VG.okg (by assumption) | (simp only [List.length_set, List.length_append, List.length_cons, List.length_nil, List.length_replicate]; omega)) only [go_sem, ↓reduceIte, Int.reduceLE, Int.reduceLT, Int.reduceToNat, Int.reduceNeg, Int.reduceAdd, Int.reduceSub, Int.reduceMul, Int.reduceEq, Int.reduceNe, Nat.reduceEqDiff, Nat.reduceAdd, Nat.reduceSub, Nat.reduceMul, Nat.reduceLT, Nat.reduceLeDiff, Nat.reduceBEq, Nat.reduceBNe, Try.results98, m1, e41, e4, e42, e43, e0, hgi'])
          | (((first | refine at_region ?_ | refine at_out ?_ | refine at_cond ?_); split) <;> first | (exfalso; omega; done) | simp (config := { maxSteps := 3000000 }) (disch := first | assumption | omega | exact VG.okg (by assumption) | (simp only [List.length_set, List.length_append, List.length_cons, List.length_nil, List.length_replicate]; omega)) only [go_sem, ↓reduceIte, Int.reduceLE, Int.reduceLT, Int.reduceToNat, Int.reduceNeg, Int.reduceAdd, Int.reduceSub, Int.reduceMul, Int.reduceEq, Int.reduceNe, Nat.reduceEqDiff, Nat.reduceAdd, Nat.reduceSub, Nat.reduceMul, Nat.reduceLT, Nat.reduceLeDiff, Nat.reduceBEq, Nat.reduceBNe, Try.results98, m1, e41, e4, e42, e43, e0, hgi'] | skip))
        refine ⟨by omega, fun j hj => ?_, by omega⟩
        have : j = 0 := by omega
        subst this
        exact ⟨fun h => by omega, fun _ h => by omega⟩
      · have hgp := getE S (i - 1).toNat (by omega)
        have hnj : i.toNat - 1 = (i - 1).toNat := by omega
        have hzp : 0 < i := by omega
        by_cases hq : S.getD (i - 1).toNat (0, 0) = S.getD i.toNat (0, 0)
        · have hno : ¬ TV l := fun h => ((hTV.1 h).1.1 i.toNat (by omega)).2 (by omega) (by omega) (by rw [hnj]; exact hq)
          rw [decide_eq_false hno]
          rw [hq] at hgp
          repeat' (first
            | refine xw_seq ?_
            | refine xw_block ?_
            | (refine ite_two ?_ ?_ <;> intro _ <;> first | (exfalso; omega) | skip)
            | refine ord_split (by kernel_rfl) ?_
            | (refine xw_ret ?_ <;> try simp only [sq, bl, LQ])
            | ((first | refine xw_reg ?_ | refine xw_regd ?_ | refine xw_if ?_ | refine xw_skip ?_ | refine xw_exit ?_ | refine xw_label ?_ | refine post_ret ?_ | refine post_normal ?_ | refine postE_ret ?_ | refine postE_normal ?_) <;> simp (config := { maxSteps := 3000000 }) (disch := first | assumption | omega | exact VG.okg (by assumption) | (simp only [List.length_set, List.length_append, List.length_cons, List.length_nil, List.length_replicate]; omega)) only [go_sem, ↓reduceIte, Int.reduceLE, Int.reduceLT, Int.reduceToNat, Int.reduceNeg, Int.reduceAdd, Int.reduceSub, Int.reduceMul, Int.reduceEq, Int.reduceNe, Nat.reduceEqDiff, Nat.reduceAdd, Nat.reduceSub, Nat.reduceMul, Nat.reduceLT, Nat.reduceLeDiff, Nat.reduceBEq, Nat.reduceBNe, Try.results98, m1, e41, e4, e42, e43, e0, htm, hgi, hgp, hzp])
            | (((first | refine at_region ?_ | refine at_out ?_ | refine at_cond ?_); split) <;> first | (exfalso; omega; done) | simp (config := { maxSteps := 3000000 }) (disch := first | assumption | omega | exact VG.okg (by assumption) | (simp only [List.length_set, List.length_append, List.length_cons, List.length_nil, List.length_replicate]; omega)) only [go_sem, ↓reduceIte, Int.reduceLE, Int.reduceLT, Int.reduceToNat, Int.reduceNeg, Int.reduceAdd, Int.reduceSub, Int.reduceMul, Int.reduceEq, Int.reduceNe, Nat.reduceEqDiff, Nat.reduceAdd, Nat.reduceSub, Nat.reduceMul, Nat.reduceLT, Nat.reduceLeDiff, Nat.reduceBEq, Nat.reduceBNe, Try.results98, m1, e41, e4, e42, e43, e0, htm, hgi, hgp, hzp] | skip))
        · have hne : ¬ ((S.getD (i - 1).toNat (0, 0)).1 = (S.getD i.toNat (0, 0)).1 ∧ (S.getD (i - 1).toNat (0, 0)).2 = (S.getD i.toNat (0, 0)).2) := fun q => hq (Prod.ext q.1 q.2)
          have hkeep : ∀ j : Nat, (j : Int) < i + 1 → (j % 2 = 1 → S.getD (j - 1) (0, 0) = S.getD j (0, 0)) ∧ (j % 2 = 0 → 0 < j → S.getD (j - 1) (0, 0) ≠ S.getD j (0, 0)) := fun j hj => by
            rcases hext j hj with h | rfl
            · exact g2 j h
            · exact ⟨fun h => by omega, fun _ _ => by rw [hnj]; exact hq⟩
          repeat' (first
            | refine xw_seq ?_
            | refine xw_block ?_
            | (refine ite_two ?_ ?_ <;> intro _ <;> first | (exfalso; omega) | skip)
            | refine ord_split (by kernel_rfl) ?_
            | (refine xw_ret ?_ <;> try simp only [sq, bl, LQ])
            | ((first | refine xw_reg ?_ | refine xw_regd ?_ | refine xw_if ?_ | refine xw_skip ?_ | refine xw_exit ?_ | refine xw_label ?_ | refine post_ret ?_ | refine post_normal ?_ | refine postE_ret ?_ | refine postE_normal ?_) <;> simp (config := { maxSteps := 3000000 }) (disch := first | assumption | omega | exact VG.okg (by assumption) | (simp only [List.length_set, List.length_append, List.length_cons, List.length_nil, List.length_replicate]; omega)) only [go_sem, ↓reduceIte, Int.reduceLE, Int.reduceLT, Int.reduceToNat, Int.reduceNeg, Int.reduceAdd, Int.reduceSub, Int.reduceMul, Int.reduceEq, Int.reduceNe, Nat.reduceEqDiff, Nat.reduceAdd, Nat.reduceSub, Nat.reduceMul, Nat.reduceLT, Nat.reduceLeDiff, Nat.reduceBEq, Nat.reduceBNe, Try.results98, m1, e41, e4, e42, e43, e0, htm, hgi, hgp, hne, hzp])
            | (((first | refine at_region ?_ | refine at_out ?_ | refine at_cond ?_); split) <;> first | (exfalso; omega; done) | simp (config := { maxSteps := 3000000 }) (disch := first | assumption | omega | exact VG.okg (by assumption) | (simp only [List.length_set, List.length_append, List.length_cons, List.length_nil, List.length_replicate]; omega)) only [go_sem, ↓reduceIte, Int.reduceLE, Int.reduceLT, Int.reduceToNat, Int.reduceNeg, Int.reduceAdd, Int.reduceSub, Int.reduceMul, Int.reduceEq, Int.reduceNe, Nat.reduceEqDiff, Nat.reduceAdd, Nat.reduceSub, Nat.reduceMul, Nat.reduceLT, Nat.reduceLeDiff, Nat.reduceBEq, Nat.reduceBNe, Try.results98, m1, e41, e4, e42, e43, e0, htm, hgi, hgp, hne, hzp] | skip))
          exact ⟨by omega, by omega, hkeep, by omega⟩
  have hpr : prOk S := fun j hj => g2 j (by omega)
  obtain ⟨ys, y1, y2, y3⟩ := c_compact (sortI l) (by rw [sortI_length]; omega)
  rw [sortI_length] at y3
  have hvs : ddS (sortI l) = vsL l := rfl
  rw [hvs] at y3
  have hlne : l ≠ [] := fun e => by subst e; simp at h1
  have hcl := c_cloneI l hlne (by omega)
  have hso := c_sortI l l.length rfl (by omega)
  have hkm := tmod2 (i := (K : Int)) (by omega)
  have hkd := tdiv2 (i := (K : Int)) (by omega)
  by_cases hk2 : (K : Int) % 2 = 0
  · rw [hk2] at hkm
    have hT2 : TV l ↔ ((K : Int) / 2 + 1 = ((vsL l).length : Int)) := by
      rw [hTV]
      constructor
      · rintro ⟨-, h⟩; omega
      · intro h; exact ⟨⟨hpr, by omega⟩, by omega⟩
    rw [show decide (TV l) = decide ((K : Int) / 2 + 1 = ((vsL l).length : Int)) from decide_eq_decide.2 hT2]
    repeat' (first
      | refine xw_seq ?_
      | refine xw_block ?_
      | (refine ite_two ?_ ?_ <;> intro _ <;> first | (exfalso; omega) | skip)
      | refine ord_split (by kernel_rfl) ?_
      | (refine xw_ret ?_ <;> try simp only [sq, bl, LQ])
      | ((first | refine xw_reg ?_ | refine xw_regd ?_ | refine xw_if ?_ | refine xw_skip ?_ | refine xw_exit ?_ | refine xw_label ?_ | refine post_ret ?_ | refine post_normal ?_ | refine postE_ret ?_ | refine postE_normal ?_) <;> simp (config := { maxSteps := 3000000 }) (disch := first | assumption | omega | exact VG.okg (by assumption) | (simp only [List.length_set, List.length_append, List.length_cons, List.length_nil, List.length_replicate]; omega)) only [go_sem, ↓reduceIte, Int.reduceLE, Int.reduceLT, Int.reduceToNat, Int.reduceNeg, Int.reduceAdd, Int.reduceSub, Int.reduceMul, Int.reduceEq, Int.reduceNe, Nat.reduceEqDiff, Nat.reduceAdd, Nat.reduceSub, Nat.reduceMul, Nat.reduceLT, Nat.reduceLeDiff, Nat.reduceBEq, Nat.reduceBNe, Try.results98, m1, e41, e4, e42, e43, e0, hkm, hkd, hcl, hso, y3])
      | (((first | refine at_region ?_ | refine at_out ?_ | refine at_cond ?_); split) <;> first | (exfalso; omega; done) | simp (config := { maxSteps := 3000000 }) (disch := first | assumption | omega | exact VG.okg (by assumption) | (simp only [List.length_set, List.length_append, List.length_cons, List.length_nil, List.length_replicate]; omega)) only [go_sem, ↓reduceIte, Int.reduceLE, Int.reduceLT, Int.reduceToNat, Int.reduceNeg, Int.reduceAdd, Int.reduceSub, Int.reduceMul, Int.reduceEq, Int.reduceNe, Nat.reduceEqDiff, Nat.reduceAdd, Nat.reduceSub, Nat.reduceMul, Nat.reduceLT, Nat.reduceLeDiff, Nat.reduceBEq, Nat.reduceBNe, Try.results98, m1, e41, e4, e42, e43, e0, hkm, hkd, hcl, hso, y3] | skip))
  · have hk1 : (K : Int) % 2 = 1 := by omega
    rw [hk1] at hkm
    have hno : ¬ TV l := fun h => by have := (hTV.1 h).1.2; omega
    rw [decide_eq_false hno]
    repeat' (first
      | refine xw_seq ?_
      | refine xw_block ?_
      | (refine ite_two ?_ ?_ <;> intro _ <;> first | (exfalso; omega) | skip)
      | refine ord_split (by kernel_rfl) ?_
      | (refine xw_ret ?_ <;> try simp only [sq, bl, LQ])
      | ((first | refine xw_reg ?_ | refine xw_regd ?_ | refine xw_if ?_ | refine xw_skip ?_ | refine xw_exit ?_ | refine xw_label ?_ | refine post_ret ?_ | refine post_normal ?_ | refine postE_ret ?_ | refine postE_normal ?_) <;> simp (config := { maxSteps := 3000000 }) (disch := first | assumption | omega | exact VG.okg (by assumption) | (simp only [List.length_set, List.length_append, List.length_cons, List.length_nil, List.length_replicate]; omega)) only [go_sem, ↓reduceIte, Int.reduceLE, Int.reduceLT, Int.reduceToNat, Int.reduceNeg, Int.reduceAdd, Int.reduceSub, Int.reduceMul, Int.reduceEq, Int.reduceNe, Nat.reduceEqDiff, Nat.reduceAdd, Nat.reduceSub, Nat.reduceMul, Nat.reduceLT, Nat.reduceLeDiff, Nat.reduceBEq, Nat.reduceBNe, Try.results98, m1, e41, e4, e42, e43, e0, hkm, hcl, hso])
      | (((first | refine at_region ?_ | refine at_out ?_ | refine at_cond ?_); split) <;> first | (exfalso; omega; done) | simp (config := { maxSteps := 3000000 }) (disch := first | assumption | omega | exact VG.okg (by assumption) | (simp only [List.length_set, List.length_append, List.length_cons, List.length_nil, List.length_replicate]; omega)) only [go_sem, ↓reduceIte, Int.reduceLE, Int.reduceLT, Int.reduceToNat, Int.reduceNeg, Int.reduceAdd, Int.reduceSub, Int.reduceMul, Int.reduceEq, Int.reduceNe, Nat.reduceEqDiff, Nat.reduceAdd, Nat.reduceSub, Nat.reduceMul, Nat.reduceLT, Nat.reduceLeDiff, Nat.reduceBEq, Nat.reduceBNe, Try.results98, m1, e41, e4, e42, e43, e0, hkm, hcl, hso] | skip))
end Go.Proofs.Yteknfomddncboaa.X
