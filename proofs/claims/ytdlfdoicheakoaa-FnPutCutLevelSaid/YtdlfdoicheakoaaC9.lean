/- What functions compute: valid graphs, cutting off a node as the reference does. -/
import Derived.Test.YtdlfdoicheakoaaC8
set_option linter.unusedSimpArgs false
set_option linter.unusedVariables false
set_option maxHeartbeats 2000000
namespace Go.Proofs.Ytdlfdoicheakoaa.X
open Go Go.Proofs
theorem c_GraphValid (n : Int) (es : List (Int × Int)) (hl : es.length ≤ 1048576) : KP 46 [GL n es] [] = some (B (decide (VG n es)), [], []) := by
  cases h1 : decide (n < 1)
  · cases h2 : decide (16 < n)
    · cases h3 : decide ((40 : Int) < es.length)
      · refine xw_call (fn := Try.f46) rfl Try.func46 rfl ⟨Nat.le_of_ble_eq_true rfl, rfl, rfl⟩ ?_
        repeat (first
          | refine xw_seq ?_
          | refine xw_block ?_
          | (refine xw_reg ?_; simp (disch := first | decide | omega) only [go_sem, ↓reduceIte, Int.reduceLE, Int.reduceLT, Int.reduceToNat, Int.reduceNeg, Int.reduceAdd, Int.reduceSub, Int.reduceMul, Int.reduceEq, Int.reduceNe, Nat.reduceEqDiff, Nat.reduceAdd, Nat.reduceSub, Nat.reduceMul, Nat.reduceLT, Nat.reduceLeDiff, Nat.reduceBEq, Nat.reduceBNe, UInt8.reduceToNat, wr, dle, dlt, h1, h2, h3])
          | (refine xw_regd ?_; simp (disch := first | decide | omega) only [go_sem, ↓reduceIte, Int.reduceLE, Int.reduceLT, Int.reduceToNat, Int.reduceNeg, Int.reduceAdd, Int.reduceSub, Int.reduceMul, Int.reduceEq, Int.reduceNe, Nat.reduceEqDiff, Nat.reduceAdd, Nat.reduceSub, Nat.reduceMul, Nat.reduceLT, Nat.reduceLeDiff, Nat.reduceBEq, Nat.reduceBNe, UInt8.reduceToNat, wr, dle, dlt, h1, h2, h3]; refine ⟨by kernel_rfl, ?_⟩)
          | (refine xw_if ?_; simp (disch := first | decide | omega) only [go_sem, ↓reduceIte, Int.reduceLE, Int.reduceLT, Int.reduceToNat, Int.reduceNeg, Int.reduceAdd, Int.reduceSub, Int.reduceMul, Int.reduceEq, Int.reduceNe, Nat.reduceEqDiff, Nat.reduceAdd, Nat.reduceSub, Nat.reduceMul, Nat.reduceLT, Nat.reduceLeDiff, Nat.reduceBEq, Nat.reduceBNe, UInt8.reduceToNat, wr, dle, dlt, h1, h2, h3])
          | (refine xw_skip ?_; simp only [sq, bl])
          | (refine xw_exit ?_; simp only [sq, bl, if_true, if_false, Nat.reduceEqDiff])
          | (refine xw_label ?_; simp only [sq, bl]))
        simp only [decide_eq_false_iff_not] at h1 h2 h3
        refine xw_loop_count (fun k s => ∃ i : Nat, k = es.length - i ∧ i ≤ es.length ∧ (∀ e ∈ es.take i, okE n e) ∧ Ord (es.take i) ∧ s.ρ 1 = .ptr 1 0 0 0 ∧ s.ρ 20 = LE es ∧ s.ρ 21 = I es.length ∧ s.ρ 22 = I i ∧ s.m 1 = some (.box 0 [I n, LE es])) ?_ es.length _ ⟨0, by simp, by simp, by simp, by simp [Ord], rfl, rfl, rfl, rfl, rfl⟩
        rintro k ⟨ρ, m⟩ ⟨i, rfl, hi, ha, ho, r1, r20, r21, r22, m1⟩
        simp only at r1 r20 r21 r22 m1
        cases hc : decide ((i : Int) < es.length)
        · repeat (first
            | refine xw_seq ?_
            | refine xw_block ?_
            | (refine xw_reg ?_; simp (disch := first | decide | omega) only [go_sem, ↓reduceIte, Int.reduceLE, Int.reduceLT, Int.reduceToNat, Int.reduceNeg, Int.reduceAdd, Int.reduceSub, Int.reduceMul, Int.reduceEq, Int.reduceNe, Nat.reduceEqDiff, Nat.reduceAdd, Nat.reduceSub, Nat.reduceMul, Nat.reduceLT, Nat.reduceLeDiff, Nat.reduceBEq, Nat.reduceBNe, UInt8.reduceToNat, wr, dle, dlt, r1, r20, r21, r22, m1, hc])
            | (refine xw_regd ?_; simp (disch := first | decide | omega) only [go_sem, ↓reduceIte, Int.reduceLE, Int.reduceLT, Int.reduceToNat, Int.reduceNeg, Int.reduceAdd, Int.reduceSub, Int.reduceMul, Int.reduceEq, Int.reduceNe, Nat.reduceEqDiff, Nat.reduceAdd, Nat.reduceSub, Nat.reduceMul, Nat.reduceLT, Nat.reduceLeDiff, Nat.reduceBEq, Nat.reduceBNe, UInt8.reduceToNat, wr, dle, dlt, r1, r20, r21, r22, m1, hc]; refine ⟨by kernel_rfl, ?_⟩)
            | (refine xw_if ?_; simp (disch := first | decide | omega) only [go_sem, ↓reduceIte, Int.reduceLE, Int.reduceLT, Int.reduceToNat, Int.reduceNeg, Int.reduceAdd, Int.reduceSub, Int.reduceMul, Int.reduceEq, Int.reduceNe, Nat.reduceEqDiff, Nat.reduceAdd, Nat.reduceSub, Nat.reduceMul, Nat.reduceLT, Nat.reduceLeDiff, Nat.reduceBEq, Nat.reduceBNe, UInt8.reduceToNat, wr, dle, dlt, r1, r20, r21, r22, m1, hc])
            | (refine xw_skip ?_; simp only [sq, bl])
            | (refine xw_exit ?_; simp only [sq, bl, if_true, if_false, Nat.reduceEqDiff])
            | (refine xw_label ?_; simp only [sq, bl]))
          first | refine xw_ret (post_ret ?_) | refine post_normal ?_ | refine xw_ret (postE_ret ?_) | refine postE_normal ?_
          simp only [go_sem, ↓reduceIte, Int.reduceLE, Int.reduceLT, Int.reduceToNat, Int.reduceNeg, Int.reduceAdd, Int.reduceSub, Int.reduceMul, Int.reduceEq, Int.reduceNe, Nat.reduceEqDiff, Nat.reduceAdd, Nat.reduceSub, Nat.reduceMul, Nat.reduceLT, Nat.reduceLeDiff, Nat.reduceBEq, Nat.reduceBNe, UInt8.reduceToNat, Try.results46, Try.f46]
          simp only [decide_eq_false_iff_not] at hc
          rw [List.take_of_length_le (by omega)] at ha ho
          have : VG n es := ⟨by omega, by omega, by omega, ha, ho⟩
          simp [this]
        · simp only [decide_eq_true_eq] at hc
          obtain ⟨⟨u, v⟩, he⟩ : ∃ e, es[i]? = some e := ⟨es[i]'(by omega), by simp⟩
          have bad : ¬ okE n (u, v) → ¬ VG n es := fun hb h => hb (h.2.2.2.1 _ (List.mem_of_getElem? he))
          cases h4 : decide (u < 0)
          · cases h5 : decide (v ≤ u)
            · cases h6 : decide (n ≤ v)
              · have hok : okE n (u, v) := by simp only [decide_eq_false_iff_not] at h4 h5 h6; exact ⟨by simp only; omega, by simp only; omega, by simp only; omega⟩
                have ha' : ∀ e ∈ es.take (i + 1), okE n e := fun e h => by
                  rw [take_at he] at h
                  rcases List.mem_append.1 h with h | h
                  · exact ha e h
                  · simp at h; subst h; exact hok
                cases h7 : decide ((0 : Int) < i)
                · repeat (first
                    | refine xw_seq ?_
                    | refine xw_block ?_
                    | (refine xw_reg ?_; simp (disch := first | decide | omega) only [go_sem, ↓reduceIte, Int.reduceLE, Int.reduceLT, Int.reduceToNat, Int.reduceNeg, Int.reduceAdd, Int.reduceSub, Int.reduceMul, Int.reduceEq, Int.reduceNe, Nat.reduceEqDiff, Nat.reduceAdd, Nat.reduceSub, Nat.reduceMul, Nat.reduceLT, Nat.reduceLeDiff, Nat.reduceBEq, Nat.reduceBNe, UInt8.reduceToNat, wr, dle, dlt, r1, r20, r21, r22, m1, hc, he, encE, List.getElem?_map, h4, h5, h6, h7])
                    | (refine xw_regd ?_; simp (disch := first | decide | omega) only [go_sem, ↓reduceIte, Int.reduceLE, Int.reduceLT, Int.reduceToNat, Int.reduceNeg, Int.reduceAdd, Int.reduceSub, Int.reduceMul, Int.reduceEq, Int.reduceNe, Nat.reduceEqDiff, Nat.reduceAdd, Nat.reduceSub, Nat.reduceMul, Nat.reduceLT, Nat.reduceLeDiff, Nat.reduceBEq, Nat.reduceBNe, UInt8.reduceToNat, wr, dle, dlt, r1, r20, r21, r22, m1, hc, he, encE, List.getElem?_map, h4, h5, h6, h7]; refine ⟨by kernel_rfl, ?_⟩)
                    | (refine xw_if ?_; simp (disch := first | decide | omega) only [go_sem, ↓reduceIte, Int.reduceLE, Int.reduceLT, Int.reduceToNat, Int.reduceNeg, Int.reduceAdd, Int.reduceSub, Int.reduceMul, Int.reduceEq, Int.reduceNe, Nat.reduceEqDiff, Nat.reduceAdd, Nat.reduceSub, Nat.reduceMul, Nat.reduceLT, Nat.reduceLeDiff, Nat.reduceBEq, Nat.reduceBNe, UInt8.reduceToNat, wr, dle, dlt, r1, r20, r21, r22, m1, hc, he, encE, List.getElem?_map, h4, h5, h6, h7])
                    | (refine xw_skip ?_; simp only [sq, bl])
                    | (refine xw_exit ?_; simp only [sq, bl, if_true, if_false, Nat.reduceEqDiff])
                    | (refine xw_label ?_; simp only [sq, bl]))
                  simp only [decide_eq_false_iff_not] at h7
                  have hi0 : i = 0 := by omega
                  subst hi0
                  refine ⟨es.length - 1, by omega, 1, rfl, by omega, ha', ?_, rfl⟩
                  rw [take_at he]; simp [Ord]
                · obtain ⟨j, rfl⟩ : ∃ j, i = j + 1 := ⟨i - 1, by simp at h7; omega⟩
                  obtain ⟨⟨x, y⟩, hx⟩ : ∃ e, es[j]? = some e := ⟨es[j]'(by omega), by simp⟩
                  have hcmp := c_compareEdges x y u v
                  have hsg : decide (0 ≤ cmpE x y u v) = !lessE (x, y) (u, v) := by
                    have := @cmpE_less x y u v
                    cases h : lessE (x, y) (u, v) <;> simp_all
                  have hj1 : ((j + 1 : Nat) : Int) - 1 = j := by omega
                  cases h8 : lessE (x, y) (u, v)
                  · repeat (first
                      | refine xw_seq ?_
                      | refine xw_block ?_
                      | (refine xw_reg ?_; simp (disch := first | decide | omega) only [go_sem, ↓reduceIte, Int.reduceLE, Int.reduceLT, Int.reduceToNat, Int.reduceNeg, Int.reduceAdd, Int.reduceSub, Int.reduceMul, Int.reduceEq, Int.reduceNe, Nat.reduceEqDiff, Nat.reduceAdd, Nat.reduceSub, Nat.reduceMul, Nat.reduceLT, Nat.reduceLeDiff, Nat.reduceBEq, Nat.reduceBNe, UInt8.reduceToNat, wr, dle, dlt, r1, r20, r21, r22, m1, hc, he, hx, hj1, encE, List.getElem?_map, h4, h5, h6, h7, hcmp, hsg, h8])
                      | (refine xw_regd ?_; simp (disch := first | decide | omega) only [go_sem, ↓reduceIte, Int.reduceLE, Int.reduceLT, Int.reduceToNat, Int.reduceNeg, Int.reduceAdd, Int.reduceSub, Int.reduceMul, Int.reduceEq, Int.reduceNe, Nat.reduceEqDiff, Nat.reduceAdd, Nat.reduceSub, Nat.reduceMul, Nat.reduceLT, Nat.reduceLeDiff, Nat.reduceBEq, Nat.reduceBNe, UInt8.reduceToNat, wr, dle, dlt, r1, r20, r21, r22, m1, hc, he, hx, hj1, encE, List.getElem?_map, h4, h5, h6, h7, hcmp, hsg, h8]; refine ⟨by kernel_rfl, ?_⟩)
                      | (refine xw_if ?_; simp (disch := first | decide | omega) only [go_sem, ↓reduceIte, Int.reduceLE, Int.reduceLT, Int.reduceToNat, Int.reduceNeg, Int.reduceAdd, Int.reduceSub, Int.reduceMul, Int.reduceEq, Int.reduceNe, Nat.reduceEqDiff, Nat.reduceAdd, Nat.reduceSub, Nat.reduceMul, Nat.reduceLT, Nat.reduceLeDiff, Nat.reduceBEq, Nat.reduceBNe, UInt8.reduceToNat, wr, dle, dlt, r1, r20, r21, r22, m1, hc, he, hx, hj1, encE, List.getElem?_map, h4, h5, h6, h7, hcmp, hsg, h8])
                      | (refine xw_skip ?_; simp only [sq, bl])
                      | (refine xw_exit ?_; simp only [sq, bl, if_true, if_false, Nat.reduceEqDiff])
                      | (refine xw_label ?_; simp only [sq, bl]))
                    first | refine xw_ret (post_ret ?_) | refine post_normal ?_ | refine xw_ret (postE_ret ?_) | refine postE_normal ?_
                    simp only [go_sem, ↓reduceIte, Int.reduceLE, Int.reduceLT, Int.reduceToNat, Int.reduceNeg, Int.reduceAdd, Int.reduceSub, Int.reduceMul, Int.reduceEq, Int.reduceNe, Nat.reduceEqDiff, Nat.reduceAdd, Nat.reduceSub, Nat.reduceMul, Nat.reduceLT, Nat.reduceLeDiff, Nat.reduceBEq, Nat.reduceBNe, UInt8.reduceToNat, Try.results46, Try.f46]
                    have : ¬ VG n es := fun h => by
                      have := (Ord.take_at hx he ho).1 (h.take _).2
                      rw [h8] at this; cases this
                    simp [this]
                  · repeat (first
                      | refine xw_seq ?_
                      | refine xw_block ?_
                      | (refine xw_reg ?_; simp (disch := first | decide | omega) only [go_sem, ↓reduceIte, Int.reduceLE, Int.reduceLT, Int.reduceToNat, Int.reduceNeg, Int.reduceAdd, Int.reduceSub, Int.reduceMul, Int.reduceEq, Int.reduceNe, Nat.reduceEqDiff, Nat.reduceAdd, Nat.reduceSub, Nat.reduceMul, Nat.reduceLT, Nat.reduceLeDiff, Nat.reduceBEq, Nat.reduceBNe, UInt8.reduceToNat, wr, dle, dlt, r1, r20, r21, r22, m1, hc, he, hx, hj1, encE, List.getElem?_map, h4, h5, h6, h7, hcmp, hsg, h8])
                      | (refine xw_regd ?_; simp (disch := first | decide | omega) only [go_sem, ↓reduceIte, Int.reduceLE, Int.reduceLT, Int.reduceToNat, Int.reduceNeg, Int.reduceAdd, Int.reduceSub, Int.reduceMul, Int.reduceEq, Int.reduceNe, Nat.reduceEqDiff, Nat.reduceAdd, Nat.reduceSub, Nat.reduceMul, Nat.reduceLT, Nat.reduceLeDiff, Nat.reduceBEq, Nat.reduceBNe, UInt8.reduceToNat, wr, dle, dlt, r1, r20, r21, r22, m1, hc, he, hx, hj1, encE, List.getElem?_map, h4, h5, h6, h7, hcmp, hsg, h8]; refine ⟨by kernel_rfl, ?_⟩)
                      | (refine xw_if ?_; simp (disch := first | decide | omega) only [go_sem, ↓reduceIte, Int.reduceLE, Int.reduceLT, Int.reduceToNat, Int.reduceNeg, Int.reduceAdd, Int.reduceSub, Int.reduceMul, Int.reduceEq, Int.reduceNe, Nat.reduceEqDiff, Nat.reduceAdd, Nat.reduceSub, Nat.reduceMul, Nat.reduceLT, Nat.reduceLeDiff, Nat.reduceBEq, Nat.reduceBNe, UInt8.reduceToNat, wr, dle, dlt, r1, r20, r21, r22, m1, hc, he, hx, hj1, encE, List.getElem?_map, h4, h5, h6, h7, hcmp, hsg, h8])
                      | (refine xw_skip ?_; simp only [sq, bl])
                      | (refine xw_exit ?_; simp only [sq, bl, if_true, if_false, Nat.reduceEqDiff])
                      | (refine xw_label ?_; simp only [sq, bl]))
                    exact ⟨es.length - (j + 1 + 1), by omega, j + 1 + 1, rfl, by omega, ha', (Ord.take_at hx he ho).2 h8, rfl⟩
              · repeat (first
                  | refine xw_seq ?_
                  | refine xw_block ?_
                  | (refine xw_reg ?_; simp (disch := first | decide | omega) only [go_sem, ↓reduceIte, Int.reduceLE, Int.reduceLT, Int.reduceToNat, Int.reduceNeg, Int.reduceAdd, Int.reduceSub, Int.reduceMul, Int.reduceEq, Int.reduceNe, Nat.reduceEqDiff, Nat.reduceAdd, Nat.reduceSub, Nat.reduceMul, Nat.reduceLT, Nat.reduceLeDiff, Nat.reduceBEq, Nat.reduceBNe, UInt8.reduceToNat, wr, dle, dlt, r1, r20, r21, r22, m1, hc, he, encE, List.getElem?_map, h4, h5, h6])
                  | (refine xw_regd ?_; simp (disch := first | decide | omega) only [go_sem, ↓reduceIte, Int.reduceLE, Int.reduceLT, Int.reduceToNat, Int.reduceNeg, Int.reduceAdd, Int.reduceSub, Int.reduceMul, Int.reduceEq, Int.reduceNe, Nat.reduceEqDiff, Nat.reduceAdd, Nat.reduceSub, Nat.reduceMul, Nat.reduceLT, Nat.reduceLeDiff, Nat.reduceBEq, Nat.reduceBNe, UInt8.reduceToNat, wr, dle, dlt, r1, r20, r21, r22, m1, hc, he, encE, List.getElem?_map, h4, h5, h6]; refine ⟨by kernel_rfl, ?_⟩)
                  | (refine xw_if ?_; simp (disch := first | decide | omega) only [go_sem, ↓reduceIte, Int.reduceLE, Int.reduceLT, Int.reduceToNat, Int.reduceNeg, Int.reduceAdd, Int.reduceSub, Int.reduceMul, Int.reduceEq, Int.reduceNe, Nat.reduceEqDiff, Nat.reduceAdd, Nat.reduceSub, Nat.reduceMul, Nat.reduceLT, Nat.reduceLeDiff, Nat.reduceBEq, Nat.reduceBNe, UInt8.reduceToNat, wr, dle, dlt, r1, r20, r21, r22, m1, hc, he, encE, List.getElem?_map, h4, h5, h6])
                  | (refine xw_skip ?_; simp only [sq, bl])
                  | (refine xw_exit ?_; simp only [sq, bl, if_true, if_false, Nat.reduceEqDiff])
                  | (refine xw_label ?_; simp only [sq, bl]))
                first | refine xw_ret (post_ret ?_) | refine post_normal ?_ | refine xw_ret (postE_ret ?_) | refine postE_normal ?_
                simp only [go_sem, ↓reduceIte, Int.reduceLE, Int.reduceLT, Int.reduceToNat, Int.reduceNeg, Int.reduceAdd, Int.reduceSub, Int.reduceMul, Int.reduceEq, Int.reduceNe, Nat.reduceEqDiff, Nat.reduceAdd, Nat.reduceSub, Nat.reduceMul, Nat.reduceLT, Nat.reduceLeDiff, Nat.reduceBEq, Nat.reduceBNe, UInt8.reduceToNat, Try.results46, Try.f46]
                simp only [decide_eq_true_eq] at h6
                simp [bad (fun h => by have := h.2.2; simp only at this; omega)]
            · repeat (first
                | refine xw_seq ?_
                | refine xw_block ?_
                | (refine xw_reg ?_; simp (disch := first | decide | omega) only [go_sem, ↓reduceIte, Int.reduceLE, Int.reduceLT, Int.reduceToNat, Int.reduceNeg, Int.reduceAdd, Int.reduceSub, Int.reduceMul, Int.reduceEq, Int.reduceNe, Nat.reduceEqDiff, Nat.reduceAdd, Nat.reduceSub, Nat.reduceMul, Nat.reduceLT, Nat.reduceLeDiff, Nat.reduceBEq, Nat.reduceBNe, UInt8.reduceToNat, wr, dle, dlt, r1, r20, r21, r22, m1, hc, he, encE, List.getElem?_map, h4, h5])
                | (refine xw_regd ?_; simp (disch := first | decide | omega) only [go_sem, ↓reduceIte, Int.reduceLE, Int.reduceLT, Int.reduceToNat, Int.reduceNeg, Int.reduceAdd, Int.reduceSub, Int.reduceMul, Int.reduceEq, Int.reduceNe, Nat.reduceEqDiff, Nat.reduceAdd, Nat.reduceSub, Nat.reduceMul, Nat.reduceLT, Nat.reduceLeDiff, Nat.reduceBEq, Nat.reduceBNe, UInt8.reduceToNat, wr, dle, dlt, r1, r20, r21, r22, m1, hc, he, encE, List.getElem?_map, h4, h5]; refine ⟨by kernel_rfl, ?_⟩)
                | (refine xw_if ?_; simp (disch := first | decide | omega) only [go_sem, ↓reduceIte, Int.reduceLE, Int.reduceLT, Int.reduceToNat, Int.reduceNeg, Int.reduceAdd, Int.reduceSub, Int.reduceMul, Int.reduceEq, Int.reduceNe, Nat.reduceEqDiff, Nat.reduceAdd, Nat.reduceSub, Nat.reduceMul, Nat.reduceLT, Nat.reduceLeDiff, Nat.reduceBEq, Nat.reduceBNe, UInt8.reduceToNat, wr, dle, dlt, r1, r20, r21, r22, m1, hc, he, encE, List.getElem?_map, h4, h5])
                | (refine xw_skip ?_; simp only [sq, bl])
                | (refine xw_exit ?_; simp only [sq, bl, if_true, if_false, Nat.reduceEqDiff])
                | (refine xw_label ?_; simp only [sq, bl]))
              first | refine xw_ret (post_ret ?_) | refine post_normal ?_ | refine xw_ret (postE_ret ?_) | refine postE_normal ?_
              simp only [go_sem, ↓reduceIte, Int.reduceLE, Int.reduceLT, Int.reduceToNat, Int.reduceNeg, Int.reduceAdd, Int.reduceSub, Int.reduceMul, Int.reduceEq, Int.reduceNe, Nat.reduceEqDiff, Nat.reduceAdd, Nat.reduceSub, Nat.reduceMul, Nat.reduceLT, Nat.reduceLeDiff, Nat.reduceBEq, Nat.reduceBNe, UInt8.reduceToNat, Try.results46, Try.f46]
              simp only [decide_eq_true_eq] at h5
              simp [bad (fun h => by have := h.2.1; simp only at this; omega)]
          · repeat (first
              | refine xw_seq ?_
              | refine xw_block ?_
              | (refine xw_reg ?_; simp (disch := first | decide | omega) only [go_sem, ↓reduceIte, Int.reduceLE, Int.reduceLT, Int.reduceToNat, Int.reduceNeg, Int.reduceAdd, Int.reduceSub, Int.reduceMul, Int.reduceEq, Int.reduceNe, Nat.reduceEqDiff, Nat.reduceAdd, Nat.reduceSub, Nat.reduceMul, Nat.reduceLT, Nat.reduceLeDiff, Nat.reduceBEq, Nat.reduceBNe, UInt8.reduceToNat, wr, dle, dlt, r1, r20, r21, r22, m1, hc, he, encE, List.getElem?_map, h4])
              | (refine xw_regd ?_; simp (disch := first | decide | omega) only [go_sem, ↓reduceIte, Int.reduceLE, Int.reduceLT, Int.reduceToNat, Int.reduceNeg, Int.reduceAdd, Int.reduceSub, Int.reduceMul, Int.reduceEq, Int.reduceNe, Nat.reduceEqDiff, Nat.reduceAdd, Nat.reduceSub, Nat.reduceMul, Nat.reduceLT, Nat.reduceLeDiff, Nat.reduceBEq, Nat.reduceBNe, UInt8.reduceToNat, wr, dle, dlt, r1, r20, r21, r22, m1, hc, he, encE, List.getElem?_map, h4]; refine ⟨by kernel_rfl, ?_⟩)
              | (refine xw_if ?_; simp (disch := first | decide | omega) only [go_sem, ↓reduceIte, Int.reduceLE, Int.reduceLT, Int.reduceToNat, Int.reduceNeg, Int.reduceAdd, Int.reduceSub, Int.reduceMul, Int.reduceEq, Int.reduceNe, Nat.reduceEqDiff, Nat.reduceAdd, Nat.reduceSub, Nat.reduceMul, Nat.reduceLT, Nat.reduceLeDiff, Nat.reduceBEq, Nat.reduceBNe, UInt8.reduceToNat, wr, dle, dlt, r1, r20, r21, r22, m1, hc, he, encE, List.getElem?_map, h4])
              | (refine xw_skip ?_; simp only [sq, bl])
              | (refine xw_exit ?_; simp only [sq, bl, if_true, if_false, Nat.reduceEqDiff])
              | (refine xw_label ?_; simp only [sq, bl]))
            first | refine xw_ret (post_ret ?_) | refine post_normal ?_ | refine xw_ret (postE_ret ?_) | refine postE_normal ?_
            simp only [go_sem, ↓reduceIte, Int.reduceLE, Int.reduceLT, Int.reduceToNat, Int.reduceNeg, Int.reduceAdd, Int.reduceSub, Int.reduceMul, Int.reduceEq, Int.reduceNe, Nat.reduceEqDiff, Nat.reduceAdd, Nat.reduceSub, Nat.reduceMul, Nat.reduceLT, Nat.reduceLeDiff, Nat.reduceBEq, Nat.reduceBNe, UInt8.reduceToNat, Try.results46, Try.f46]
            simp only [decide_eq_true_eq] at h4
            simp [bad (fun h => by have := h.1; simp only at this; omega)]
      · refine xw_call (fn := Try.f46) rfl Try.func46 rfl ⟨Nat.le_of_ble_eq_true rfl, rfl, rfl⟩ ?_
        repeat (first
          | refine xw_seq ?_
          | refine xw_block ?_
          | (refine xw_reg ?_; simp (disch := first | decide | omega) only [go_sem, ↓reduceIte, Int.reduceLE, Int.reduceLT, Int.reduceToNat, Int.reduceNeg, Int.reduceAdd, Int.reduceSub, Int.reduceMul, Int.reduceEq, Int.reduceNe, Nat.reduceEqDiff, Nat.reduceAdd, Nat.reduceSub, Nat.reduceMul, Nat.reduceLT, Nat.reduceLeDiff, Nat.reduceBEq, Nat.reduceBNe, UInt8.reduceToNat, wr, dle, dlt, h1, h2, h3])
          | (refine xw_regd ?_; simp (disch := first | decide | omega) only [go_sem, ↓reduceIte, Int.reduceLE, Int.reduceLT, Int.reduceToNat, Int.reduceNeg, Int.reduceAdd, Int.reduceSub, Int.reduceMul, Int.reduceEq, Int.reduceNe, Nat.reduceEqDiff, Nat.reduceAdd, Nat.reduceSub, Nat.reduceMul, Nat.reduceLT, Nat.reduceLeDiff, Nat.reduceBEq, Nat.reduceBNe, UInt8.reduceToNat, wr, dle, dlt, h1, h2, h3]; refine ⟨by kernel_rfl, ?_⟩)
          | (refine xw_if ?_; simp (disch := first | decide | omega) only [go_sem, ↓reduceIte, Int.reduceLE, Int.reduceLT, Int.reduceToNat, Int.reduceNeg, Int.reduceAdd, Int.reduceSub, Int.reduceMul, Int.reduceEq, Int.reduceNe, Nat.reduceEqDiff, Nat.reduceAdd, Nat.reduceSub, Nat.reduceMul, Nat.reduceLT, Nat.reduceLeDiff, Nat.reduceBEq, Nat.reduceBNe, UInt8.reduceToNat, wr, dle, dlt, h1, h2, h3])
          | (refine xw_skip ?_; simp only [sq, bl])
          | (refine xw_exit ?_; simp only [sq, bl, if_true, if_false, Nat.reduceEqDiff])
          | (refine xw_label ?_; simp only [sq, bl]))
        first | refine xw_ret (post_ret ?_) | refine post_normal ?_ | refine xw_ret (postE_ret ?_) | refine postE_normal ?_
        simp only [go_sem, ↓reduceIte, Int.reduceLE, Int.reduceLT, Int.reduceToNat, Int.reduceNeg, Int.reduceAdd, Int.reduceSub, Int.reduceMul, Int.reduceEq, Int.reduceNe, Nat.reduceEqDiff, Nat.reduceAdd, Nat.reduceSub, Nat.reduceMul, Nat.reduceLT, Nat.reduceLeDiff, Nat.reduceBEq, Nat.reduceBNe, UInt8.reduceToNat, Try.results46, Try.f46]
        simp only [decide_eq_true_eq] at h3
        have : ¬ VG n es := fun h => by have := h.2.2.1; omega
        simp [this]
    · refine xw_call (fn := Try.f46) rfl Try.func46 rfl ⟨Nat.le_of_ble_eq_true rfl, rfl, rfl⟩ ?_
      repeat (first
        | refine xw_seq ?_
        | refine xw_block ?_
        | (refine xw_reg ?_; simp (disch := first | decide | omega) only [go_sem, ↓reduceIte, Int.reduceLE, Int.reduceLT, Int.reduceToNat, Int.reduceNeg, Int.reduceAdd, Int.reduceSub, Int.reduceMul, Int.reduceEq, Int.reduceNe, Nat.reduceEqDiff, Nat.reduceAdd, Nat.reduceSub, Nat.reduceMul, Nat.reduceLT, Nat.reduceLeDiff, Nat.reduceBEq, Nat.reduceBNe, UInt8.reduceToNat, wr, dle, dlt, h1, h2])
        | (refine xw_regd ?_; simp (disch := first | decide | omega) only [go_sem, ↓reduceIte, Int.reduceLE, Int.reduceLT, Int.reduceToNat, Int.reduceNeg, Int.reduceAdd, Int.reduceSub, Int.reduceMul, Int.reduceEq, Int.reduceNe, Nat.reduceEqDiff, Nat.reduceAdd, Nat.reduceSub, Nat.reduceMul, Nat.reduceLT, Nat.reduceLeDiff, Nat.reduceBEq, Nat.reduceBNe, UInt8.reduceToNat, wr, dle, dlt, h1, h2]; refine ⟨by kernel_rfl, ?_⟩)
        | (refine xw_if ?_; simp (disch := first | decide | omega) only [go_sem, ↓reduceIte, Int.reduceLE, Int.reduceLT, Int.reduceToNat, Int.reduceNeg, Int.reduceAdd, Int.reduceSub, Int.reduceMul, Int.reduceEq, Int.reduceNe, Nat.reduceEqDiff, Nat.reduceAdd, Nat.reduceSub, Nat.reduceMul, Nat.reduceLT, Nat.reduceLeDiff, Nat.reduceBEq, Nat.reduceBNe, UInt8.reduceToNat, wr, dle, dlt, h1, h2])
        | (refine xw_skip ?_; simp only [sq, bl])
        | (refine xw_exit ?_; simp only [sq, bl, if_true, if_false, Nat.reduceEqDiff])
        | (refine xw_label ?_; simp only [sq, bl]))
      first | refine xw_ret (post_ret ?_) | refine post_normal ?_ | refine xw_ret (postE_ret ?_) | refine postE_normal ?_
      simp only [go_sem, ↓reduceIte, Int.reduceLE, Int.reduceLT, Int.reduceToNat, Int.reduceNeg, Int.reduceAdd, Int.reduceSub, Int.reduceMul, Int.reduceEq, Int.reduceNe, Nat.reduceEqDiff, Nat.reduceAdd, Nat.reduceSub, Nat.reduceMul, Nat.reduceLT, Nat.reduceLeDiff, Nat.reduceBEq, Nat.reduceBNe, UInt8.reduceToNat, Try.results46, Try.f46]
      simp only [decide_eq_true_eq] at h2
      have : ¬ VG n es := fun h => by have := h.2.1; omega
      simp [this]
  · refine xw_call (fn := Try.f46) rfl Try.func46 rfl ⟨Nat.le_of_ble_eq_true rfl, rfl, rfl⟩ ?_
    repeat (first
      | refine xw_seq ?_
      | refine xw_block ?_
      | (refine xw_reg ?_; simp (disch := first | decide | omega) only [go_sem, ↓reduceIte, Int.reduceLE, Int.reduceLT, Int.reduceToNat, Int.reduceNeg, Int.reduceAdd, Int.reduceSub, Int.reduceMul, Int.reduceEq, Int.reduceNe, Nat.reduceEqDiff, Nat.reduceAdd, Nat.reduceSub, Nat.reduceMul, Nat.reduceLT, Nat.reduceLeDiff, Nat.reduceBEq, Nat.reduceBNe, UInt8.reduceToNat, wr, dle, dlt, h1])
      | (refine xw_regd ?_; simp (disch := first | decide | omega) only [go_sem, ↓reduceIte, Int.reduceLE, Int.reduceLT, Int.reduceToNat, Int.reduceNeg, Int.reduceAdd, Int.reduceSub, Int.reduceMul, Int.reduceEq, Int.reduceNe, Nat.reduceEqDiff, Nat.reduceAdd, Nat.reduceSub, Nat.reduceMul, Nat.reduceLT, Nat.reduceLeDiff, Nat.reduceBEq, Nat.reduceBNe, UInt8.reduceToNat, wr, dle, dlt, h1]; refine ⟨by kernel_rfl, ?_⟩)
      | (refine xw_if ?_; simp (disch := first | decide | omega) only [go_sem, ↓reduceIte, Int.reduceLE, Int.reduceLT, Int.reduceToNat, Int.reduceNeg, Int.reduceAdd, Int.reduceSub, Int.reduceMul, Int.reduceEq, Int.reduceNe, Nat.reduceEqDiff, Nat.reduceAdd, Nat.reduceSub, Nat.reduceMul, Nat.reduceLT, Nat.reduceLeDiff, Nat.reduceBEq, Nat.reduceBNe, UInt8.reduceToNat, wr, dle, dlt, h1])
      | (refine xw_skip ?_; simp only [sq, bl])
      | (refine xw_exit ?_; simp only [sq, bl, if_true, if_false, Nat.reduceEqDiff])
      | (refine xw_label ?_; simp only [sq, bl]))
    first | refine xw_ret (post_ret ?_) | refine post_normal ?_ | refine xw_ret (postE_ret ?_) | refine postE_normal ?_
    simp only [go_sem, ↓reduceIte, Int.reduceLE, Int.reduceLT, Int.reduceToNat, Int.reduceNeg, Int.reduceAdd, Int.reduceSub, Int.reduceMul, Int.reduceEq, Int.reduceNe, Nat.reduceEqDiff, Nat.reduceAdd, Nat.reduceSub, Nat.reduceMul, Nat.reduceLT, Nat.reduceLeDiff, Nat.reduceBEq, Nat.reduceBNe, UInt8.reduceToNat, Try.results46, Try.f46]
    simp only [decide_eq_true_eq] at h1
    have : ¬ VG n es := fun h => by have := h.1; omega
    simp [this]
theorem c_hasNode (n : Int) (es : List (Int × Int)) (v : Int) (hl : es.length ≤ 1048576) : KP 43 [GL n es, I v] [] = some (B (decide (VG n es ∧ 0 ≤ v ∧ v < n)), [], []) := by
  have hv := c_GraphValid n es hl
  cases h1 : decide (VG n es)
  · refine xw_call (fn := Try.f43) rfl Try.func43 rfl ⟨Nat.le_of_ble_eq_true rfl, rfl, rfl⟩ ?_
    repeat (first
      | refine xw_seq ?_
      | refine xw_block ?_
      | (refine xw_reg ?_; simp (disch := first | decide | omega) only [go_sem, ↓reduceIte, Int.reduceLE, Int.reduceLT, Int.reduceToNat, Int.reduceNeg, Int.reduceAdd, Int.reduceSub, Int.reduceMul, Int.reduceEq, Int.reduceNe, Nat.reduceEqDiff, Nat.reduceAdd, Nat.reduceSub, Nat.reduceMul, Nat.reduceLT, Nat.reduceLeDiff, Nat.reduceBEq, Nat.reduceBNe, UInt8.reduceToNat, wr, dle, dlt, hv, h1])
      | (refine xw_regd ?_; simp (disch := first | decide | omega) only [go_sem, ↓reduceIte, Int.reduceLE, Int.reduceLT, Int.reduceToNat, Int.reduceNeg, Int.reduceAdd, Int.reduceSub, Int.reduceMul, Int.reduceEq, Int.reduceNe, Nat.reduceEqDiff, Nat.reduceAdd, Nat.reduceSub, Nat.reduceMul, Nat.reduceLT, Nat.reduceLeDiff, Nat.reduceBEq, Nat.reduceBNe, UInt8.reduceToNat, wr, dle, dlt, hv, h1]; refine ⟨by kernel_rfl, ?_⟩)
      | (refine xw_if ?_; simp (disch := first | decide | omega) only [go_sem, ↓reduceIte, Int.reduceLE, Int.reduceLT, Int.reduceToNat, Int.reduceNeg, Int.reduceAdd, Int.reduceSub, Int.reduceMul, Int.reduceEq, Int.reduceNe, Nat.reduceEqDiff, Nat.reduceAdd, Nat.reduceSub, Nat.reduceMul, Nat.reduceLT, Nat.reduceLeDiff, Nat.reduceBEq, Nat.reduceBNe, UInt8.reduceToNat, wr, dle, dlt, hv, h1])
      | (refine xw_skip ?_; simp only [sq, bl])
      | (refine xw_exit ?_; simp only [sq, bl, if_true, if_false, Nat.reduceEqDiff])
      | (refine xw_label ?_; simp only [sq, bl]))
    first | refine xw_ret (post_ret ?_) | refine post_normal ?_ | refine xw_ret (postE_ret ?_) | refine postE_normal ?_
    simp only [go_sem, ↓reduceIte, Int.reduceLE, Int.reduceLT, Int.reduceToNat, Int.reduceNeg, Int.reduceAdd, Int.reduceSub, Int.reduceMul, Int.reduceEq, Int.reduceNe, Nat.reduceEqDiff, Nat.reduceAdd, Nat.reduceSub, Nat.reduceMul, Nat.reduceLT, Nat.reduceLeDiff, Nat.reduceBEq, Nat.reduceBNe, UInt8.reduceToNat, Try.results43, Try.f43]
    simp only [decide_eq_false_iff_not] at h1
    simp [h1]
  · cases h2 : decide (0 ≤ v)
    · refine xw_call (fn := Try.f43) rfl Try.func43 rfl ⟨Nat.le_of_ble_eq_true rfl, rfl, rfl⟩ ?_
      repeat (first
        | refine xw_seq ?_
        | refine xw_block ?_
        | (refine xw_reg ?_; simp (disch := first | decide | omega) only [go_sem, ↓reduceIte, Int.reduceLE, Int.reduceLT, Int.reduceToNat, Int.reduceNeg, Int.reduceAdd, Int.reduceSub, Int.reduceMul, Int.reduceEq, Int.reduceNe, Nat.reduceEqDiff, Nat.reduceAdd, Nat.reduceSub, Nat.reduceMul, Nat.reduceLT, Nat.reduceLeDiff, Nat.reduceBEq, Nat.reduceBNe, UInt8.reduceToNat, wr, dle, dlt, hv, h1, h2])
        | (refine xw_regd ?_; simp (disch := first | decide | omega) only [go_sem, ↓reduceIte, Int.reduceLE, Int.reduceLT, Int.reduceToNat, Int.reduceNeg, Int.reduceAdd, Int.reduceSub, Int.reduceMul, Int.reduceEq, Int.reduceNe, Nat.reduceEqDiff, Nat.reduceAdd, Nat.reduceSub, Nat.reduceMul, Nat.reduceLT, Nat.reduceLeDiff, Nat.reduceBEq, Nat.reduceBNe, UInt8.reduceToNat, wr, dle, dlt, hv, h1, h2]; refine ⟨by kernel_rfl, ?_⟩)
        | (refine xw_if ?_; simp (disch := first | decide | omega) only [go_sem, ↓reduceIte, Int.reduceLE, Int.reduceLT, Int.reduceToNat, Int.reduceNeg, Int.reduceAdd, Int.reduceSub, Int.reduceMul, Int.reduceEq, Int.reduceNe, Nat.reduceEqDiff, Nat.reduceAdd, Nat.reduceSub, Nat.reduceMul, Nat.reduceLT, Nat.reduceLeDiff, Nat.reduceBEq, Nat.reduceBNe, UInt8.reduceToNat, wr, dle, dlt, hv, h1, h2])
        | (refine xw_skip ?_; simp only [sq, bl])
        | (refine xw_exit ?_; simp only [sq, bl, if_true, if_false, Nat.reduceEqDiff])
        | (refine xw_label ?_; simp only [sq, bl]))
      first | refine xw_ret (post_ret ?_) | refine post_normal ?_ | refine xw_ret (postE_ret ?_) | refine postE_normal ?_
      simp only [go_sem, ↓reduceIte, Int.reduceLE, Int.reduceLT, Int.reduceToNat, Int.reduceNeg, Int.reduceAdd, Int.reduceSub, Int.reduceMul, Int.reduceEq, Int.reduceNe, Nat.reduceEqDiff, Nat.reduceAdd, Nat.reduceSub, Nat.reduceMul, Nat.reduceLT, Nat.reduceLeDiff, Nat.reduceBEq, Nat.reduceBNe, UInt8.reduceToNat, Try.results43, Try.f43]
      simp only [decide_eq_true_eq, decide_eq_false_iff_not] at h1 h2
      simp [h1, h2]
    · refine xw_call (fn := Try.f43) rfl Try.func43 rfl ⟨Nat.le_of_ble_eq_true rfl, rfl, rfl⟩ ?_
      repeat (first
        | refine xw_seq ?_
        | refine xw_block ?_
        | (refine xw_reg ?_; simp (disch := first | decide | omega) only [go_sem, ↓reduceIte, Int.reduceLE, Int.reduceLT, Int.reduceToNat, Int.reduceNeg, Int.reduceAdd, Int.reduceSub, Int.reduceMul, Int.reduceEq, Int.reduceNe, Nat.reduceEqDiff, Nat.reduceAdd, Nat.reduceSub, Nat.reduceMul, Nat.reduceLT, Nat.reduceLeDiff, Nat.reduceBEq, Nat.reduceBNe, UInt8.reduceToNat, wr, dle, dlt, hv, h1, h2])
        | (refine xw_regd ?_; simp (disch := first | decide | omega) only [go_sem, ↓reduceIte, Int.reduceLE, Int.reduceLT, Int.reduceToNat, Int.reduceNeg, Int.reduceAdd, Int.reduceSub, Int.reduceMul, Int.reduceEq, Int.reduceNe, Nat.reduceEqDiff, Nat.reduceAdd, Nat.reduceSub, Nat.reduceMul, Nat.reduceLT, Nat.reduceLeDiff, Nat.reduceBEq, Nat.reduceBNe, UInt8.reduceToNat, wr, dle, dlt, hv, h1, h2]; refine ⟨by kernel_rfl, ?_⟩)
        | (refine xw_if ?_; simp (disch := first | decide | omega) only [go_sem, ↓reduceIte, Int.reduceLE, Int.reduceLT, Int.reduceToNat, Int.reduceNeg, Int.reduceAdd, Int.reduceSub, Int.reduceMul, Int.reduceEq, Int.reduceNe, Nat.reduceEqDiff, Nat.reduceAdd, Nat.reduceSub, Nat.reduceMul, Nat.reduceLT, Nat.reduceLeDiff, Nat.reduceBEq, Nat.reduceBNe, UInt8.reduceToNat, wr, dle, dlt, hv, h1, h2])
        | (refine xw_skip ?_; simp only [sq, bl])
        | (refine xw_exit ?_; simp only [sq, bl, if_true, if_false, Nat.reduceEqDiff])
        | (refine xw_label ?_; simp only [sq, bl]))
      first | refine xw_ret (post_ret ?_) | refine post_normal ?_ | refine xw_ret (postE_ret ?_) | refine postE_normal ?_
      simp only [go_sem, ↓reduceIte, Int.reduceLE, Int.reduceLT, Int.reduceToNat, Int.reduceNeg, Int.reduceAdd, Int.reduceSub, Int.reduceMul, Int.reduceEq, Int.reduceNe, Nat.reduceEqDiff, Nat.reduceAdd, Nat.reduceSub, Nat.reduceMul, Nat.reduceLT, Nat.reduceLeDiff, Nat.reduceBEq, Nat.reduceBNe, UInt8.reduceToNat, Try.results43, Try.f43]
      simp only [decide_eq_true_eq] at h1 h2
      simp [h1, h2]
/-- Edges that do not touch a node. -/
def alone (v : Int) (es : List (Int × Int)) : List (Int × Int) := es.filter fun e => decide (e.1 ≠ v ∧ e.2 ≠ v)
end Go.Proofs.Ytdlfdoicheakoaa.X
