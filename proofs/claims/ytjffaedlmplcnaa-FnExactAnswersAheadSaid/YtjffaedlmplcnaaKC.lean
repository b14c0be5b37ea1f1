/- What drawing answers. -/
import Derived.Test.YtjffaedlmplcnaaKB
/- What functions compute: valid graphs, cutting off a node as the reference does. -/
set_option linter.unusedSimpArgs false
set_option linter.unusedVariables false
set_option maxHeartbeats 2000000
namespace Go.Proofs.Ytjffaedlmplcnaa.X
open Go Go.Proofs
theorem c_GraphValid (n : Int) (es : List (Int × Int)) (hl : es.length ≤ 1048576) : KP 62 [GL n es] [] = some (B (decide (VG n es)), [], []) := by
  cases h1 : decide (n < 1)
  · cases h2 : decide (16 < n)
    · cases h3 : decide ((40 : Int) < es.length)
      · refine xw_call (fn := Try.f62) rfl Try.func62 rfl ⟨Nat.le_of_ble_eq_true rfl, rfl, rfl⟩ ?_
        repeat (first
          | refine xw_seq ?_
          | refine xw_block ?_
          | (refine xw_reg ?_; simp (disch := first | decide | omega) only [go_sem, ↓reduceIte, Int.reduceLE, Int.reduceLT, Int.reduceToNat, Int.reduceNeg, Int.reduceAdd, Int.reduceSub, Int.reduceMul, Int.reduceEq, Int.reduceNe, Nat.reduceEqDiff, Nat.reduceAdd, Nat.reduceSub, Nat.reduceMul, Nat.reduceLT, Nat.reduceLeDiff, Nat.reduceBEq, Nat.reduceBNe, UInt8.reduceToNat, wr, dle, dlt, h1, h2, h3])
          | (refine xw_regd ?_; simp (disch := first | decide | omega) only [go_sem, ↓reduceIte, Int.reduceLE, Int.reduceLT, Int.reduceToNat, Int.reduceNeg, Int.reduceAdd, Int.reduceSub, Int.reduceMul, Int.reduceEq, Int.reduceNe, Nat.reduceEqDiff, Nat.reduceAdd, Nat.reduceSub, Nat.reduceMul, Nat.reduceLT, Nat.reduceLeDiff, Nat.reduceBEq, Nat.reduceBNe, UInt8.reduceToNat, wr, dle, dlt, h1, h2, h3]; refine ⟨by kernel_rfl, ?_⟩)
          | (refine xw_if ?_; simp (disch := first | decide | omega) only [go_sem, ↓reduceIte, Int.reduceLE, Int.reduceLT, Int.reduceToNat, Int.reduceNeg, Int.reduceAdd, Int.reduceSub, Int.reduceMul, Int.reduceEq, Int.reduceNe, Nat.reduceEqDiff, Nat.reduceAdd, Nat.reduceSub, Nat.reduceMul, Nat.reduceLT, Nat.reduceLeDiff, Nat.reduceBEq, Nat.reduceBNe, UInt8.reduceToNat, wr, dle, dlt, h1, h2, h3])
          | (refine xw_skip ?_; simp only [sq, bl])
          | (refine xw_exit ?_; simp only [sq, bl, if_true, if_false, Nat.reduceEqDiff])
          | (refine xw_label ?_; simp only [sq, bl]))
        simp only [decide_eq_false_iff_not] at h1 h2 h3
        refine xw_loop_count (fun k s => ∃ i : Nat, k = es.length - i ∧ i ≤ es.length ∧ (∀ e ∈ es.take i, okE n e) ∧ Ord (es.take i) ∧ s.ρ 1 = .ptr 1 0 0 0 ∧ s.ρ 20 = LE es ∧ s.ρ 21 = I es.length ∧ s.ρ 22 = I i ∧ s.m 1 = some (.box 0 [I n, LE es])) ?_ es.length _ ⟨0, by simp, by simp, by simp, by simp [Ord], rfl, rfl, rfl, rfl, rfl⟩
        rintro k ⟨ρ, m⟩ ⟨i, rfl, hi, ha, ho, r1, r20, r21, r22, m1⟩
        simp only at r1 r20 r21 r22 m1
        cases hc : decide ((i : Int) < es.length)
        · repeat (first
            | refine xw_seq ?_
            | refine xw_block ?_
            | (refine xw_reg ?_; simp (disch := first | decide | omega) only [go_sem, ↓reduceIte, Int.reduceLE, Int.reduceLT, Int.reduceToNat, Int.reduceNeg, Int.reduceAdd, Int.reduceSub, Int.reduceMul, Int.reduceEq, Int.reduceNe, Nat.reduceEqDiff, Nat.reduceAdd, Nat.reduceSub, Nat.reduceMul, Nat.reduceLT, Nat.reduceLeDiff, Nat.reduceBEq, Nat.reduceBNe, UInt8.reduceToNat, wr, dle, dlt, r1, r20, r21, r22, m1, hc])
            | (refine xw_regd ?_; simp (disch := first | decide | omega) only [go_sem, ↓reduceIte, Int.reduceLE, Int.reduceLT, Int.reduceToNat, Int.reduceNeg, Int.reduceAdd, Int.reduceSub, Int.reduceMul, Int.reduceEq, Int.reduceNe, Nat.reduceEqDiff, Nat.reduceAdd, Nat.reduceSub, Nat.reduceMul, Nat.reduceLT, Nat.reduceLeDiff, Nat.reduceBEq, Nat.reduceBNe, UInt8.reduceToNat, wr, dle, dlt, r1, r20, r21, r22, m1, hc]; refine ⟨by kernel_rfl, ?_⟩)
            | (refine xw_if ?_; simp (disch := first | decide | omega) only [go_sem, ↓reduceIte, Int.reduceLE, Int.reduceLT, Int.reduceToNat, Int.reduceNeg, Int.reduceAdd, Int.reduceSub, Int.reduceMul, Int.reduceEq, Int.reduceNe, Nat.reduceEqDiff, Nat.reduceAdd, Nat.reduceSub, Nat.reduceMul, Nat.reduceLT, Nat.reduceLeDiff, Nat.reduceBEq, Nat.reduceBNe, UInt8.reduceToNat, wr, dle, dlt, r1, r20, r21, r22, m1, hc])
            | (refine xw_skip ?_; simp only [sq, bl])
            | (refine xw_exit ?_; simp only [sq, bl, if_true, if_false, Nat.reduceEqDiff])
            | (refine xw_label ?_; simp only [sq, bl]))
          first | refine xw_ret (post_ret ?_) | refine post_normal ?_ | refine xw_ret (postE_ret ?_) | refine postE_normal ?_
          simp only [go_sem, ↓reduceIte, Int.reduceLE, Int.reduceLT, Int.reduceToNat, Int.reduceNeg, Int.reduceAdd, Int.reduceSub, Int.reduceMul, Int.reduceEq, Int.reduceNe, Nat.reduceEqDiff, Nat.reduceAdd, Nat.reduceSub, Nat.reduceMul, Nat.reduceLT, Nat.reduceLeDiff, Nat.reduceBEq, Nat.reduceBNe, UInt8.reduceToNat, Try.results62, Try.f62]
          simp only [decide_eq_false_iff_not] at hc
          rw [List.take_of_length_le (by omega)] at ha ho
          have : VG n es := ⟨by omega, by omega, by omega, ha, ho⟩
          simp [this]
        · simp only [decide_eq_true_eq] at hc
          obtain ⟨⟨u, v⟩, he⟩ : ∃ e, es[i]? = some e := ⟨es[i]'(by omega), by simp⟩
          have bad : ¬ okE n (u, v) → ¬ VG n es := fun hb h => hb (h.2.2.2.1 _ (List.mem_of_getElem? he))
          cases h4 : decide (u < 0)
          · cases h5 : decide (v ≤ u)
            · cases h6 : decide (n ≤ v)
              · have hok : okE n (u, v) := by simp only [decide_eq_false_iff_not] at h4 h5 h6; exact ⟨by simp only; omega, by simp only; omega, by simp only; omega⟩
                have ha' : ∀ e ∈ es.take (i + 1), okE n e := fun e h => by
                  rw [take_at he] at h
                  rcases List.mem_append.1 h with h | h
                  · exact ha e h
                  · simp at h; subst h; exact hok
                cases h7 : decide ((0 : Int) < i)
                · repeat (first
                    | refine xw_seq ?_
                    | refine xw_block ?_
                    | (refine xw_reg ?_; simp (disch := first | decide | omega) only [go_sem, ↓reduceIte, Int.reduceLE, Int.reduceLT, Int.reduceToNat, Int.reduceNeg, Int.reduceAdd, Int.reduceSub, Int.reduceMul, Int.reduceEq, Int.reduceNe, Nat.reduceEqDiff, Nat.reduceAdd, Nat.reduceSub, Nat.reduceMul, Nat.reduceLT, Nat.reduceLeDiff, Nat.reduceBEq, Nat.reduceBNe, UInt8.reduceToNat, wr, dle, dlt, r1, r20, r21, r22, m1, hc, he, encE, List.getElem?_map, h4, h5, h6, h7])
                    | (refine xw_regd ?_; simp (disch := first | decide | omega) only [go_sem, ↓reduceIte, Int.reduceLE, Int.reduceLT, Int.reduceToNat, Int.reduceNeg, Int.reduceAdd, Int.reduceSub, Int.reduceMul, Int.reduceEq, Int.reduceNe, Nat.reduceEqDiff, Nat.reduceAdd, Nat.reduceSub, Nat.reduceMul, Nat.reduceLT, Nat.reduceLeDiff, Nat.reduceBEq, Nat.reduceBNe, UInt8.reduceToNat, wr, dle, dlt, r1, r20, r21, r22, m1, hc, he, encE, List.getElem?_map, h4, h5, h6, h7]; refine ⟨by kernel_rfl, ?_⟩)
                    | (refine xw_if ?_; simp (disch := first | decide | omega) only [go_sem, ↓reduceIte, Int.reduceLE, Int.reduceLT, Int.reduceToNat, Int.reduceNeg, Int.reduceAdd, Int.reduceSub, Int.reduceMul, Int.reduceEq, Int.reduceNe, Nat.reduceEqDiff, Nat.reduceAdd, Nat.reduceSub, Nat.reduceMul, Nat.reduceLT, Nat.reduceLeDiff, Nat.reduceBEq, Nat.reduceBNe, UInt8.reduceToNat, wr, dle, dlt, r1, r20, r21, r22, m1, hc, he, encE, List.getElem?_map, h4, h5, h6, h7])
                    | (refine xw_skip ?_; simp only [sq, bl])
                    | (refine xw_exit ?_; simp only [sq, bl, if_true, if_false, Nat.reduceEqDiff])
                    | (refine xw_label ?_; simp only [sq, bl]))
                  simp only [decide_eq_false_iff_not] at h7
                  have hi0 : i = 0 := by omega
                  subst hi0
                  refine ⟨es.length - 1, by omega, 1, rfl, by omega, ha', ?_, rfl⟩
                  rw [take_at he]; simp [Ord]
                · obtain ⟨j, rfl⟩ : ∃ j, i = j + 1 := ⟨i - 1, by simp at h7; omega⟩
                  obtain ⟨⟨x, y⟩, hx⟩ : ∃ e, es[j]? = some e := ⟨es[j]'(by omega), by simp⟩
                  have hcmp := c_compareEdges x y u v
                  have hsg : decide (0 ≤ cmpE x y u v) = !lessE (x, y) (u, v) := by
                    have := @cmpE_less x y u v
                    cases h : lessE (x, y) (u, v) <;> simp_all
                  have hj1 : ((j + 1 : Nat) : Int) - 1 = j := by omega
                  cases h8 : lessE (x, y) (u, v)
                  · repeat (first
                      | refine xw_seq ?_
                      | refine xw_block ?_
                      | (refine xw_reg ?_; simp (disch := first | decide | omega) only [go_sem, ↓reduceIte, Int.reduceLE, Int.reduceLT, Int.reduceToNat, Int.reduceNeg, Int.reduceAdd, Int.reduceSub, Int.reduceMul, Int.reduceEq, Int.reduceNe, Nat.reduceEqDiff, Nat.reduceAdd, Nat.reduceSub, Nat.reduceMul, Nat.reduceLT, Nat.reduceLeDiff, Nat.reduceBEq, Nat.reduceBNe, UInt8.reduceToNat, wr, dle, dlt, r1, r20, r21, r22, m1, hc, he, hx, hj1, encE, List.getElem?_map, h4, h5, h6, h7, hcmp, hsg, h8])
                      | (refine xw_regd ?_; simp (disch := first | decide | omega) only [go_sem, ↓reduceIte, Int.reduceLE, Int.reduceLT, Int.reduceToNat, Int.reduceNeg, Int.reduceAdd, Int.reduceSub, Int.reduceMul, Int.reduceEq, Int.reduceNe, Nat.reduceEqDiff, Nat.reduceAdd, Nat.reduceSub, Nat.reduceMul, Nat.reduceLT, Nat.reduceLeDiff, Nat.reduceBEq, Nat.reduceBNe, UInt8.reduceToNat, wr, dle, dlt, r1, r20, r21, r22, m1, hc, he, hx, hj1, encE, List.getElem?_map, h4, h5, h6, h7, hcmp, hsg, h8]; refine ⟨by kernel_rfl, ?_⟩)
                      | (refine xw_if ?_; simp (disch := first | decide | omega) only [go_sem, ↓reduceIte, Int.reduceLE, Int.reduceLT, Int.reduceToNat, Int.reduceNeg, Int.reduceAdd, Int.reduceSub, Int.reduceMul, Int.reduceEq, Int.reduceNe, Nat.reduceEqDiff, Nat.reduceAdd, Nat.reduceSub, Nat.reduceMul, Nat.reduceLT, Nat.reduceLeDiff, Nat.reduceBEq, Nat.reduceBNe, UInt8.reduceToNat, wr, dle, dlt, r1, r20, r21, r22, m1, hc, he, hx, hj1, encE, List.getElem?_map, h4, h5, h6, h7, hcmp, hsg, h8])
                      | (refine xw_skip ?_; simp only [sq, bl])
                      | (refine xw_exit ?_; simp only [sq, bl, if_true, if_false, Nat.reduceEqDiff])
                      | (refine xw_label ?_; simp only [sq, bl]))
                    first | refine xw_ret (post_ret ?_) | refine post_normal ?_ | refine xw_ret (postE_ret ?_) | refine postE_normal ?_
                    simp only [go_sem, ↓reduceIte, Int.reduceLE, Int.reduceLT, Int.reduceToNat, Int.reduceNeg, Int.reduceAdd, Int.reduceSub, Int.reduceMul, Int.reduceEq, Int.reduceNe, Nat.reduceEqDiff, Nat.reduceAdd, Nat.reduceSub, Nat.reduceMul, Nat.reduceLT, Nat.reduceLeDiff, Nat.reduceBEq, Nat.reduceBNe, UInt8.reduceToNat, Try.results62, Try.f62]
                    have : ¬ VG n es := fun h => by
                      have := (Ord.take_at hx he ho).1 (h.take _).2
                      rw [h8] at this; cases this
                    simp [this]
                  · repeat (first
                      | refine xw_seq ?_
                      | refine xw_block ?_
                      | (refine xw_reg ?_; simp (disch := first | decide | omega) only [go_sem, ↓reduceIte, Int.reduceLE, Int.reduceLT, Int.reduceToNat, Int.reduceNeg, Int.reduceAdd, Int.reduceSub, Int.reduceMul, Int.reduceEq, Int.reduceNe, Nat.reduceEqDiff, Nat.reduceAdd, Nat.reduceSub, Nat.reduceMul, Nat.reduceLT, Nat.reduceLeDiff, Nat.reduceBEq, Nat.reduceBNe, UInt8.reduceToNat, wr, dle, dlt, r1, r20, r21, r22, m1, hc, he, hx, hj1, encE, List.getElem?_map, h4, h5, h6, h7, hcmp, hsg, h8])
                      | (refine xw_regd ?_; simp (disch := first | decide | omega) only [go_sem, ↓reduceIte, Int.reduceLE, Int.reduceLT, Int.reduceToNat, Int.reduceNeg, Int.reduceAdd, Int.reduceSub, Int.reduceMul, Int.reduceEq, Int.reduceNe, Nat.reduceEqDiff, Nat.reduceAdd, Nat.reduceSub, Nat.reduceMul, Nat.reduceLT, Nat.reduceLeDiff, Nat.reduceBEq, Nat.reduceBNe, UInt8.reduceToNat, wr, dle, dlt, r1, r20, r21, r22, m1, hc, he, hx, hj1, encE, List.getElem?_map, h4, h5, h6, h7, hcmp, hsg, h8]; refine ⟨by kernel_rfl, ?_⟩)
                      | (refine xw_if ?_; simp (disch := first | decide | omega) only [go_sem, ↓reduceIte, Int.reduceLE, Int.reduceLT, Int.reduceToNat, Int.reduceNeg, Int.reduceAdd, Int.reduceSub, Int.reduceMul, Int.reduceEq, Int.reduceNe, Nat.reduceEqDiff, Nat.reduceAdd, Nat.reduceSub, Nat.reduceMul, Nat.reduceLT, Nat.reduceLeDiff, Nat.reduceBEq, Nat.reduceBNe, UInt8.reduceToNat, wr, dle, dlt, r1, r20, r21, r22, m1, hc, he, hx, hj1, encE, List.getElem?_map, h4, h5, h6, h7, hcmp, hsg, h8])
                      | (refine xw_skip ?_; simp only [sq, bl])
                      | (refine xw_exit ?_; simp only [sq, bl, if_true, if_false, Nat.reduceEqDiff])
                      | (refine xw_label ?_; simp only [sq, bl]))
                    exact ⟨es.length - (j + 1 + 1), by omega, j + 1 + 1, rfl, by omega, ha', (Ord.take_at hx he ho).2 h8, rfl⟩
              · repeat (first
                  | refine xw_seq ?_
                  | refine xw_block ?_
                  | (refine xw_reg ?_; simp (disch := first | decide | omega) only [go_sem, ↓reduceIte, Int.reduceLE, Int.reduceLT, Int.reduceToNat, Int.reduceNeg, Int.reduceAdd, Int.reduceSub, Int.reduceMul, Int.reduceEq, Int.reduceNe, Nat.reduceEqDiff, Nat.reduceAdd, Nat.reduceSub, Nat.reduceMul, Nat.reduceLT, Nat.reduceLeDiff, Nat.reduceBEq, Nat.reduceBNe, UInt8.reduceToNat, wr, dle, dlt, r1, r20, r21, r22, m1, hc, he, encE, List.getElem?_map, h4, h5, h6])
                  | (refine xw_regd ?_; simp (disch := first | decide | omega) only [go_sem, ↓reduceIte, Int.reduceLE, Int.reduceLT, Int.reduceToNat, Int.reduceNeg, Int.reduceAdd, Int.reduceSub, Int.reduceMul, Int.reduceEq, Int.reduceNe, Nat.reduceEqDiff, Nat.reduceAdd, Nat.reduceSub, Nat.reduceMul, Nat.reduceLT, Nat.reduceLeDiff, Nat.reduceBEq, Nat.reduceBNe, UInt8.reduceToNat, wr, dle, dlt, r1, r20, r21, r22, m1, hc, he, encE, List.getElem?_map, h4, h5, h6]; refine ⟨by kernel_rfl, ?_⟩)
                  | (refine xw_if ?_; simp (disch := first | decide | omega) only [go_sem, ↓reduceIte, Int.reduceLE, Int.reduceLT, Int.reduceToNat, Int.reduceNeg, Int.reduceAdd, Int.reduceSub, Int.reduceMul, Int.reduceEq, Int.reduceNe, Nat.reduceEqDiff, Nat.reduceAdd, Nat.reduceSub, Nat.reduceMul, Nat.reduceLT, Nat.reduceLeDiff, Nat.reduceBEq, Nat.reduceBNe, UInt8.reduceToNat, wr, dle, dlt, r1, r20, r21, r22, m1, hc, he, encE, List.getElem?_map, h4, h5, h6])
                  | (refine xw_skip ?_; simp only [sq, bl])
                  | (refine xw_exit ?_; simp only [sq, bl, if_true, if_false, Nat.reduceEqDiff])
                  | (refine xw_label ?_; simp only [sq, bl]))
                first | refine xw_ret (post_ret ?_) | refine post_normal ?_ | refine xw_ret (postE_ret ?_) | refine postE_normal ?_
                simp only [go_sem, ↓reduceIte, Int.reduceLE, Int.reduceLT, Int.reduceToNat, Int.reduceNeg, Int.reduceAdd, Int.reduceSub, Int.reduceMul, Int.reduceEq, Int.reduceNe, Nat.reduceEqDiff, Nat.reduceAdd, Nat.reduceSub, Nat.reduceMul, Nat.reduceLT, Nat.reduceLeDiff, Nat.reduceBEq, Nat.reduceBNe, UInt8.reduceToNat, Try.results62, Try.f62]
                simp only [decide_eq_true_eq] at h6
                simp [bad (fun h => by have := h.2.2; simp only at this; omega)]
            · repeat (first
                | refine xw_seq ?_
                | refine xw_block ?_
                | (refine xw_reg ?_; simp (disch := first | decide | omega) only [go_sem, ↓reduceIte, Int.reduceLE, Int.reduceLT, Int.reduceToNat, Int.reduceNeg, Int.reduceAdd, Int.reduceSub, Int.reduceMul, Int.reduceEq, Int.reduceNe, Nat.reduceEqDiff, Nat.reduceAdd, Nat.reduceSub, Nat.reduceMul, Nat.reduceLT, Nat.reduceLeDiff, Nat.reduceBEq, Nat.reduceBNe, UInt8.reduceToNat, wr, dle, dlt, r1, r20, r21, r22, m1, hc, he, encE, List.getElem?_map, h4, h5])
                | (refine xw_regd ?_; simp (disch := first | decide | omega) only [go_sem, ↓reduceIte, Int.reduceLE, Int.reduceLT, Int.reduceToNat, Int.reduceNeg, Int.reduceAdd, Int.reduceSub, Int.reduceMul, Int.reduceEq, Int.reduceNe, Nat.reduceEqDiff, Nat.reduceAdd, Nat.reduceSub, Nat.reduceMul, Nat.reduceLT, Nat.reduceLeDiff, Nat.reduceBEq, Nat.reduceBNe, UInt8.reduceToNat, wr, dle, dlt, r1, r20, r21, r22, m1, hc, he, encE, List.getElem?_map, h4, h5]; refine ⟨by kernel_rfl, ?_⟩)
                | (refine xw_if ?_; simp (disch := first | decide | omega) only [go_sem, ↓reduceIte, Int.reduceLE, Int.reduceLT, Int.reduceToNat, Int.reduceNeg, Int.reduceAdd, Int.reduceSub, Int.reduceMul, Int.reduceEq, Int.reduceNe, Nat.reduceEqDiff, Nat.reduceAdd, Nat.reduceSub, Nat.reduceMul, Nat.reduceLT, Nat.reduceLeDiff, Nat.reduceBEq, Nat.reduceBNe, UInt8.reduceToNat, wr, dle, dlt, r1, r20, r21, r22, m1, hc, he, encE, List.getElem?_map, h4, h5])
                | (refine xw_skip ?_; simp only [sq, bl])
                | (refine xw_exit ?_; simp only [sq, bl, if_true, if_false, Nat.reduceEqDiff])
                | (refine xw_label ?_; simp only [sq, bl]))
              first | refine xw_ret (post_ret ?_) | refine post_normal ?_ | refine xw_ret (postE_ret ?_) | refine postE_normal ?_
              simp only [go_sem, ↓reduceIte, Int.reduceLE, Int.reduceLT, Int.reduceToNat, Int.reduceNeg, Int.reduceAdd, Int.reduceSub, Int.reduceMul, Int.reduceEq, Int.reduceNe, Nat.reduceEqDiff, Nat.reduceAdd, Nat.reduceSub, Nat.reduceMul, Nat.reduceLT, Nat.reduceLeDiff, Nat.reduceBEq, Nat.reduceBNe, UInt8.reduceToNat, Try.results62, Try.f62]
              simp only [decide_eq_true_eq] at h5
              simp [bad (fun h => by have := h.2.1; simp only at this; omega)]
          · repeat (first
              | refine xw_seq ?_
              | refine xw_block ?_
              | (refine xw_reg ?_; simp (disch := first | decide | omega) only [go_sem, ↓reduceIte, Int.reduceLE, Int.reduceLT, Int.reduceToNat, Int.reduceNeg, Int.reduceAdd, Int.reduceSub, Int.reduceMul, Int.reduceEq, Int.reduceNe, Nat.reduceEqDiff, Nat.reduceAdd, Nat.reduceSub, Nat.reduceMul, Nat.reduceLT, Nat.reduceLeDiff, Nat.reduceBEq, Nat.reduceBNe, UInt8.reduceToNat, wr, dle, dlt, r1, r20, r21, r22, m1, hc, he, encE, List.getElem?_map, h4])
              | (refine xw_regd ?_; simp (disch := first | decide | omega) only [go_sem, ↓reduceIte, Int.reduceLE, Int.reduceLT, Int.reduceToNat, Int.reduceNeg, Int.reduceAdd, Int.reduceSub, Int.reduceMul, Int.reduceEq, Int.reduceNe, Nat.reduceEqDiff, Nat.reduceAdd, Nat.reduceSub, Nat.reduceMul, Nat.reduceLT, Nat.reduceLeDiff, Nat.reduceBEq, Nat.reduceBNe, UInt8.reduceToNat, wr, dle, dlt, r1, r20, r21, r22, m1, hc, he, encE, List.getElem?_map, h4]; refine ⟨by kernel_rfl, ?_⟩)
              | (refine xw_if ?_; simp (disch := first | decide | omega) only [go_sem, ↓reduceIte, Int.reduceLE, Int.reduceLT, Int.reduceToNat, Int.reduceNeg, Int.reduceAdd, Int.reduceSub, Int.reduceMul, Int.reduceEq, Int.reduceNe, Nat.reduceEqDiff, Nat.reduceAdd, Nat.reduceSub, Nat.reduceMul, Nat.reduceLT, Nat.reduceLeDiff, Nat.reduceBEq, Nat.reduceBNe, UInt8.reduceToNat, wr, dle, dlt, r1, r20, r21, r22, m1, hc, he, encE, List.getElem?_map, h4])
              | (refine xw_skip ?_; simp only [sq, bl])
              | (refine xw_exit ?_; simp only [sq, bl, if_true, if_false, Nat.reduceEqDiff])
              | (refine xw_label ?_; simp only [sq, bl]))
            first | refine xw_ret (post_ret ?_) | refine post_normal ?_ | refine xw_ret (postE_ret ?_) | refine postE_normal ?_
            simp only [go_sem, ↓reduceIte, Int.reduceLE, Int.reduceLT, Int.reduceToNat, Int.reduceNeg, Int.reduceAdd, Int.reduceSub, Int.reduceMul, Int.reduceEq, Int.reduceNe, Nat.reduceEqDiff, Nat.reduceAdd, Nat.reduceSub, Nat.reduceMul, Nat.reduceLT, Nat.reduceLeDiff, Nat.reduceBEq, Nat.reduceBNe, UInt8.reduceToNat, Try.results62, Try.f62]
            simp only [decide_eq_true_eq] at h4
            simp [bad (fun h => by have := h.1; simp only at this; omega)]
      · refine xw_call (fn := Try.f62) rfl Try.func62 rfl ⟨Nat.le_of_ble_eq_true rfl, rfl, rfl⟩ ?_
        repeat (first
          | refine xw_seq ?_
          | refine xw_block ?_
          | (refine xw_reg ?_; simp (disch := first | decide | omega) only [go_sem, ↓reduceIte, Int.reduceLE, Int.reduceLT, Int.reduceToNat, Int.reduceNeg, Int.reduceAdd, Int.reduceSub, Int.reduceMul, Int.reduceEq, Int.reduceNe, Nat.reduceEqDiff, Nat.reduceAdd, Nat.reduceSub, Nat.reduceMul, Nat.reduceLT, Nat.reduceLeDiff, Nat.reduceBEq, Nat.reduceBNe, UInt8.reduceToNat, wr, dle, dlt, h1, h2, h3])
          | (refine xw_regd ?_; simp (disch := first | decide | omega) only [go_sem, ↓reduceIte, Int.reduceLE, Int.reduceLT, Int.reduceToNat, Int.reduceNeg, Int.reduceAdd, Int.reduceSub, Int.reduceMul, Int.reduceEq, Int.reduceNe, Nat.reduceEqDiff, Nat.reduceAdd, Nat.reduceSub, Nat.reduceMul, Nat.reduceLT, Nat.reduceLeDiff, Nat.reduceBEq, Nat.reduceBNe, UInt8.reduceToNat, wr, dle, dlt, h1, h2, h3]; refine ⟨by kernel_rfl, ?_⟩)
          | (refine xw_if ?_; simp (disch := first | decide | omega) only [go_sem, ↓reduceIte, Int.reduceLE, Int.reduceLT, Int.reduceToNat, Int.reduceNeg, Int.reduceAdd, Int.reduceSub, Int.reduceMul, Int.reduceEq, Int.reduceNe, Nat.reduceEqDiff, Nat.reduceAdd, Nat.reduceSub, Nat.reduceMul, Nat.reduceLT, Nat.reduceLeDiff, Nat.reduceBEq, Nat.reduceBNe, UInt8.reduceToNat, wr, dle, dlt, h1, h2, h3])
          | (refine xw_skip ?_; simp only [sq, bl])
          | (refine xw_exit ?_; simp only [sq, bl, if_true, if_false, Nat.reduceEqDiff])
          | (refine xw_label ?_; simp only [sq, bl]))
        first | refine xw_ret (post_ret ?_) | refine post_normal ?_ | refine xw_ret (postE_ret ?_) | refine postE_normal ?_
        simp only [go_sem, ↓reduceIte, Int.reduceLE, Int.reduceLT, Int.reduceToNat, Int.reduceNeg, Int.reduceAdd, Int.reduceSub, Int.reduceMul, Int.reduceEq, Int.reduceNe, Nat.reduceEqDiff, Nat.reduceAdd, Nat.reduceSub, Nat.reduceMul, Nat.reduceLT, Nat.reduceLeDiff, Nat.reduceBEq, Nat.reduceBNe, UInt8.reduceToNat, Try.results62, Try.f62]
        simp only [decide_eq_true_eq] at h3
        have : ¬ VG n es := fun h => by have := h.2.2.1; omega
        simp [this]
    · refine xw_call (fn := Try.f62) rfl Try.func62 rfl ⟨Nat.le_of_ble_eq_true rfl, rfl, rfl⟩ ?_
      repeat (first
        | refine xw_seq ?_
        | refine xw_block ?_
        | (refine xw_reg ?_; simp (disch := first | decide | omega) only [go_sem, ↓reduceIte, Int.reduceLE, Int.reduceLT, Int.reduceToNat, Int.reduceNeg, Int.reduceAdd, Int.reduceSub, Int.reduceMul, Int.reduceEq, Int.reduceNe, Nat.reduceEqDiff, Nat.reduceAdd, Nat.reduceSub, Nat.reduceMul, Nat.reduceLT, Nat.reduceLeDiff, Nat.reduceBEq, Nat.reduceBNe, UInt8.reduceToNat, wr, dle, dlt, h1, h2])
        | (refine xw_regd ?_; simp (disch := first | decide | omega) only [go_sem, ↓reduceIte, Int.reduceLE, Int.reduceLT, Int.reduceToNat, Int.reduceNeg, Int.reduceAdd, Int.reduceSub, Int.reduceMul, Int.reduceEq, Int.reduceNe, Nat.reduceEqDiff, Nat.reduceAdd, Nat.reduceSub, Nat.reduceMul, Nat.reduceLT, Nat.reduceLeDiff, Nat.reduceBEq, Nat.reduceBNe, UInt8.reduceToNat, wr, dle, dlt, h1, h2]; refine ⟨by kernel_rfl, ?_⟩)
        | (refine xw_if ?_; simp (disch := first | decide | omega) only [go_sem, ↓reduceIte, Int.reduceLE, Int.reduceLT, Int.reduceToNat, Int.reduceNeg, Int.reduceAdd, Int.reduceSub, Int.reduceMul, Int.reduceEq, Int.reduceNe, Nat.reduceEqDiff, Nat.reduceAdd, Nat.reduceSub, Nat.reduceMul, Nat.reduceLT, Nat.reduceLeDiff, Nat.reduceBEq, Nat.reduceBNe, UInt8.reduceToNat, wr, dle, dlt, h1, h2])
        | (refine xw_skip ?_; simp only [sq, bl])
        | (refine xw_exit ?_; simp only [sq, bl, if_true, if_false, Nat.reduceEqDiff])
        | (refine xw_label ?_; simp only [sq, bl]))
      first | refine xw_ret (post_ret ?_) | refine post_normal ?_ | refine xw_ret (postE_ret ?_) | refine postE_normal ?_
      simp only [go_sem, ↓reduceIte, Int.reduceLE, Int.reduceLT, Int.reduceToNat, Int.reduceNeg, Int.reduceAdd, Int.reduceSub, Int.reduceMul, Int.reduceEq, Int.reduceNe, Nat.reduceEqDiff, Nat.reduceAdd, Nat.reduceSub, Nat.reduceMul, Nat.reduceLT, Nat.reduceLeDiff, Nat.reduceBEq, Nat.reduceBNe, UInt8.reduceToNat, Try.results62, Try.f62]
      simp only [decide_eq_true_eq] at h2
      have : ¬ VG n es := fun h => by have := h.2.1; omega
      simp [this]
  · refine xw_call (fn := Try.f62) rfl Try.func62 rfl ⟨Nat.le_of_ble_eq_true rfl, rfl, rfl⟩ ?_
    repeat (first
      | refine xw_seq ?_
      | refine xw_block ?_
      | (refine xw_reg ?_; simp (disch := first | decide | omega) only [go_sem, ↓reduceIte, Int.reduceLE, Int.reduceLT, Int.reduceToNat, Int.reduceNeg, Int.reduceAdd, Int.reduceSub, Int.reduceMul, Int.reduceEq, Int.reduceNe, Nat.reduceEqDiff, Nat.reduceAdd, Nat.reduceSub, Nat.reduceMul, Nat.reduceLT, Nat.reduceLeDiff, Nat.reduceBEq, Nat.reduceBNe, UInt8.reduceToNat, wr, dle, dlt, h1])
      | (refine xw_regd ?_; simp (disch := first | decide | omega) only [go_sem, ↓reduceIte, Int.reduceLE, Int.reduceLT, Int.reduceToNat, Int.reduceNeg, Int.reduceAdd, Int.reduceSub, Int.reduceMul, Int.reduceEq, Int.reduceNe, Nat.reduceEqDiff, Nat.reduceAdd, Nat.reduceSub, Nat.reduceMul, Nat.reduceLT, Nat.reduceLeDiff, Nat.reduceBEq, Nat.reduceBNe, UInt8.reduceToNat, wr, dle, dlt, h1]; refine ⟨by kernel_rfl, ?_⟩)
      | (refine xw_if ?_; simp (disch := first | decide | omega) only [go_sem, ↓reduceIte, Int.reduceLE, Int.reduceLT, Int.reduceToNat, Int.reduceNeg, Int.reduceAdd, Int.reduceSub, Int.reduceMul, Int.reduceEq, Int.reduceNe, Nat.reduceEqDiff, Nat.reduceAdd, Nat.reduceSub, Nat.reduceMul, Nat.reduceLT, Nat.reduceLeDiff, Nat.reduceBEq, Nat.reduceBNe, UInt8.reduceToNat, wr, dle, dlt, h1])
      | (refine xw_skip ?_; simp only [sq, bl])
      | (refine xw_exit ?_; simp only [sq, bl, if_true, if_false, Nat.reduceEqDiff])
      | (refine xw_label ?_; simp only [sq, bl]))
    first | refine xw_ret (post_ret ?_) | refine post_normal ?_ | refine xw_ret (postE_ret ?_) | refine postE_normal ?_
    simp only [go_sem, ↓reduceIte, Int.reduceLE, Int.reduceLT, Int.reduceToNat, Int.reduceNeg, Int.reduceAdd, Int.reduceSub, Int.reduceMul, Int.reduceEq, Int.reduceNe, Nat.reduceEqDiff, Nat.reduceAdd, Nat.reduceSub, Nat.reduceMul, Nat.reduceLT, Nat.reduceLeDiff, Nat.reduceBEq, Nat.reduceBNe, UInt8.reduceToNat, Try.results62, Try.f62]
    simp only [decide_eq_true_eq] at h1
    have : ¬ VG n es := fun h => by have := h.1; omega
    simp [this]
theorem c_HasEdge (n : Int) (es : List (Int × Int)) (a b : Int) (hl : es.length ≤ 1048576) : KP 150 [GL n es, PE a b] [] = some (B (decide (VG n es ∧ (a, b) ∈ es)), [], []) := by
  have h := c_has n es a b hl
  have hv := c_GraphValid n es hl
  cases h1 : decide (VG n es)
  · refine xw_call (fn := Try.f150) rfl Try.func150 rfl ⟨Nat.le_of_ble_eq_true rfl, rfl, rfl⟩ ?_
    repeat (first
      | refine xw_seq ?_
      | refine xw_block ?_
      | (refine xw_reg ?_; simp (disch := first | decide | omega) only [go_sem, ↓reduceIte, Int.reduceLE, Int.reduceLT, Int.reduceToNat, Int.reduceNeg, Int.reduceAdd, Int.reduceSub, Int.reduceMul, Int.reduceEq, Int.reduceNe, Nat.reduceEqDiff, Nat.reduceAdd, Nat.reduceSub, Nat.reduceMul, Nat.reduceLT, Nat.reduceLeDiff, Nat.reduceBEq, Nat.reduceBNe, UInt8.reduceToNat, wr, dle, dlt, h, hv, h1])
      | (refine xw_regd ?_; simp (disch := first | decide | omega) only [go_sem, ↓reduceIte, Int.reduceLE, Int.reduceLT, Int.reduceToNat, Int.reduceNeg, Int.reduceAdd, Int.reduceSub, Int.reduceMul, Int.reduceEq, Int.reduceNe, Nat.reduceEqDiff, Nat.reduceAdd, Nat.reduceSub, Nat.reduceMul, Nat.reduceLT, Nat.reduceLeDiff, Nat.reduceBEq, Nat.reduceBNe, UInt8.reduceToNat, wr, dle, dlt, h, hv, h1]; refine ⟨by kernel_rfl, ?_⟩)
      | (refine xw_if ?_; simp (disch := first | decide | omega) only [go_sem, ↓reduceIte, Int.reduceLE, Int.reduceLT, Int.reduceToNat, Int.reduceNeg, Int.reduceAdd, Int.reduceSub, Int.reduceMul, Int.reduceEq, Int.reduceNe, Nat.reduceEqDiff, Nat.reduceAdd, Nat.reduceSub, Nat.reduceMul, Nat.reduceLT, Nat.reduceLeDiff, Nat.reduceBEq, Nat.reduceBNe, UInt8.reduceToNat, wr, dle, dlt, h, hv, h1])
      | (refine xw_skip ?_; simp only [sq, bl])
      | (refine xw_exit ?_; simp only [sq, bl, if_true, if_false, Nat.reduceEqDiff])
      | (refine xw_label ?_; simp only [sq, bl]))
    first | refine xw_ret (post_ret ?_) | refine post_normal ?_ | refine xw_ret (postE_ret ?_) | refine postE_normal ?_
    simp only [go_sem, ↓reduceIte, Int.reduceLE, Int.reduceLT, Int.reduceToNat, Int.reduceNeg, Int.reduceAdd, Int.reduceSub, Int.reduceMul, Int.reduceEq, Int.reduceNe, Nat.reduceEqDiff, Nat.reduceAdd, Nat.reduceSub, Nat.reduceMul, Nat.reduceLT, Nat.reduceLeDiff, Nat.reduceBEq, Nat.reduceBNe, UInt8.reduceToNat, Try.results150, Try.f150]
    simp only [decide_eq_false_iff_not] at h1
    simp [h1]
  · refine xw_call (fn := Try.f150) rfl Try.func150 rfl ⟨Nat.le_of_ble_eq_true rfl, rfl, rfl⟩ ?_
    repeat (first
      | refine xw_seq ?_
      | refine xw_block ?_
      | (refine xw_reg ?_; simp (disch := first | decide | omega) only [go_sem, ↓reduceIte, Int.reduceLE, Int.reduceLT, Int.reduceToNat, Int.reduceNeg, Int.reduceAdd, Int.reduceSub, Int.reduceMul, Int.reduceEq, Int.reduceNe, Nat.reduceEqDiff, Nat.reduceAdd, Nat.reduceSub, Nat.reduceMul, Nat.reduceLT, Nat.reduceLeDiff, Nat.reduceBEq, Nat.reduceBNe, UInt8.reduceToNat, wr, dle, dlt, h, hv, h1])
      | (refine xw_regd ?_; simp (disch := first | decide | omega) only [go_sem, ↓reduceIte, Int.reduceLE, Int.reduceLT, Int.reduceToNat, Int.reduceNeg, Int.reduceAdd, Int.reduceSub, Int.reduceMul, Int.reduceEq, Int.reduceNe, Nat.reduceEqDiff, Nat.reduceAdd, Nat.reduceSub, Nat.reduceMul, Nat.reduceLT, Nat.reduceLeDiff, Nat.reduceBEq, Nat.reduceBNe, UInt8.reduceToNat, wr, dle, dlt, h, hv, h1]; refine ⟨by kernel_rfl, ?_⟩)
      | (refine xw_if ?_; simp (disch := first | decide | omega) only [go_sem, ↓reduceIte, Int.reduceLE, Int.reduceLT, Int.reduceToNat, Int.reduceNeg, Int.reduceAdd, Int.reduceSub, Int.reduceMul, Int.reduceEq, Int.reduceNe, Nat.reduceEqDiff, Nat.reduceAdd, Nat.reduceSub, Nat.reduceMul, Nat.reduceLT, Nat.reduceLeDiff, Nat.reduceBEq, Nat.reduceBNe, UInt8.reduceToNat, wr, dle, dlt, h, hv, h1])
      | (refine xw_skip ?_; simp only [sq, bl])
      | (refine xw_exit ?_; simp only [sq, bl, if_true, if_false, Nat.reduceEqDiff])
      | (refine xw_label ?_; simp only [sq, bl]))
    first | refine xw_ret (post_ret ?_) | refine post_normal ?_ | refine xw_ret (postE_ret ?_) | refine postE_normal ?_
    simp only [go_sem, ↓reduceIte, Int.reduceLE, Int.reduceLT, Int.reduceToNat, Int.reduceNeg, Int.reduceAdd, Int.reduceSub, Int.reduceMul, Int.reduceEq, Int.reduceNe, Nat.reduceEqDiff, Nat.reduceAdd, Nat.reduceSub, Nat.reduceMul, Nat.reduceLT, Nat.reduceLeDiff, Nat.reduceBEq, Nat.reduceBNe, UInt8.reduceToNat, Try.results150, Try.f150]
    simp only [decide_eq_true_eq] at h1
    simp [h1]
theorem c_hasNode (n : Int) (es : List (Int × Int)) (v : Int) (hl : es.length ≤ 1048576) : KP 59 [GL n es, I v] [] = some (B (decide (VG n es ∧ 0 ≤ v ∧ v < n)), [], []) := by
  have hv := c_GraphValid n es hl
  cases h1 : decide (VG n es)
  · refine xw_call (fn := Try.f59) rfl Try.func59 rfl ⟨Nat.le_of_ble_eq_true rfl, rfl, rfl⟩ ?_
    repeat (first
      | refine xw_seq ?_
      | refine xw_block ?_
      | (refine xw_reg ?_; simp (disch := first | decide | omega) only [go_sem, ↓reduceIte, Int.reduceLE, Int.reduceLT, Int.reduceToNat, Int.reduceNeg, Int.reduceAdd, Int.reduceSub, Int.reduceMul, Int.reduceEq, Int.reduceNe, Nat.reduceEqDiff, Nat.reduceAdd, Nat.reduceSub, Nat.reduceMul, Nat.reduceLT, Nat.reduceLeDiff, Nat.reduceBEq, Nat.reduceBNe, UInt8.reduceToNat, wr, dle, dlt, hv, h1])
      | (refine xw_regd ?_; simp (disch := first | decide | omega) only [go_sem, ↓reduceIte, Int.reduceLE, Int.reduceLT, Int.reduceToNat, Int.reduceNeg, Int.reduceAdd, Int.reduceSub, Int.reduceMul, Int.reduceEq, Int.reduceNe, Nat.reduceEqDiff, Nat.reduceAdd, Nat.reduceSub, Nat.reduceMul, Nat.reduceLT, Nat.reduceLeDiff, Nat.reduceBEq, Nat.reduceBNe, UInt8.reduceToNat, wr, dle, dlt, hv, h1]; refine ⟨by kernel_rfl, ?_⟩)
      | (refine xw_if ?_; simp (disch := first | decide | omega) only [go_sem, ↓reduceIte, Int.reduceLE, Int.reduceLT, Int.reduceToNat, Int.reduceNeg, Int.reduceAdd, Int.reduceSub, Int.reduceMul, Int.reduceEq, Int.reduceNe, Nat.reduceEqDiff, Nat.reduceAdd, Nat.reduceSub, Nat.reduceMul, Nat.reduceLT, Nat.reduceLeDiff, Nat.reduceBEq, Nat.reduceBNe, UInt8.reduceToNat, wr, dle, dlt, hv, h1])
      | (refine xw_skip ?_; simp only [sq, bl])
      | (refine xw_exit ?_; simp only [sq, bl, if_true, if_false, Nat.reduceEqDiff])
      | (refine xw_label ?_; simp only [sq, bl]))
    first | refine xw_ret (post_ret ?_) | refine post_normal ?_ | refine xw_ret (postE_ret ?_) | refine postE_normal ?_
    simp only [go_sem, ↓reduceIte, Int.reduceLE, Int.reduceLT, Int.reduceToNat, Int.reduceNeg, Int.reduceAdd, Int.reduceSub, Int.reduceMul, Int.reduceEq, Int.reduceNe, Nat.reduceEqDiff, Nat.reduceAdd, Nat.reduceSub, Nat.reduceMul, Nat.reduceLT, Nat.reduceLeDiff, Nat.reduceBEq, Nat.reduceBNe, UInt8.reduceToNat, Try.results59, Try.f59]
    simp only [decide_eq_false_iff_not] at h1
    simp [h1]
  · cases h2 : decide (0 ≤ v)
    · refine xw_call (fn := Try.f59) rfl Try.func59 rfl ⟨Nat.le_of_ble_eq_true rfl, rfl, rfl⟩ ?_
      repeat (first
        | refine xw_seq ?_
        | refine xw_block ?_
        | (refine xw_reg ?_; simp (disch := first | decide | omega) only [go_sem, ↓reduceIte, Int.reduceLE, Int.reduceLT, Int.reduceToNat, Int.reduceNeg, Int.reduceAdd, Int.reduceSub, Int.reduceMul, Int.reduceEq, Int.reduceNe, Nat.reduceEqDiff, Nat.reduceAdd, Nat.reduceSub, Nat.reduceMul, Nat.reduceLT, Nat.reduceLeDiff, Nat.reduceBEq, Nat.reduceBNe, UInt8.reduceToNat, wr, dle, dlt, hv, h1, h2])
        | (refine xw_regd ?_; simp (disch := first | decide | omega) only [go_sem, ↓reduceIte, Int.reduceLE, Int.reduceLT, Int.reduceToNat, Int.reduceNeg, Int.reduceAdd, Int.reduceSub, Int.reduceMul, Int.reduceEq, Int.reduceNe, Nat.reduceEqDiff, Nat.reduceAdd, Nat.reduceSub, Nat.reduceMul, Nat.reduceLT, Nat.reduceLeDiff, Nat.reduceBEq, Nat.reduceBNe, UInt8.reduceToNat, wr, dle, dlt, hv, h1, h2]; refine ⟨by kernel_rfl, ?_⟩)
        | (refine xw_if ?_; simp (disch := first | decide | omega) only [go_sem, ↓reduceIte, Int.reduceLE, Int.reduceLT, Int.reduceToNat, Int.reduceNeg, Int.reduceAdd, Int.reduceSub, Int.reduceMul, Int.reduceEq, Int.reduceNe, Nat.reduceEqDiff, Nat.reduceAdd, Nat.reduceSub, Nat.reduceMul, Nat.reduceLT, Nat.reduceLeDiff, Nat.reduceBEq, Nat.reduceBNe, UInt8.reduceToNat, wr, dle, dlt, hv, h1, h2])
        | (refine xw_skip ?_; simp only [sq, bl])
        | (refine xw_exit ?_; simp only [sq, bl, if_true, if_false, Nat.reduceEqDiff])
        | (refine xw_label ?_; simp only [sq, bl]))
      first | refine xw_ret (post_ret ?_) | refine post_normal ?_ | refine xw_ret (postE_ret ?_) | refine postE_normal ?_
      simp only [go_sem, ↓reduceIte, Int.reduceLE, Int.reduceLT, Int.reduceToNat, Int.reduceNeg, Int.reduceAdd, Int.reduceSub, Int.reduceMul, Int.reduceEq, Int.reduceNe, Nat.reduceEqDiff, Nat.reduceAdd, Nat.reduceSub, Nat.reduceMul, Nat.reduceLT, Nat.reduceLeDiff, Nat.reduceBEq, Nat.reduceBNe, UInt8.reduceToNat, Try.results59, Try.f59]
      simp only [decide_eq_true_eq, decide_eq_false_iff_not] at h1 h2
      simp [h1, h2]
    · refine xw_call (fn := Try.f59) rfl Try.func59 rfl ⟨Nat.le_of_ble_eq_true rfl, rfl, rfl⟩ ?_
      repeat (first
        | refine xw_seq ?_
        | refine xw_block ?_
        | (refine xw_reg ?_; simp (disch := first | decide | omega) only [go_sem, ↓reduceIte, Int.reduceLE, Int.reduceLT, Int.reduceToNat, Int.reduceNeg, Int.reduceAdd, Int.reduceSub, Int.reduceMul, Int.reduceEq, Int.reduceNe, Nat.reduceEqDiff, Nat.reduceAdd, Nat.reduceSub, Nat.reduceMul, Nat.reduceLT, Nat.reduceLeDiff, Nat.reduceBEq, Nat.reduceBNe, UInt8.reduceToNat, wr, dle, dlt, hv, h1, h2])
        | (refine xw_regd ?_; simp (disch := first | decide | omega) only [go_sem, ↓reduceIte, Int.reduceLE, Int.reduceLT, Int.reduceToNat, Int.reduceNeg, Int.reduceAdd, Int.reduceSub, Int.reduceMul, Int.reduceEq, Int.reduceNe, Nat.reduceEqDiff, Nat.reduceAdd, Nat.reduceSub, Nat.reduceMul, Nat.reduceLT, Nat.reduceLeDiff, Nat.reduceBEq, Nat.reduceBNe, UInt8.reduceToNat, wr, dle, dlt, hv, h1, h2]; refine ⟨by kernel_rfl, ?_⟩)
        | (refine xw_if ?_; simp (disch := first | decide | omega) only [go_sem, ↓reduceIte, Int.reduceLE, Int.reduceLT, Int.reduceToNat, Int.reduceNeg, Int.reduceAdd, Int.reduceSub, Int.reduceMul, Int.reduceEq, Int.reduceNe, Nat.reduceEqDiff, Nat.reduceAdd, Nat.reduceSub, Nat.reduceMul, Nat.reduceLT, Nat.reduceLeDiff, Nat.reduceBEq, Nat.reduceBNe, UInt8.reduceToNat, wr, dle, dlt, hv, h1, h2])
        | (refine xw_skip ?_; simp only [sq, bl])
        | (refine xw_exit ?_; simp only [sq, bl, if_true, if_false, Nat.reduceEqDiff])
        | (refine xw_label ?_; simp only [sq, bl]))
      first | refine xw_ret (post_ret ?_) | refine post_normal ?_ | refine xw_ret (postE_ret ?_) | refine postE_normal ?_
      simp only [go_sem, ↓reduceIte, Int.reduceLE, Int.reduceLT, Int.reduceToNat, Int.reduceNeg, Int.reduceAdd, Int.reduceSub, Int.reduceMul, Int.reduceEq, Int.reduceNe, Nat.reduceEqDiff, Nat.reduceAdd, Nat.reduceSub, Nat.reduceMul, Nat.reduceLT, Nat.reduceLeDiff, Nat.reduceBEq, Nat.reduceBNe, UInt8.reduceToNat, Try.results59, Try.f59]
      simp only [decide_eq_true_eq] at h1 h2
      simp [h1, h2]
/-- Edges that do not touch a node. -/
def alone (v : Int) (es : List (Int × Int)) : List (Int × Int) := es.filter fun e => decide (e.1 ≠ v ∧ e.2 ≠ v)
end Go.Proofs.Ytjffaedlmplcnaa.X

/- Rules that part by themselves; arrays of integers and of edges. -/
set_option linter.unusedSimpArgs false
set_option linter.unusedVariables false
namespace Go.Proofs.Ytjffaedlmplcnaa.X
open Go Go.Proofs
/-- A graph whose edges join its nodes; nothing is said of their order. -/
structure OKG (n : Int) (es : List (Int × Int)) : Prop where
  n0 : 0 ≤ n
  n1 : n ≤ 16
  len : es.length ≤ 40
  ok : ∀ e ∈ es, okE n e
theorem VG.okg {n : Int} {es : List (Int × Int)} (h : VG n es) : OKG n es := ⟨by have := h.1; omega, h.2.1, h.2.2.1, h.2.2.2.1⟩
theorem nc0 : ((0 : Nat) : Int) = 0 := rfl
theorem nc1 : ((1 : Nat) : Int) = 1 := rfl
theorem nc2 : ((2 : Nat) : Int) = 2 := rfl
theorem nc3 : ((3 : Nat) : Int) = 3 := rfl
theorem ite_two {c : Prop} [Decidable c] {p q : Prop} (h1 : c → p) (h2 : ¬ c → q) : if c then p else q := by
  split
  · exact h1 ‹_›
  · exact h2 ‹_›
theorem at_region {x : Option (St × List Rec)} {p : St → List Rec → Prop} (h : ∃ a b, x = some (a, b) ∧ p a b) : ∃ a b, x = some (a, b) ∧ p a b := h
theorem at_out {x : Option ((PV × List Arr × List Arr) × List Nat)} {p : PV × List Arr × List Arr → List Nat → Prop} (h : ∃ a b, x = some (a, b) ∧ p a b) : ∃ a b, x = some (a, b) ∧ p a b := h
theorem at_cond {x : Option Bool} {p : Bool → Prop} (h : ∃ t, x = some t ∧ p t) : ∃ t, x = some t ∧ p t := h
theorem ord_split {ops : Array Oper} {rs : List Rec} {p : Prop} (h1 : orderOk ops rs = true) (h2 : p) : orderOk ops rs = true ∧ p := ⟨h1, h2⟩
section
variable {P : Program} {cf : Cfg} {C : CallS} {me : FuncId} {st : St}
theorem gdo_ite {b : Bool} {o : Oper} : gdo P cf C me (some b) o st = if b = true then fin1 o.dst ((opSem P cf C me o st.ρ).run st.m) else some ⟨o.dst, .i (.v undef), [], []⟩ := by
  cases b <;> rfl
theorem chk_and {α : Type} {a b : Bool} {x : Mm α} : Mm.chk (a && b) x = Mm.chk a (Mm.chk b x) := by cases a <;> rfl
theorem chk_dec {α : Type} {p : Prop} [Decidable p] {x : Mm α} (h : p) : Mm.chk (decide p) x = x := by simp [Mm.chk, h]
theorem beq_t {b : Bool} : (b == true) = b := by cases b <;> rfl
theorem beq_f {b : Bool} : (b == false) = !b := by cases b <;> rfl
theorem mn_int {k : IntKind} {a b : Int} : (if b < a then b else a) = min a b := by omega
theorem mx_int {k : IntKind} {a b : Int} : (if a < b then b else a) = max a b := by omega
theorem ite_and' {α : Sort _} {p q : Prop} [Decidable p] [Decidable q] {a b : α} : (if p ∧ q then a else b) = if p then if q then a else b else b := by
  by_cases h1 : p <;> by_cases h2 : q <;> simp [h1, h2]
theorem ite_or' {α : Sort _} {p q : Prop} [Decidable p] [Decidable q] {a b : α} : (if p ∨ q then a else b) = if p then a else if q then a else b := by
  by_cases h1 : p <;> by_cases h2 : q <;> simp [h1, h2]
theorem minB_eq {k k' : IntKind} {a b : Int} : minB (.i (.v (.int k a))) (.i (.v (.int k' b))) = .ret (.i (.v (.int k (min a b))), []) := by
  simp only [minB, intP, @mn_int k]
theorem maxB_eq {k k' : IntKind} {a b : Int} : maxB (.i (.v (.int k a))) (.i (.v (.int k' b))) = .ret (.i (.v (.int k (max a b))), []) := by
  simp only [maxB, intP, gt_iff_lt, @mx_int k]
end
/-- Rewriting turns the state alone: the code that is left, and what is wanted of it, stay as they are. -/
@[congr] theorem XW_congr {P : Program} {cf : Cfg} {me : FuncId} {c : Code} {s s' : St} {Q : Ex → St → Prop} (h : s = s') : XW P cf me c s Q = XW P cf me c s' Q := by rw [h]
/-- Loops over a state of one's own. -/
def LQ {σ : Type} (R : σ → St → Prop) (μ : σ → Nat) (n : Nat) (Q : Ex → St → Prop) : Ex → St → Prop
  | .normal, s => ∃ x, R x s ∧ μ x < n
  | .exit i, s => Q (.exit i) s
  | .ret, s => Q .ret s
theorem xw_loopR {P : Program} {cf : Cfg} {me : FuncId} {b : Code} {Q : Ex → St → Prop} {σ : Type} (R : σ → St → Prop) (μ : σ → Nat) (x : σ) {s : St} (h0 : R x s)
    (h : ∀ x s, R x s → XW P cf me b s (LQ R μ (μ x) Q)) : XW P cf me (.loop b) s Q := by
  refine xw_loop_count (fun n s => ∃ x, R x s ∧ μ x = n) ?_ (μ x) s ⟨x, h0, rfl⟩
  rintro n s ⟨x, hx, rfl⟩
  refine (h x s hx).mono fun e s' hq => ?_
  cases e with
  | normal =>
    obtain ⟨y, h1, h2⟩ := hq
    exact ⟨μ y, h2, y, h1, rfl⟩
  | exit i => exact hq
  | ret => exact hq
inductive NA (P : Program) (cf : Cfg) (me : FuncId) : Code → St → (Ex → St → Prop) → Prop
  | seq {a b : Code} {st : St} {Q : Ex → St → Prop} (h : XW P cf me a st (sq P cf me b Q)) : NA P cf me (.seq a b) st Q
  | block {id : Nat} {b : Code} {st : St} {Q : Ex → St → Prop} (h : XW P cf me b st (bl id Q)) : NA P cf me (.block id b) st Q
inductive NB (P : Program) (cf : Cfg) (me : FuncId) : Code → St → (Ex → St → Prop) → Prop
  | reg {ops : Array Oper} {id : Nat} {st : St} {Q : Ex → St → Prop} (h : ∃ st' rs, runOps P cf (KK P cf) me ops ops.toList st = some (st', rs) ∧ Q .normal st') : NB P cf me (.region id ops false) st Q
  | regd {ops : Array Oper} {id : Nat} {st : St} {Q : Ex → St → Prop} (h : ∃ st' rs, runOps P cf (KK P cf) me ops ops.toList st = some (st', rs) ∧ orderOk ops rs = true ∧ Q .normal st') : NB P cf me (.region id ops true) st Q
  | cond {x : Operand} {a b : Code} {st : St} {Q : Ex → St → Prop} (h : ∃ t, asBoolP (opnd st.ρ x) = some t ∧ if t = true then XW P cf me a st Q else XW P cf me b st Q) : NB P cf me (.cond x a b) st Q
  | skip {st : St} {Q : Ex → St → Prop} (h : Q .normal st) : NB P cf me .skip st Q
  | exit {i : Nat} {st : St} {Q : Ex → St → Prop} (h : Q (.exit i) st) : NB P cf me (.exit i) st Q
  | label {i : Nat} {st : St} {Q : Ex → St → Prop} (h : Q .normal st) : NB P cf me (.label i) st Q
  | ret {st : St} {Q : Ex → St → Prop} (h : Q .ret st) : NB P cf me .ret st Q
def Ex.fin : Ex → Bool
  | .exit _ => false
  | _ => true
theorem take_int {α : Type} {l : List α} {i : Int} (d : α) (h0 : 0 ≤ i) (h1 : i < l.length) : l.take (i + 1).toNat = l.take i.toNat ++ [l.getD i.toNat d] := by
  have : (i + 1).toNat = i.toNat + 1 := by omega
  rw [this, List.take_add_one]
  have h : i.toNat < l.length := by omega
  simp [h]
theorem take_set_int {α : Type} {l : List α} {i : Int} {x : α} (h0 : 0 ≤ i) (h1 : i < l.length) : (l.set i.toNat x).take (i + 1).toNat = l.take i.toNat ++ [x] := by
  rw [take_int x h0 (by simpa using h1), List.take_set_of_le (Nat.le_refl _)]
  have h : i.toNat < l.length := by omega
  simp [h]
theorem drop_set_int {α : Type} {l : List α} {i j : Int} {x : α} (h : i < j) (h0 : 0 ≤ i) : (l.set i.toNat x).drop j.toNat = l.drop j.toNat := by
  rw [List.drop_set_of_lt (by omega)]
theorem getD_of_drop {α : Type} {l r : List α} {n : Nat} {d : α} (h : l.drop n = r.drop n) : l.getD n d = r.getD n d := by
  have := congrArg (fun x => x.getD 0 d) h
  simpa [List.getD, List.getElem?_drop] using this
theorem drop_succ_of {α : Type} {l r : List α} {j : Int} (h0 : 0 ≤ j) (h : l.drop j.toNat = r.drop j.toNat) : l.drop (j + 1).toNat = r.drop (j + 1).toNat := by
  have e : (j + 1).toNat = j.toNat + 1 := by omega
  rw [e, ← List.drop_drop, ← List.drop_drop, h]
theorem take_all {α : Type} {l : List α} {n : Nat} (h : l.length ≤ n) : l.take n = l := List.take_of_length_le h
theorem getD_mem {α : Type} {l : List α} {i : Nat} {d : α} (h : i < l.length) : l.getD i d ∈ l := by
  simp [h]
theorem encE_map_inj {a b : List (Int × Int)} : a.map encE = b.map encE ↔ a = b := by
  refine ⟨fun h => ?_, fun h => by rw [h]⟩
  induction a generalizing b with
  | nil => cases b <;> simp_all
  | cons x a ih =>
    cases b with
    | nil => simp at h
    | cons y b =>
      simp only [List.map_cons, List.cons.injEq, encE, IV.v.injEq, Value.int.injEq, true_and, and_true] at h
      rw [ih h.2, Prod.ext h.1.1 h.1.2]
theorem encI_map_inj {a b : List Int} : a.map encI = b.map encI ↔ a = b := by
  refine ⟨fun h => ?_, fun h => by rw [h]⟩
  induction a generalizing b with
  | nil => cases b <;> simp_all
  | cons x a ih =>
    cases b with
    | nil => simp at h
    | cons y b =>
      simp only [List.map_cons, List.cons.injEq, encI, IV.v.injEq, Value.int.injEq, true_and, and_true] at h
      rw [ih h.2, h.1]
theorem getE (es : List (Int × Int)) (i : Nat) (h : i < es.length) : (es.map encE)[i]? = some [.v (.int .i64 (es.getD i (0, 0)).1), .v (.int .i64 (es.getD i (0, 0)).2)] := by
  simp [encE, h]
theorem getI (xs : List Int) (i : Nat) (h : i < xs.length) : (xs.map encI)[i]? = some [.v (.int .i64 (xs.getD i 0))] := by
  simp [encI, h]
theorem setI (xs : List Int) (i : Nat) (x : Int) : (xs.map encI).set i [.v (.int .i64 x)] = (xs.set i x).map encI := by
  simp [encI, List.map_set]
theorem setE (es : List (Int × Int)) (i : Nat) (x y : Int) : (es.map encE).set i [.v (.int .i64 x), .v (.int .i64 y)] = (es.set i (x, y)).map encE := by
  simp [encE, List.map_set]
theorem appI (xs : List Int) (x : Int) : xs.map encI ++ [[.v (.int .i64 x)]] = (xs ++ [x]).map encI := by simp [encI]
theorem appE (es : List (Int × Int)) (x y : Int) : es.map encE ++ [[.v (.int .i64 x), .v (.int .i64 y)]] = (es ++ [(x, y)]).map encE := by simp [encE]
theorem mapAppI {xs ys : List Int} : xs.map encI ++ ys.map encI = (xs ++ ys).map encI := by simp
theorem mapAppE {xs ys : List (Int × Int)} : xs.map encE ++ ys.map encE = (xs ++ ys).map encE := by simp
theorem dropI {xs : List Int} {n : Nat} : (xs.map encI).drop n = (xs.drop n).map encI := by simp
theorem dropE {xs : List (Int × Int)} {n : Nat} : (xs.map encE).drop n = (xs.drop n).map encE := by simp
theorem takeI {xs : List Int} {n : Nat} : (xs.map encI).take n = (xs.take n).map encI := by simp
theorem takeE {xs : List (Int × Int)} {n : Nat} : (xs.map encE).take n = (xs.take n).map encE := by simp
def zE (n : Nat) : List (Int × Int) := List.replicate n (0, 0)
def zI (n : Nat) : List Int := List.replicate n 0
theorem repE (n : Nat) : List.replicate n [IV.v (.int .i64 0), IV.v (.int .i64 0)] = (zE n).map encE := by simp [zE, encE]
theorem repI (n : Nat) : List.replicate n [IV.v (.int .i64 0)] = (zI n).map encI := by simp [zI, encI]
theorem zE_len (n : Nat) : (zE n).length = n := by simp [zE]
theorem zI_len (n : Nat) : (zI n).length = n := by simp [zI]
theorem flatI_all {xs : List Int} : (xs.map encI).all (fun e => e.all flatIV) = true := by simp [encI, flatIV]
theorem flatE_all {xs : List (Int × Int)} : (xs.map encE).all (fun e => e.all flatIV) = true := by simp [encE, flatIV]
theorem ref_inj {s v o l s' v' o' l' : Nat} : PV.ref s v o l = PV.ref s' v' o' l' ↔ s = s' ∧ v = v' ∧ o = o' ∧ l = l' := by simp
theorem arr_inj {v k v' k' : Nat} {xs xs' : List (List IV)} : Arr.arr v k xs = Arr.arr v' k' xs' ↔ v = v' ∧ k = k' ∧ xs = xs' := by simp
theorem i_inj {a b : Int} : (PV.i (.v (.int .i64 a)) = PV.i (.v (.int .i64 b))) ↔ a = b := by simp
theorem b_inj {a b : Bool} : (PV.i (.v (.bool a)) = PV.i (.v (.bool b))) ↔ a = b := by simp
attribute [go_sem] flatI_all flatE_all repE repI zE_len zI_len List.length_set List.take_length List.length_replicate getE getI setI setE appI appE mapAppI mapAppE dropI dropE takeI takeE encE_map_inj encI_map_inj ref_inj arr_inj i_inj b_inj wr Prod.exists Prod.eta
attribute [go_sem] c_l1Edge c_l1Less c_l1Find c_l1Put c_sGraphValid c_compareEdges c_indexE c_containsE c_has c_GraphValid c_HasEdge c_hasNode
attribute [go_sem] nc0 nc1 nc2 nc3 ite_and' ite_or' Bool.not_eq_false' Bool.not_not decide_not gdo_ite chk_and chk_dec beq_t beq_f if_pos if_neg LQ ite_not Classical.not_not minB_eq maxB_eq
end Go.Proofs.Ytjffaedlmplcnaa.X

/- What functions compute: closures, deleting, neighbors. -/
set_option linter.unusedSimpArgs false
set_option linter.unusedVariables false
set_option maxHeartbeats 2000000
namespace Go.Proofs.Ytjffaedlmplcnaa.X
open Go Go.Proofs
/-- A function value that tells something of an edge. -/
structure Clo (c : IV) (dom : Int × Int → Prop) (p : Int × Int → Bool) : Prop where
  frz : ∀ n, X.frz n (.i c) = .ret c
  flat : c.flat = true
  call : ∀ me d x y, dom (x, y) → dynP cfg (KK Try.prog cfg) me (some d) (.i c) [PE x y] = .ret (B (p (x, y)), [])
/-- The place of the first edge that fulfils something, or -1. -/
def fidx (p : Int × Int → Bool) (es : List (Int × Int)) : Int := if es.findIdx p < es.length then (es.findIdx p : Int) else -1
theorem fidx_at {p : Int × Int → Bool} {es : List (Int × Int)} {i : Int} (h0 : 0 ≤ i) (h : i < es.length) (hp : p (es.getD i.toNat (0, 0)) = true) (hn : ∀ e ∈ es.take i.toNat, p e = false) : fidx p es = i := by
  have hi : i.toNat < es.length := by omega
  have : es.findIdx p = i.toNat := by
    rw [List.findIdx_eq hi]
    refine ⟨by simpa [hi] using hp, fun j hj => hn _ ?_⟩
    rw [List.mem_take_iff_getElem]
    exact ⟨j, by omega, rfl⟩
  unfold fidx
  rw [this, if_pos hi]; omega
theorem fidx_none {p : Int × Int → Bool} {es : List (Int × Int)} (hn : ∀ e ∈ es, p e = false) : fidx p es = -1 := by
  have : es.findIdx p = es.length := List.findIdx_eq_length.2 hn
  unfold fidx
  rw [this, if_neg (by omega)]
theorem c_indexFuncE {c : IV} {dom : Int × Int → Prop} {p : Int × Int → Bool} (hc : Clo c dom p) (es : List (Int × Int)) (hd : ∀ e ∈ es, dom e) (hl : es.length ≤ 1048576) : KP 160 [LE es, .i c] [] = some (I (fidx p es), [], []) := by
  obtain ⟨hc1, hc2, hc3⟩ := hc
  refine xw_call (fn := Try.f160) rfl Try.func160 rfl ⟨Nat.le_of_ble_eq_true rfl, rfl, rfl⟩ ?_
  repeat' (first
    | refine xw_seq ?_
    | refine xw_block ?_
    | (refine ite_two ?_ ?_ <;> intro _ <;> first | (exfalso; omega) | skip)
    | refine ord_split (by kernel_rfl) ?_
    | (refine xw_ret ?_ <;> try simp only [sq, bl, LQ])
    | ((first | refine xw_reg ?_ | refine xw_regd ?_ | refine xw_if ?_ | refine xw_skip ?_ | refine xw_exit ?_ | refine xw_label ?_ | refine post_ret ?_ | refine post_normal ?_ | refine postE_ret ?_ | refine postE_normal ?_ | (((first | refine at_region ?_ | refine at_out ?_ | refine at_cond ?_); split) <;> first | (exfalso; omega; done) | skip)) <;> try simp (config := { maxSteps := 3000000 }) (disch := first | assumption | omega | exact VG.okg (by assumption) | (simp only [List.length_set, List.length_append, List.length_cons, List.length_nil, List.length_replicate]; omega)) only [go_sem, ↓reduceIte, Int.reduceLE, Int.reduceLT, Int.reduceToNat, Int.reduceNeg, Int.reduceAdd, Int.reduceSub, Int.reduceMul, Int.reduceEq, Int.reduceNe, Nat.reduceEqDiff, Nat.reduceAdd, Nat.reduceSub, Nat.reduceMul, Nat.reduceLT, Nat.reduceLeDiff, Nat.reduceBEq, Nat.reduceBNe, UInt8.reduceToNat, Try.results160]))
  refine xw_loopR (fun (i : Int) s => s.ρ 0 = LE es ∧ s.ρ 1 = .i c ∧ s.ρ 7 = I es.length ∧ s.ρ 8 = I i ∧ 0 ≤ i ∧ i ≤ es.length ∧ ∀ e ∈ es.take i.toNat, p e = false) (fun i => (es.length - i).toNat) 0 (by simp [upd]) ?_
  rintro i ⟨ρ, m⟩ ⟨h0, h1, h7, h8, hi0, hi, hp⟩
  simp only at h0 h1 h7 h8
  by_cases hj : i < es.length
  · have hm : dom ((es.getD i.toNat (0, 0)).1, (es.getD i.toNat (0, 0)).2) := hd _ (getD_mem (by omega))
    repeat' (first
      | refine xw_seq ?_
      | refine xw_block ?_
      | (refine ite_two ?_ ?_ <;> intro _ <;> first | (exfalso; omega) | skip)
      | refine ord_split (by kernel_rfl) ?_
      | (refine xw_ret ?_ <;> try simp only [sq, bl, LQ])
      | ((first | refine xw_reg ?_ | refine xw_regd ?_ | refine xw_if ?_ | refine xw_skip ?_ | refine xw_exit ?_ | refine xw_label ?_ | refine post_ret ?_ | refine post_normal ?_ | refine postE_ret ?_ | refine postE_normal ?_ | (((first | refine at_region ?_ | refine at_out ?_ | refine at_cond ?_); split) <;> first | (exfalso; omega; done) | skip)) <;> try simp (config := { maxSteps := 3000000 }) (disch := first | assumption | omega | exact VG.okg (by assumption) | (simp only [List.length_set, List.length_append, List.length_cons, List.length_nil, List.length_replicate]; omega)) only [go_sem, ↓reduceIte, Int.reduceLE, Int.reduceLT, Int.reduceToNat, Int.reduceNeg, Int.reduceAdd, Int.reduceSub, Int.reduceMul, Int.reduceEq, Int.reduceNe, Nat.reduceEqDiff, Nat.reduceAdd, Nat.reduceSub, Nat.reduceMul, Nat.reduceLT, Nat.reduceLeDiff, Nat.reduceBEq, Nat.reduceBNe, UInt8.reduceToNat, Try.results160, h0, h1, h7, h8, hc3, hc1]))
    · exact (fidx_at hi0 ‹_› ‹_› hp).symm
    · refine ⟨by omega, by omega, ?_, by omega⟩
      rw [take_int (0, 0) hi0 ‹_›]
      grind
  · repeat' (first
      | refine xw_seq ?_
      | refine xw_block ?_
      | (refine ite_two ?_ ?_ <;> intro _ <;> first | (exfalso; omega) | skip)
      | refine ord_split (by kernel_rfl) ?_
      | (refine xw_ret ?_ <;> try simp only [sq, bl, LQ])
      | ((first | refine xw_reg ?_ | refine xw_regd ?_ | refine xw_if ?_ | refine xw_skip ?_ | refine xw_exit ?_ | refine xw_label ?_ | refine post_ret ?_ | refine post_normal ?_ | refine postE_ret ?_ | refine postE_normal ?_ | (((first | refine at_region ?_ | refine at_out ?_ | refine at_cond ?_); split) <;> first | (exfalso; omega; done) | skip)) <;> try simp (config := { maxSteps := 3000000 }) (disch := first | assumption | omega | exact VG.okg (by assumption) | (simp only [List.length_set, List.length_append, List.length_cons, List.length_nil, List.length_replicate]; omega)) only [go_sem, ↓reduceIte, Int.reduceLE, Int.reduceLT, Int.reduceToNat, Int.reduceNeg, Int.reduceAdd, Int.reduceSub, Int.reduceMul, Int.reduceEq, Int.reduceNe, Nat.reduceEqDiff, Nat.reduceAdd, Nat.reduceSub, Nat.reduceMul, Nat.reduceLT, Nat.reduceLeDiff, Nat.reduceBEq, Nat.reduceBNe, UInt8.reduceToNat, Try.results160, h0, h1, h7, h8, hc3, hc1]))
    rw [fidx_none (by rwa [take_all (by omega)] at hp)]
theorem fidx_spec {p : Int × Int → Bool} {es : List (Int × Int)} (h : ¬ fidx p es = -1) : 0 ≤ fidx p es ∧ fidx p es < es.length ∧ p (es.getD (fidx p es).toNat (0, 0)) = true ∧ es.filter (fun e => !p e) = (es.take (fidx p es).toNat) ++ (es.drop ((fidx p es).toNat + 1)).filter (fun e => !p e) ∧ ∀ e ∈ es.take (fidx p es).toNat, p e = false := by
  unfold fidx at h ⊢
  split at h
  · rename_i hl
    rw [if_pos hl]
    have hp : p (es.getD (es.findIdx p) (0, 0)) = true := by
      have := List.findIdx_getElem (w := hl)
      simpa [hl] using this
    have hn : ∀ e ∈ es.take (es.findIdx p), p e = false := by
      intro e he
      rw [List.mem_take_iff_getElem] at he
      obtain ⟨j, hj, rfl⟩ := he
      exact Bool.not_eq_true _ ▸ List.not_of_lt_findIdx (by omega)
    refine ⟨by omega, by omega, by simpa using hp, ?_, by simpa using hn⟩
    simp only [Int.toNat_natCast]
    conv => lhs; rw [← List.take_append_drop (es.findIdx p) es, List.filter_append]
    congr 1
    · exact List.filter_eq_self.2 fun e he => by simp [hn e he]
    · rw [List.drop_eq_getElem_cons hl, List.filter_cons]
      have : p es[es.findIdx p] = true := by simpa [hl] using hp
      simp [this]
  · simp at h
theorem fidx_bound (p : Int × Int → Bool) (es : List (Int × Int)) : -1 ≤ fidx p es ∧ fidx p es < es.length := by
  unfold fidx; split <;> omega
theorem fidx_nil {p : Int × Int → Bool} : fidx p [] = -1 := rfl
theorem c_deleteFuncE0 {c : IV} {dom : Int × Int → Prop} {p : Int × Int → Bool} (hc : Clo c dom p) : KP 146 [.i .emp, .i c] [] = some (.i .emp, [], []) := by
  have hx : KP 160 [.i (.lst []), .i c] [] = _ := c_indexFuncE hc [] (by simp) (by simp)
  obtain ⟨hc1, hc2, hc3⟩ := hc
  refine xw_call (fn := Try.f146) rfl Try.func146 rfl ⟨Nat.le_of_ble_eq_true rfl, rfl, rfl⟩ ?_
  repeat' (first
    | refine xw_seq ?_
    | refine xw_block ?_
    | (refine ite_two ?_ ?_ <;> intro _ <;> first | (exfalso; omega) | skip)
    | refine ord_split (by kernel_rfl) ?_
    | (refine xw_ret ?_ <;> try simp only [sq, bl, LQ])
    | ((first | refine xw_reg ?_ | refine xw_regd ?_ | refine xw_if ?_ | refine xw_skip ?_ | refine xw_exit ?_ | refine xw_label ?_ | refine post_ret ?_ | refine post_normal ?_ | refine postE_ret ?_ | refine postE_normal ?_ | (((first | refine at_region ?_ | refine at_out ?_ | refine at_cond ?_); split) <;> first | (exfalso; omega; done) | skip)) <;> try simp (config := { maxSteps := 3000000 }) (disch := first | assumption | omega | exact VG.okg (by assumption) | (simp only [List.length_set, List.length_append, List.length_cons, List.length_nil, List.length_replicate]; omega)) only [go_sem, ↓reduceIte, Int.reduceLE, Int.reduceLT, Int.reduceToNat, Int.reduceNeg, Int.reduceAdd, Int.reduceSub, Int.reduceMul, Int.reduceEq, Int.reduceNe, Nat.reduceEqDiff, Nat.reduceAdd, Nat.reduceSub, Nat.reduceMul, Nat.reduceLT, Nat.reduceLeDiff, Nat.reduceBEq, Nat.reduceBNe, UInt8.reduceToNat, Try.results146, hc1, hc2, hc3, hx, fidx_nil]))
theorem c_deleteFuncE {c : IV} {dom : Int × Int → Prop} {p : Int × Int → Bool} (hc : Clo c dom p) (es : List (Int × Int)) (hdom : ∀ e ∈ es, dom e) (hl : es.length ≤ 1048576) : KP 146 [.ref 1000 0 0 es.length, .i c] [.arr 0 2 (es.map encE)] =
    some (.ref 1000 0 0 (es.filter fun e => !p e).length, [.arr 0 2 ((es.filter (fun e => !p e) ++ zE (es.length - (es.filter (fun e => !p e)).length)).map encE)], []) := by
  have hx := c_indexFuncE hc es hdom hl
  have hb := fidx_bound p es
  obtain ⟨hc1, hc2, hc3⟩ := hc
  refine xw_call (fn := Try.f146) rfl Try.func146 rfl ⟨Nat.le_of_ble_eq_true rfl, rfl, rfl⟩ ?_
  repeat' (first
    | refine xw_seq ?_
    | refine xw_block ?_
    | (refine ite_two ?_ ?_ <;> intro _ <;> first | (exfalso; omega) | skip)
    | refine ord_split (by kernel_rfl) ?_
    | (refine xw_ret ?_ <;> try simp only [sq, bl, LQ])
    | ((first | refine xw_reg ?_ | refine xw_regd ?_ | refine xw_if ?_ | refine xw_skip ?_ | refine xw_exit ?_ | refine xw_label ?_ | refine post_ret ?_ | refine post_normal ?_ | refine postE_ret ?_ | refine postE_normal ?_ | (((first | refine at_region ?_ | refine at_out ?_ | refine at_cond ?_); split) <;> first | (exfalso; omega; done) | skip)) <;> try simp (config := { maxSteps := 3000000 }) (disch := first | assumption | omega | exact VG.okg (by assumption) | (simp only [List.length_set, List.length_append, List.length_cons, List.length_nil, List.length_replicate]; omega)) only [go_sem, ↓reduceIte, Int.reduceLE, Int.reduceLT, Int.reduceToNat, Int.reduceNeg, Int.reduceAdd, Int.reduceSub, Int.reduceMul, Int.reduceEq, Int.reduceNe, Nat.reduceEqDiff, Nat.reduceAdd, Nat.reduceSub, Nat.reduceMul, Nat.reduceLT, Nat.reduceLeDiff, Nat.reduceBEq, Nat.reduceBNe, UInt8.reduceToNat, Try.results146, hc1, hc2, hc3, hx]))
  · have hn : ∀ e ∈ es, p e = false := by
      rename_i h
      intro e he
      unfold fidx at h
      split at h
      · omega
      · rename_i h2
        have := List.findIdx_eq_length.1 (Nat.le_antisymm List.findIdx_le_length (Nat.le_of_not_lt h2))
        exact this e he
    have : es.filter (fun e => !p e) = es := List.filter_eq_self.2 fun e he => by simp [hn e he]
    rw [this]
    simp [zE]
  · rename_i h
    obtain ⟨f0, f1, f2, f3, f4⟩ := fidx_spec h
    generalize hk : fidx p es = k at *
    refine xw_loopR (fun (x : Int × Int × List (Int × Int)) s => s.m 1000 = some (.arr 0 2 (x.2.2.map encE)) ∧ s.ρ 0 = .ref 1000 0 0 es.length ∧ s.ρ 1 = .i c ∧ s.ρ 5 = I x.1 ∧ s.ρ 6 = I x.2.1 ∧
      0 ≤ x.1 ∧ x.1 < x.2.1 ∧ x.2.1 ≤ es.length ∧ x.2.2.length = es.length ∧ x.2.2.take x.1.toNat = (es.take x.2.1.toNat).filter (fun e => !p e) ∧ x.2.2.drop x.2.1.toNat = es.drop x.2.1.toNat)
      (fun x => (es.length - x.2.1).toNat) (k, k + 1, es) (by
        refine ⟨rfl, rfl, rfl, rfl, rfl, f0, by simp only; omega, by simp only; omega, rfl, ?_, rfl⟩
        simp only
        rw [take_int (0, 0) f0 f1, List.filter_append]
        have : (es.take k.toNat).filter (fun e => !p e) = es.take k.toNat := List.filter_eq_self.2 fun e he => by simp [f4 e he]
        rw [this, List.filter_cons_of_neg (by rw [f2]; decide)]
        simp) ?_
    rintro ⟨i, j, xs⟩ ⟨ρ, m⟩ ⟨m1, h0, h1, h5, h6, g0, g1, g2, g3, g4, g5⟩
    simp only at m1 h0 h1 h5 h6 g0 g1 g2 g3 g4 g5
    have hd := getD_of_drop (d := (0, 0)) g5
    by_cases hj : j < es.length
    · have hm : dom ((xs.getD j.toNat (0, 0)).1, (xs.getD j.toNat (0, 0)).2) := by
        rw [hd]; exact hdom _ (getD_mem (by omega))
      repeat' (first
        | refine xw_seq ?_
        | refine xw_block ?_
        | (refine ite_two ?_ ?_ <;> intro _ <;> first | (exfalso; omega) | skip)
        | refine ord_split (by kernel_rfl) ?_
        | (refine xw_ret ?_ <;> try simp only [sq, bl, LQ])
        | ((first | refine xw_reg ?_ | refine xw_regd ?_ | refine xw_if ?_ | refine xw_skip ?_ | refine xw_exit ?_ | refine xw_label ?_ | refine post_ret ?_ | refine post_normal ?_ | refine postE_ret ?_ | refine postE_normal ?_ | (((first | refine at_region ?_ | refine at_out ?_ | refine at_cond ?_); split) <;> first | (exfalso; omega; done) | skip)) <;> try simp (config := { maxSteps := 3000000 }) (disch := first | assumption | omega | exact VG.okg (by assumption) | (simp only [List.length_set, List.length_append, List.length_cons, List.length_nil, List.length_replicate]; omega)) only [go_sem, ↓reduceIte, Int.reduceLE, Int.reduceLT, Int.reduceToNat, Int.reduceNeg, Int.reduceAdd, Int.reduceSub, Int.reduceMul, Int.reduceEq, Int.reduceNe, Nat.reduceEqDiff, Nat.reduceAdd, Nat.reduceSub, Nat.reduceMul, Nat.reduceLT, Nat.reduceLeDiff, Nat.reduceBEq, Nat.reduceBNe, UInt8.reduceToNat, Try.results146, m1, h0, h1, h5, h6, hc3, hc1]))
      · refine ⟨by omega, by omega, by omega, by simpa using g3, ?_, ?_, by omega⟩
        · rw [take_set_int g0 (by omega), take_int (0, 0) (by omega) (by omega), List.filter_append, g4]
          clear hm hc3
          simp_all
        · rw [drop_set_int (by omega) g0, drop_succ_of (by omega) g5]
      · refine ⟨by omega, by omega, by omega, g3, ?_, drop_succ_of (by omega) g5, by omega⟩
        rw [g4, take_int (0, 0) (by omega) (by omega), List.filter_append]
        clear hm hc3
        simp_all
    · repeat' (first
        | refine xw_seq ?_
        | refine xw_block ?_
        | (refine ite_two ?_ ?_ <;> intro _ <;> first | (exfalso; omega) | skip)
        | refine ord_split (by kernel_rfl) ?_
        | (refine xw_ret ?_ <;> try simp only [sq, bl, LQ])
        | ((first | refine xw_reg ?_ | refine xw_regd ?_ | refine xw_if ?_ | refine xw_skip ?_ | refine xw_exit ?_ | refine xw_label ?_ | refine post_ret ?_ | refine post_normal ?_ | refine postE_ret ?_ | refine postE_normal ?_ | (((first | refine at_region ?_ | refine at_out ?_ | refine at_cond ?_); split) <;> first | (exfalso; omega; done) | skip)) <;> try simp (config := { maxSteps := 3000000 }) (disch := first | assumption | omega | exact VG.okg (by assumption) | (simp only [List.length_set, List.length_append, List.length_cons, List.length_nil, List.length_replicate]; omega)) only [go_sem, ↓reduceIte, Int.reduceLE, Int.reduceLT, Int.reduceToNat, Int.reduceNeg, Int.reduceAdd, Int.reduceSub, Int.reduceMul, Int.reduceEq, Int.reduceNe, Nat.reduceEqDiff, Nat.reduceAdd, Nat.reduceSub, Nat.reduceMul, Nat.reduceLT, Nat.reduceLeDiff, Nat.reduceBEq, Nat.reduceBNe, UInt8.reduceToNat, Try.results146, m1, h0, h1, h5, h6, hc3, hc1]))
      rw [take_all (l := es) (by omega)] at g4
      have hi : i.toNat = (es.filter fun e => !p e).length := by rw [← g4]; simp; omega
      rw [hi] at g4 ⊢
      have hle := List.length_filter_le (fun e => !p e) es
      rw [g4, List.drop_of_length_le (by omega)]
      simp
/-- What deleting hands back. -/
def delE (p : Int × Int → Bool) (es : List (Int × Int)) : IV := if es = [] then .emp else .lst ((es.filter fun e => !p e).map encE)
def delA (p : Int × Int → Bool) (es : List (Int × Int)) : List Arr := if es = [] then [] else [.arr 0 2 ((es.filter (fun e => !p e) ++ zE (es.length - (es.filter (fun e => !p e)).length)).map encE)]
def delP (p : Int × Int → Bool) (es : List (Int × Int)) : PV := if es = [] then .i .emp else .ref 2000 0 0 (es.filter fun e => !p e).length
theorem KK_prim {P : Program} {cf : Cfg} {f : FuncId} {g : List PV → List Arr → Option (PV × List Arr × List Arr)} {args : List PV} {ps : List Arr} {r : PV × List Arr × List Arr} (h : cf.prim f = some g) (h2 : g args ps = some r) : KK P cf f args ps = some r :=
  KK_of (.all fun n => by show callWith P cf (exec P cf n) f args ps = some r; unfold callWith primC; rw [h]; simp only [h2])
@[go_sem] theorem c_cloneE0 : KP 102 [.i (.lst [])] [] = some (.i .emp, [], []) := KK_prim rfl rfl
theorem c_cloneE (es : List (Int × Int)) (h : es ≠ []) (hl : es.length ≤ 1048576) : KP 102 [LE es] [] = some (.ref 2000 0 0 es.length, [], [.arr 0 2 (es.map encE)]) := by
  have hp : primC cfg 102 [LE es] [] = none := by
    cases es with
    | nil => exact absurd rfl h
    | cons e r => rfl
  have hm : es.map encE ≠ [] := by simpa using h
  refine xw_call (fn := Try.f102) hp Try.func102 rfl ⟨Nat.le_of_ble_eq_true rfl, rfl, rfl⟩ ?_
  repeat' (first
    | refine xw_seq ?_
    | refine xw_block ?_
    | (refine ite_two ?_ ?_ <;> intro _ <;> first | (exfalso; omega) | skip)
    | refine ord_split (by kernel_rfl) ?_
    | (refine xw_ret ?_ <;> try simp only [sq, bl, LQ])
    | ((first | refine xw_reg ?_ | refine xw_regd ?_ | refine xw_if ?_ | refine xw_skip ?_ | refine xw_exit ?_ | refine xw_label ?_ | refine post_ret ?_ | refine post_normal ?_ | refine postE_ret ?_ | refine postE_normal ?_ | (((first | refine at_region ?_ | refine at_out ?_ | refine at_cond ?_); split) <;> first | (exfalso; omega; done) | skip)) <;> try simp (config := { maxSteps := 3000000 }) (disch := first | assumption | omega | exact VG.okg (by assumption) | (simp only [List.length_set, List.length_append, List.length_cons, List.length_nil, List.length_replicate]; omega)) only [go_sem, ↓reduceIte, Int.reduceLE, Int.reduceLT, Int.reduceToNat, Int.reduceNeg, Int.reduceAdd, Int.reduceSub, Int.reduceMul, Int.reduceEq, Int.reduceNe, Nat.reduceEqDiff, Nat.reduceAdd, Nat.reduceSub, Nat.reduceMul, Nat.reduceLT, Nat.reduceLeDiff, Nat.reduceBEq, Nat.reduceBNe, UInt8.reduceToNat, Try.results102, hm]))
theorem c_without {c : IV} {dom : Int × Int → Prop} {p : Int × Int → Bool} (hc : Clo c dom p) (n : Int) (es : List (Int × Int)) (hdom : ∀ e ∈ es, dom e) (hl : es.length ≤ 1048576) : KP 117 [GL n es, .i c] [] = some (.agg [I n, delP p es], [], delA p es) := by
  by_cases he : es = []
  · subst he
    have hd := c_deleteFuncE0 hc
    obtain ⟨hc1, hc2, hc3⟩ := hc
    refine xw_call (fn := Try.f117) rfl Try.func117 rfl ⟨Nat.le_of_ble_eq_true rfl, rfl, rfl⟩ ?_
    repeat' (first
      | refine xw_seq ?_
      | refine xw_block ?_
      | (refine ite_two ?_ ?_ <;> intro _ <;> first | (exfalso; omega) | skip)
      | refine ord_split (by kernel_rfl) ?_
      | (refine xw_ret ?_ <;> try simp only [sq, bl, LQ])
      | ((first | refine xw_reg ?_ | refine xw_regd ?_ | refine xw_if ?_ | refine xw_skip ?_ | refine xw_exit ?_ | refine xw_label ?_ | refine post_ret ?_ | refine post_normal ?_ | refine postE_ret ?_ | refine postE_normal ?_ | (((first | refine at_region ?_ | refine at_out ?_ | refine at_cond ?_); split) <;> first | (exfalso; omega; done) | skip)) <;> try simp (config := { maxSteps := 3000000 }) (disch := first | assumption | omega | exact VG.okg (by assumption) | (simp only [List.length_set, List.length_append, List.length_cons, List.length_nil, List.length_replicate]; omega)) only [go_sem, ↓reduceIte, Int.reduceLE, Int.reduceLT, Int.reduceToNat, Int.reduceNeg, Int.reduceAdd, Int.reduceSub, Int.reduceMul, Int.reduceEq, Int.reduceNe, Nat.reduceEqDiff, Nat.reduceAdd, Nat.reduceSub, Nat.reduceMul, Nat.reduceLT, Nat.reduceLeDiff, Nat.reduceBEq, Nat.reduceBNe, UInt8.reduceToNat, Try.results117, hc1, hc2, hc3, hd, LE]))
    exact ⟨rfl, rfl⟩
  · have hd := c_deleteFuncE hc es hdom hl
    have hcl := c_cloneE es he hl
    obtain ⟨hc1, hc2, hc3⟩ := hc
    refine xw_call (fn := Try.f117) rfl Try.func117 rfl ⟨Nat.le_of_ble_eq_true rfl, rfl, rfl⟩ ?_
    repeat' (first
      | refine xw_seq ?_
      | refine xw_block ?_
      | (refine ite_two ?_ ?_ <;> intro _ <;> first | (exfalso; omega) | skip)
      | refine ord_split (by kernel_rfl) ?_
      | (refine xw_ret ?_ <;> try simp only [sq, bl, LQ])
      | ((first | refine xw_reg ?_ | refine xw_regd ?_ | refine xw_if ?_ | refine xw_skip ?_ | refine xw_exit ?_ | refine xw_label ?_ | refine post_ret ?_ | refine post_normal ?_ | refine postE_ret ?_ | refine postE_normal ?_ | (((first | refine at_region ?_ | refine at_out ?_ | refine at_cond ?_); split) <;> first | (exfalso; omega; done) | skip)) <;> try simp (config := { maxSteps := 3000000 }) (disch := first | assumption | omega | exact VG.okg (by assumption) | (simp only [List.length_set, List.length_append, List.length_cons, List.length_nil, List.length_replicate]; omega)) only [go_sem, ↓reduceIte, Int.reduceLE, Int.reduceLT, Int.reduceToNat, Int.reduceNeg, Int.reduceAdd, Int.reduceSub, Int.reduceMul, Int.reduceEq, Int.reduceNe, Nat.reduceEqDiff, Nat.reduceAdd, Nat.reduceSub, Nat.reduceMul, Nat.reduceLT, Nat.reduceLeDiff, Nat.reduceBEq, Nat.reduceBNe, UInt8.reduceToNat, Try.results117, hc1, hc2, hc3, hd, hcl]))
    simp [delP, delA, he]
theorem imm_del {p : Int × Int → Bool} {es : List (Int × Int)} {n : Nat} : imm (n + 1) (delA p es) (delP p es) = some (.i (delE p es)) := by
  unfold delA delP delE
  split
  · rfl
  · simp [imm, imm1]
theorem frz_del {p : Int × Int → Bool} {es : List (Int × Int)} {n : Nat} : frz n (.i (delE p es)) = .ret (.lst ((es.filter fun e => !p e).map encE)) := by
  unfold delE
  split
  · rename_i h; subst h; cases n <;> rfl
  · cases n <;> rfl
theorem flat_del {p : Int × Int → Bool} {es : List (Int × Int)} : (delE p es).flat = true := by unfold delE; split <;> rfl
theorem lenP_del {p : Int × Int → Bool} {es : List (Int × Int)} : lenP (.i (delE p es)) = some (es.filter fun e => !p e).length := by
  unfold delE
  split
  · rename_i h; subst h; rfl
  · simp [lenP]
theorem iaR_del {p : Int × Int → Bool} {es : List (Int × Int)} {el : TypeId} {n : Int} (h0 : 0 ≤ n) (h : n < (es.filter fun e => !p e).length) :
    iaR Try.prog (some (.slice el)) (some n) (.i (delE p es)) = iaR Try.prog (some (.slice el)) (some n) (.i (.lst ((es.filter fun e => !p e).map encE))) := by
  unfold delE
  split
  · rename_i he; subst he; simp at h; omega
  · rfl
theorem flatA_E {v : Nat} {es : List (Int × Int)} : flatA (.arr v 2 (es.map encE)) = true := by simp [flatA, encE, flatIV]
theorem flatA_I {v : Nat} {xs : List Int} : flatA (.arr v 1 (xs.map encI)) = true := by simp [flatA, encI, flatIV]
theorem flatP_del {p : Int × Int → Bool} {es : List (Int × Int)} {n : Nat} : flatP (n + 1) (delP p es) = true := by unfold delP; split <;> rfl
theorem flatA_del {p : Int × Int → Bool} {es : List (Int × Int)} : (delA p es).all flatA = true := by
  unfold delA
  split
  · rfl
  · simp only [List.all_cons, List.all_nil, flatA_E, Bool.and_self]
attribute [go_sem] imm_del frz_del flat_del lenP_del iaR_del flatA_E flatA_I flatP_del flatA_del
/-- The nodes that edges join with a node, in the edges' order. -/
def nbL (v : Int) (es : List (Int × Int)) : List Int := es.filterMap fun e => if v = e.1 then some e.2 else if v = e.2 then some e.1 else none
def sortI (xs : List Int) : List Int := xs.mergeSort fun a b => decide (a ≤ b)
/-- The nodes that edges join with a node. -/
def nbS (v : Int) (es : List (Int × Int)) : List Int := sortI (nbL v es)
theorem sortE_encI (xs : List Int) : sortE (xs.map encI) = (sortI xs).map encI := by
  unfold sortE sortI
  rw [List.map_mergeSort]
  intro a _ b _
  rfl
theorem sortI_length (xs : List Int) : (sortI xs).length = xs.length := List.length_mergeSort _
end Go.Proofs.Ytjffaedlmplcnaa.X

/- Connected nodes, and their labels: plain law. -/
set_option linter.unusedVariables false
namespace Go.Proofs.Ytjffaedlmplcnaa.X
open Go
def Adj (es : List (Int × Int)) (x y : Int) : Prop := (x, y) ∈ es ∨ (y, x) ∈ es
theorem Adj.symm {es : List (Int × Int)} {x y : Int} (h : Adj es x y) : Adj es y x := h.elim .inr .inl
/-- Connected by edges. -/
inductive Conn (es : List (Int × Int)) : Int → Int → Prop
  | refl (x : Int) : Conn es x x
  | step {x y z : Int} (h : Conn es x y) (a : Adj es y z) : Conn es x z
noncomputable instance decConn (es : List (Int × Int)) (x y : Int) : Decidable (Conn es x y) := Classical.propDecidable _
theorem Conn.of {es : List (Int × Int)} {x y : Int} (h : Adj es x y) : Conn es x y := .step (.refl x) h
theorem Conn.trans {es : List (Int × Int)} {x y z : Int} (h : Conn es x y) (k : Conn es y z) : Conn es x z := by
  induction k with
  | refl => exact h
  | step _ a ih => exact .step ih a
theorem Conn.symm {es : List (Int × Int)} {x y : Int} (h : Conn es x y) : Conn es y x := by
  induction h with
  | refl => exact .refl _
  | step _ a ih => exact (Conn.of a.symm).trans ih
theorem Adj.mono {es fs : List (Int × Int)} (hs : ∀ e ∈ es, e ∈ fs) {x y : Int} (h : Adj es x y) : Adj fs x y := h.elim (fun h => .inl (hs _ h)) fun h => .inr (hs _ h)
theorem Conn.mono {es fs : List (Int × Int)} (hs : ∀ e ∈ es, e ∈ fs) {x y : Int} (h : Conn es x y) : Conn fs x y := by
  induction h with
  | refl => exact .refl _
  | step _ a ih => exact .step ih (a.mono hs)
theorem Adj.ok {n : Int} {es : List (Int × Int)} (ho : ∀ e ∈ es, okE n e) {x y : Int} (h : Adj es x y) : 0 ≤ x ∧ x < n ∧ 0 ≤ y ∧ y < n ∧ x ≠ y := by
  rcases h with h | h
  · have := ho _ h; unfold okE at this; simp only at this; omega
  · have := ho _ h; unfold okE at this; simp only at this; omega
theorem Conn.ok {n : Int} {es : List (Int × Int)} (ho : ∀ e ∈ es, okE n e) {x y : Int} (h : Conn es x y) : x = y ∨ (0 ≤ x ∧ x < n ∧ 0 ≤ y ∧ y < n) := by
  induction h with
  | refl => exact .inl rfl
  | step _ a ih =>
    have := a.ok ho
    rcases ih with rfl | ih
    · exact .inr ⟨by omega, by omega, by omega, by omega⟩
    · exact .inr ⟨by omega, by omega, by omega, by omega⟩
/-- What is closed under edges holds of connected nodes alike. -/
theorem Conn.closed {es : List (Int × Int)} {p : Int → Prop} (hp : ∀ x y, Adj es x y → p x → p y) {x y : Int} (h : Conn es x y) (hx : p x) : p y := by
  induction h with
  | refl => exact hx
  | step _ a ih => exact hp _ _ a ih
def Rk (es : List (Int × Int)) (x : Int) : Nat → Int → Prop
  | 0, y => y = x
  | k + 1, y => Rk es x k y ∨ ∃ z, Rk es x k z ∧ Adj es z y
theorem Rk.conn {es : List (Int × Int)} {x : Int} : ∀ {k : Nat} {y : Int}, Rk es x k y → Conn es x y
  | 0, y, h => by cases h; exact .refl _
  | k + 1, y, h => by
    rcases h with h | ⟨z, h, a⟩
    · exact h.conn
    · exact .step h.conn a
theorem Rk.self {es : List (Int × Int)} {x : Int} : ∀ k, Rk es x k x
  | 0 => rfl
  | k + 1 => .inl (Rk.self k)
theorem filter_lt {α : Type} {p q : α → Bool} : ∀ {l : List α}, (∀ x ∈ l, p x = true → q x = true) → (∃ x ∈ l, q x = true ∧ p x = false) → (l.filter p).length < (l.filter q).length
  | [], _, ⟨x, hx, _⟩ => by simp at hx
  | y :: l, h, ⟨x, hx, hq, hp⟩ => by
    have hle : (l.filter p).length ≤ (l.filter q).length := by
      clear hx
      have h' := fun x hx => h x (List.mem_cons_of_mem _ hx)
      clear h
      induction l with
      | nil => simp
      | cons z l ih =>
        have := ih fun x hx => h' x (List.mem_cons_of_mem _ hx)
        simp only [List.filter_cons]
        cases hpz : p z
        · simp only [Bool.false_eq_true, if_false]; split <;> simp <;> omega
        · rw [h' z (by simp) hpz]; simp only [if_true, List.length_cons]; omega
    rcases List.mem_cons.1 hx with rfl | hx
    · simp only [List.filter_cons, hp, hq, Bool.false_eq_true, if_false, if_true, List.length_cons]; omega
    · have ih := filter_lt (l := l) (fun x hx => h x (List.mem_cons_of_mem _ hx)) ⟨x, hx, hq, hp⟩
      simp only [List.filter_cons]
      cases hpz : p y
      · simp only [Bool.false_eq_true, if_false]; split <;> simp <;> omega
      · rw [h y (by simp) hpz]; simp only [if_true, List.length_cons]; omega
open Classical in
theorem Rk.all {n : Nat} {es : List (Int × Int)} (ho : ∀ e ∈ es, okE n e) {x y : Int} (h : Conn es x y) : Rk es x n y := by
  let c := fun k => ((List.range n).filter fun i => decide (Rk es x k (i : Nat))).length
  have key : ∀ k, k + 1 ≤ c k ∨ (∀ y z, Rk es x k y → Adj es y z → Rk es x k z) := by
    intro k
    induction k with
    | zero =>
      by_cases hx : 0 ≤ x ∧ x < n
      · left
        have : x.toNat ∈ (List.range n).filter fun i => decide (Rk es x 0 (i : Nat)) := by
          simp only [List.mem_filter, List.mem_range, decide_eq_true_eq]
          exact ⟨by omega, by show ((x.toNat : Nat) : Int) = x; omega⟩
        have := List.length_pos_of_mem this
        exact this
      · right
        intro y z hy a
        have := a.ok ho
        have hy' : y = x := hy
        omega
    | succ k ih =>
      by_cases hcl : ∀ y z, Rk es x k y → Adj es y z → Rk es x k z
      · right
        intro y z hy a
        have hy' : Rk es x k y := by
          rcases hy with h | ⟨u, h, b⟩
          · exact h
          · exact hcl _ _ h b
        exact .inl (hcl _ _ hy' a)
      · rcases ih with ih | ih
        · left
          have hlt : c k < c (k + 1) := by
            refine filter_lt (fun i _ hi => ?_) ?_
            · simp only [decide_eq_true_eq] at hi ⊢
              exact .inl hi
            · refine byContradiction fun hno => hcl fun y z hy a => byContradiction fun hz => hno ?_
              have := a.ok ho
              refine ⟨z.toNat, List.mem_range.2 (by omega), ?_, ?_⟩
              · simp only [decide_eq_true_eq, Int.toNat_of_nonneg (show 0 ≤ z by omega)]
                exact .inr ⟨y, hy, a⟩
              · simp only [decide_eq_false_iff_not, Int.toNat_of_nonneg (show 0 ≤ z by omega)]
                exact hz
          omega
        · exact absurd ih hcl
  have hn : c n ≤ n := by
    have := List.length_filter_le (fun i => decide (Rk es x n ((i : Nat) : Int))) (List.range n)
    simpa using this
  rcases key n with h1 | h1
  · omega
  · refine h.closed (p := fun y => Rk es x n y) (fun y z a hy => h1 y z hy a) ?_
    exact Rk.self n
open Classical in
noncomputable def least (es : List (Int × Int)) (x : Nat) : Nat := ((List.range (x + 1)).find? fun y => decide (Conn es (y : Nat) (x : Nat))).getD x
theorem least_spec (es : List (Int × Int)) (x : Nat) : least es x ≤ x ∧ Conn es (least es x : Nat) (x : Nat) ∧ ∀ y : Nat, y < least es x → ¬ Conn es (y : Nat) (x : Nat) := by
  unfold least
  cases h : (List.range (x + 1)).find? fun y => @decide (Conn es (y : Nat) (x : Nat)) (Classical.propDecidable _) with
  | none =>
    rw [List.find?_eq_none] at h
    exact absurd (Conn.refl (x : Int)) (by simpa using h x (by simp))
  | some y =>
    rw [List.find?_range_eq_some] at h
    obtain ⟨h1, h2, h3⟩ := h
    simp only [decide_eq_true_eq] at h1
    refine ⟨?_, h1, fun z hz => by simpa using h3 z hz⟩
    have := List.mem_range.1 h2
    simp only [Option.getD_some]; omega
noncomputable def lab (n : Int) (es : List (Int × Int)) : List Int := (List.range n.toNat).map fun x => ((least es x : Nat) : Int)
theorem lab_length (n : Int) (es : List (Int × Int)) : (lab n es).length = n.toNat := by simp [lab]
theorem lab_get {n : Int} {es : List (Int × Int)} {x : Nat} (h : x < n.toNat) : (lab n es).getD x 0 = (least es x : Nat) := by simp [lab, h]
theorem least_conn {es : List (Int × Int)} {x y : Nat} (h : Conn es (x : Nat) (y : Nat)) : least es x = least es y := by
  obtain ⟨h1, h2, h3⟩ := least_spec es x
  obtain ⟨k1, k2, k3⟩ := least_spec es y
  rcases Nat.lt_trichotomy (least es x) (least es y) with e | e | e
  · exact absurd (h2.trans h) (k3 _ e)
  · exact e
  · exact absurd (k2.trans h.symm) (h3 _ e)
theorem least_iff {es : List (Int × Int)} {x y : Nat} : least es x = least es y ↔ Conn es (x : Nat) (y : Nat) := by
  refine ⟨fun h => ?_, least_conn⟩
  have h1 := (least_spec es x).2.1
  have h2 := (least_spec es y).2.1
  rw [h] at h1
  exact h1.symm.trans h2
theorem lab_iff {n : Int} {es : List (Int × Int)} {x y : Int} (hx : 0 ≤ x ∧ x < n) (hy : 0 ≤ y ∧ y < n) : (lab n es).getD x.toNat 0 = (lab n es).getD y.toNat 0 ↔ Conn es x y := by
  rw [lab_get (by omega), lab_get (by omega)]
  have := @least_iff es x.toNat y.toNat
  rw [Int.toNat_of_nonneg hx.1, Int.toNat_of_nonneg hy.1] at this
  rw [← this]; omega
/-- Labels that are of the part, and not above the node. -/
def Snd (n : Int) (es : List (Int × Int)) (out : List Int) : Prop := out.length = n.toNat ∧ ∀ x : Nat, x < n.toNat → ∃ y : Nat, out.getD x 0 = y ∧ y ≤ x ∧ Conn es (y : Nat) (x : Nat)
theorem Snd.ge {n : Int} {es : List (Int × Int)} {out : List Int} (h : Snd n es out) {x : Nat} (hx : x < n.toNat) : (least es x : Nat) ≤ out.getD x 0 := by
  obtain ⟨y, h1, h2, h3⟩ := h.2 x hx
  rw [h1]
  have := (least_spec es x).2.2 y
  refine Int.ofNat_le.2 (Nat.le_of_not_lt fun hl => this hl h3)
theorem lab_ext {n : Int} {es : List (Int × Int)} {out : List Int} (h : Snd n es out) (hle : ∀ x : Nat, x < n.toNat → out.getD x 0 ≤ (least es x : Nat)) : out = lab n es := by
  refine List.ext_getElem (by rw [h.1, lab_length]) fun i h1 h2 => ?_
  have hi : i < n.toNat := by rw [← h.1]; exact h1
  have a := hle i hi
  have b := h.ge hi
  have e1 : out.getD i 0 = out[i] := by simp [h1]
  have e2 : (lab n es).getD i 0 = (lab n es)[i] := by simp [h2]
  rw [← e1, ← e2, lab_get hi]; omega
def stepE (out : List Int) (e : Int × Int) : List Int := (out.set e.1.toNat (min (out.getD e.1.toNat 0) (out.getD e.2.toNat 0))).set e.2.toNat (min (out.getD e.1.toNat 0) (out.getD e.2.toNat 0))
def roundE (es : List (Int × Int)) (out : List Int) : List Int := es.foldl stepE out
def iota (n : Int) : List Int := (List.range n.toNat).map fun x => ((x : Nat) : Int)
def rounds (es : List (Int × Int)) : Nat → List Int → List Int
  | 0, out => out
  | k + 1, out => roundE es (rounds es k out)
theorem getD_set {l : List Int} {i j : Nat} {x d : Int} (h : j < l.length) : (l.set i x).getD j d = if i = j then x else l.getD j d := by
  simp only [List.getD, List.getElem?_set]
  split
  · subst i; simp [h]
  · rfl
theorem stepE_get {n : Int} {out : List Int} {e : Int × Int} (hl : out.length = n.toNat) (ho : okE n e) {x : Nat} (hx : x < n.toNat) :
    (stepE out e).getD x 0 = if x = e.1.toNat ∨ x = e.2.toNat then min (out.getD e.1.toNat 0) (out.getD e.2.toNat 0) else out.getD x 0 := by
  unfold stepE
  rw [getD_set (by simp; omega), getD_set (by omega)]
  by_cases h1 : e.2.toNat = x
  · rw [if_pos h1, if_pos (.inr h1.symm)]
  · rw [if_neg h1]
    by_cases h2 : e.1.toNat = x
    · rw [if_pos h2, if_pos (.inl h2.symm)]
    · rw [if_neg h2, if_neg (by omega)]
theorem stepE_length (out : List Int) (e : Int × Int) : (stepE out e).length = out.length := by simp [stepE]
theorem stepE_le {n : Int} {out : List Int} {e : Int × Int} (hl : out.length = n.toNat) (ho : okE n e) {x : Nat} (hx : x < n.toNat) : (stepE out e).getD x 0 ≤ out.getD x 0 := by
  rw [stepE_get hl ho hx]
  split
  · rename_i h
    rcases h with rfl | rfl <;> omega
  · omega
theorem stepE_snd {n : Int} {es : List (Int × Int)} {out : List Int} {e : Int × Int} (ho : okE n e) (he : e ∈ es) (h : Snd n es out) : Snd n es (stepE out e) := by
  refine ⟨by rw [stepE_length, h.1], fun x hx => ?_⟩
  rw [stepE_get h.1 ho hx]
  have ho' := ho
  unfold okE at ho'
  split
  · rename_i hxe
    obtain ⟨y1, a1, b1, c1⟩ := h.2 e.1.toNat (by omega)
    obtain ⟨y2, a2, b2, c2⟩ := h.2 e.2.toNat (by omega)
    rw [a1, a2]
    rw [Int.toNat_of_nonneg ho'.1] at c1
    rw [Int.toNat_of_nonneg (by omega)] at c2
    have hadj : Conn es e.1 e.2 := .of (.inl he)
    have hc : ∀ y : Nat, Conn es (y : Nat) e.1 → Conn es (y : Nat) (x : Nat) := by
      intro y hy
      rcases hxe with rfl | rfl
      · rw [Int.toNat_of_nonneg ho'.1]; exact hy
      · rw [Int.toNat_of_nonneg (by omega)]; exact hy.trans hadj
    refine ⟨min y1 y2, by omega, by omega, ?_⟩
    rcases Nat.le_total y1 y2 with hle | hle
    · rw [Nat.min_eq_left hle]; exact hc _ c1
    · rw [Nat.min_eq_right hle]; exact hc _ (c2.trans hadj.symm)
  · exact h.2 x hx
theorem roundE_facts {n : Int} {es : List (Int × Int)} : ∀ {fs : List (Int × Int)} {out : List Int}, (∀ e ∈ fs, okE n e) → (∀ e ∈ fs, e ∈ es) → Snd n es out →
    Snd n es (fs.foldl stepE out) ∧ (∀ x : Nat, x < n.toNat → (fs.foldl stepE out).getD x 0 ≤ out.getD x 0) ∧
    ∀ e ∈ fs, (fs.foldl stepE out).getD e.1.toNat 0 ≤ out.getD e.2.toNat 0 ∧ (fs.foldl stepE out).getD e.2.toNat 0 ≤ out.getD e.1.toNat 0
  | [], out, _, _, h => ⟨h, fun _ _ => Int.le_refl _, by simp⟩
  | e :: fs, out, ho, hs, h => by
    have h1 := stepE_snd (ho e (by simp)) (hs e (by simp)) h
    obtain ⟨a, b, c⟩ := roundE_facts (fs := fs) (fun e he => ho e (by simp [he])) (fun e he => hs e (by simp [he])) h1
    simp only [List.foldl_cons]
    refine ⟨a, fun x hx => Int.le_trans (b x hx) (stepE_le h.1 (ho e (by simp)) hx), fun f hf => ?_⟩
    have hf' := ho f hf
    unfold okE at hf'
    rcases List.mem_cons.1 hf with rfl | hf
    · have h2 := b f.1.toNat (by omega)
      have h3 := b f.2.toNat (by omega)
      rw [stepE_get h.1 (ho f (by simp)) (by omega), if_pos (.inl rfl)] at h2
      rw [stepE_get h.1 (ho f (by simp)) (by omega), if_pos (.inr rfl)] at h3
      omega
    · have h2 := c f hf
      have h3 := stepE_le h.1 (ho e (by simp)) (show f.1.toNat < n.toNat by omega)
      have h4 := stepE_le h.1 (ho e (by simp)) (show f.2.toNat < n.toNat by omega)
      omega
theorem iota_snd (n : Int) (es : List (Int × Int)) : Snd n es (iota n) := ⟨by simp [iota], fun x hx => ⟨x, by simp [iota, hx], Nat.le_refl _, .refl _⟩⟩
theorem rounds_snd {n : Int} {es : List (Int × Int)} (ho : ∀ e ∈ es, okE n e) : ∀ k, Snd n es (rounds es k (iota n))
  | 0 => iota_snd n es
  | k + 1 => (roundE_facts ho (fun _ h => h) (rounds_snd ho k)).1
theorem rounds_le {n : Int} {es : List (Int × Int)} (ho : ∀ e ∈ es, okE n e) {r : Nat} (hr : r < n.toNat) : ∀ (k : Nat) {y : Int}, Rk es (r : Nat) k y → 0 ≤ y ∧ y < n ∧ (rounds es k (iota n)).getD y.toNat 0 ≤ (r : Nat)
  | 0, y, h => by
    cases h
    exact ⟨by omega, by omega, by simp [rounds, iota, hr]⟩
  | k + 1, y, h => by
    obtain ⟨-, f2, f3⟩ := roundE_facts ho (fun _ h => h) (rounds_snd ho k)
    rcases h with h | ⟨z, h, a⟩
    · obtain ⟨h1, h2, h3⟩ := rounds_le ho hr k h
      exact ⟨h1, h2, Int.le_trans (f2 _ (by omega)) h3⟩
    · obtain ⟨h1, h2, h3⟩ := rounds_le ho hr k h
      have hok := a.ok ho
      refine ⟨by omega, by omega, ?_⟩
      rcases a with a | a
      · exact Int.le_trans (f3 _ a).2 h3
      · exact Int.le_trans (f3 _ a).1 h3
theorem rounds_lab {n : Int} {es : List (Int × Int)} (ho : ∀ e ∈ es, okE n e) : rounds es n.toNat (iota n) = lab n es := by
  refine lab_ext (rounds_snd ho _) fun x hx => ?_
  obtain ⟨h1, h2, _⟩ := least_spec es x
  have ho' : ∀ e ∈ es, okE ((n.toNat : Nat) : Int) e := fun e he => by have := ho e he; unfold okE at this ⊢; omega
  have := (rounds_le ho (show least es x < n.toNat by omega) n.toNat (Rk.all ho' h2)).2.2
  simpa using this
theorem lab_beq {n : Int} {es : List (Int × Int)} {x y : Int} (hx : 0 ≤ x ∧ x < n) (hy : 0 ≤ y ∧ y < n) : decide ((lab n es).getD x.toNat 0 = (lab n es).getD y.toNat 0) = decide (Conn es x y) :=
  decide_eq_decide.2 (lab_iff hx hy)
theorem sum_nonneg {l : List Int} (h : ∀ x ∈ l, 0 ≤ x) : 0 ≤ l.sum := by
  induction l with
  | nil => simp
  | cons x l ih =>
    have h1 := h x (by simp)
    have h2 := ih fun y hy => h y (by simp [hy])
    simp only [List.sum_cons]; omega
theorem Snd.sum {n : Int} {es : List (Int × Int)} {out : List Int} (h : Snd n es out) : 0 ≤ out.sum := by
  refine sum_nonneg fun x hx => ?_
  obtain ⟨i, hi, rfl⟩ := List.getElem_of_mem hx
  obtain ⟨y, hy, _⟩ := h.2 i (by rw [← h.1]; exact hi)
  have : out.getD i 0 = out[i] := by simp [hi]
  rw [← this, hy]; omega
end Go.Proofs.Ytjffaedlmplcnaa.X
