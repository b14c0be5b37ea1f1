/- What functions compute: blocks, as the reference has them. -/
import Derived.Test.YtdjdgnabcecdlaaGreatDoorKAH
import Derived.Test.YtdjdgnabcecdlaaGreatDoorM16
set_option linter.unusedSimpArgs false
set_option linter.unusedVariables false
set_option maxHeartbeats 8000000
namespace Go.Proofs.YtdjdgnabcecdlaaGreatDoor.X
open Go Go.Proofs
/-- The other node of an edge. -/
def oth (e : Int × Int) (v : Int) : Int := if v = e.1 then e.2 else if v = e.2 then e.1 else -1
theorem near_at {n : Int} {es : List (Int × Int)} {e f : Int × Int} (he : okE n e) (hf : okE n f) : Near es e f ↔ ∃ v, (0 ≤ v ∧ v < n) ∧ 0 ≤ oth e v ∧ 0 ≤ oth f v ∧ oth e v ≠ oth f v ∧ Conn (alone v es) (oth e v) (oth f v) := by
  unfold okE at he hf
  constructor
  · rintro ⟨v, x, y, h1, h2, h3, h4⟩
    have k1 : oth e v = x := by
      unfold oth
      rcases h1 with h1 | h1
      · rw [if_pos h1.1.symm]; exact h1.2
      · rw [if_neg (by omega), if_pos h1.1.symm]; exact h1.2
    have k2 : oth f v = y := by
      unfold oth
      rcases h2 with h2 | h2
      · rw [if_pos h2.1.symm]; exact h2.2
      · rw [if_neg (by omega), if_pos h2.1.symm]; exact h2.2
    refine ⟨v, ?_, ?_, ?_, ?_, ?_⟩
    · omega
    · omega
    · omega
    · rw [k1, k2]; exact h3
    · rw [k1, k2]; exact h4
  · rintro ⟨v, h1, h2, h3, h4, h5⟩
    have k : ∀ e : Int × Int, 0 ≤ oth e v → ((e.1 = v ∧ e.2 = oth e v) ∨ (e.2 = v ∧ e.1 = oth e v)) := fun e h => by
      unfold oth at h ⊢
      split
      · rename_i c; exact .inl ⟨c.symm, rfl⟩
      · rename_i c1
        rw [if_neg c1] at h
        split
        · rename_i c; exact .inr ⟨c.symm, rfl⟩
        · rename_i c; rw [if_neg c] at h; omega
    exact ⟨v, oth e v, oth f v, k e h2, k f h3, h4, h5⟩
theorem oth_lt {n : Int} {e : Int × Int} {v : Int} (he : okE n e) : -1 ≤ oth e v ∧ oth e v < n := by
  unfold okE at he
  unfold oth
  split
  · omega
  · split <;> omega
theorem relK_succ {es : List (Int × Int)} {i k : Int} {q : Int × Int} (h : q ∈ relK es i (k + 1)) : q ∈ relK es i k ∨ (q = (k, i) ∧ Near es (eAt es i) (eAt es k)) := by
  have h1 := mem_relK.1 h
  by_cases c : q.1 = k ∧ q.2 = i
  · refine .inr ⟨Prod.ext c.1 c.2, ?_⟩
    have := mem_relL.1 (show (q.1, q.2) ∈ relL es from h1.1)
    rw [c.1, c.2] at this
    exact this.2.2.2.symm
  · exact .inl (mem_relK.2 ⟨h1.1, by omega⟩)
theorem c_l5Other (a b v : Int) : KP 231 [PE a b, I v] [] = some (I (oth (a, b) v), [], []) := by
  unfold oth
  simp only
  by_cases h1 : v = a
  · rw [if_pos h1]
    refine xw_call (fn := Tryz.f231) rfl Tryz.func231 rfl ⟨Nat.le_of_ble_eq_true rfl, rfl, rfl⟩ ?_
    repeat' (first
      | refine xw_seq ?_
      | refine xw_block ?_
      | (refine ite_two ?_ ?_ <;> intro _ <;> first | (exfalso; omega) | skip)
      | refine ord_split (by kernel_rfl) ?_
      | (refine xw_ret ?_ <;> try simp only [sq, bl, LQ])
      | ((first | refine xw_reg ?_ | refine xw_regd ?_ | refine xw_if ?_ | refine xw_skip ?_ | refine xw_exit ?_ | refine xw_label ?_ | refine post_ret ?_ | refine post_normal ?_ | refine postE_ret ?_ | refine postE_normal ?_ | (((first | refine at_region ?_ | refine at_out ?_ | refine at_cond ?_); split) <;> first | (exfalso; omega; done) | skip)) <;> try simp (config := { maxSteps := 3000000 }) (disch := first | assumption | omega | exact VG.okg (by assumption) | (simp only [List.length_set, List.length_append, List.length_cons, List.length_nil, List.length_replicate]; omega)) only [go_sem, ↓reduceIte, Int.reduceLE, Int.reduceLT, Int.reduceToNat, Int.reduceNeg, Int.reduceAdd, Int.reduceSub, Int.reduceMul, Int.reduceEq, Int.reduceNe, Nat.reduceEqDiff, Nat.reduceAdd, Nat.reduceSub, Nat.reduceMul, Nat.reduceLT, Nat.reduceLeDiff, Nat.reduceBEq, Nat.reduceBNe, UInt8.reduceToNat, Tryz.results231]))
  rw [if_neg h1]
  by_cases h2 : v = b
  · rw [if_pos h2]
    refine xw_call (fn := Tryz.f231) rfl Tryz.func231 rfl ⟨Nat.le_of_ble_eq_true rfl, rfl, rfl⟩ ?_
    repeat' (first
      | refine xw_seq ?_
      | refine xw_block ?_
      | (refine ite_two ?_ ?_ <;> intro _ <;> first | (exfalso; omega) | skip)
      | refine ord_split (by kernel_rfl) ?_
      | (refine xw_ret ?_ <;> try simp only [sq, bl, LQ])
      | ((first | refine xw_reg ?_ | refine xw_regd ?_ | refine xw_if ?_ | refine xw_skip ?_ | refine xw_exit ?_ | refine xw_label ?_ | refine post_ret ?_ | refine post_normal ?_ | refine postE_ret ?_ | refine postE_normal ?_ | (((first | refine at_region ?_ | refine at_out ?_ | refine at_cond ?_); split) <;> first | (exfalso; omega; done) | skip)) <;> try simp (config := { maxSteps := 3000000 }) (disch := first | assumption | omega | exact VG.okg (by assumption) | (simp only [List.length_set, List.length_append, List.length_cons, List.length_nil, List.length_replicate]; omega)) only [go_sem, ↓reduceIte, Int.reduceLE, Int.reduceLT, Int.reduceToNat, Int.reduceNeg, Int.reduceAdd, Int.reduceSub, Int.reduceMul, Int.reduceEq, Int.reduceNe, Nat.reduceEqDiff, Nat.reduceAdd, Nat.reduceSub, Nat.reduceMul, Nat.reduceLT, Nat.reduceLeDiff, Nat.reduceBEq, Nat.reduceBNe, UInt8.reduceToNat, Tryz.results231]))
  rw [if_neg h2]
  refine xw_call (fn := Tryz.f231) rfl Tryz.func231 rfl ⟨Nat.le_of_ble_eq_true rfl, rfl, rfl⟩ ?_
  repeat' (first
    | refine xw_seq ?_
    | refine xw_block ?_
    | (refine ite_two ?_ ?_ <;> intro _ <;> first | (exfalso; omega) | skip)
    | refine ord_split (by kernel_rfl) ?_
    | (refine xw_ret ?_ <;> try simp only [sq, bl, LQ])
    | ((first | refine xw_reg ?_ | refine xw_regd ?_ | refine xw_if ?_ | refine xw_skip ?_ | refine xw_exit ?_ | refine xw_label ?_ | refine post_ret ?_ | refine post_normal ?_ | refine postE_ret ?_ | refine postE_normal ?_ | (((first | refine at_region ?_ | refine at_out ?_ | refine at_cond ?_); split) <;> first | (exfalso; omega; done) | skip)) <;> try simp (config := { maxSteps := 3000000 }) (disch := first | assumption | omega | exact VG.okg (by assumption) | (simp only [List.length_set, List.length_append, List.length_cons, List.length_nil, List.length_replicate]; omega)) only [go_sem, ↓reduceIte, Int.reduceLE, Int.reduceLT, Int.reduceToNat, Int.reduceNeg, Int.reduceAdd, Int.reduceSub, Int.reduceMul, Int.reduceEq, Int.reduceNe, Nat.reduceEqDiff, Nat.reduceAdd, Nat.reduceSub, Nat.reduceMul, Nat.reduceLT, Nat.reduceLeDiff, Nat.reduceBEq, Nat.reduceBNe, UInt8.reduceToNat, Tryz.results231]))
theorem c_l5Cycle (n : Int) (es : List (Int × Int)) (h : OKG n es) (e f : Int × Int) (he : okE n e) (hf : okE n f) : KP 194 [GL n es, PE e.1 e.2, PE f.1 f.2] [] = some (B (decide (Near es e f)), [], []) := by
  have hl := h.len
  have hn0 := h.n0
  have hn1 := h.n1
  refine xw_call (fn := Tryz.f194) rfl Tryz.func194 rfl ⟨Nat.le_of_ble_eq_true rfl, rfl, rfl⟩ ?_
  repeat' (first
    | refine xw_seq ?_
    | refine xw_block ?_
    | (refine ite_two ?_ ?_ <;> intro _ <;> first | (exfalso; omega) | skip)
    | refine ord_split (by kernel_rfl) ?_
    | (refine xw_ret ?_ <;> try simp only [sq, bl, LQ])
    | ((first | refine xw_reg ?_ | refine xw_regd ?_ | refine xw_if ?_ | refine xw_skip ?_ | refine xw_exit ?_ | refine xw_label ?_ | refine post_ret ?_ | refine post_normal ?_ | refine postE_ret ?_ | refine postE_normal ?_ | (((first | refine at_region ?_ | refine at_out ?_ | refine at_cond ?_); split) <;> first | (exfalso; omega; done) | skip)) <;> try simp (config := { maxSteps := 3000000 }) (disch := first | assumption | omega | exact VG.okg (by assumption) | (simp only [List.length_set, List.length_append, List.length_cons, List.length_nil, List.length_replicate]; omega)) only [go_sem, ↓reduceIte, Int.reduceLE, Int.reduceLT, Int.reduceToNat, Int.reduceNeg, Int.reduceAdd, Int.reduceSub, Int.reduceMul, Int.reduceEq, Int.reduceNe, Nat.reduceEqDiff, Nat.reduceAdd, Nat.reduceSub, Nat.reduceMul, Nat.reduceLT, Nat.reduceLeDiff, Nat.reduceBEq, Nat.reduceBNe, UInt8.reduceToNat, Tryz.results194]))
  refine xw_loopR (fun (v : Int) s => s.ρ 3 = .ptr 3 0 0 0 ∧ s.m 3 = some (.box 0 [I n, LE es]) ∧ s.ρ 4 = .ptr 4 0 0 0 ∧ s.m 4 = some (.box 0 [I e.1, I e.2]) ∧ s.ρ 5 = .ptr 5 0 0 0 ∧ s.m 5 = some (.box 0 [I f.1, I f.2]) ∧ s.ρ 7 = I v ∧
    0 ≤ v ∧ v ≤ n ∧ ∀ w, 0 ≤ w ∧ w < v → ¬ (0 ≤ oth e w ∧ 0 ≤ oth f w ∧ oth e w ≠ oth f w ∧ Conn (alone w es) (oth e w) (oth f w))) (fun v => (n - v).toNat) 0 ?_ ?_
  · refine ⟨by simp [upd], by simp [upd], by simp [upd], by simp [upd], by simp [upd], by simp [upd], by simp [upd], by omega, by omega, fun w hw => by omega⟩
  rintro v ⟨ρ, m⟩ ⟨h3, m3, h4, m4, h5, m5, h7, g0, g1, g2⟩
  simp only at h3 m3 h4 m4 h5 m5 h7 g0 g1 g2
  by_cases hv : v < n
  rotate_left
  · have hN : decide (Near es e f) = false := decide_eq_false fun hN => by
      obtain ⟨w, hw, c⟩ := (near_at he hf).1 hN
      exact g2 w ⟨by omega, by omega⟩ c
    rw [hN]
    repeat' (first
      | refine xw_seq ?_
      | refine xw_block ?_
      | (refine ite_two ?_ ?_ <;> intro _ <;> first | (exfalso; omega) | skip)
      | refine ord_split (by kernel_rfl) ?_
      | (refine xw_ret ?_ <;> try simp only [sq, bl, LQ])
      | ((first | refine xw_reg ?_ | refine xw_regd ?_ | refine xw_if ?_ | refine xw_skip ?_ | refine xw_exit ?_ | refine xw_label ?_ | refine post_ret ?_ | refine post_normal ?_ | refine postE_ret ?_ | refine postE_normal ?_ | (((first | refine at_region ?_ | refine at_out ?_ | refine at_cond ?_); split) <;> first | (exfalso; omega; done) | skip)) <;> try simp (config := { maxSteps := 3000000 }) (disch := first | assumption | omega | exact VG.okg (by assumption) | (simp only [List.length_set, List.length_append, List.length_cons, List.length_nil, List.length_replicate]; omega)) only [go_sem, ↓reduceIte, Int.reduceLE, Int.reduceLT, Int.reduceToNat, Int.reduceNeg, Int.reduceAdd, Int.reduceSub, Int.reduceMul, Int.reduceEq, Int.reduceNe, Nat.reduceEqDiff, Nat.reduceAdd, Nat.reduceSub, Nat.reduceMul, Nat.reduceLT, Nat.reduceLeDiff, Nat.reduceBEq, Nat.reduceBNe, UInt8.reduceToNat, Tryz.results194, h3, m3, h4, m4, h5, m5, h7]))
  have ho1 : KP 231 [PE e.1 e.2, I v] [] = some (I (oth e v), [], []) := c_l5Other e.1 e.2 v
  have ho2 : KP 231 [PE f.1 f.2, I v] [] = some (I (oth f v), [], []) := c_l5Other f.1 f.2 v
  have hx := oth_lt (v := v) he
  have hy := oth_lt (v := v) hf
  have hnear := near_at (es := es) he hf
  have hal := c_l1Alone n es v (by omega)
  have hj := fun a b => c_l2Joined n (oth e v) (oth f v) (alone v es) (h.alone v) a b
  have g2n : ¬ (0 ≤ oth e v ∧ 0 ≤ oth f v ∧ oth e v ≠ oth f v ∧ Conn (alone v es) (oth e v) (oth f v)) → ∀ w, 0 ≤ w ∧ w < v + 1 → ¬ (0 ≤ oth e w ∧ 0 ≤ oth f w ∧ oth e w ≠ oth f w ∧ Conn (alone w es) (oth e w) (oth f w)) := fun c w hw => by
    by_cases hwv : w = v
    · rw [hwv]; exact c
    · exact g2 w ⟨hw.1, by omega⟩
  by_cases hc : 0 ≤ oth e v ∧ 0 ≤ oth f v ∧ oth e v ≠ oth f v ∧ Conn (alone v es) (oth e v) (oth f v)
  · have hN : decide (Near es e f) = true := decide_eq_true (hnear.2 ⟨v, ⟨g0, hv⟩, hc⟩)
    rw [hN]
    have hj' := hj ⟨hc.1, hx.2⟩ ⟨hc.2.1, hy.2⟩
    rw [decide_eq_true hc.2.2.2] at hj'
    obtain ⟨c1, c2, c3, -⟩ := hc
    clear hj hnear g2n g2
    generalize oth e v = x at *
    generalize oth f v = y at *
    repeat' (first
      | refine xw_seq ?_
      | refine xw_block ?_
      | (refine ite_two ?_ ?_ <;> intro _ <;> first | (exfalso; omega) | skip)
      | refine ord_split (by kernel_rfl) ?_
      | (refine xw_ret ?_ <;> try simp only [sq, bl, LQ])
      | ((first | refine xw_reg ?_ | refine xw_regd ?_ | refine xw_if ?_ | refine xw_skip ?_ | refine xw_exit ?_ | refine xw_label ?_ | refine post_ret ?_ | refine post_normal ?_ | refine postE_ret ?_ | refine postE_normal ?_ | (((first | refine at_region ?_ | refine at_out ?_ | refine at_cond ?_); split) <;> first | (exfalso; omega; done) | skip)) <;> try simp (config := { maxSteps := 3000000 }) (disch := first | assumption | omega | exact VG.okg (by assumption) | (simp only [List.length_set, List.length_append, List.length_cons, List.length_nil, List.length_replicate]; omega)) only [go_sem, ↓reduceIte, Int.reduceLE, Int.reduceLT, Int.reduceToNat, Int.reduceNeg, Int.reduceAdd, Int.reduceSub, Int.reduceMul, Int.reduceEq, Int.reduceNe, Nat.reduceEqDiff, Nat.reduceAdd, Nat.reduceSub, Nat.reduceMul, Nat.reduceLT, Nat.reduceLeDiff, Nat.reduceBEq, Nat.reduceBNe, UInt8.reduceToNat, Tryz.results194, h3, m3, h4, m4, h5, m5, h7, ho1, ho2, hal, hj']))
  have hg := g2n hc
  by_cases c : 0 ≤ oth e v ∧ 0 ≤ oth f v ∧ oth e v ≠ oth f v
  · have hj' := hj ⟨c.1, hx.2⟩ ⟨c.2.1, hy.2⟩
    rw [decide_eq_false (fun q => hc ⟨c.1, c.2.1, c.2.2, q⟩)] at hj'
    obtain ⟨c1, c2, c3⟩ := c
    clear hj hnear g2n g2 hc
    generalize oth e v = x at ho1 hx hj' c1 c3
    generalize oth f v = y at ho2 hy hj' c2 c3
    repeat' (first
      | refine xw_seq ?_
      | refine xw_block ?_
      | (refine ite_two ?_ ?_ <;> intro _ <;> first | (exfalso; omega) | skip)
      | refine ord_split (by kernel_rfl) ?_
      | (refine xw_ret ?_ <;> try simp only [sq, bl, LQ])
      | ((first | refine xw_reg ?_ | refine xw_regd ?_ | refine xw_if ?_ | refine xw_skip ?_ | refine xw_exit ?_ | refine xw_label ?_ | refine post_ret ?_ | refine post_normal ?_ | refine postE_ret ?_ | refine postE_normal ?_ | (((first | refine at_region ?_ | refine at_out ?_ | refine at_cond ?_); split) <;> first | (exfalso; omega; done) | skip)) <;> try simp (config := { maxSteps := 3000000 }) (disch := first | assumption | omega | exact VG.okg (by assumption) | (simp only [List.length_set, List.length_append, List.length_cons, List.length_nil, List.length_replicate]; omega)) only [go_sem, ↓reduceIte, Int.reduceLE, Int.reduceLT, Int.reduceToNat, Int.reduceNeg, Int.reduceAdd, Int.reduceSub, Int.reduceMul, Int.reduceEq, Int.reduceNe, Nat.reduceEqDiff, Nat.reduceAdd, Nat.reduceSub, Nat.reduceMul, Nat.reduceLT, Nat.reduceLeDiff, Nat.reduceBEq, Nat.reduceBNe, UInt8.reduceToNat, Tryz.results194, h3, m3, h4, m4, h5, m5, h7, ho1, ho2, hal, hj']))
    all_goals exact ⟨by omega, by omega, hg, by omega⟩
  · clear hj hnear g2n g2 hc
    generalize oth e v = x at ho1 hx c
    generalize oth f v = y at ho2 hy c
    repeat' (first
      | refine xw_seq ?_
      | refine xw_block ?_
      | (refine ite_two ?_ ?_ <;> intro _ <;> first | (exfalso; omega) | skip)
      | refine ord_split (by kernel_rfl) ?_
      | (refine xw_ret ?_ <;> try simp only [sq, bl, LQ])
      | ((first | refine xw_reg ?_ | refine xw_regd ?_ | refine xw_if ?_ | refine xw_skip ?_ | refine xw_exit ?_ | refine xw_label ?_ | refine post_ret ?_ | refine post_normal ?_ | refine postE_ret ?_ | refine postE_normal ?_ | (((first | refine at_region ?_ | refine at_out ?_ | refine at_cond ?_); split) <;> first | (exfalso; omega; done) | skip)) <;> try simp (config := { maxSteps := 3000000 }) (disch := first | assumption | omega | exact VG.okg (by assumption) | (simp only [List.length_set, List.length_append, List.length_cons, List.length_nil, List.length_replicate]; omega)) only [go_sem, ↓reduceIte, Int.reduceLE, Int.reduceLT, Int.reduceToNat, Int.reduceNeg, Int.reduceAdd, Int.reduceSub, Int.reduceMul, Int.reduceEq, Int.reduceNe, Nat.reduceEqDiff, Nat.reduceAdd, Nat.reduceSub, Nat.reduceMul, Nat.reduceLT, Nat.reduceLeDiff, Nat.reduceBEq, Nat.reduceBNe, UInt8.reduceToNat, Tryz.results194, h3, m3, h4, m4, h5, m5, h7, ho1, ho2, hal]))
    all_goals exact ⟨by omega, by omega, hg, by omega⟩
end Go.Proofs.YtdjdgnabcecdlaaGreatDoor.X
