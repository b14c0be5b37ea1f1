/- What functions compute: comparing, equality, looking for an edge. -/
import Derived.Test.YtdlfdoicheakoaaC7
set_option linter.unusedSimpArgs false
set_option linter.unusedVariables false
set_option maxHeartbeats 2000000
namespace Go.Proofs.Ytdlfdoicheakoaa.X
open Go Go.Proofs
theorem c_isNaN (a : Int) : KP 122 [I a] [] = some (B false, [], []) := by
  refine xw_call (fn := Try.f122) rfl Try.func122 rfl ⟨Nat.le_of_ble_eq_true rfl, rfl, rfl⟩ ?_
  have h : decide (a = a) = true := by simp
  repeat (first
    | refine xw_seq ?_
    | refine xw_block ?_
    | (refine xw_reg ?_; simp (disch := first | decide | omega) only [go_sem, ↓reduceIte, Int.reduceLE, Int.reduceLT, Int.reduceToNat, Int.reduceNeg, Int.reduceAdd, Int.reduceSub, Int.reduceMul, Int.reduceEq, Int.reduceNe, Nat.reduceEqDiff, Nat.reduceAdd, Nat.reduceSub, Nat.reduceMul, Nat.reduceLT, Nat.reduceLeDiff, Nat.reduceBEq, Nat.reduceBNe, UInt8.reduceToNat, wr, dle, dlt, h])
    | (refine xw_regd ?_; simp (disch := first | decide | omega) only [go_sem, ↓reduceIte, Int.reduceLE, Int.reduceLT, Int.reduceToNat, Int.reduceNeg, Int.reduceAdd, Int.reduceSub, Int.reduceMul, Int.reduceEq, Int.reduceNe, Nat.reduceEqDiff, Nat.reduceAdd, Nat.reduceSub, Nat.reduceMul, Nat.reduceLT, Nat.reduceLeDiff, Nat.reduceBEq, Nat.reduceBNe, UInt8.reduceToNat, wr, dle, dlt, h]; refine ⟨by kernel_rfl, ?_⟩)
    | (refine xw_if ?_; simp (disch := first | decide | omega) only [go_sem, ↓reduceIte, Int.reduceLE, Int.reduceLT, Int.reduceToNat, Int.reduceNeg, Int.reduceAdd, Int.reduceSub, Int.reduceMul, Int.reduceEq, Int.reduceNe, Nat.reduceEqDiff, Nat.reduceAdd, Nat.reduceSub, Nat.reduceMul, Nat.reduceLT, Nat.reduceLeDiff, Nat.reduceBEq, Nat.reduceBNe, UInt8.reduceToNat, wr, dle, dlt, h])
    | (refine xw_skip ?_; simp only [sq, bl])
    | (refine xw_exit ?_; simp only [sq, bl, if_true, if_false, Nat.reduceEqDiff])
    | (refine xw_label ?_; simp only [sq, bl]))
  first | refine xw_ret (post_ret ?_) | refine post_normal ?_ | refine xw_ret (postE_ret ?_) | refine postE_normal ?_
  simp only [go_sem, ↓reduceIte, Int.reduceLE, Int.reduceLT, Int.reduceToNat, Int.reduceNeg, Int.reduceAdd, Int.reduceSub, Int.reduceMul, Int.reduceEq, Int.reduceNe, Nat.reduceEqDiff, Nat.reduceAdd, Nat.reduceSub, Nat.reduceMul, Nat.reduceLT, Nat.reduceLeDiff, Nat.reduceBEq, Nat.reduceBNe, UInt8.reduceToNat, Try.results122, Try.f122, h]
def cmpI (a b : Int) : Int := if a < b then -1 else if b < a then 1 else 0
theorem c_cmpCompare (a b : Int) : KP 108 [I a, I b] [] = some (I (cmpI a b), [], []) := by
  have h1 := c_isNaN a
  have h2 := c_isNaN b
  unfold cmpI
  cases h3 : decide (a < b)
  · cases h4 : decide (b < a)
    · refine xw_call (fn := Try.f108) rfl Try.func108 rfl ⟨Nat.le_of_ble_eq_true rfl, rfl, rfl⟩ ?_
      repeat (first
        | refine xw_seq ?_
        | refine xw_block ?_
        | (refine xw_reg ?_; simp (disch := first | decide | omega) only [go_sem, ↓reduceIte, Int.reduceLE, Int.reduceLT, Int.reduceToNat, Int.reduceNeg, Int.reduceAdd, Int.reduceSub, Int.reduceMul, Int.reduceEq, Int.reduceNe, Nat.reduceEqDiff, Nat.reduceAdd, Nat.reduceSub, Nat.reduceMul, Nat.reduceLT, Nat.reduceLeDiff, Nat.reduceBEq, Nat.reduceBNe, UInt8.reduceToNat, wr, dle, dlt, h1, h2, h3, h4])
        | (refine xw_regd ?_; simp (disch := first | decide | omega) only [go_sem, ↓reduceIte, Int.reduceLE, Int.reduceLT, Int.reduceToNat, Int.reduceNeg, Int.reduceAdd, Int.reduceSub, Int.reduceMul, Int.reduceEq, Int.reduceNe, Nat.reduceEqDiff, Nat.reduceAdd, Nat.reduceSub, Nat.reduceMul, Nat.reduceLT, Nat.reduceLeDiff, Nat.reduceBEq, Nat.reduceBNe, UInt8.reduceToNat, wr, dle, dlt, h1, h2, h3, h4]; refine ⟨by kernel_rfl, ?_⟩)
        | (refine xw_if ?_; simp (disch := first | decide | omega) only [go_sem, ↓reduceIte, Int.reduceLE, Int.reduceLT, Int.reduceToNat, Int.reduceNeg, Int.reduceAdd, Int.reduceSub, Int.reduceMul, Int.reduceEq, Int.reduceNe, Nat.reduceEqDiff, Nat.reduceAdd, Nat.reduceSub, Nat.reduceMul, Nat.reduceLT, Nat.reduceLeDiff, Nat.reduceBEq, Nat.reduceBNe, UInt8.reduceToNat, wr, dle, dlt, h1, h2, h3, h4])
        | (refine xw_skip ?_; simp only [sq, bl])
        | (refine xw_exit ?_; simp only [sq, bl, if_true, if_false, Nat.reduceEqDiff])
        | (refine xw_label ?_; simp only [sq, bl]))
      first | refine xw_ret (post_ret ?_) | refine post_normal ?_ | refine xw_ret (postE_ret ?_) | refine postE_normal ?_
      simp only [go_sem, ↓reduceIte, Int.reduceLE, Int.reduceLT, Int.reduceToNat, Int.reduceNeg, Int.reduceAdd, Int.reduceSub, Int.reduceMul, Int.reduceEq, Int.reduceNe, Nat.reduceEqDiff, Nat.reduceAdd, Nat.reduceSub, Nat.reduceMul, Nat.reduceLT, Nat.reduceLeDiff, Nat.reduceBEq, Nat.reduceBNe, UInt8.reduceToNat, Try.results108, Try.f108]
      simp only [decide_eq_false_iff_not] at h3 h4
      simp [h3, h4]
    · refine xw_call (fn := Try.f108) rfl Try.func108 rfl ⟨Nat.le_of_ble_eq_true rfl, rfl, rfl⟩ ?_
      repeat (first
        | refine xw_seq ?_
        | refine xw_block ?_
        | (refine xw_reg ?_; simp (disch := first | decide | omega) only [go_sem, ↓reduceIte, Int.reduceLE, Int.reduceLT, Int.reduceToNat, Int.reduceNeg, Int.reduceAdd, Int.reduceSub, Int.reduceMul, Int.reduceEq, Int.reduceNe, Nat.reduceEqDiff, Nat.reduceAdd, Nat.reduceSub, Nat.reduceMul, Nat.reduceLT, Nat.reduceLeDiff, Nat.reduceBEq, Nat.reduceBNe, UInt8.reduceToNat, wr, dle, dlt, h1, h2, h3, h4])
        | (refine xw_regd ?_; simp (disch := first | decide | omega) only [go_sem, ↓reduceIte, Int.reduceLE, Int.reduceLT, Int.reduceToNat, Int.reduceNeg, Int.reduceAdd, Int.reduceSub, Int.reduceMul, Int.reduceEq, Int.reduceNe, Nat.reduceEqDiff, Nat.reduceAdd, Nat.reduceSub, Nat.reduceMul, Nat.reduceLT, Nat.reduceLeDiff, Nat.reduceBEq, Nat.reduceBNe, UInt8.reduceToNat, wr, dle, dlt, h1, h2, h3, h4]; refine ⟨by kernel_rfl, ?_⟩)
        | (refine xw_if ?_; simp (disch := first | decide | omega) only [go_sem, ↓reduceIte, Int.reduceLE, Int.reduceLT, Int.reduceToNat, Int.reduceNeg, Int.reduceAdd, Int.reduceSub, Int.reduceMul, Int.reduceEq, Int.reduceNe, Nat.reduceEqDiff, Nat.reduceAdd, Nat.reduceSub, Nat.reduceMul, Nat.reduceLT, Nat.reduceLeDiff, Nat.reduceBEq, Nat.reduceBNe, UInt8.reduceToNat, wr, dle, dlt, h1, h2, h3, h4])
        | (refine xw_skip ?_; simp only [sq, bl])
        | (refine xw_exit ?_; simp only [sq, bl, if_true, if_false, Nat.reduceEqDiff])
        | (refine xw_label ?_; simp only [sq, bl]))
      first | refine xw_ret (post_ret ?_) | refine post_normal ?_ | refine xw_ret (postE_ret ?_) | refine postE_normal ?_
      simp only [go_sem, ↓reduceIte, Int.reduceLE, Int.reduceLT, Int.reduceToNat, Int.reduceNeg, Int.reduceAdd, Int.reduceSub, Int.reduceMul, Int.reduceEq, Int.reduceNe, Nat.reduceEqDiff, Nat.reduceAdd, Nat.reduceSub, Nat.reduceMul, Nat.reduceLT, Nat.reduceLeDiff, Nat.reduceBEq, Nat.reduceBNe, UInt8.reduceToNat, Try.results108, Try.f108]
      simp only [decide_eq_false_iff_not, decide_eq_true_eq] at h3 h4
      simp [h3, h4]
  · refine xw_call (fn := Try.f108) rfl Try.func108 rfl ⟨Nat.le_of_ble_eq_true rfl, rfl, rfl⟩ ?_
    repeat (first
      | refine xw_seq ?_
      | refine xw_block ?_
      | (refine xw_reg ?_; simp (disch := first | decide | omega) only [go_sem, ↓reduceIte, Int.reduceLE, Int.reduceLT, Int.reduceToNat, Int.reduceNeg, Int.reduceAdd, Int.reduceSub, Int.reduceMul, Int.reduceEq, Int.reduceNe, Nat.reduceEqDiff, Nat.reduceAdd, Nat.reduceSub, Nat.reduceMul, Nat.reduceLT, Nat.reduceLeDiff, Nat.reduceBEq, Nat.reduceBNe, UInt8.reduceToNat, wr, dle, dlt, h1, h2, h3])
      | (refine xw_regd ?_; simp (disch := first | decide | omega) only [go_sem, ↓reduceIte, Int.reduceLE, Int.reduceLT, Int.reduceToNat, Int.reduceNeg, Int.reduceAdd, Int.reduceSub, Int.reduceMul, Int.reduceEq, Int.reduceNe, Nat.reduceEqDiff, Nat.reduceAdd, Nat.reduceSub, Nat.reduceMul, Nat.reduceLT, Nat.reduceLeDiff, Nat.reduceBEq, Nat.reduceBNe, UInt8.reduceToNat, wr, dle, dlt, h1, h2, h3]; refine ⟨by kernel_rfl, ?_⟩)
      | (refine xw_if ?_; simp (disch := first | decide | omega) only [go_sem, ↓reduceIte, Int.reduceLE, Int.reduceLT, Int.reduceToNat, Int.reduceNeg, Int.reduceAdd, Int.reduceSub, Int.reduceMul, Int.reduceEq, Int.reduceNe, Nat.reduceEqDiff, Nat.reduceAdd, Nat.reduceSub, Nat.reduceMul, Nat.reduceLT, Nat.reduceLeDiff, Nat.reduceBEq, Nat.reduceBNe, UInt8.reduceToNat, wr, dle, dlt, h1, h2, h3])
      | (refine xw_skip ?_; simp only [sq, bl])
      | (refine xw_exit ?_; simp only [sq, bl, if_true, if_false, Nat.reduceEqDiff])
      | (refine xw_label ?_; simp only [sq, bl]))
    first | refine xw_ret (post_ret ?_) | refine post_normal ?_ | refine xw_ret (postE_ret ?_) | refine postE_normal ?_
    simp only [go_sem, ↓reduceIte, Int.reduceLE, Int.reduceLT, Int.reduceToNat, Int.reduceNeg, Int.reduceAdd, Int.reduceSub, Int.reduceMul, Int.reduceEq, Int.reduceNe, Nat.reduceEqDiff, Nat.reduceAdd, Nat.reduceSub, Nat.reduceMul, Nat.reduceLT, Nat.reduceLeDiff, Nat.reduceBEq, Nat.reduceBNe, UInt8.reduceToNat, Try.results108, Try.f108]
    simp only [decide_eq_true_eq] at h3
    simp [h3]
theorem c_cmpOr (a b : Int) : KP 107 [.i (.lst [[.v (.int .i64 a)], [.v (.int .i64 b)]])] [] = some (I (if a = 0 then b else a), [], []) := by
  cases h1 : decide (a = 0)
  · have ha : a ≠ 0 := by simpa using h1
    refine xw_call (fn := Try.f107) rfl Try.func107 rfl ⟨Nat.le_of_ble_eq_true rfl, rfl, rfl⟩ ?_
    repeat (first
      | refine xw_seq ?_
      | refine xw_block ?_
      | (refine xw_reg ?_; simp (disch := first | decide | omega) only [go_sem, ↓reduceIte, Int.reduceLE, Int.reduceLT, Int.reduceToNat, Int.reduceNeg, Int.reduceAdd, Int.reduceSub, Int.reduceMul, Int.reduceEq, Int.reduceNe, Nat.reduceEqDiff, Nat.reduceAdd, Nat.reduceSub, Nat.reduceMul, Nat.reduceLT, Nat.reduceLeDiff, Nat.reduceBEq, Nat.reduceBNe, UInt8.reduceToNat, wr, dle, dlt, h1])
      | (refine xw_regd ?_; simp (disch := first | decide | omega) only [go_sem, ↓reduceIte, Int.reduceLE, Int.reduceLT, Int.reduceToNat, Int.reduceNeg, Int.reduceAdd, Int.reduceSub, Int.reduceMul, Int.reduceEq, Int.reduceNe, Nat.reduceEqDiff, Nat.reduceAdd, Nat.reduceSub, Nat.reduceMul, Nat.reduceLT, Nat.reduceLeDiff, Nat.reduceBEq, Nat.reduceBNe, UInt8.reduceToNat, wr, dle, dlt, h1]; refine ⟨by kernel_rfl, ?_⟩)
      | (refine xw_if ?_; simp (disch := first | decide | omega) only [go_sem, ↓reduceIte, Int.reduceLE, Int.reduceLT, Int.reduceToNat, Int.reduceNeg, Int.reduceAdd, Int.reduceSub, Int.reduceMul, Int.reduceEq, Int.reduceNe, Nat.reduceEqDiff, Nat.reduceAdd, Nat.reduceSub, Nat.reduceMul, Nat.reduceLT, Nat.reduceLeDiff, Nat.reduceBEq, Nat.reduceBNe, UInt8.reduceToNat, wr, dle, dlt, h1])
      | (refine xw_skip ?_; simp only [sq, bl])
      | (refine xw_exit ?_; simp only [sq, bl, if_true, if_false, Nat.reduceEqDiff])
      | (refine xw_label ?_; simp only [sq, bl]))
    refine xw_loop ?_
    repeat (first
      | refine xw_seq ?_
      | refine xw_block ?_
      | (refine xw_reg ?_; simp (disch := first | decide | omega) only [go_sem, ↓reduceIte, Int.reduceLE, Int.reduceLT, Int.reduceToNat, Int.reduceNeg, Int.reduceAdd, Int.reduceSub, Int.reduceMul, Int.reduceEq, Int.reduceNe, Nat.reduceEqDiff, Nat.reduceAdd, Nat.reduceSub, Nat.reduceMul, Nat.reduceLT, Nat.reduceLeDiff, Nat.reduceBEq, Nat.reduceBNe, UInt8.reduceToNat, wr, dle, dlt, h1])
      | (refine xw_regd ?_; simp (disch := first | decide | omega) only [go_sem, ↓reduceIte, Int.reduceLE, Int.reduceLT, Int.reduceToNat, Int.reduceNeg, Int.reduceAdd, Int.reduceSub, Int.reduceMul, Int.reduceEq, Int.reduceNe, Nat.reduceEqDiff, Nat.reduceAdd, Nat.reduceSub, Nat.reduceMul, Nat.reduceLT, Nat.reduceLeDiff, Nat.reduceBEq, Nat.reduceBNe, UInt8.reduceToNat, wr, dle, dlt, h1]; refine ⟨by kernel_rfl, ?_⟩)
      | (refine xw_if ?_; simp (disch := first | decide | omega) only [go_sem, ↓reduceIte, Int.reduceLE, Int.reduceLT, Int.reduceToNat, Int.reduceNeg, Int.reduceAdd, Int.reduceSub, Int.reduceMul, Int.reduceEq, Int.reduceNe, Nat.reduceEqDiff, Nat.reduceAdd, Nat.reduceSub, Nat.reduceMul, Nat.reduceLT, Nat.reduceLeDiff, Nat.reduceBEq, Nat.reduceBNe, UInt8.reduceToNat, wr, dle, dlt, h1])
      | (refine xw_skip ?_; simp only [sq, bl])
      | (refine xw_exit ?_; simp only [sq, bl, if_true, if_false, Nat.reduceEqDiff])
      | (refine xw_label ?_; simp only [sq, bl]))
    first | refine xw_ret (post_ret ?_) | refine post_normal ?_ | refine xw_ret (postE_ret ?_) | refine postE_normal ?_
    simp only [go_sem, ↓reduceIte, Int.reduceLE, Int.reduceLT, Int.reduceToNat, Int.reduceNeg, Int.reduceAdd, Int.reduceSub, Int.reduceMul, Int.reduceEq, Int.reduceNe, Nat.reduceEqDiff, Nat.reduceAdd, Nat.reduceSub, Nat.reduceMul, Nat.reduceLT, Nat.reduceLeDiff, Nat.reduceBEq, Nat.reduceBNe, UInt8.reduceToNat, Try.results107, Try.f107]
    simp [ha]
  · have ha : a = 0 := by simpa using h1
    cases h2 : decide (b = 0)
    · refine xw_call (fn := Try.f107) rfl Try.func107 rfl ⟨Nat.le_of_ble_eq_true rfl, rfl, rfl⟩ ?_
      repeat (first
        | refine xw_seq ?_
        | refine xw_block ?_
        | (refine xw_reg ?_; simp (disch := first | decide | omega) only [go_sem, ↓reduceIte, Int.reduceLE, Int.reduceLT, Int.reduceToNat, Int.reduceNeg, Int.reduceAdd, Int.reduceSub, Int.reduceMul, Int.reduceEq, Int.reduceNe, Nat.reduceEqDiff, Nat.reduceAdd, Nat.reduceSub, Nat.reduceMul, Nat.reduceLT, Nat.reduceLeDiff, Nat.reduceBEq, Nat.reduceBNe, UInt8.reduceToNat, wr, dle, dlt, h1, h2])
        | (refine xw_regd ?_; simp (disch := first | decide | omega) only [go_sem, ↓reduceIte, Int.reduceLE, Int.reduceLT, Int.reduceToNat, Int.reduceNeg, Int.reduceAdd, Int.reduceSub, Int.reduceMul, Int.reduceEq, Int.reduceNe, Nat.reduceEqDiff, Nat.reduceAdd, Nat.reduceSub, Nat.reduceMul, Nat.reduceLT, Nat.reduceLeDiff, Nat.reduceBEq, Nat.reduceBNe, UInt8.reduceToNat, wr, dle, dlt, h1, h2]; refine ⟨by kernel_rfl, ?_⟩)
        | (refine xw_if ?_; simp (disch := first | decide | omega) only [go_sem, ↓reduceIte, Int.reduceLE, Int.reduceLT, Int.reduceToNat, Int.reduceNeg, Int.reduceAdd, Int.reduceSub, Int.reduceMul, Int.reduceEq, Int.reduceNe, Nat.reduceEqDiff, Nat.reduceAdd, Nat.reduceSub, Nat.reduceMul, Nat.reduceLT, Nat.reduceLeDiff, Nat.reduceBEq, Nat.reduceBNe, UInt8.reduceToNat, wr, dle, dlt, h1, h2])
        | (refine xw_skip ?_; simp only [sq, bl])
        | (refine xw_exit ?_; simp only [sq, bl, if_true, if_false, Nat.reduceEqDiff])
        | (refine xw_label ?_; simp only [sq, bl]))
      refine xw_loop ?_
      repeat (first
        | refine xw_seq ?_
        | refine xw_block ?_
        | (refine xw_reg ?_; simp (disch := first | decide | omega) only [go_sem, ↓reduceIte, Int.reduceLE, Int.reduceLT, Int.reduceToNat, Int.reduceNeg, Int.reduceAdd, Int.reduceSub, Int.reduceMul, Int.reduceEq, Int.reduceNe, Nat.reduceEqDiff, Nat.reduceAdd, Nat.reduceSub, Nat.reduceMul, Nat.reduceLT, Nat.reduceLeDiff, Nat.reduceBEq, Nat.reduceBNe, UInt8.reduceToNat, wr, dle, dlt, h1, h2])
        | (refine xw_regd ?_; simp (disch := first | decide | omega) only [go_sem, ↓reduceIte, Int.reduceLE, Int.reduceLT, Int.reduceToNat, Int.reduceNeg, Int.reduceAdd, Int.reduceSub, Int.reduceMul, Int.reduceEq, Int.reduceNe, Nat.reduceEqDiff, Nat.reduceAdd, Nat.reduceSub, Nat.reduceMul, Nat.reduceLT, Nat.reduceLeDiff, Nat.reduceBEq, Nat.reduceBNe, UInt8.reduceToNat, wr, dle, dlt, h1, h2]; refine ⟨by kernel_rfl, ?_⟩)
        | (refine xw_if ?_; simp (disch := first | decide | omega) only [go_sem, ↓reduceIte, Int.reduceLE, Int.reduceLT, Int.reduceToNat, Int.reduceNeg, Int.reduceAdd, Int.reduceSub, Int.reduceMul, Int.reduceEq, Int.reduceNe, Nat.reduceEqDiff, Nat.reduceAdd, Nat.reduceSub, Nat.reduceMul, Nat.reduceLT, Nat.reduceLeDiff, Nat.reduceBEq, Nat.reduceBNe, UInt8.reduceToNat, wr, dle, dlt, h1, h2])
        | (refine xw_skip ?_; simp only [sq, bl])
        | (refine xw_exit ?_; simp only [sq, bl, if_true, if_false, Nat.reduceEqDiff])
        | (refine xw_label ?_; simp only [sq, bl]))
      refine xw_loop ?_
      repeat (first
        | refine xw_seq ?_
        | refine xw_block ?_
        | (refine xw_reg ?_; simp (disch := first | decide | omega) only [go_sem, ↓reduceIte, Int.reduceLE, Int.reduceLT, Int.reduceToNat, Int.reduceNeg, Int.reduceAdd, Int.reduceSub, Int.reduceMul, Int.reduceEq, Int.reduceNe, Nat.reduceEqDiff, Nat.reduceAdd, Nat.reduceSub, Nat.reduceMul, Nat.reduceLT, Nat.reduceLeDiff, Nat.reduceBEq, Nat.reduceBNe, UInt8.reduceToNat, wr, dle, dlt, h1, h2])
        | (refine xw_regd ?_; simp (disch := first | decide | omega) only [go_sem, ↓reduceIte, Int.reduceLE, Int.reduceLT, Int.reduceToNat, Int.reduceNeg, Int.reduceAdd, Int.reduceSub, Int.reduceMul, Int.reduceEq, Int.reduceNe, Nat.reduceEqDiff, Nat.reduceAdd, Nat.reduceSub, Nat.reduceMul, Nat.reduceLT, Nat.reduceLeDiff, Nat.reduceBEq, Nat.reduceBNe, UInt8.reduceToNat, wr, dle, dlt, h1, h2]; refine ⟨by kernel_rfl, ?_⟩)
        | (refine xw_if ?_; simp (disch := first | decide | omega) only [go_sem, ↓reduceIte, Int.reduceLE, Int.reduceLT, Int.reduceToNat, Int.reduceNeg, Int.reduceAdd, Int.reduceSub, Int.reduceMul, Int.reduceEq, Int.reduceNe, Nat.reduceEqDiff, Nat.reduceAdd, Nat.reduceSub, Nat.reduceMul, Nat.reduceLT, Nat.reduceLeDiff, Nat.reduceBEq, Nat.reduceBNe, UInt8.reduceToNat, wr, dle, dlt, h1, h2])
        | (refine xw_skip ?_; simp only [sq, bl])
        | (refine xw_exit ?_; simp only [sq, bl, if_true, if_false, Nat.reduceEqDiff])
        | (refine xw_label ?_; simp only [sq, bl]))
      first | refine xw_ret (post_ret ?_) | refine post_normal ?_ | refine xw_ret (postE_ret ?_) | refine postE_normal ?_
      simp only [go_sem, ↓reduceIte, Int.reduceLE, Int.reduceLT, Int.reduceToNat, Int.reduceNeg, Int.reduceAdd, Int.reduceSub, Int.reduceMul, Int.reduceEq, Int.reduceNe, Nat.reduceEqDiff, Nat.reduceAdd, Nat.reduceSub, Nat.reduceMul, Nat.reduceLT, Nat.reduceLeDiff, Nat.reduceBEq, Nat.reduceBNe, UInt8.reduceToNat, Try.results107, Try.f107]
      simp [ha]
    · refine xw_call (fn := Try.f107) rfl Try.func107 rfl ⟨Nat.le_of_ble_eq_true rfl, rfl, rfl⟩ ?_
      repeat (first
        | refine xw_seq ?_
        | refine xw_block ?_
        | (refine xw_reg ?_; simp (disch := first | decide | omega) only [go_sem, ↓reduceIte, Int.reduceLE, Int.reduceLT, Int.reduceToNat, Int.reduceNeg, Int.reduceAdd, Int.reduceSub, Int.reduceMul, Int.reduceEq, Int.reduceNe, Nat.reduceEqDiff, Nat.reduceAdd, Nat.reduceSub, Nat.reduceMul, Nat.reduceLT, Nat.reduceLeDiff, Nat.reduceBEq, Nat.reduceBNe, UInt8.reduceToNat, wr, dle, dlt, h1, h2])
        | (refine xw_regd ?_; simp (disch := first | decide | omega) only [go_sem, ↓reduceIte, Int.reduceLE, Int.reduceLT, Int.reduceToNat, Int.reduceNeg, Int.reduceAdd, Int.reduceSub, Int.reduceMul, Int.reduceEq, Int.reduceNe, Nat.reduceEqDiff, Nat.reduceAdd, Nat.reduceSub, Nat.reduceMul, Nat.reduceLT, Nat.reduceLeDiff, Nat.reduceBEq, Nat.reduceBNe, UInt8.reduceToNat, wr, dle, dlt, h1, h2]; refine ⟨by kernel_rfl, ?_⟩)
        | (refine xw_if ?_; simp (disch := first | decide | omega) only [go_sem, ↓reduceIte, Int.reduceLE, Int.reduceLT, Int.reduceToNat, Int.reduceNeg, Int.reduceAdd, Int.reduceSub, Int.reduceMul, Int.reduceEq, Int.reduceNe, Nat.reduceEqDiff, Nat.reduceAdd, Nat.reduceSub, Nat.reduceMul, Nat.reduceLT, Nat.reduceLeDiff, Nat.reduceBEq, Nat.reduceBNe, UInt8.reduceToNat, wr, dle, dlt, h1, h2])
        | (refine xw_skip ?_; simp only [sq, bl])
        | (refine xw_exit ?_; simp only [sq, bl, if_true, if_false, Nat.reduceEqDiff])
        | (refine xw_label ?_; simp only [sq, bl]))
      refine xw_loop ?_
      repeat (first
        | refine xw_seq ?_
        | refine xw_block ?_
        | (refine xw_reg ?_; simp (disch := first | decide | omega) only [go_sem, ↓reduceIte, Int.reduceLE, Int.reduceLT, Int.reduceToNat, Int.reduceNeg, Int.reduceAdd, Int.reduceSub, Int.reduceMul, Int.reduceEq, Int.reduceNe, Nat.reduceEqDiff, Nat.reduceAdd, Nat.reduceSub, Nat.reduceMul, Nat.reduceLT, Nat.reduceLeDiff, Nat.reduceBEq, Nat.reduceBNe, UInt8.reduceToNat, wr, dle, dlt, h1, h2])
        | (refine xw_regd ?_; simp (disch := first | decide | omega) only [go_sem, ↓reduceIte, Int.reduceLE, Int.reduceLT, Int.reduceToNat, Int.reduceNeg, Int.reduceAdd, Int.reduceSub, Int.reduceMul, Int.reduceEq, Int.reduceNe, Nat.reduceEqDiff, Nat.reduceAdd, Nat.reduceSub, Nat.reduceMul, Nat.reduceLT, Nat.reduceLeDiff, Nat.reduceBEq, Nat.reduceBNe, UInt8.reduceToNat, wr, dle, dlt, h1, h2]; refine ⟨by kernel_rfl, ?_⟩)
        | (refine xw_if ?_; simp (disch := first | decide | omega) only [go_sem, ↓reduceIte, Int.reduceLE, Int.reduceLT, Int.reduceToNat, Int.reduceNeg, Int.reduceAdd, Int.reduceSub, Int.reduceMul, Int.reduceEq, Int.reduceNe, Nat.reduceEqDiff, Nat.reduceAdd, Nat.reduceSub, Nat.reduceMul, Nat.reduceLT, Nat.reduceLeDiff, Nat.reduceBEq, Nat.reduceBNe, UInt8.reduceToNat, wr, dle, dlt, h1, h2])
        | (refine xw_skip ?_; simp only [sq, bl])
        | (refine xw_exit ?_; simp only [sq, bl, if_true, if_false, Nat.reduceEqDiff])
        | (refine xw_label ?_; simp only [sq, bl]))
      refine xw_loop ?_
      repeat (first
        | refine xw_seq ?_
        | refine xw_block ?_
        | (refine xw_reg ?_; simp (disch := first | decide | omega) only [go_sem, ↓reduceIte, Int.reduceLE, Int.reduceLT, Int.reduceToNat, Int.reduceNeg, Int.reduceAdd, Int.reduceSub, Int.reduceMul, Int.reduceEq, Int.reduceNe, Nat.reduceEqDiff, Nat.reduceAdd, Nat.reduceSub, Nat.reduceMul, Nat.reduceLT, Nat.reduceLeDiff, Nat.reduceBEq, Nat.reduceBNe, UInt8.reduceToNat, wr, dle, dlt, h1, h2])
        | (refine xw_regd ?_; simp (disch := first | decide | omega) only [go_sem, ↓reduceIte, Int.reduceLE, Int.reduceLT, Int.reduceToNat, Int.reduceNeg, Int.reduceAdd, Int.reduceSub, Int.reduceMul, Int.reduceEq, Int.reduceNe, Nat.reduceEqDiff, Nat.reduceAdd, Nat.reduceSub, Nat.reduceMul, Nat.reduceLT, Nat.reduceLeDiff, Nat.reduceBEq, Nat.reduceBNe, UInt8.reduceToNat, wr, dle, dlt, h1, h2]; refine ⟨by kernel_rfl, ?_⟩)
        | (refine xw_if ?_; simp (disch := first | decide | omega) only [go_sem, ↓reduceIte, Int.reduceLE, Int.reduceLT, Int.reduceToNat, Int.reduceNeg, Int.reduceAdd, Int.reduceSub, Int.reduceMul, Int.reduceEq, Int.reduceNe, Nat.reduceEqDiff, Nat.reduceAdd, Nat.reduceSub, Nat.reduceMul, Nat.reduceLT, Nat.reduceLeDiff, Nat.reduceBEq, Nat.reduceBNe, UInt8.reduceToNat, wr, dle, dlt, h1, h2])
        | (refine xw_skip ?_; simp only [sq, bl])
        | (refine xw_exit ?_; simp only [sq, bl, if_true, if_false, Nat.reduceEqDiff])
        | (refine xw_label ?_; simp only [sq, bl]))
      refine xw_loop ?_
      repeat (first
        | refine xw_seq ?_
        | refine xw_block ?_
        | (refine xw_reg ?_; simp (disch := first | decide | omega) only [go_sem, ↓reduceIte, Int.reduceLE, Int.reduceLT, Int.reduceToNat, Int.reduceNeg, Int.reduceAdd, Int.reduceSub, Int.reduceMul, Int.reduceEq, Int.reduceNe, Nat.reduceEqDiff, Nat.reduceAdd, Nat.reduceSub, Nat.reduceMul, Nat.reduceLT, Nat.reduceLeDiff, Nat.reduceBEq, Nat.reduceBNe, UInt8.reduceToNat, wr, dle, dlt, h1, h2])
        | (refine xw_regd ?_; simp (disch := first | decide | omega) only [go_sem, ↓reduceIte, Int.reduceLE, Int.reduceLT, Int.reduceToNat, Int.reduceNeg, Int.reduceAdd, Int.reduceSub, Int.reduceMul, Int.reduceEq, Int.reduceNe, Nat.reduceEqDiff, Nat.reduceAdd, Nat.reduceSub, Nat.reduceMul, Nat.reduceLT, Nat.reduceLeDiff, Nat.reduceBEq, Nat.reduceBNe, UInt8.reduceToNat, wr, dle, dlt, h1, h2]; refine ⟨by kernel_rfl, ?_⟩)
        | (refine xw_if ?_; simp (disch := first | decide | omega) only [go_sem, ↓reduceIte, Int.reduceLE, Int.reduceLT, Int.reduceToNat, Int.reduceNeg, Int.reduceAdd, Int.reduceSub, Int.reduceMul, Int.reduceEq, Int.reduceNe, Nat.reduceEqDiff, Nat.reduceAdd, Nat.reduceSub, Nat.reduceMul, Nat.reduceLT, Nat.reduceLeDiff, Nat.reduceBEq, Nat.reduceBNe, UInt8.reduceToNat, wr, dle, dlt, h1, h2])
        | (refine xw_skip ?_; simp only [sq, bl])
        | (refine xw_exit ?_; simp only [sq, bl, if_true, if_false, Nat.reduceEqDiff])
        | (refine xw_label ?_; simp only [sq, bl]))
      first | refine xw_ret (post_ret ?_) | refine post_normal ?_ | refine xw_ret (postE_ret ?_) | refine postE_normal ?_
      simp only [go_sem, ↓reduceIte, Int.reduceLE, Int.reduceLT, Int.reduceToNat, Int.reduceNeg, Int.reduceAdd, Int.reduceSub, Int.reduceMul, Int.reduceEq, Int.reduceNe, Nat.reduceEqDiff, Nat.reduceAdd, Nat.reduceSub, Nat.reduceMul, Nat.reduceLT, Nat.reduceLeDiff, Nat.reduceBEq, Nat.reduceBNe, UInt8.reduceToNat, Try.results107, Try.f107]
      have hb : b = 0 := by simpa using h2
      simp [ha, hb]
def cmpE (a b c d : Int) : Int := if cmpI a c = 0 then cmpI b d else cmpI a c
theorem cmpE_less {a b c d : Int} : 0 ≤ cmpE a b c d ↔ lessE (a, b) (c, d) = false := by
  have : lessE (a, b) (c, d) = false ↔ ¬ (a < c ∨ a = c ∧ b < d) := by simp [lessE]
  rw [this]
  unfold cmpE cmpI
  split <;> split <;> (try split) <;> (try split) <;> omega
theorem c_compareEdges (a b c d : Int) : KP 74 [PE a b, PE c d] [] = some (I (cmpE a b c d), [], []) := by
  have h1 := c_cmpCompare a c
  have h2 := c_cmpCompare b d
  have h3 := c_cmpOr (cmpI a c) (cmpI b d)
  refine xw_call (fn := Try.f74) rfl Try.func74 rfl ⟨Nat.le_of_ble_eq_true rfl, rfl, rfl⟩ ?_
  repeat (first
    | refine xw_seq ?_
    | refine xw_block ?_
    | (refine xw_reg ?_; simp (disch := first | decide | omega) only [go_sem, ↓reduceIte, Int.reduceLE, Int.reduceLT, Int.reduceToNat, Int.reduceNeg, Int.reduceAdd, Int.reduceSub, Int.reduceMul, Int.reduceEq, Int.reduceNe, Nat.reduceEqDiff, Nat.reduceAdd, Nat.reduceSub, Nat.reduceMul, Nat.reduceLT, Nat.reduceLeDiff, Nat.reduceBEq, Nat.reduceBNe, UInt8.reduceToNat, wr, dle, dlt, h1, h2, h3])
    | (refine xw_regd ?_; simp (disch := first | decide | omega) only [go_sem, ↓reduceIte, Int.reduceLE, Int.reduceLT, Int.reduceToNat, Int.reduceNeg, Int.reduceAdd, Int.reduceSub, Int.reduceMul, Int.reduceEq, Int.reduceNe, Nat.reduceEqDiff, Nat.reduceAdd, Nat.reduceSub, Nat.reduceMul, Nat.reduceLT, Nat.reduceLeDiff, Nat.reduceBEq, Nat.reduceBNe, UInt8.reduceToNat, wr, dle, dlt, h1, h2, h3]; refine ⟨by kernel_rfl, ?_⟩)
    | (refine xw_if ?_; simp (disch := first | decide | omega) only [go_sem, ↓reduceIte, Int.reduceLE, Int.reduceLT, Int.reduceToNat, Int.reduceNeg, Int.reduceAdd, Int.reduceSub, Int.reduceMul, Int.reduceEq, Int.reduceNe, Nat.reduceEqDiff, Nat.reduceAdd, Nat.reduceSub, Nat.reduceMul, Nat.reduceLT, Nat.reduceLeDiff, Nat.reduceBEq, Nat.reduceBNe, UInt8.reduceToNat, wr, dle, dlt, h1, h2, h3])
    | (refine xw_skip ?_; simp only [sq, bl])
    | (refine xw_exit ?_; simp only [sq, bl, if_true, if_false, Nat.reduceEqDiff])
    | (refine xw_label ?_; simp only [sq, bl]))
  first | refine xw_ret (post_ret ?_) | refine post_normal ?_ | refine xw_ret (postE_ret ?_) | refine postE_normal ?_
  simp only [go_sem, ↓reduceIte, Int.reduceLE, Int.reduceLT, Int.reduceToNat, Int.reduceNeg, Int.reduceAdd, Int.reduceSub, Int.reduceMul, Int.reduceEq, Int.reduceNe, Nat.reduceEqDiff, Nat.reduceAdd, Nat.reduceSub, Nat.reduceMul, Nat.reduceLT, Nat.reduceLeDiff, Nat.reduceBEq, Nat.reduceBNe, UInt8.reduceToNat, Try.results74, Try.f74]
  rfl
theorem c_equalE (xs ys : List (Int × Int)) (hl : xs.length ≤ 1048576) : KP 45 [LE xs, LE ys] [] = some (B (decide (xs = ys)), [], []) := by
  refine xw_call (fn := Try.f45) rfl Try.func45 rfl ⟨Nat.le_of_ble_eq_true rfl, rfl, rfl⟩ ?_
  cases h1 : decide ((xs.length : Int) = ys.length)
  · repeat (first
      | refine xw_seq ?_
      | refine xw_block ?_
      | (refine xw_reg ?_; simp (disch := first | decide | omega) only [go_sem, ↓reduceIte, Int.reduceLE, Int.reduceLT, Int.reduceToNat, Int.reduceNeg, Int.reduceAdd, Int.reduceSub, Int.reduceMul, Int.reduceEq, Int.reduceNe, Nat.reduceEqDiff, Nat.reduceAdd, Nat.reduceSub, Nat.reduceMul, Nat.reduceLT, Nat.reduceLeDiff, Nat.reduceBEq, Nat.reduceBNe, UInt8.reduceToNat, wr, dle, dlt, h1])
      | (refine xw_regd ?_; simp (disch := first | decide | omega) only [go_sem, ↓reduceIte, Int.reduceLE, Int.reduceLT, Int.reduceToNat, Int.reduceNeg, Int.reduceAdd, Int.reduceSub, Int.reduceMul, Int.reduceEq, Int.reduceNe, Nat.reduceEqDiff, Nat.reduceAdd, Nat.reduceSub, Nat.reduceMul, Nat.reduceLT, Nat.reduceLeDiff, Nat.reduceBEq, Nat.reduceBNe, UInt8.reduceToNat, wr, dle, dlt, h1]; refine ⟨by kernel_rfl, ?_⟩)
      | (refine xw_if ?_; simp (disch := first | decide | omega) only [go_sem, ↓reduceIte, Int.reduceLE, Int.reduceLT, Int.reduceToNat, Int.reduceNeg, Int.reduceAdd, Int.reduceSub, Int.reduceMul, Int.reduceEq, Int.reduceNe, Nat.reduceEqDiff, Nat.reduceAdd, Nat.reduceSub, Nat.reduceMul, Nat.reduceLT, Nat.reduceLeDiff, Nat.reduceBEq, Nat.reduceBNe, UInt8.reduceToNat, wr, dle, dlt, h1])
      | (refine xw_skip ?_; simp only [sq, bl])
      | (refine xw_exit ?_; simp only [sq, bl, if_true, if_false, Nat.reduceEqDiff])
      | (refine xw_label ?_; simp only [sq, bl]))
    first | refine xw_ret (post_ret ?_) | refine post_normal ?_ | refine xw_ret (postE_ret ?_) | refine postE_normal ?_
    simp only [go_sem, ↓reduceIte, Int.reduceLE, Int.reduceLT, Int.reduceToNat, Int.reduceNeg, Int.reduceAdd, Int.reduceSub, Int.reduceMul, Int.reduceEq, Int.reduceNe, Nat.reduceEqDiff, Nat.reduceAdd, Nat.reduceSub, Nat.reduceMul, Nat.reduceLT, Nat.reduceLeDiff, Nat.reduceBEq, Nat.reduceBNe, UInt8.reduceToNat, Try.results45, Try.f45]
    have : xs ≠ ys := fun h => by rw [h] at h1; simp at h1
    simp [this]
  · have hlen : xs.length = ys.length := by simp only [decide_eq_true_eq] at h1; omega
    repeat (first
      | refine xw_seq ?_
      | refine xw_block ?_
      | (refine xw_reg ?_; simp (disch := first | decide | omega) only [go_sem, ↓reduceIte, Int.reduceLE, Int.reduceLT, Int.reduceToNat, Int.reduceNeg, Int.reduceAdd, Int.reduceSub, Int.reduceMul, Int.reduceEq, Int.reduceNe, Nat.reduceEqDiff, Nat.reduceAdd, Nat.reduceSub, Nat.reduceMul, Nat.reduceLT, Nat.reduceLeDiff, Nat.reduceBEq, Nat.reduceBNe, UInt8.reduceToNat, wr, dle, dlt, h1])
      | (refine xw_regd ?_; simp (disch := first | decide | omega) only [go_sem, ↓reduceIte, Int.reduceLE, Int.reduceLT, Int.reduceToNat, Int.reduceNeg, Int.reduceAdd, Int.reduceSub, Int.reduceMul, Int.reduceEq, Int.reduceNe, Nat.reduceEqDiff, Nat.reduceAdd, Nat.reduceSub, Nat.reduceMul, Nat.reduceLT, Nat.reduceLeDiff, Nat.reduceBEq, Nat.reduceBNe, UInt8.reduceToNat, wr, dle, dlt, h1]; refine ⟨by kernel_rfl, ?_⟩)
      | (refine xw_if ?_; simp (disch := first | decide | omega) only [go_sem, ↓reduceIte, Int.reduceLE, Int.reduceLT, Int.reduceToNat, Int.reduceNeg, Int.reduceAdd, Int.reduceSub, Int.reduceMul, Int.reduceEq, Int.reduceNe, Nat.reduceEqDiff, Nat.reduceAdd, Nat.reduceSub, Nat.reduceMul, Nat.reduceLT, Nat.reduceLeDiff, Nat.reduceBEq, Nat.reduceBNe, UInt8.reduceToNat, wr, dle, dlt, h1])
      | (refine xw_skip ?_; simp only [sq, bl])
      | (refine xw_exit ?_; simp only [sq, bl, if_true, if_false, Nat.reduceEqDiff])
      | (refine xw_label ?_; simp only [sq, bl]))
    refine xw_loop_count (fun k s => ∃ i : Nat, k = xs.length - i ∧ i ≤ xs.length ∧ xs.take i = ys.take i ∧ s.ρ 0 = LE xs ∧ s.ρ 1 = LE ys ∧ s.ρ 12 = I xs.length ∧ s.ρ 13 = I i) ?_ xs.length _ ⟨0, by simp, by simp, by simp, rfl, rfl, rfl, rfl⟩
    rintro k ⟨ρ, m⟩ ⟨i, rfl, hi, ht, r0, r1, r12, r13⟩
    simp only at r0 r1 r12 r13
    cases hc : decide ((i : Int) < xs.length)
    · repeat (first
        | refine xw_seq ?_
        | refine xw_block ?_
        | (refine xw_reg ?_; simp (disch := first | decide | omega) only [go_sem, ↓reduceIte, Int.reduceLE, Int.reduceLT, Int.reduceToNat, Int.reduceNeg, Int.reduceAdd, Int.reduceSub, Int.reduceMul, Int.reduceEq, Int.reduceNe, Nat.reduceEqDiff, Nat.reduceAdd, Nat.reduceSub, Nat.reduceMul, Nat.reduceLT, Nat.reduceLeDiff, Nat.reduceBEq, Nat.reduceBNe, UInt8.reduceToNat, wr, dle, dlt, r0, r1, r12, r13, hc])
        | (refine xw_regd ?_; simp (disch := first | decide | omega) only [go_sem, ↓reduceIte, Int.reduceLE, Int.reduceLT, Int.reduceToNat, Int.reduceNeg, Int.reduceAdd, Int.reduceSub, Int.reduceMul, Int.reduceEq, Int.reduceNe, Nat.reduceEqDiff, Nat.reduceAdd, Nat.reduceSub, Nat.reduceMul, Nat.reduceLT, Nat.reduceLeDiff, Nat.reduceBEq, Nat.reduceBNe, UInt8.reduceToNat, wr, dle, dlt, r0, r1, r12, r13, hc]; refine ⟨by kernel_rfl, ?_⟩)
        | (refine xw_if ?_; simp (disch := first | decide | omega) only [go_sem, ↓reduceIte, Int.reduceLE, Int.reduceLT, Int.reduceToNat, Int.reduceNeg, Int.reduceAdd, Int.reduceSub, Int.reduceMul, Int.reduceEq, Int.reduceNe, Nat.reduceEqDiff, Nat.reduceAdd, Nat.reduceSub, Nat.reduceMul, Nat.reduceLT, Nat.reduceLeDiff, Nat.reduceBEq, Nat.reduceBNe, UInt8.reduceToNat, wr, dle, dlt, r0, r1, r12, r13, hc])
        | (refine xw_skip ?_; simp only [sq, bl])
        | (refine xw_exit ?_; simp only [sq, bl, if_true, if_false, Nat.reduceEqDiff])
        | (refine xw_label ?_; simp only [sq, bl]))
      first | refine xw_ret (post_ret ?_) | refine post_normal ?_ | refine xw_ret (postE_ret ?_) | refine postE_normal ?_
      simp only [go_sem, ↓reduceIte, Int.reduceLE, Int.reduceLT, Int.reduceToNat, Int.reduceNeg, Int.reduceAdd, Int.reduceSub, Int.reduceMul, Int.reduceEq, Int.reduceNe, Nat.reduceEqDiff, Nat.reduceAdd, Nat.reduceSub, Nat.reduceMul, Nat.reduceLT, Nat.reduceLeDiff, Nat.reduceBEq, Nat.reduceBNe, UInt8.reduceToNat, Try.results45, Try.f45]
      simp only [decide_eq_false_iff_not] at hc
      rw [List.take_of_length_le (by omega), List.take_of_length_le (by omega)] at ht
      simp [ht]
    · simp only [decide_eq_true_eq] at hc
      obtain ⟨⟨u, v⟩, he⟩ : ∃ e, xs[i]? = some e := ⟨xs[i]'(by omega), by simp⟩
      obtain ⟨⟨x, y⟩, hf⟩ : ∃ e, ys[i]? = some e := ⟨ys[i]'(by omega), by simp⟩
      cases hq : decide (u = x ∧ v = y)
      · repeat (first
          | refine xw_seq ?_
          | refine xw_block ?_
          | (refine xw_reg ?_; simp (disch := first | decide | omega) only [go_sem, ↓reduceIte, Int.reduceLE, Int.reduceLT, Int.reduceToNat, Int.reduceNeg, Int.reduceAdd, Int.reduceSub, Int.reduceMul, Int.reduceEq, Int.reduceNe, Nat.reduceEqDiff, Nat.reduceAdd, Nat.reduceSub, Nat.reduceMul, Nat.reduceLT, Nat.reduceLeDiff, Nat.reduceBEq, Nat.reduceBNe, UInt8.reduceToNat, wr, dle, dlt, r0, r1, r12, r13, hc, he, hf, hq, encE, List.getElem?_map])
          | (refine xw_regd ?_; simp (disch := first | decide | omega) only [go_sem, ↓reduceIte, Int.reduceLE, Int.reduceLT, Int.reduceToNat, Int.reduceNeg, Int.reduceAdd, Int.reduceSub, Int.reduceMul, Int.reduceEq, Int.reduceNe, Nat.reduceEqDiff, Nat.reduceAdd, Nat.reduceSub, Nat.reduceMul, Nat.reduceLT, Nat.reduceLeDiff, Nat.reduceBEq, Nat.reduceBNe, UInt8.reduceToNat, wr, dle, dlt, r0, r1, r12, r13, hc, he, hf, hq, encE, List.getElem?_map]; refine ⟨by kernel_rfl, ?_⟩)
          | (refine xw_if ?_; simp (disch := first | decide | omega) only [go_sem, ↓reduceIte, Int.reduceLE, Int.reduceLT, Int.reduceToNat, Int.reduceNeg, Int.reduceAdd, Int.reduceSub, Int.reduceMul, Int.reduceEq, Int.reduceNe, Nat.reduceEqDiff, Nat.reduceAdd, Nat.reduceSub, Nat.reduceMul, Nat.reduceLT, Nat.reduceLeDiff, Nat.reduceBEq, Nat.reduceBNe, UInt8.reduceToNat, wr, dle, dlt, r0, r1, r12, r13, hc, he, hf, hq, encE, List.getElem?_map])
          | (refine xw_skip ?_; simp only [sq, bl])
          | (refine xw_exit ?_; simp only [sq, bl, if_true, if_false, Nat.reduceEqDiff])
          | (refine xw_label ?_; simp only [sq, bl]))
        first | refine xw_ret (post_ret ?_) | refine post_normal ?_ | refine xw_ret (postE_ret ?_) | refine postE_normal ?_
        simp only [go_sem, ↓reduceIte, Int.reduceLE, Int.reduceLT, Int.reduceToNat, Int.reduceNeg, Int.reduceAdd, Int.reduceSub, Int.reduceMul, Int.reduceEq, Int.reduceNe, Nat.reduceEqDiff, Nat.reduceAdd, Nat.reduceSub, Nat.reduceMul, Nat.reduceLT, Nat.reduceLeDiff, Nat.reduceBEq, Nat.reduceBNe, UInt8.reduceToNat, Try.results45, Try.f45]
        simp only [decide_eq_false_iff_not] at hq
        have : xs ≠ ys := fun h => by
          subst h
          rw [he] at hf
          simp only [Option.some.injEq, Prod.mk.injEq] at hf
          exact hq hf
        simp [this]
      · repeat (first
          | refine xw_seq ?_
          | refine xw_block ?_
          | (refine xw_reg ?_; simp (disch := first | decide | omega) only [go_sem, ↓reduceIte, Int.reduceLE, Int.reduceLT, Int.reduceToNat, Int.reduceNeg, Int.reduceAdd, Int.reduceSub, Int.reduceMul, Int.reduceEq, Int.reduceNe, Nat.reduceEqDiff, Nat.reduceAdd, Nat.reduceSub, Nat.reduceMul, Nat.reduceLT, Nat.reduceLeDiff, Nat.reduceBEq, Nat.reduceBNe, UInt8.reduceToNat, wr, dle, dlt, r0, r1, r12, r13, hc, he, hf, hq, encE, List.getElem?_map])
          | (refine xw_regd ?_; simp (disch := first | decide | omega) only [go_sem, ↓reduceIte, Int.reduceLE, Int.reduceLT, Int.reduceToNat, Int.reduceNeg, Int.reduceAdd, Int.reduceSub, Int.reduceMul, Int.reduceEq, Int.reduceNe, Nat.reduceEqDiff, Nat.reduceAdd, Nat.reduceSub, Nat.reduceMul, Nat.reduceLT, Nat.reduceLeDiff, Nat.reduceBEq, Nat.reduceBNe, UInt8.reduceToNat, wr, dle, dlt, r0, r1, r12, r13, hc, he, hf, hq, encE, List.getElem?_map]; refine ⟨by kernel_rfl, ?_⟩)
          | (refine xw_if ?_; simp (disch := first | decide | omega) only [go_sem, ↓reduceIte, Int.reduceLE, Int.reduceLT, Int.reduceToNat, Int.reduceNeg, Int.reduceAdd, Int.reduceSub, Int.reduceMul, Int.reduceEq, Int.reduceNe, Nat.reduceEqDiff, Nat.reduceAdd, Nat.reduceSub, Nat.reduceMul, Nat.reduceLT, Nat.reduceLeDiff, Nat.reduceBEq, Nat.reduceBNe, UInt8.reduceToNat, wr, dle, dlt, r0, r1, r12, r13, hc, he, hf, hq, encE, List.getElem?_map])
          | (refine xw_skip ?_; simp only [sq, bl])
          | (refine xw_exit ?_; simp only [sq, bl, if_true, if_false, Nat.reduceEqDiff])
          | (refine xw_label ?_; simp only [sq, bl]))
        simp only [decide_eq_true_eq] at hq
        obtain ⟨rfl, rfl⟩ := hq
        exact ⟨xs.length - (i + 1), by omega, i + 1, rfl, by omega, by rw [take_at he, take_at hf, ht], rfl⟩
theorem c_GraphSame (n n' : Int) (xs ys : List (Int × Int)) (hl : xs.length ≤ 1048576) : KP 11 [GL n xs, GL n' ys] [] = some (B (decide (n = n' ∧ xs = ys)), [], []) := by
  have heq := c_equalE xs ys hl
  refine xw_call (fn := Try.f11) rfl Try.func11 rfl ⟨Nat.le_of_ble_eq_true rfl, rfl, rfl⟩ ?_
  cases h1 : decide (n = n')
  · repeat (first
      | refine xw_seq ?_
      | refine xw_block ?_
      | (refine xw_reg ?_; simp (disch := first | decide | omega) only [go_sem, ↓reduceIte, Int.reduceLE, Int.reduceLT, Int.reduceToNat, Int.reduceNeg, Int.reduceAdd, Int.reduceSub, Int.reduceMul, Int.reduceEq, Int.reduceNe, Nat.reduceEqDiff, Nat.reduceAdd, Nat.reduceSub, Nat.reduceMul, Nat.reduceLT, Nat.reduceLeDiff, Nat.reduceBEq, Nat.reduceBNe, UInt8.reduceToNat, wr, dle, dlt, h1, heq])
      | (refine xw_regd ?_; simp (disch := first | decide | omega) only [go_sem, ↓reduceIte, Int.reduceLE, Int.reduceLT, Int.reduceToNat, Int.reduceNeg, Int.reduceAdd, Int.reduceSub, Int.reduceMul, Int.reduceEq, Int.reduceNe, Nat.reduceEqDiff, Nat.reduceAdd, Nat.reduceSub, Nat.reduceMul, Nat.reduceLT, Nat.reduceLeDiff, Nat.reduceBEq, Nat.reduceBNe, UInt8.reduceToNat, wr, dle, dlt, h1, heq]; refine ⟨by kernel_rfl, ?_⟩)
      | (refine xw_if ?_; simp (disch := first | decide | omega) only [go_sem, ↓reduceIte, Int.reduceLE, Int.reduceLT, Int.reduceToNat, Int.reduceNeg, Int.reduceAdd, Int.reduceSub, Int.reduceMul, Int.reduceEq, Int.reduceNe, Nat.reduceEqDiff, Nat.reduceAdd, Nat.reduceSub, Nat.reduceMul, Nat.reduceLT, Nat.reduceLeDiff, Nat.reduceBEq, Nat.reduceBNe, UInt8.reduceToNat, wr, dle, dlt, h1, heq])
      | (refine xw_skip ?_; simp only [sq, bl])
      | (refine xw_exit ?_; simp only [sq, bl, if_true, if_false, Nat.reduceEqDiff])
      | (refine xw_label ?_; simp only [sq, bl]))
    first | refine xw_ret (post_ret ?_) | refine post_normal ?_ | refine xw_ret (postE_ret ?_) | refine postE_normal ?_
    simp only [go_sem, ↓reduceIte, Int.reduceLE, Int.reduceLT, Int.reduceToNat, Int.reduceNeg, Int.reduceAdd, Int.reduceSub, Int.reduceMul, Int.reduceEq, Int.reduceNe, Nat.reduceEqDiff, Nat.reduceAdd, Nat.reduceSub, Nat.reduceMul, Nat.reduceLT, Nat.reduceLeDiff, Nat.reduceBEq, Nat.reduceBNe, UInt8.reduceToNat, Try.results11, Try.f11, h1]
    simp only [decide_eq_false_iff_not] at h1
    simp [h1]
  · repeat (first
      | refine xw_seq ?_
      | refine xw_block ?_
      | (refine xw_reg ?_; simp (disch := first | decide | omega) only [go_sem, ↓reduceIte, Int.reduceLE, Int.reduceLT, Int.reduceToNat, Int.reduceNeg, Int.reduceAdd, Int.reduceSub, Int.reduceMul, Int.reduceEq, Int.reduceNe, Nat.reduceEqDiff, Nat.reduceAdd, Nat.reduceSub, Nat.reduceMul, Nat.reduceLT, Nat.reduceLeDiff, Nat.reduceBEq, Nat.reduceBNe, UInt8.reduceToNat, wr, dle, dlt, h1, heq])
      | (refine xw_regd ?_; simp (disch := first | decide | omega) only [go_sem, ↓reduceIte, Int.reduceLE, Int.reduceLT, Int.reduceToNat, Int.reduceNeg, Int.reduceAdd, Int.reduceSub, Int.reduceMul, Int.reduceEq, Int.reduceNe, Nat.reduceEqDiff, Nat.reduceAdd, Nat.reduceSub, Nat.reduceMul, Nat.reduceLT, Nat.reduceLeDiff, Nat.reduceBEq, Nat.reduceBNe, UInt8.reduceToNat, wr, dle, dlt, h1, heq]; refine ⟨by kernel_rfl, ?_⟩)
      | (refine xw_if ?_; simp (disch := first | decide | omega) only [go_sem, ↓reduceIte, Int.reduceLE, Int.reduceLT, Int.reduceToNat, Int.reduceNeg, Int.reduceAdd, Int.reduceSub, Int.reduceMul, Int.reduceEq, Int.reduceNe, Nat.reduceEqDiff, Nat.reduceAdd, Nat.reduceSub, Nat.reduceMul, Nat.reduceLT, Nat.reduceLeDiff, Nat.reduceBEq, Nat.reduceBNe, UInt8.reduceToNat, wr, dle, dlt, h1, heq])
      | (refine xw_skip ?_; simp only [sq, bl])
      | (refine xw_exit ?_; simp only [sq, bl, if_true, if_false, Nat.reduceEqDiff])
      | (refine xw_label ?_; simp only [sq, bl]))
    first | refine xw_ret (post_ret ?_) | refine post_normal ?_ | refine xw_ret (postE_ret ?_) | refine postE_normal ?_
    simp only [go_sem, ↓reduceIte, Int.reduceLE, Int.reduceLT, Int.reduceToNat, Int.reduceNeg, Int.reduceAdd, Int.reduceSub, Int.reduceMul, Int.reduceEq, Int.reduceNe, Nat.reduceEqDiff, Nat.reduceAdd, Nat.reduceSub, Nat.reduceMul, Nat.reduceLT, Nat.reduceLeDiff, Nat.reduceBEq, Nat.reduceBNe, UInt8.reduceToNat, Try.results11, Try.f11, h1]
    simp only [decide_eq_true_eq] at h1
    simp [h1]
theorem c_indexE (es : List (Int × Int)) (a b : Int) (hl : es.length ≤ 1048576) : KP 27 [LE es, PE a b] [] = some (I (findE es (a, b)), [], []) := by
  refine xw_call (fn := Try.f27) rfl Try.func27 rfl ⟨Nat.le_of_ble_eq_true rfl, rfl, rfl⟩ ?_
  repeat (first
    | refine xw_seq ?_
    | refine xw_block ?_
    | (refine xw_reg ?_; simp (disch := first | decide | omega) only [go_sem, ↓reduceIte, Int.reduceLE, Int.reduceLT, Int.reduceToNat, Int.reduceNeg, Int.reduceAdd, Int.reduceSub, Int.reduceMul, Int.reduceEq, Int.reduceNe, Nat.reduceEqDiff, Nat.reduceAdd, Nat.reduceSub, Nat.reduceMul, Nat.reduceLT, Nat.reduceLeDiff, Nat.reduceBEq, Nat.reduceBNe, UInt8.reduceToNat, wr, dle, dlt,])
    | (refine xw_regd ?_; simp (disch := first | decide | omega) only [go_sem, ↓reduceIte, Int.reduceLE, Int.reduceLT, Int.reduceToNat, Int.reduceNeg, Int.reduceAdd, Int.reduceSub, Int.reduceMul, Int.reduceEq, Int.reduceNe, Nat.reduceEqDiff, Nat.reduceAdd, Nat.reduceSub, Nat.reduceMul, Nat.reduceLT, Nat.reduceLeDiff, Nat.reduceBEq, Nat.reduceBNe, UInt8.reduceToNat, wr, dle, dlt,]; refine ⟨by kernel_rfl, ?_⟩)
    | (refine xw_if ?_; simp (disch := first | decide | omega) only [go_sem, ↓reduceIte, Int.reduceLE, Int.reduceLT, Int.reduceToNat, Int.reduceNeg, Int.reduceAdd, Int.reduceSub, Int.reduceMul, Int.reduceEq, Int.reduceNe, Nat.reduceEqDiff, Nat.reduceAdd, Nat.reduceSub, Nat.reduceMul, Nat.reduceLT, Nat.reduceLeDiff, Nat.reduceBEq, Nat.reduceBNe, UInt8.reduceToNat, wr, dle, dlt,])
    | (refine xw_skip ?_; simp only [sq, bl])
    | (refine xw_exit ?_; simp only [sq, bl, if_true, if_false, Nat.reduceEqDiff])
    | (refine xw_label ?_; simp only [sq, bl]))
  refine xw_loop_count (fun n s => ∃ i : Nat, n = es.length - i ∧ i ≤ es.length ∧ (a, b) ∉ es.take i ∧ s.ρ 0 = LE es ∧ s.ρ 7 = I es.length ∧ s.ρ 8 = I i ∧ s.ρ 3 = .ptr 3 0 0 0 ∧ s.m 3 = some (.box 0 [I a, I b])) ?_ es.length _ ⟨0, by simp, by simp, by simp, rfl, rfl, rfl, rfl, rfl⟩
  rintro n ⟨ρ, m⟩ ⟨i, rfl, hi, hni, h0, h7, h8, h3, hm⟩
  simp only at h0 h7 h8 h3 hm
  cases hc : decide ((i : Int) < es.length)
  · repeat (first
      | refine xw_seq ?_
      | refine xw_block ?_
      | (refine xw_reg ?_; simp (disch := first | decide | omega) only [go_sem, ↓reduceIte, Int.reduceLE, Int.reduceLT, Int.reduceToNat, Int.reduceNeg, Int.reduceAdd, Int.reduceSub, Int.reduceMul, Int.reduceEq, Int.reduceNe, Nat.reduceEqDiff, Nat.reduceAdd, Nat.reduceSub, Nat.reduceMul, Nat.reduceLT, Nat.reduceLeDiff, Nat.reduceBEq, Nat.reduceBNe, UInt8.reduceToNat, wr, dle, dlt, h0, h7, h8, h3, hm, hc])
      | (refine xw_regd ?_; simp (disch := first | decide | omega) only [go_sem, ↓reduceIte, Int.reduceLE, Int.reduceLT, Int.reduceToNat, Int.reduceNeg, Int.reduceAdd, Int.reduceSub, Int.reduceMul, Int.reduceEq, Int.reduceNe, Nat.reduceEqDiff, Nat.reduceAdd, Nat.reduceSub, Nat.reduceMul, Nat.reduceLT, Nat.reduceLeDiff, Nat.reduceBEq, Nat.reduceBNe, UInt8.reduceToNat, wr, dle, dlt, h0, h7, h8, h3, hm, hc]; refine ⟨by kernel_rfl, ?_⟩)
      | (refine xw_if ?_; simp (disch := first | decide | omega) only [go_sem, ↓reduceIte, Int.reduceLE, Int.reduceLT, Int.reduceToNat, Int.reduceNeg, Int.reduceAdd, Int.reduceSub, Int.reduceMul, Int.reduceEq, Int.reduceNe, Nat.reduceEqDiff, Nat.reduceAdd, Nat.reduceSub, Nat.reduceMul, Nat.reduceLT, Nat.reduceLeDiff, Nat.reduceBEq, Nat.reduceBNe, UInt8.reduceToNat, wr, dle, dlt, h0, h7, h8, h3, hm, hc])
      | (refine xw_skip ?_; simp only [sq, bl])
      | (refine xw_exit ?_; simp only [sq, bl, if_true, if_false, Nat.reduceEqDiff])
      | (refine xw_label ?_; simp only [sq, bl]))
    first | refine xw_ret (post_ret ?_) | refine post_normal ?_ | refine xw_ret (postE_ret ?_) | refine postE_normal ?_
    simp only [go_sem, ↓reduceIte, Int.reduceLE, Int.reduceLT, Int.reduceToNat, Int.reduceNeg, Int.reduceAdd, Int.reduceSub, Int.reduceMul, Int.reduceEq, Int.reduceNe, Nat.reduceEqDiff, Nat.reduceAdd, Nat.reduceSub, Nat.reduceMul, Nat.reduceLT, Nat.reduceLeDiff, Nat.reduceBEq, Nat.reduceBNe, UInt8.reduceToNat, Try.results27, Try.f27, h0, h3, hm]
    simp only [decide_eq_false_iff_not] at hc
    have : (a, b) ∉ es := by rw [List.take_of_length_le (by omega)] at hni; exact hni
    simp [findE, this]
  · simp only [decide_eq_true_eq] at hc
    obtain ⟨⟨u, v⟩, he⟩ : ∃ e, es[i]? = some e := ⟨es[i]'(by omega), by simp⟩
    cases hab : decide (a = u ∧ b = v)
    · repeat (first
        | refine xw_seq ?_
        | refine xw_block ?_
        | (refine xw_reg ?_; simp (disch := first | decide | omega) only [go_sem, ↓reduceIte, Int.reduceLE, Int.reduceLT, Int.reduceToNat, Int.reduceNeg, Int.reduceAdd, Int.reduceSub, Int.reduceMul, Int.reduceEq, Int.reduceNe, Nat.reduceEqDiff, Nat.reduceAdd, Nat.reduceSub, Nat.reduceMul, Nat.reduceLT, Nat.reduceLeDiff, Nat.reduceBEq, Nat.reduceBNe, UInt8.reduceToNat, wr, dle, dlt, h0, h7, h8, h3, hm, hc, hab, he, encE, List.getElem?_map])
        | (refine xw_regd ?_; simp (disch := first | decide | omega) only [go_sem, ↓reduceIte, Int.reduceLE, Int.reduceLT, Int.reduceToNat, Int.reduceNeg, Int.reduceAdd, Int.reduceSub, Int.reduceMul, Int.reduceEq, Int.reduceNe, Nat.reduceEqDiff, Nat.reduceAdd, Nat.reduceSub, Nat.reduceMul, Nat.reduceLT, Nat.reduceLeDiff, Nat.reduceBEq, Nat.reduceBNe, UInt8.reduceToNat, wr, dle, dlt, h0, h7, h8, h3, hm, hc, hab, he, encE, List.getElem?_map]; refine ⟨by kernel_rfl, ?_⟩)
        | (refine xw_if ?_; simp (disch := first | decide | omega) only [go_sem, ↓reduceIte, Int.reduceLE, Int.reduceLT, Int.reduceToNat, Int.reduceNeg, Int.reduceAdd, Int.reduceSub, Int.reduceMul, Int.reduceEq, Int.reduceNe, Nat.reduceEqDiff, Nat.reduceAdd, Nat.reduceSub, Nat.reduceMul, Nat.reduceLT, Nat.reduceLeDiff, Nat.reduceBEq, Nat.reduceBNe, UInt8.reduceToNat, wr, dle, dlt, h0, h7, h8, h3, hm, hc, hab, he, encE, List.getElem?_map])
        | (refine xw_skip ?_; simp only [sq, bl])
        | (refine xw_exit ?_; simp only [sq, bl, if_true, if_false, Nat.reduceEqDiff])
        | (refine xw_label ?_; simp only [sq, bl]))
      simp only [decide_eq_false_iff_not] at hab
      refine ⟨es.length - (i + 1), by omega, i + 1, rfl, by omega, ?_, rfl⟩
      rw [take_at he]
      simp only [List.mem_append, List.mem_singleton, not_or, Prod.mk.injEq]
      exact ⟨hni, hab⟩
    · repeat (first
        | refine xw_seq ?_
        | refine xw_block ?_
        | (refine xw_reg ?_; simp (disch := first | decide | omega) only [go_sem, ↓reduceIte, Int.reduceLE, Int.reduceLT, Int.reduceToNat, Int.reduceNeg, Int.reduceAdd, Int.reduceSub, Int.reduceMul, Int.reduceEq, Int.reduceNe, Nat.reduceEqDiff, Nat.reduceAdd, Nat.reduceSub, Nat.reduceMul, Nat.reduceLT, Nat.reduceLeDiff, Nat.reduceBEq, Nat.reduceBNe, UInt8.reduceToNat, wr, dle, dlt, h0, h7, h8, h3, hm, hc, hab, he, encE, List.getElem?_map])
        | (refine xw_regd ?_; simp (disch := first | decide | omega) only [go_sem, ↓reduceIte, Int.reduceLE, Int.reduceLT, Int.reduceToNat, Int.reduceNeg, Int.reduceAdd, Int.reduceSub, Int.reduceMul, Int.reduceEq, Int.reduceNe, Nat.reduceEqDiff, Nat.reduceAdd, Nat.reduceSub, Nat.reduceMul, Nat.reduceLT, Nat.reduceLeDiff, Nat.reduceBEq, Nat.reduceBNe, UInt8.reduceToNat, wr, dle, dlt, h0, h7, h8, h3, hm, hc, hab, he, encE, List.getElem?_map]; refine ⟨by kernel_rfl, ?_⟩)
        | (refine xw_if ?_; simp (disch := first | decide | omega) only [go_sem, ↓reduceIte, Int.reduceLE, Int.reduceLT, Int.reduceToNat, Int.reduceNeg, Int.reduceAdd, Int.reduceSub, Int.reduceMul, Int.reduceEq, Int.reduceNe, Nat.reduceEqDiff, Nat.reduceAdd, Nat.reduceSub, Nat.reduceMul, Nat.reduceLT, Nat.reduceLeDiff, Nat.reduceBEq, Nat.reduceBNe, UInt8.reduceToNat, wr, dle, dlt, h0, h7, h8, h3, hm, hc, hab, he, encE, List.getElem?_map])
        | (refine xw_skip ?_; simp only [sq, bl])
        | (refine xw_exit ?_; simp only [sq, bl, if_true, if_false, Nat.reduceEqDiff])
        | (refine xw_label ?_; simp only [sq, bl]))
      first | refine xw_ret (post_ret ?_) | refine post_normal ?_ | refine xw_ret (postE_ret ?_) | refine postE_normal ?_
      simp only [go_sem, ↓reduceIte, Int.reduceLE, Int.reduceLT, Int.reduceToNat, Int.reduceNeg, Int.reduceAdd, Int.reduceSub, Int.reduceMul, Int.reduceEq, Int.reduceNe, Nat.reduceEqDiff, Nat.reduceAdd, Nat.reduceSub, Nat.reduceMul, Nat.reduceLT, Nat.reduceLeDiff, Nat.reduceBEq, Nat.reduceBNe, UInt8.reduceToNat, Try.results27, Try.f27, h0, h3, hm]
      simp only [decide_eq_true_eq] at hab
      obtain ⟨rfl, rfl⟩ := hab
      rw [findE_at he hni]
theorem findE_nonneg {es : List (Int × Int)} {e : Int × Int} : decide (0 ≤ findE es e) = decide (e ∈ es) := by
  unfold findE
  by_cases h : e ∈ es <;> simp [h]
theorem c_containsE (es : List (Int × Int)) (a b : Int) (hl : es.length ≤ 1048576) : KP 90 [LE es, PE a b] [] = some (B (decide ((a, b) ∈ es)), [], []) := by
  have h := c_indexE es a b hl
  refine xw_call (fn := Try.f90) rfl Try.func90 rfl ⟨Nat.le_of_ble_eq_true rfl, rfl, rfl⟩ ?_
  repeat (first
    | refine xw_seq ?_
    | refine xw_block ?_
    | (refine xw_reg ?_; simp (disch := first | decide | omega) only [go_sem, ↓reduceIte, Int.reduceLE, Int.reduceLT, Int.reduceToNat, Int.reduceNeg, Int.reduceAdd, Int.reduceSub, Int.reduceMul, Int.reduceEq, Int.reduceNe, Nat.reduceEqDiff, Nat.reduceAdd, Nat.reduceSub, Nat.reduceMul, Nat.reduceLT, Nat.reduceLeDiff, Nat.reduceBEq, Nat.reduceBNe, UInt8.reduceToNat, wr, dle, dlt, h, findE_nonneg])
    | (refine xw_regd ?_; simp (disch := first | decide | omega) only [go_sem, ↓reduceIte, Int.reduceLE, Int.reduceLT, Int.reduceToNat, Int.reduceNeg, Int.reduceAdd, Int.reduceSub, Int.reduceMul, Int.reduceEq, Int.reduceNe, Nat.reduceEqDiff, Nat.reduceAdd, Nat.reduceSub, Nat.reduceMul, Nat.reduceLT, Nat.reduceLeDiff, Nat.reduceBEq, Nat.reduceBNe, UInt8.reduceToNat, wr, dle, dlt, h, findE_nonneg]; refine ⟨by kernel_rfl, ?_⟩)
    | (refine xw_if ?_; simp (disch := first | decide | omega) only [go_sem, ↓reduceIte, Int.reduceLE, Int.reduceLT, Int.reduceToNat, Int.reduceNeg, Int.reduceAdd, Int.reduceSub, Int.reduceMul, Int.reduceEq, Int.reduceNe, Nat.reduceEqDiff, Nat.reduceAdd, Nat.reduceSub, Nat.reduceMul, Nat.reduceLT, Nat.reduceLeDiff, Nat.reduceBEq, Nat.reduceBNe, UInt8.reduceToNat, wr, dle, dlt, h, findE_nonneg])
    | (refine xw_skip ?_; simp only [sq, bl])
    | (refine xw_exit ?_; simp only [sq, bl, if_true, if_false, Nat.reduceEqDiff])
    | (refine xw_label ?_; simp only [sq, bl]))
  first | refine xw_ret (post_ret ?_) | refine post_normal ?_ | refine xw_ret (postE_ret ?_) | refine postE_normal ?_
  simp only [go_sem, ↓reduceIte, Int.reduceLE, Int.reduceLT, Int.reduceToNat, Int.reduceNeg, Int.reduceAdd, Int.reduceSub, Int.reduceMul, Int.reduceEq, Int.reduceNe, Nat.reduceEqDiff, Nat.reduceAdd, Nat.reduceSub, Nat.reduceMul, Nat.reduceLT, Nat.reduceLeDiff, Nat.reduceBEq, Nat.reduceBNe, UInt8.reduceToNat, Try.results90, Try.f90]
theorem c_has (n : Int) (es : List (Int × Int)) (a b : Int) (hl : es.length ≤ 1048576) : KP 38 [GL n es, PE a b] [] = some (B (decide ((a, b) ∈ es)), [], []) := by
  have h := c_containsE es a b hl
  refine xw_call (fn := Try.f38) rfl Try.func38 rfl ⟨Nat.le_of_ble_eq_true rfl, rfl, rfl⟩ ?_
  repeat (first
    | refine xw_seq ?_
    | refine xw_block ?_
    | (refine xw_reg ?_; simp (disch := first | decide | omega) only [go_sem, ↓reduceIte, Int.reduceLE, Int.reduceLT, Int.reduceToNat, Int.reduceNeg, Int.reduceAdd, Int.reduceSub, Int.reduceMul, Int.reduceEq, Int.reduceNe, Nat.reduceEqDiff, Nat.reduceAdd, Nat.reduceSub, Nat.reduceMul, Nat.reduceLT, Nat.reduceLeDiff, Nat.reduceBEq, Nat.reduceBNe, UInt8.reduceToNat, wr, dle, dlt, h])
    | (refine xw_regd ?_; simp (disch := first | decide | omega) only [go_sem, ↓reduceIte, Int.reduceLE, Int.reduceLT, Int.reduceToNat, Int.reduceNeg, Int.reduceAdd, Int.reduceSub, Int.reduceMul, Int.reduceEq, Int.reduceNe, Nat.reduceEqDiff, Nat.reduceAdd, Nat.reduceSub, Nat.reduceMul, Nat.reduceLT, Nat.reduceLeDiff, Nat.reduceBEq, Nat.reduceBNe, UInt8.reduceToNat, wr, dle, dlt, h]; refine ⟨by kernel_rfl, ?_⟩)
    | (refine xw_if ?_; simp (disch := first | decide | omega) only [go_sem, ↓reduceIte, Int.reduceLE, Int.reduceLT, Int.reduceToNat, Int.reduceNeg, Int.reduceAdd, Int.reduceSub, Int.reduceMul, Int.reduceEq, Int.reduceNe, Nat.reduceEqDiff, Nat.reduceAdd, Nat.reduceSub, Nat.reduceMul, Nat.reduceLT, Nat.reduceLeDiff, Nat.reduceBEq, Nat.reduceBNe, UInt8.reduceToNat, wr, dle, dlt, h])
    | (refine xw_skip ?_; simp only [sq, bl])
    | (refine xw_exit ?_; simp only [sq, bl, if_true, if_false, Nat.reduceEqDiff])
    | (refine xw_label ?_; simp only [sq, bl]))
  first | refine xw_ret (post_ret ?_) | refine post_normal ?_ | refine xw_ret (postE_ret ?_) | refine postE_normal ?_
  simp only [go_sem, ↓reduceIte, Int.reduceLE, Int.reduceLT, Int.reduceToNat, Int.reduceNeg, Int.reduceAdd, Int.reduceSub, Int.reduceMul, Int.reduceEq, Int.reduceNe, Nat.reduceEqDiff, Nat.reduceAdd, Nat.reduceSub, Nat.reduceMul, Nat.reduceLT, Nat.reduceLeDiff, Nat.reduceBEq, Nat.reduceBNe, UInt8.reduceToNat, Try.results38, Try.f38]
end Go.Proofs.Ytdlfdoicheakoaa.X
