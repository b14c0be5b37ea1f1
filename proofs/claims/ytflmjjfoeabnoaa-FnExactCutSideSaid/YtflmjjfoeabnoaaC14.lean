/- What functions compute: distances and paths. -/
import Derived.Test.YtflmjjfoeabnoaaC13
import Derived.Test.YtflmjjfoeabnoaaM3
set_option linter.unusedSimpArgs false
set_option linter.unusedVariables false
set_option maxHeartbeats 2000000
namespace Go.Proofs.Ytflmjjfoeabnoaa.X
open Go Go.Proofs

@[go_sem] theorem c_mul1 (n : Int) (h : 0 ≤ n ∧ n ≤ 1048576) : KP 145 [.i (.v (.int .u64 1)), .i (.v (.int .u64 n))] [] = some (.tup [.i (.v (.int .u64 0)), .i (.v (.int .u64 n))], [], []) := by
  refine KK_prim rfl ?_
  have h1 : 1 * n / 18446744073709551616 = 0 := by omega
  have h2 : 1 * n % 18446744073709551616 = n := by omega
  simp only [mulP, h1, h2]
  rw [if_pos (by omega)]

@[go_sem] theorem c_repeatI (x n : Int) (hn : 0 ≤ n ∧ n ≤ 1048576) : KP 122 [.i (.lst [[.v (.int .i64 x)]]), I n] [] = some (.ref 2000 0 0 n.toNat, [], [.arr 0 1 ((List.replicate n.toNat x).map encI)]) := by
  by_cases h0 : n = 0
  · subst h0
    refine xw_call (fn := Try.f122) rfl Try.func122 rfl ⟨Nat.le_of_ble_eq_true rfl, rfl, rfl⟩ ?_
    repeat' (first
      | refine xw_seq ?_
      | refine xw_block ?_
      | (refine ite_two ?_ ?_ <;> intro _ <;> first | (exfalso; omega) | skip)
      | refine ord_split (by kernel_rfl) ?_
      | (refine xw_ret ?_ <;> try simp only [sq, bl, LQ])
      | ((first | refine xw_reg ?_ | refine xw_regd ?_ | refine xw_if ?_ | refine xw_skip ?_ | refine xw_exit ?_ | refine xw_label ?_ | refine post_ret ?_ | refine post_normal ?_ | refine postE_ret ?_ | refine postE_normal ?_) <;> simp (disch := first | assumption | omega | exact VG.okg (by assumption) | (simp only [List.length_set, List.length_append, List.length_cons, List.length_nil, List.length_replicate]; omega)) only [go_sem, ↓reduceIte, Int.reduceLE, Int.reduceLT, Int.reduceToNat, Int.reduceNeg, Int.reduceAdd, Int.reduceSub, Int.reduceMul, Int.reduceEq, Int.reduceNe, Nat.reduceEqDiff, Nat.reduceAdd, Nat.reduceSub, Nat.reduceMul, Nat.reduceLT, Nat.reduceLeDiff, Nat.reduceBEq, Nat.reduceBNe, Try.results122])
      | (((first | refine at_region ?_ | refine at_out ?_ | refine at_cond ?_); split) <;> first | (exfalso; omega; done) | simp (disch := first | assumption | omega | exact VG.okg (by assumption) | (simp only [List.length_set, List.length_append, List.length_cons, List.length_nil, List.length_replicate]; omega)) only [go_sem, ↓reduceIte, Int.reduceLE, Int.reduceLT, Int.reduceToNat, Int.reduceNeg, Int.reduceAdd, Int.reduceSub, Int.reduceMul, Int.reduceEq, Int.reduceNe, Nat.reduceEqDiff, Nat.reduceAdd, Nat.reduceSub, Nat.reduceMul, Nat.reduceLT, Nat.reduceLeDiff, Nat.reduceBEq, Nat.reduceBNe, Try.results122] | skip))
    refine xw_loopR (fun (y : Unit) s => s.m 30 = some (.arr 0 1 []) ∧ s.ρ 7 = .ref 30 0 0 0 ∧ s.ρ 8 = I 0) (fun _ => 0) () ⟨rfl, rfl, rfl⟩ ?_
    rintro ⟨⟩ ⟨ρ, m⟩ ⟨m30, h7, h8⟩
    simp only at m30 h7 h8
    repeat' (first
      | refine xw_seq ?_
      | refine xw_block ?_
      | (refine ite_two ?_ ?_ <;> intro _ <;> first | (exfalso; omega) | skip)
      | refine ord_split (by kernel_rfl) ?_
      | (refine xw_ret ?_ <;> try simp only [sq, bl, LQ])
      | ((first | refine xw_reg ?_ | refine xw_regd ?_ | refine xw_if ?_ | refine xw_skip ?_ | refine xw_exit ?_ | refine xw_label ?_ | refine post_ret ?_ | refine post_normal ?_ | refine postE_ret ?_ | refine postE_normal ?_) <;> simp (disch := first | assumption | omega | exact VG.okg (by assumption) | (simp only [List.length_set, List.length_append, List.length_cons, List.length_nil, List.length_replicate]; omega)) only [go_sem, ↓reduceIte, Int.reduceLE, Int.reduceLT, Int.reduceToNat, Int.reduceNeg, Int.reduceAdd, Int.reduceSub, Int.reduceMul, Int.reduceEq, Int.reduceNe, Nat.reduceEqDiff, Nat.reduceAdd, Nat.reduceSub, Nat.reduceMul, Nat.reduceLT, Nat.reduceLeDiff, Nat.reduceBEq, Nat.reduceBNe, Try.results122, m30, h7, h8])
      | (((first | refine at_region ?_ | refine at_out ?_ | refine at_cond ?_); split) <;> first | (exfalso; omega; done) | simp (disch := first | assumption | omega | exact VG.okg (by assumption) | (simp only [List.length_set, List.length_append, List.length_cons, List.length_nil, List.length_replicate]; omega)) only [go_sem, ↓reduceIte, Int.reduceLE, Int.reduceLT, Int.reduceToNat, Int.reduceNeg, Int.reduceAdd, Int.reduceSub, Int.reduceMul, Int.reduceEq, Int.reduceNe, Nat.reduceEqDiff, Nat.reduceAdd, Nat.reduceSub, Nat.reduceMul, Nat.reduceLT, Nat.reduceLeDiff, Nat.reduceBEq, Nat.reduceBNe, Try.results122, m30, h7, h8] | skip))
    all_goals simp
  refine xw_call (fn := Try.f122) rfl Try.func122 rfl ⟨Nat.le_of_ble_eq_true rfl, rfl, rfl⟩ ?_
  repeat' (first
    | refine xw_seq ?_
    | refine xw_block ?_
    | (refine ite_two ?_ ?_ <;> intro _ <;> first | (exfalso; omega) | skip)
    | refine ord_split (by kernel_rfl) ?_
    | (refine xw_ret ?_ <;> try simp only [sq, bl, LQ])
    | ((first | refine xw_reg ?_ | refine xw_regd ?_ | refine xw_if ?_ | refine xw_skip ?_ | refine xw_exit ?_ | refine xw_label ?_ | refine post_ret ?_ | refine post_normal ?_ | refine postE_ret ?_ | refine postE_normal ?_) <;> simp (disch := first | assumption | omega | exact VG.okg (by assumption) | (simp only [List.length_set, List.length_append, List.length_cons, List.length_nil, List.length_replicate]; omega)) only [go_sem, ↓reduceIte, Int.reduceLE, Int.reduceLT, Int.reduceToNat, Int.reduceNeg, Int.reduceAdd, Int.reduceSub, Int.reduceMul, Int.reduceEq, Int.reduceNe, Nat.reduceEqDiff, Nat.reduceAdd, Nat.reduceSub, Nat.reduceMul, Nat.reduceLT, Nat.reduceLeDiff, Nat.reduceBEq, Nat.reduceBNe, Try.results122, take_all])
    | (((first | refine at_region ?_ | refine at_out ?_ | refine at_cond ?_); split) <;> first | (exfalso; omega; done) | simp (disch := first | assumption | omega | exact VG.okg (by assumption) | (simp only [List.length_set, List.length_append, List.length_cons, List.length_nil, List.length_replicate]; omega)) only [go_sem, ↓reduceIte, Int.reduceLE, Int.reduceLT, Int.reduceToNat, Int.reduceNeg, Int.reduceAdd, Int.reduceSub, Int.reduceMul, Int.reduceEq, Int.reduceNe, Nat.reduceEqDiff, Nat.reduceAdd, Nat.reduceSub, Nat.reduceMul, Nat.reduceLT, Nat.reduceLeDiff, Nat.reduceBEq, Nat.reduceBNe, Try.results122, take_all] | skip))
  refine xw_loopR (fun (y : Int × List Int) s => s.m 30 = some (.arr 0 1 (y.2.map encI)) ∧ s.ρ 7 = .ref 30 0 0 n.toNat ∧ s.ρ 8 = I y.1 ∧ 0 < y.1 ∧ y.1 ≤ n ∧ y.2.length = n.toNat ∧ y.2.take y.1.toNat = List.replicate y.1.toNat x)
    (fun y => (n - y.1).toNat) (1, x :: (zI n.toNat).drop 1) ?_ ?_
  · have e1 : min 1 (n.toNat) = 1 := by omega
    refine ⟨rfl, rfl, ?_, by simp, by simp only; omega, by simp [zI]; omega, by simp⟩
    simp [upd, e1]
  rintro ⟨k, xs⟩ ⟨ρ, m⟩ ⟨m30, h7, h8, g0, g1, g3, g4⟩
  simp only at m30 h7 h8 g0 g1 g3 g4
  repeat' (first
    | refine xw_seq ?_
    | refine xw_block ?_
    | (refine ite_two ?_ ?_ <;> intro _ <;> first | (exfalso; omega) | skip)
    | refine ord_split (by kernel_rfl) ?_
    | (refine xw_ret ?_ <;> try simp only [sq, bl, LQ])
    | ((first | refine xw_reg ?_ | refine xw_regd ?_ | refine xw_if ?_ | refine xw_skip ?_ | refine xw_exit ?_ | refine xw_label ?_ | refine post_ret ?_ | refine post_normal ?_ | refine postE_ret ?_ | refine postE_normal ?_) <;> simp (disch := first | assumption | omega | exact VG.okg (by assumption) | (simp only [List.length_set, List.length_append, List.length_cons, List.length_nil, List.length_replicate]; omega)) only [go_sem, ↓reduceIte, Int.reduceLE, Int.reduceLT, Int.reduceToNat, Int.reduceNeg, Int.reduceAdd, Int.reduceSub, Int.reduceMul, Int.reduceEq, Int.reduceNe, Nat.reduceEqDiff, Nat.reduceAdd, Nat.reduceSub, Nat.reduceMul, Nat.reduceLT, Nat.reduceLeDiff, Nat.reduceBEq, Nat.reduceBNe, Try.results122, m30, h7, h8, List.length_take, g3])
    | (((first | refine at_region ?_ | refine at_out ?_ | refine at_cond ?_); split) <;> first | (exfalso; omega; done) | simp (disch := first | assumption | omega | exact VG.okg (by assumption) | (simp only [List.length_set, List.length_append, List.length_cons, List.length_nil, List.length_replicate]; omega)) only [go_sem, ↓reduceIte, Int.reduceLE, Int.reduceLT, Int.reduceToNat, Int.reduceNeg, Int.reduceAdd, Int.reduceSub, Int.reduceMul, Int.reduceEq, Int.reduceNe, Nat.reduceEqDiff, Nat.reduceAdd, Nat.reduceSub, Nat.reduceMul, Nat.reduceLT, Nat.reduceLeDiff, Nat.reduceBEq, Nat.reduceBNe, Try.results122, m30, h7, h8, List.length_take, g3] | skip))
  · refine ⟨by omega, by omega, by simp [g3]; omega, ?_, by omega⟩
    have e1 : min k.toNat n.toNat = k.toNat := by omega
    rw [e1, g4, List.take_replicate]
    have e2 : min (n.toNat - k.toNat) k.toNat = min k.toNat (n.toNat - k.toNat) := Nat.min_comm ..
    rw [List.replicate_append_replicate, e2]
    have e3 : (k + ((min k.toNat (n.toNat - k.toNat) : Nat) : Int)).toNat = k.toNat + min k.toNat (n.toNat - k.toNat) := by omega
    rw [e3]
    exact List.take_left' (by simp)
  · have : k.toNat = n.toNat := by omega
    rw [this, take_all (by omega)] at g4
    rw [g4]

theorem drop_len_append {α : Type} (a b : List α) : (a ++ b).drop a.length = b := by simp
theorem getD_len_append (a b : List Int) (x : Int) : (a ++ x :: b).getD a.length 0 = x := by simp

end Go.Proofs.Ytflmjjfoeabnoaa.X