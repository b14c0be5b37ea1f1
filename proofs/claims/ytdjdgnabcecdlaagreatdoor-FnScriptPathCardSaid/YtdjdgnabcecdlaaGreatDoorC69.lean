/- What functions compute: copies of rows of numbers and of truth values, what goes in and out. -/
import Derived.Test.YtdjdgnabcecdlaaGreatDoorC22
import Derived.Test.YtdjdgnabcecdlaaGreatDoorC46
set_option linter.unusedSimpArgs false
set_option linter.unusedVariables false
set_option maxHeartbeats 8000000
set_option maxRecDepth 100000
namespace Go.Proofs.YtdjdgnabcecdlaaGreatDoor.X
open Go Go.Proofs
theorem mapAppT {xs ys : List Bool} : xs.map encT ++ ys.map encT = (xs ++ ys).map encT := by simp
theorem dropT {xs : List Bool} {n : Nat} : (xs.map encT).drop n = (xs.drop n).map encT := by simp
theorem takeTB {xs : List Bool} {n : Nat} : (xs.map encT).take n = (xs.take n).map encT := by simp
theorem encT_map_inj {a b : List Bool} : a.map encT = b.map encT ↔ a = b := by
  refine ⟨fun h => ?_, fun h => by rw [h]⟩
  induction a generalizing b with
  | nil => cases b <;> simp_all
  | cons x a ih =>
    cases b with
    | nil => simp at h
    | cons y b =>
      simp only [List.map_cons, List.cons.injEq, encT, IV.v.injEq, Value.bool.injEq, and_true] at h
      rw [ih h.2, h.1]
theorem lenT_all {us : List Bool} : (us.map encT).all (fun e => e.length == 1) = true := by simp [encT]
attribute [go_sem] mapAppT dropT takeTB encT_map_inj lenT_all
@[go_sem] theorem c_cloneI0 : KP 207 [.i (.lst [])] [] = some (.i .emp, [], []) := KK_prim rfl rfl
theorem c_cloneI (xs : List Int) (h : xs ≠ []) (hl : xs.length ≤ 1048576) : KP 207 [LI xs] [] = some (.ref 2000 0 0 xs.length, [], [.arr 0 1 (xs.map encI)]) := by
  have hp : primC cfg 207 [LI xs] [] = none := by
    cases xs with
    | nil => exact absurd rfl h
    | cons e r => rfl
  have hm : xs.map encI ≠ [] := by simpa using h
  refine xw_call (fn := Tryz.f207) hp Tryz.func207 rfl ⟨Nat.le_of_ble_eq_true rfl, rfl, rfl⟩ ?_
  repeat' (first
    | refine xw_seq ?_
    | refine xw_block ?_
    | (refine ite_two ?_ ?_ <;> intro _ <;> first | (exfalso; omega) | skip)
    | refine ord_split (by kernel_rfl) ?_
    | (refine xw_ret ?_ <;> try simp only [sq, bl, LQ])
    | ((first | refine xw_reg ?_ | refine xw_regd ?_ | refine xw_if ?_ | refine xw_skip ?_ | refine xw_exit ?_ | refine xw_label ?_ | refine post_ret ?_ | refine post_normal ?_ | refine postE_ret ?_ | refine postE_normal ?_) <;> simp (config := { maxSteps := 3000000 }) (disch := first | assumption | omega | exact VG.okg (by assumption) | (simp only [List.length_set, List.length_append, List.length_cons, List.length_nil, List.length_replicate]; omega)) only [go_sem, ↓reduceIte, Int.reduceLE, Int.reduceLT, Int.reduceToNat, Int.reduceNeg, Int.reduceAdd, Int.reduceSub, Int.reduceMul, Int.reduceEq, Int.reduceNe, Nat.reduceEqDiff, Nat.reduceAdd, Nat.reduceSub, Nat.reduceMul, Nat.reduceLT, Nat.reduceLeDiff, Nat.reduceBEq, Nat.reduceBNe, Tryz.results207, hm])
    | (((first | refine at_region ?_ | refine at_out ?_ | refine at_cond ?_); split) <;> first | (exfalso; omega; done) | simp (config := { maxSteps := 3000000 }) (disch := first | assumption | omega | exact VG.okg (by assumption) | (simp only [List.length_set, List.length_append, List.length_cons, List.length_nil, List.length_replicate]; omega)) only [go_sem, ↓reduceIte, Int.reduceLE, Int.reduceLT, Int.reduceToNat, Int.reduceNeg, Int.reduceAdd, Int.reduceSub, Int.reduceMul, Int.reduceEq, Int.reduceNe, Nat.reduceEqDiff, Nat.reduceAdd, Nat.reduceSub, Nat.reduceMul, Nat.reduceLT, Nat.reduceLeDiff, Nat.reduceBEq, Nat.reduceBNe, Tryz.results207, hm] | skip))
@[go_sem] theorem c_cloneT0 : KP 209 [.i (.lst [])] [] = some (.i .emp, [], []) := KK_prim rfl rfl
theorem c_cloneT (xs : List Bool) (h : xs ≠ []) (hl : xs.length ≤ 1048576) : KP 209 [LT xs] [] = some (.ref 2000 0 0 xs.length, [], [.arr 0 1 (xs.map encT)]) := by
  have hp : primC cfg 209 [LT xs] [] = none := by
    cases xs with
    | nil => exact absurd rfl h
    | cons e r => rfl
  have hm : xs.map encT ≠ [] := by simpa using h
  refine xw_call (fn := Tryz.f209) hp Tryz.func209 rfl ⟨Nat.le_of_ble_eq_true rfl, rfl, rfl⟩ ?_
  repeat' (first
    | refine xw_seq ?_
    | refine xw_block ?_
    | (refine ite_two ?_ ?_ <;> intro _ <;> first | (exfalso; omega) | skip)
    | refine ord_split (by kernel_rfl) ?_
    | (refine xw_ret ?_ <;> try simp only [sq, bl, LQ])
    | ((first | refine xw_reg ?_ | refine xw_regd ?_ | refine xw_if ?_ | refine xw_skip ?_ | refine xw_exit ?_ | refine xw_label ?_ | refine post_ret ?_ | refine post_normal ?_ | refine postE_ret ?_ | refine postE_normal ?_) <;> simp (config := { maxSteps := 3000000 }) (disch := first | assumption | omega | exact VG.okg (by assumption) | (simp only [List.length_set, List.length_append, List.length_cons, List.length_nil, List.length_replicate]; omega)) only [go_sem, ↓reduceIte, Int.reduceLE, Int.reduceLT, Int.reduceToNat, Int.reduceNeg, Int.reduceAdd, Int.reduceSub, Int.reduceMul, Int.reduceEq, Int.reduceNe, Nat.reduceEqDiff, Nat.reduceAdd, Nat.reduceSub, Nat.reduceMul, Nat.reduceLT, Nat.reduceLeDiff, Nat.reduceBEq, Nat.reduceBNe, Tryz.results209, hm])
    | (((first | refine at_region ?_ | refine at_out ?_ | refine at_cond ?_); split) <;> first | (exfalso; omega; done) | simp (config := { maxSteps := 3000000 }) (disch := first | assumption | omega | exact VG.okg (by assumption) | (simp only [List.length_set, List.length_append, List.length_cons, List.length_nil, List.length_replicate]; omega)) only [go_sem, ↓reduceIte, Int.reduceLE, Int.reduceLT, Int.reduceToNat, Int.reduceNeg, Int.reduceAdd, Int.reduceSub, Int.reduceMul, Int.reduceEq, Int.reduceNe, Nat.reduceEqDiff, Nat.reduceAdd, Nat.reduceSub, Nat.reduceMul, Nat.reduceLT, Nat.reduceLeDiff, Nat.reduceBEq, Nat.reduceBNe, Tryz.results209, hm] | skip))
theorem c_insI (xs : List Int) (x k : Int) (hl : xs.length ≤ 1000) (h0 : 0 ≤ k) (hk : k < xs.length) :
    KP 206 [.ref 1000 0 0 xs.length, I k, .ref 1001 0 0 1] [.arr 0 1 (xs.map encI), .arr 0 1 [[.v (.int .i64 x)]]] = some (.ref 1000 1 0 (xs.length + 1), [.arr 1 1 ((xs.take k.toNat ++ x :: xs.drop k.toNat).map encI), .arr 0 1 [[.v (.int .i64 x)]]], []) := by
  refine KK_prim rfl ?_
  have : xs.length ≤ 1000000 := by omega
  simp [insP, h0, hk, this, encI]
theorem c_insI_end (xs : List Int) (x : Int) (hl : xs.length ≤ 1000) :
    KP 206 [.ref 1000 0 0 xs.length, I xs.length, .ref 1001 0 0 1] [.arr 0 1 (xs.map encI), .arr 0 1 [[.v (.int .i64 x)]]] = some (.ref 1000 1 0 (xs.length + 1), [.arr 1 1 ((xs ++ [x]).map encI), .arr 0 1 [[.v (.int .i64 x)]]], []) := by
  have hp : primC cfg 206 [.ref 1000 0 0 xs.length, I xs.length, .ref 1001 0 0 1] [.arr 0 1 (xs.map encI), .arr 0 1 [[.v (.int .i64 x)]]] = none := by
    first | rfl | simp [primC, cfg, insP]
  refine xw_call (fn := Tryz.f206) hp Tryz.func206 rfl ⟨Nat.le_of_ble_eq_true rfl, rfl, rfl⟩ ?_
  repeat' (first
    | refine xw_seq ?_
    | refine xw_block ?_
    | (refine ite_two ?_ ?_ <;> intro _ <;> first | (exfalso; omega) | skip)
    | refine ord_split (by kernel_rfl) ?_
    | (refine xw_ret ?_ <;> try simp only [sq, bl, LQ])
    | ((first | refine xw_reg ?_ | refine xw_regd ?_ | refine xw_if ?_ | refine xw_skip ?_ | refine xw_exit ?_ | refine xw_label ?_ | refine post_ret ?_ | refine post_normal ?_ | refine postE_ret ?_ | refine postE_normal ?_) <;> simp (config := { maxSteps := 3000000 }) (disch := first | assumption | omega | exact VG.okg (by assumption) | (simp only [List.length_set, List.length_append, List.length_cons, List.length_nil, List.length_replicate]; omega)) only [go_sem, ↓reduceIte, Int.reduceLE, Int.reduceLT, Int.reduceToNat, Int.reduceNeg, Int.reduceAdd, Int.reduceSub, Int.reduceMul, Int.reduceEq, Int.reduceNe, Nat.reduceEqDiff, Nat.reduceAdd, Nat.reduceSub, Nat.reduceMul, Nat.reduceLT, Nat.reduceLeDiff, Nat.reduceBEq, Nat.reduceBNe, Tryz.results206])
    | (((first | refine at_region ?_ | refine at_out ?_ | refine at_cond ?_); split) <;> first | (exfalso; omega; done) | simp (config := { maxSteps := 3000000 }) (disch := first | assumption | omega | exact VG.okg (by assumption) | (simp only [List.length_set, List.length_append, List.length_cons, List.length_nil, List.length_replicate]; omega)) only [go_sem, ↓reduceIte, Int.reduceLE, Int.reduceLT, Int.reduceToNat, Int.reduceNeg, Int.reduceAdd, Int.reduceSub, Int.reduceMul, Int.reduceEq, Int.reduceNe, Nat.reduceEqDiff, Nat.reduceAdd, Nat.reduceSub, Nat.reduceMul, Nat.reduceLT, Nat.reduceLeDiff, Nat.reduceBEq, Nat.reduceBNe, Tryz.results206] | skip))
theorem c_insI_nil (x : Int) :
    KP 206 [.i .emp, I 0, .ref 1000 0 0 1] [.arr 0 1 [[.v (.int .i64 x)]]] = some (.ref 2000 0 0 1, [.arr 0 1 [[.v (.int .i64 x)]]], [.arr 0 1 [[.v (.int .i64 x)]]]) := by
  have hp : primC cfg 206 [.i .emp, I 0, .ref 1000 0 0 1] [.arr 0 1 [[.v (.int .i64 x)]]] = none := by
    first | rfl | simp [primC, cfg, insP]
  refine xw_call (fn := Tryz.f206) hp Tryz.func206 rfl ⟨Nat.le_of_ble_eq_true rfl, rfl, rfl⟩ ?_
  repeat' (first
    | refine xw_seq ?_
    | refine xw_block ?_
    | (refine ite_two ?_ ?_ <;> intro _ <;> first | (exfalso; omega) | skip)
    | refine ord_split (by kernel_rfl) ?_
    | (refine xw_ret ?_ <;> try simp only [sq, bl, LQ])
    | ((first | refine xw_reg ?_ | refine xw_regd ?_ | refine xw_if ?_ | refine xw_skip ?_ | refine xw_exit ?_ | refine xw_label ?_ | refine post_ret ?_ | refine post_normal ?_ | refine postE_ret ?_ | refine postE_normal ?_) <;> simp (config := { maxSteps := 3000000 }) (disch := first | assumption | omega | exact VG.okg (by assumption) | (simp only [List.length_set, List.length_append, List.length_cons, List.length_nil, List.length_replicate]; omega)) only [go_sem, ↓reduceIte, Int.reduceLE, Int.reduceLT, Int.reduceToNat, Int.reduceNeg, Int.reduceAdd, Int.reduceSub, Int.reduceMul, Int.reduceEq, Int.reduceNe, Nat.reduceEqDiff, Nat.reduceAdd, Nat.reduceSub, Nat.reduceMul, Nat.reduceLT, Nat.reduceLeDiff, Nat.reduceBEq, Nat.reduceBNe, Tryz.results206])
    | (((first | refine at_region ?_ | refine at_out ?_ | refine at_cond ?_); split) <;> first | (exfalso; omega; done) | simp (config := { maxSteps := 3000000 }) (disch := first | assumption | omega | exact VG.okg (by assumption) | (simp only [List.length_set, List.length_append, List.length_cons, List.length_nil, List.length_replicate]; omega)) only [go_sem, ↓reduceIte, Int.reduceLE, Int.reduceLT, Int.reduceToNat, Int.reduceNeg, Int.reduceAdd, Int.reduceSub, Int.reduceMul, Int.reduceEq, Int.reduceNe, Nat.reduceEqDiff, Nat.reduceAdd, Nat.reduceSub, Nat.reduceMul, Nat.reduceLT, Nat.reduceLeDiff, Nat.reduceBEq, Nat.reduceBNe, Tryz.results206] | skip))
theorem c_insT (xs : List Bool) (x : Bool) (k : Int) (hl : xs.length ≤ 1000) (h0 : 0 ≤ k) (hk : k < xs.length) :
    KP 208 [.ref 1000 0 0 xs.length, I k, .ref 1001 0 0 1] [.arr 0 1 (xs.map encT), .arr 0 1 [[.v (.bool x)]]] = some (.ref 1000 1 0 (xs.length + 1), [.arr 1 1 ((xs.take k.toNat ++ x :: xs.drop k.toNat).map encT), .arr 0 1 [[.v (.bool x)]]], []) := by
  refine KK_prim rfl ?_
  have : xs.length ≤ 1000000 := by omega
  simp [insP, h0, hk, this, encT]
theorem c_insT_end (xs : List Bool) (x : Bool) (hl : xs.length ≤ 1000) :
    KP 208 [.ref 1000 0 0 xs.length, I xs.length, .ref 1001 0 0 1] [.arr 0 1 (xs.map encT), .arr 0 1 [[.v (.bool x)]]] = some (.ref 1000 1 0 (xs.length + 1), [.arr 1 1 ((xs ++ [x]).map encT), .arr 0 1 [[.v (.bool x)]]], []) := by
  have hp : primC cfg 208 [.ref 1000 0 0 xs.length, I xs.length, .ref 1001 0 0 1] [.arr 0 1 (xs.map encT), .arr 0 1 [[.v (.bool x)]]] = none := by
    first | rfl | simp [primC, cfg, insP]
  refine xw_call (fn := Tryz.f208) hp Tryz.func208 rfl ⟨Nat.le_of_ble_eq_true rfl, rfl, rfl⟩ ?_
  repeat' (first
    | refine xw_seq ?_
    | refine xw_block ?_
    | (refine ite_two ?_ ?_ <;> intro _ <;> first | (exfalso; omega) | skip)
    | refine ord_split (by kernel_rfl) ?_
    | (refine xw_ret ?_ <;> try simp only [sq, bl, LQ])
    | ((first | refine xw_reg ?_ | refine xw_regd ?_ | refine xw_if ?_ | refine xw_skip ?_ | refine xw_exit ?_ | refine xw_label ?_ | refine post_ret ?_ | refine post_normal ?_ | refine postE_ret ?_ | refine postE_normal ?_) <;> simp (config := { maxSteps := 3000000 }) (disch := first | assumption | omega | exact VG.okg (by assumption) | (simp only [List.length_set, List.length_append, List.length_cons, List.length_nil, List.length_replicate]; omega)) only [go_sem, ↓reduceIte, Int.reduceLE, Int.reduceLT, Int.reduceToNat, Int.reduceNeg, Int.reduceAdd, Int.reduceSub, Int.reduceMul, Int.reduceEq, Int.reduceNe, Nat.reduceEqDiff, Nat.reduceAdd, Nat.reduceSub, Nat.reduceMul, Nat.reduceLT, Nat.reduceLeDiff, Nat.reduceBEq, Nat.reduceBNe, Tryz.results208])
    | (((first | refine at_region ?_ | refine at_out ?_ | refine at_cond ?_); split) <;> first | (exfalso; omega; done) | simp (config := { maxSteps := 3000000 }) (disch := first | assumption | omega | exact VG.okg (by assumption) | (simp only [List.length_set, List.length_append, List.length_cons, List.length_nil, List.length_replicate]; omega)) only [go_sem, ↓reduceIte, Int.reduceLE, Int.reduceLT, Int.reduceToNat, Int.reduceNeg, Int.reduceAdd, Int.reduceSub, Int.reduceMul, Int.reduceEq, Int.reduceNe, Nat.reduceEqDiff, Nat.reduceAdd, Nat.reduceSub, Nat.reduceMul, Nat.reduceLT, Nat.reduceLeDiff, Nat.reduceBEq, Nat.reduceBNe, Tryz.results208] | skip))
theorem c_insT_nil (x : Bool) :
    KP 208 [.i .emp, I 0, .ref 1000 0 0 1] [.arr 0 1 [[.v (.bool x)]]] = some (.ref 2000 0 0 1, [.arr 0 1 [[.v (.bool x)]]], [.arr 0 1 [[.v (.bool x)]]]) := by
  have hp : primC cfg 208 [.i .emp, I 0, .ref 1000 0 0 1] [.arr 0 1 [[.v (.bool x)]]] = none := by
    first | rfl | simp [primC, cfg, insP]
  refine xw_call (fn := Tryz.f208) hp Tryz.func208 rfl ⟨Nat.le_of_ble_eq_true rfl, rfl, rfl⟩ ?_
  repeat' (first
    | refine xw_seq ?_
    | refine xw_block ?_
    | (refine ite_two ?_ ?_ <;> intro _ <;> first | (exfalso; omega) | skip)
    | refine ord_split (by kernel_rfl) ?_
    | (refine xw_ret ?_ <;> try simp only [sq, bl, LQ])
    | ((first | refine xw_reg ?_ | refine xw_regd ?_ | refine xw_if ?_ | refine xw_skip ?_ | refine xw_exit ?_ | refine xw_label ?_ | refine post_ret ?_ | refine post_normal ?_ | refine postE_ret ?_ | refine postE_normal ?_) <;> simp (config := { maxSteps := 3000000 }) (disch := first | assumption | omega | exact VG.okg (by assumption) | (simp only [List.length_set, List.length_append, List.length_cons, List.length_nil, List.length_replicate]; omega)) only [go_sem, ↓reduceIte, Int.reduceLE, Int.reduceLT, Int.reduceToNat, Int.reduceNeg, Int.reduceAdd, Int.reduceSub, Int.reduceMul, Int.reduceEq, Int.reduceNe, Nat.reduceEqDiff, Nat.reduceAdd, Nat.reduceSub, Nat.reduceMul, Nat.reduceLT, Nat.reduceLeDiff, Nat.reduceBEq, Nat.reduceBNe, Tryz.results208])
    | (((first | refine at_region ?_ | refine at_out ?_ | refine at_cond ?_); split) <;> first | (exfalso; omega; done) | simp (config := { maxSteps := 3000000 }) (disch := first | assumption | omega | exact VG.okg (by assumption) | (simp only [List.length_set, List.length_append, List.length_cons, List.length_nil, List.length_replicate]; omega)) only [go_sem, ↓reduceIte, Int.reduceLE, Int.reduceLT, Int.reduceToNat, Int.reduceNeg, Int.reduceAdd, Int.reduceSub, Int.reduceMul, Int.reduceEq, Int.reduceNe, Nat.reduceEqDiff, Nat.reduceAdd, Nat.reduceSub, Nat.reduceMul, Nat.reduceLT, Nat.reduceLeDiff, Nat.reduceBEq, Nat.reduceBNe, Tryz.results208] | skip))
end Go.Proofs.YtdjdgnabcecdlaaGreatDoor.X
