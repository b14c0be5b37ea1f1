/- What functions compute: copies of rows of numbers and of truth values, what goes in and out. -/
import Derived.Test.YteknfomddncboaaC22
import Derived.Test.YteknfomddncboaaC46
set_option linter.unusedSimpArgs false
set_option linter.unusedVariables false
set_option maxHeartbeats 8000000
set_option maxRecDepth 100000
namespace Go.Proofs.Yteknfomddncboaa.X
open Go Go.Proofs
theorem mapAppT {xs ys : List Bool} : xs.map encT ++ ys.map encT = (xs ++ ys).map encT := by simp
theorem dropT {xs : List Bool} {n : Nat} : (xs.map encT).drop n = (xs.drop n).map encT := by simp
theorem takeTB {xs : List Bool} {n : Nat} : (xs.map encT).take n = (xs.take n).map encT := by simp
theorem encT_map_inj {a b : List Bool} : a.map encT = b.map encT ↔ a = b := by
  refine ⟨fun h => ?_, fun h => by rw [h]⟩
  induction a generalizing b with
  | nil => cases b <;> simp_all
  | cons x a ih =>
    cases b with
    | nil => simp at h
    | cons y b =>
      simp only [List.map_cons, List.cons.injEq, encT, IV.v.injEq, Value.bool.injEq, and_true] at h
      rw [ih h.2, h.1]
theorem lenT_all {us : List Bool} : (us.map encT).all (fun e => e.length == 1) = true := by simp [encT]
attribute [go_sem] mapAppT dropT takeTB encT_map_inj lenT_all
@[go_sem] theorem c_cloneI0 : KP 64 [.i (.lst [])] [] = some (.i .emp, [], []) := KK_prim rfl rfl
theorem c_cloneI (xs : List Int) (h : xs ≠ []) (hl : xs.length ≤ 1048576) : KP 64 [LI xs] [] = some (.ref 2000 0 0 xs.length, [], [.arr 0 1 (xs.map encI)]) := by
  have hp : primC cfg 64 [LI xs] [] = none := by
    cases xs with
    | nil => exact absurd rfl h
    | cons e r => rfl
  have hm : xs.map encI ≠ [] := by simpa using h
  refine xw_call (fn := Try.f64) hp Try.func64 rfl ⟨Nat.le_of_ble_eq_true rfl, rfl, rfl⟩ ?_
  repeat' (first
    | refine xw_seq ?_
    | refine xw_block ?_
    | (refine ite_two ?_ ?_ <;> intro _ <;> first | (exfalso; omega) | skip)
    | refine ord_split (by kernel_rfl) ?_
    | (refine xw_ret ?_ <;> try simp only [sq, bl, LQ])
    | ((first | refine xw_reg ?_ | refine xw_regd ?_ | refine xw_if ?_ | refine xw_skip ?_ | refine xw_exit ?_ | refine xw_label ?_ | refine post_ret ?_ | refine post_normal ?_ | refine postE_ret ?_ | refine postE_normal ?_) <;> simp (config := { maxSteps := 3000000 }) (disch := first | assumption | omega | exact VG.okg (by assumption) | (simp only [List.length_set, List.length_append, List.length_cons, List.length_nil, List.length_replicate]; omega)) only [go_sem, ↓reduceIte, Int.reduceLE, Int.reduceLT, Int.reduceToNat, Int.reduceNeg, Int.reduceAdd, Int.reduceSub, Int.reduceMul, Int.reduceEq, Int.reduceNe, Nat.reduceEqDiff, Nat.reduceAdd, Nat.reduceSub, Nat.reduceMul, Nat.reduceLT, Nat.reduceLeDiff, Nat.reduceBEq, Nat.reduceBNe, Try.results64, hm])
    | (((first | refine at_region ?_ | refine at_out ?_ | refine at_cond ?_); split) <;> first | (exfalso; omega; done) | simp (config := { maxSteps := 3000000 }) (disch := first | assumption | omega | exact VG.okg (by assumption) | (simp only [List.length_set, List.length_append, List.length_cons, List.length_nil, List.length_replicate]; omega)) only [go_sem, ↓reduceIte, Int.reduceLE, Int.reduceLT, Int.reduceToNat, Int.reduceNeg, Int.reduceAdd, Int.reduceSub, Int.reduceMul, Int.reduceEq, Int.reduceNe, Nat.reduceEqDiff, Nat.reduceAdd, Nat.reduceSub, Nat.reduceMul, Nat.reduceLT, Nat.reduceLeDiff, Nat.reduceBEq, Nat.reduceBNe, Try.results64, hm] | skip))
@[go_sem] theorem c_cloneT0 : KP 66 [.i (.lst [])] [] = some (.i .emp, [], []) := KK_prim rfl rfl
theorem c_cloneT (xs : List Bool) (h : xs ≠ []) (hl : xs.length ≤ 1048576) : KP 66 [LT xs] [] = some (.ref 2000 0 0 xs.length, [], [.arr 0 1 (xs.map encT)]) := by
  have hp : primC cfg 66 [LT xs] [] = none := by
    cases xs with
    | nil => exact absurd rfl h
    | cons e r => rfl
  have hm : xs.map encT ≠ [] := by simpa using h
  refine xw_call (fn := Try.f66) hp Try.func66 rfl ⟨Nat.le_of_ble_eq_true rfl, rfl, rfl⟩ ?_
  repeat' (first
    | refine xw_seq ?_
    | refine xw_block ?_
    | (refine ite_two ?_ ?_ <;> intro _ <;> first | (exfalso; omega) | skip)
    | refine ord_split (by kernel_rfl) ?_
    | (refine xw_ret ?_ <;> try simp only [sq, bl, LQ])
    | ((first | refine xw_reg ?_ | refine xw_regd ?_ | refine xw_if ?_ | refine xw_skip ?_ | refine xw_exit ?_ | refine xw_label ?_ | refine post_ret ?_ | refine post_normal ?_ | refine postE_ret ?_ | refine postE_normal ?_) <;> simp (config := { maxSteps := 3000000 }) (disch := first | assumption | omega | exact VG.okg (by assumption) | (simp only [List.length_set, List.length_append, List.length_cons, List.length_nil, List.length_replicate]; omega)) only [go_sem, ↓reduceIte, Int.reduceLE, Int.reduceLT, Int.reduceToNat, Int.reduceNeg, Int.reduceAdd, Int.reduceSub, Int.reduceMul, Int.reduceEq, Int.reduceNe, Nat.reduceEqDiff, Nat.reduceAdd, Nat.reduceSub, Nat.reduceMul, Nat.reduceLT, Nat.reduceLeDiff, Nat.reduceBEq, Nat.reduceBNe, Try.results66, hm])
    | (((first | refine at_region ?_ | refine at_out ?_ | refine at_cond ?_); split) <;> first | (exfalso; omega; done) | simp (config := { maxSteps := 3000000 }) (disch := first | assumption | omega | exact VG.okg (by assumption) | (simp only [List.length_set, List.length_append, List.length_cons, List.length_nil, List.length_replicate]; omega)) only [go_sem, ↓reduceIte, Int.reduceLE, Int.reduceLT, Int.reduceToNat, Int.reduceNeg, Int.reduceAdd, Int.reduceSub, Int.reduceMul, Int.reduceEq, Int.reduceNe, Nat.reduceEqDiff, Nat.reduceAdd, Nat.reduceSub, Nat.reduceMul, Nat.reduceLT, Nat.reduceLeDiff, Nat.reduceBEq, Nat.reduceBNe, Try.results66, hm] | skip))
theorem c_insI (xs : List Int) (x k : Int) (hl : xs.length ≤ 1000) (h0 : 0 ≤ k) (hk : k < xs.length) :
    KP 63 [.ref 1000 0 0 xs.length, I k, .ref 1001 0 0 1] [.arr 0 1 (xs.map encI), .arr 0 1 [[.v (.int .i64 x)]]] = some (.ref 1000 1 0 (xs.length + 1), [.arr 1 1 ((xs.take k.toNat ++ x :: xs.drop k.toNat).map encI), .arr 0 1 [[.v (.int .i64 x)]]], []) := by
  refine KK_prim rfl ?_
  have : xs.length ≤ 1000000 := by omega
  simp [insP, h0, hk, this, encI]
theorem c_insI_end (xs : List Int) (x : Int) (hl : xs.length ≤ 1000) :
    KP 63 [.ref 1000 0 0 xs.length, I xs.length, .ref 1001 0 0 1] [.arr 0 1 (xs.map encI), .arr 0 1 [[.v (.int .i64 x)]]] = some (.ref 1000 1 0 (xs.length + 1), [.arr 1 1 ((xs ++ [x]).map encI), .arr 0 1 [[.v (.int .i64 x)]]], []) := by
  have hp : primC cfg 63 [.ref 1000 0 0 xs.length, I xs.length, .ref 1001 0 0 1] [.arr 0 1 (xs.map encI), .arr 0 1 [[.v (.int .i64 x)]]] = none := by
    first | rfl | simp [primC, cfg, insP]
  refine xw_call (fn := Try.f63) hp Try.func63 rfl ⟨Nat.le_of_ble_eq_true rfl, rfl, rfl⟩ ?_
  repeat' (first
    | refine xw_seq ?_
    | refine xw_block ?_
    | (refine ite_two ?_ ?_ <;> intro _ <;> first | (exfalso; omega) | skip)
    | refine ord_split (by kernel_rfl) ?_
    | (refine xw_ret ?_ <;> try simp only [sq, bl, LQ])
    | ((first | refine xw_reg ?_ | refine xw_regd ?_ | refine xw_if ?_ | refine xw_skip ?_ | refine xw_exit ?_ | refine xw_label ?_ | refine post_ret ?_ | refine post_normal ?_ | refine postE_ret ?_ | refine postE_normal ?_) <;> simp (config := { maxSteps := 3000000 }) (disch := first | assumption | omega | exact VG.okg (by assumption) | (simp only [List.length_set, List.length_append, List.length_cons, List.length_nil, List.length_replicate]; omega)) only [go_sem, ↓reduceIte, Int.reduceLE, Int.reduceLT, Int.reduceToNat, Int.reduceNeg, Int.reduceAdd, Int.reduceSub, Int.reduceMul, Int.reduceEq, Int.reduceNe, Nat.reduceEqDiff, Nat.reduceAdd, Nat.reduceSub, Nat.reduceMul, Nat.reduceLT, Nat.reduceLeDiff, Nat.reduceBEq, Nat.reduceBNe, Try.results63])
    | (((first | refine at_region ?_ | refine at_out ?_ | refine at_cond ?_); split) <;> first | (exfalso; omega; done) | simp (config := { maxSteps := 3000000 }) (disch := first | assumption | omega | exact VG.okg (by assumption) | (simp only [List.length_set, List.length_append, List.length_cons, List.length_nil, List.length_replicate]; omega)) only [go_sem, ↓reduceIte, Int.reduceLE, Int.reduceLT, Int.reduceToNat, Int.reduceNeg, Int.reduceAdd, Int.reduceSub, Int.reduceMul, Int.reduceEq, Int.reduceNe, Nat.reduceEqDiff, Nat.reduceAdd, Nat.reduceSub, Nat.reduceMul, Nat.reduceLT, Nat.reduceLeDiff, Nat.reduceBEq, Nat.reduceBNe, Try.results63] | skip))
theorem c_insI_nil (x : Int) :
    KP 63 [.i .emp, I 0, .ref 1000 0 0 1] [.arr 0 1 [[.v (.int .i64 x)]]] = some (.ref 2000 0 0 1, [.arr 0 1 [[.v (.int .i64 x)]]], [.arr 0 1 [[.v (.int .i64 x)]]]) := by
  have hp : primC cfg 63 [.i .emp, I 0, .ref 1000 0 0 1] [.arr 0 1 [[.v (.int .i64 x)]]] = none := by
    first | rfl | simp [primC, cfg, insP]
  refine xw_call (fn := Try.f63) hp Try.func63 rfl ⟨Nat.le_of_ble_eq_true rfl, rfl, rfl⟩ ?_
  repeat' (first
    | refine xw_seq ?_
    | refine xw_block ?_
    | (refine ite_two ?_ ?_ <;> intro _ <;> first | (exfalso; omega) | skip)
    | refine ord_split (by kernel_rfl) ?_
    | (refine xw_ret ?_ <;> try simp only [sq, bl, LQ])
    | ((first | refine xw_reg ?_ | refine xw_regd ?_ | refine xw_if ?_ | refine xw_skip ?_ | refine xw_exit ?_ | refine xw_label ?_ | refine post_ret ?_ | refine post_normal ?_ | refine postE_ret ?_ | refine postE_normal ?_) <;> simp (config := { maxSteps := 3000000 }) (disch := first | assumption | omega | exact VG.okg (by assumption) | (simp only [List.length_set, List.length_append, List.length_cons, List.length_nil, List.length_replicate]; omega)) only [go_sem, ↓reduceIte, Int.reduceLE, Int.reduceLT, Int.reduceToNat, Int.reduceNeg, Int.reduceAdd, Int.reduceSub, Int.reduceMul, Int.reduceEq, Int.reduceNe, Nat.reduceEqDiff, Nat.reduceAdd, Nat.reduceSub, Nat.reduceMul, Nat.reduceLT, Nat.reduceLeDiff, Nat.reduceBEq, Nat.reduceBNe, Try.results63])
    | (((first | refine at_region ?_ | refine at_out ?_ | refine at_cond ?_); split) <;> first | (exfalso; omega; done) | simp (config := { maxSteps := 3000000 }) (disch := first | assumption | omega | exact VG.okg (by assumption) | (simp only [List.length_set, List.length_append, List.length_cons, List.length_nil, List.length_replicate]; omega)) only [go_sem, ↓reduceIte, Int.reduceLE, Int.reduceLT, Int.reduceToNat, Int.reduceNeg, Int.reduceAdd, Int.reduceSub, Int.reduceMul, Int.reduceEq, Int.reduceNe, Nat.reduceEqDiff, Nat.reduceAdd, Nat.reduceSub, Nat.reduceMul, Nat.reduceLT, Nat.reduceLeDiff, Nat.reduceBEq, Nat.reduceBNe, Try.results63] | skip))
theorem c_insT (xs : List Bool) (x : Bool) (k : Int) (hl : xs.length ≤ 1000) (h0 : 0 ≤ k) (hk : k < xs.length) :
    KP 65 [.ref 1000 0 0 xs.length, I k, .ref 1001 0 0 1] [.arr 0 1 (xs.map encT), .arr 0 1 [[.v (.bool x)]]] = some (.ref 1000 1 0 (xs.length + 1), [.arr 1 1 ((xs.take k.toNat ++ x :: xs.drop k.toNat).map encT), .arr 0 1 [[.v (.bool x)]]], []) := by
  refine KK_prim rfl ?_
  have : xs.length ≤ 1000000 := by omega
  simp [insP, h0, hk, this, encT]
theorem c_insT_end (xs : List Bool) (x : Bool) (hl : xs.length ≤ 1000) :
    KP 65 [.ref 1000 0 0 xs.length, I xs.length, .ref 1001 0 0 1] [.arr 0 1 (xs.map encT), .arr 0 1 [[.v (.bool x)]]] = some (.ref 1000 1 0 (xs.length + 1), [.arr 1 1 ((xs ++ [x]).map encT), .arr 0 1 [[.v (.bool x)]]], []) := by
  have hp : primC cfg 65 [.ref 1000 0 0 xs.length, I xs.length, .ref 1001 0 0 1] [.arr 0 1 (xs.map encT), .arr 0 1 [[.v (.bool x)]]] = none := by
    first | rfl | simp [primC, cfg, insP]
  refine xw_call (fn := Try.f65) hp Try.func65 rfl ⟨Nat.le_of_ble_eq_true rfl, rfl, rfl⟩ ?_
  repeat' (first
    | refine xw_seq ?_
    | refine xw_block ?_
    | (refine ite_two ?_ ?_ <;> intro _ <;> first | (exfalso; omega) | skip)
    | refine ord_split (by kernel_rfl) ?_
    | (refine xw_ret ?_ <;> try simp only [sq, bl, LQ])
    | ((first | refine xw_reg ?_ | refine xw_regd ?_ | refine xw_if ?_ | refine xw_skip ?_ | refine xw_exit ?_ | refine xw_label ?_ | refine post_ret ?_ | refine post_normal ?_ | refine postE_ret ?_ | refine postE_normal ?_) <;> simp (config := { maxSteps := 3000000 }) (disch := first | assumption | omega | exact VG.okg (by assumption) | (simp only [List.length_set, List.length_append, List.length_cons, List.length_nil, List.length_replicate]; omega)) only [go_sem, ↓reduceIte, Int.reduceLE, Int.reduceLT, Int.reduceToNat, Int.reduceNeg, Int.reduceAdd, Int.reduceSub, Int.reduceMul, Int.reduceEq, Int.reduceNe, Nat.reduceEqDiff, Nat.reduceAdd, Nat.reduceSub, Nat.reduceMul, Nat.reduceLT, Nat.reduceLeDiff, Nat.reduceBEq, Nat.reduceBNe, Try.results65])
    | (((first | refine at_region ?_ | refine at_out ?_ | refine at_cond ?_); split) <;> first | (exfalso; omega; done) | simp (config := { maxSteps := 3000000 }) (disch := first | assumption | omega | exact VG.okg (by assumption) | (simp only [List.length_set, List.length_append, List.length_cons, List.length_nil, List.length_replicate]; omega)) only [go_sem, ↓reduceIte, Int.reduceLE, Int.reduceLT, Int.reduceToNat, Int.reduceNeg, Int.reduceAdd, Int.reduceSub, Int.reduceMul, Int.reduceEq, Int.reduceNe, Nat.reduceEqDiff, Nat.reduceAdd, Nat.reduceSub, Nat.reduceMul, Nat.reduceLT, Nat.reduceLeDiff, Nat.reduceBEq, Nat.reduceBNe, Try.results65] | skip))
theorem c_insT_nil (x : Bool) :
    KP 65 [.i .emp, I 0, .ref 1000 0 0 1] [.arr 0 1 [[.v (.bool x)]]] = some (.ref 2000 0 0 1, [.arr 0 1 [[.v (.bool x)]]], [.arr 0 1 [[.v (.bool x)]]]) := by
  have hp : primC cfg 65 [.i .emp, I 0, .ref 1000 0 0 1] [.arr 0 1 [[.v (.bool x)]]] = none := by
    first | rfl | simp [primC, cfg, insP]
  refine xw_call (fn := Try.f65) hp Try.func65 rfl ⟨Nat.le_of_ble_eq_true rfl, rfl, rfl⟩ ?_
  repeat' (first
    | refine xw_seq ?_
    | refine xw_block ?_
    | (refine ite_two ?_ ?_ <;> intro _ <;> first | (exfalso; omega) | skip)
    | refine ord_split (by kernel_rfl) ?_
    | (refine xw_ret ?_ <;> try simp only [sq, bl, LQ])
    | ((first | refine xw_reg ?_ | refine xw_regd ?_ | refine xw_if ?_ | refine xw_skip ?_ | refine xw_exit ?_ | refine xw_label ?_ | refine post_ret ?_ | refine post_normal ?_ | refine postE_ret ?_ | refine postE_normal ?_) <;> simp (config := { maxSteps := 3000000 }) (disch := first | assumption | omega | exact VG.okg (by assumption) | (simp only [List.length_set, List.length_append, List.length_cons, List.length_nil, List.length_replicate]; omega)) only [go_sem, ↓reduceIte, Int.reduceLE, Int.reduceLT, Int.reduceToNat, Int.reduceNeg, Int.reduceAdd, Int.reduceSub, Int.reduceMul, Int.reduceEq, Int.reduceNe, Nat.reduceEqDiff, Nat.reduceAdd, Nat.reduceSub, Nat.reduceMul, Nat.reduceLT, Nat.reduceLeDiff, Nat.reduceBEq, Nat.reduceBNe, Try.results65])
    | (((first | refine at_region ?_ | refine at_out ?_ | refine at_cond ?_); split) <;> first | (exfalso; omega; done) | simp (config := { maxSteps := 3000000 }) (disch := first | assumption | omega | exact VG.okg (by assumption) | (simp only [List.length_set, List.length_append, List.length_cons, List.length_nil, List.length_replicate]; omega)) only [go_sem, ↓reduceIte, Int.reduceLE, Int.reduceLT, Int.reduceToNat, Int.reduceNeg, Int.reduceAdd, Int.reduceSub, Int.reduceMul, Int.reduceEq, Int.reduceNe, Nat.reduceEqDiff, Nat.reduceAdd, Nat.reduceSub, Nat.reduceMul, Nat.reduceLT, Nat.reduceLeDiff, Nat.reduceBEq, Nat.reduceBNe, Try.results65] | skip))
theorem del_eq {α : Type} {xs : List α} {d : α} {i : Int} (h0 : 0 ≤ i) (hi : i < xs.length) :
    List.take (xs.length - 1) (List.take i.toNat xs ++ List.drop (i + 1).toNat xs ++ List.drop (xs.length - 1) xs) ++ [d] ++ List.drop (xs.length - 1 + 1) (List.take i.toNat xs ++ List.drop (i + 1).toNat xs ++ List.drop (xs.length - 1) xs) = List.take i.toNat xs ++ List.drop (i.toNat + 1) xs ++ [d] := by
  have e : (i + 1).toNat = i.toNat + 1 := by omega
  rw [e]
  have hA : (List.take i.toNat xs ++ List.drop (i.toNat + 1) xs).length = xs.length - 1 := by simp; omega
  have h2 : List.drop (xs.length - 1 + 1) (List.take i.toNat xs ++ List.drop (i.toNat + 1) xs ++ List.drop (xs.length - 1) xs) = [] := List.drop_eq_nil_of_le (by rw [List.length_append, hA]; simp; omega)
  rw [List.take_left' hA, h2, List.append_nil]
theorem c_delI (xs : List Int) (i : Int) (hl : xs.length ≤ 1000) (h0 : 0 ≤ i) (hi : i < xs.length) :
    KP 70 [.ref 1000 0 0 xs.length, I i, I (i + 1)] [.arr 0 1 (xs.map encI)] = some (.ref 1000 0 0 (xs.length - 1), [.arr 0 1 ((xs.take i.toNat ++ xs.drop (i.toNat + 1) ++ [0]).map encI)], []) := by
  have hb : (i.toNat == xs.length) = false := by simp; omega
  have htk : List.take (xs.length - (i + 1).toNat) (List.drop (i + 1).toNat xs) = List.drop (i + 1).toNat xs := List.take_of_length_le (by simp)
  have hsum : i.toNat + (List.drop (i + 1).toNat xs).length = xs.length - 1 := by simp; omega
  have hle : (↑xs.length : Int) ≤ ↑((List.take i.toNat xs).length + (List.drop (i + 1).toNat xs).length + (List.drop (xs.length - 1) xs).length) := by simp; omega
  have h1 : xs.length - (xs.length - 1) = 1 := by omega
  refine xw_call (fn := Try.f70) rfl Try.func70 rfl ⟨Nat.le_of_ble_eq_true rfl, rfl, rfl⟩ ?_
  repeat' (first
    | refine xw_seq ?_
    | refine xw_block ?_
    | (refine ite_two ?_ ?_ <;> intro _ <;> first | (exfalso; omega) | skip)
    | refine ord_split (by kernel_rfl) ?_
    | (refine xw_ret ?_ <;> try simp only [sq, bl, LQ])
    | ((first | refine xw_reg ?_ | refine xw_regd ?_ | refine xw_if ?_ | refine xw_skip ?_ | refine xw_exit ?_ | refine xw_label ?_ | refine post_ret ?_ | refine post_normal ?_ | refine postE_ret ?_ | refine postE_normal ?_) <;> simp (config := { maxSteps := 3000000 }) (disch := first | assumption | omega | exact VG.okg (by assumption) | (simp only [List.length_set, List.length_append, List.length_cons, List.length_nil, List.length_replicate]; omega)) only [go_sem, ↓reduceIte, Int.reduceLE, Int.reduceLT, Int.reduceToNat, Int.reduceNeg, Int.reduceAdd, Int.reduceSub, Int.reduceMul, Int.reduceEq, Int.reduceNe, Nat.reduceEqDiff, Nat.reduceAdd, Nat.reduceSub, Nat.reduceMul, Nat.reduceLT, Nat.reduceLeDiff, Nat.reduceBEq, Nat.reduceBNe, Try.results70, hb, htk, hsum, hle, h1])
    | (((first | refine at_region ?_ | refine at_out ?_ | refine at_cond ?_); split) <;> first | (exfalso; omega; done) | simp (config := { maxSteps := 3000000 }) (disch := first | assumption | omega | exact VG.okg (by assumption) | (simp only [List.length_set, List.length_append, List.length_cons, List.length_nil, List.length_replicate]; omega)) only [go_sem, ↓reduceIte, Int.reduceLE, Int.reduceLT, Int.reduceToNat, Int.reduceNeg, Int.reduceAdd, Int.reduceSub, Int.reduceMul, Int.reduceEq, Int.reduceNe, Nat.reduceEqDiff, Nat.reduceAdd, Nat.reduceSub, Nat.reduceMul, Nat.reduceLT, Nat.reduceLeDiff, Nat.reduceBEq, Nat.reduceBNe, Try.results70, hb, htk, hsum, hle, h1] | skip))
  rw [del_eq h0 hi]
theorem c_delT (xs : List Bool) (i : Int) (hl : xs.length ≤ 1000) (h0 : 0 ≤ i) (hi : i < xs.length) :
    KP 71 [.ref 1000 0 0 xs.length, I i, I (i + 1)] [.arr 0 1 (xs.map encT)] = some (.ref 1000 0 0 (xs.length - 1), [.arr 0 1 ((xs.take i.toNat ++ xs.drop (i.toNat + 1) ++ [false]).map encT)], []) := by
  have hb : (i.toNat == xs.length) = false := by simp; omega
  have htk : List.take (xs.length - (i + 1).toNat) (List.drop (i + 1).toNat xs) = List.drop (i + 1).toNat xs := List.take_of_length_le (by simp)
  have hsum : i.toNat + (List.drop (i + 1).toNat xs).length = xs.length - 1 := by simp; omega
  have hle : (↑xs.length : Int) ≤ ↑((List.take i.toNat xs).length + (List.drop (i + 1).toNat xs).length + (List.drop (xs.length - 1) xs).length) := by simp; omega
  have h1 : xs.length - (xs.length - 1) = 1 := by omega
  refine xw_call (fn := Try.f71) rfl Try.func71 rfl ⟨Nat.le_of_ble_eq_true rfl, rfl, rfl⟩ ?_
  repeat' (first
    | refine xw_seq ?_
    | refine xw_block ?_
    | (refine ite_two ?_ ?_ <;> intro _ <;> first | (exfalso; omega) | skip)
    | refine ord_split (by kernel_rfl) ?_
    | (refine xw_ret ?_ <;> try simp only [sq, bl, LQ])
    | ((first | refine xw_reg ?_ | refine xw_regd ?_ | refine xw_if ?_ | refine xw_skip ?_ | refine xw_exit ?_ | refine xw_label ?_ | refine post_ret ?_ | refine post_normal ?_ | refine postE_ret ?_ | refine postE_normal ?_) <;> simp (config := { maxSteps := 3000000 }) (disch := first | assumption | omega | exact VG.okg (by assumption) | (simp only [List.length_set, List.length_append, List.length_cons, List.length_nil, List.length_replicate]; omega)) only [go_sem, ↓reduceIte, Int.reduceLE, Int.reduceLT, Int.reduceToNat, Int.reduceNeg, Int.reduceAdd, Int.reduceSub, Int.reduceMul, Int.reduceEq, Int.reduceNe, Nat.reduceEqDiff, Nat.reduceAdd, Nat.reduceSub, Nat.reduceMul, Nat.reduceLT, Nat.reduceLeDiff, Nat.reduceBEq, Nat.reduceBNe, Try.results71, hb, htk, hsum, hle, h1])
    | (((first | refine at_region ?_ | refine at_out ?_ | refine at_cond ?_); split) <;> first | (exfalso; omega; done) | simp (config := { maxSteps := 3000000 }) (disch := first | assumption | omega | exact VG.okg (by assumption) | (simp only [List.length_set, List.length_append, List.length_cons, List.length_nil, List.length_replicate]; omega)) only [go_sem, ↓reduceIte, Int.reduceLE, Int.reduceLT, Int.reduceToNat, Int.reduceNeg, Int.reduceAdd, Int.reduceSub, Int.reduceMul, Int.reduceEq, Int.reduceNe, Nat.reduceEqDiff, Nat.reduceAdd, Nat.reduceSub, Nat.reduceMul, Nat.reduceLT, Nat.reduceLeDiff, Nat.reduceBEq, Nat.reduceBNe, Try.results71, hb, htk, hsum, hle, h1] | skip))
  rw [del_eq h0 hi]
end Go.Proofs.Yteknfomddncboaa.X
