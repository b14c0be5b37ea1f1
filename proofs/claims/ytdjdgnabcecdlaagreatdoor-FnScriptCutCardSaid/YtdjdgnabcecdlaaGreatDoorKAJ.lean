/- What functions answer, and the plain laws behind it. -/
import Derived.Test.YtdjdgnabcecdlaaGreatDoorKAH
import Derived.Test.YtdjdgnabcecdlaaGreatDoorC46
import Derived.Test.YtdjdgnabcecdlaaGreatDoorC63
/- What functions compute: copies of rows of numbers and of truth values, what goes in and out. -/
set_option linter.unusedSimpArgs false
set_option linter.unusedVariables false
set_option maxHeartbeats 8000000
set_option maxRecDepth 100000
namespace Go.Proofs.YtdjdgnabcecdlaaGreatDoor.X
open Go Go.Proofs
theorem mapAppT {xs ys : List Bool} : xs.map encT ++ ys.map encT = (xs ++ ys).map encT := by simp
theorem dropT {xs : List Bool} {n : Nat} : (xs.map encT).drop n = (xs.drop n).map encT := by simp
theorem takeTB {xs : List Bool} {n : Nat} : (xs.map encT).take n = (xs.take n).map encT := by simp
theorem encT_map_inj {a b : List Bool} : a.map encT = b.map encT ↔ a = b := by
  refine ⟨fun h => ?_, fun h => by rw [h]⟩
  induction a generalizing b with
  | nil => cases b <;> simp_all
  | cons x a ih =>
    cases b with
    | nil => simp at h
    | cons y b =>
      simp only [List.map_cons, List.cons.injEq, encT, IV.v.injEq, Value.bool.injEq, and_true] at h
      rw [ih h.2, h.1]
theorem lenT_all {us : List Bool} : (us.map encT).all (fun e => e.length == 1) = true := by simp [encT]
attribute [go_sem] mapAppT dropT takeTB encT_map_inj lenT_all
@[go_sem] theorem c_cloneI0 : KP 207 [.i (.lst [])] [] = some (.i .emp, [], []) := KK_prim rfl rfl
theorem c_cloneI (xs : List Int) (h : xs ≠ []) (hl : xs.length ≤ 1048576) : KP 207 [LI xs] [] = some (.ref 2000 0 0 xs.length, [], [.arr 0 1 (xs.map encI)]) := by
  have hp : primC cfg 207 [LI xs] [] = none := by
    cases xs with
    | nil => exact absurd rfl h
    | cons e r => rfl
  have hm : xs.map encI ≠ [] := by simpa using h
  refine xw_call (fn := Tryz.f207) hp Tryz.func207 rfl ⟨Nat.le_of_ble_eq_true rfl, rfl, rfl⟩ ?_
  repeat' (first
    | refine xw_seq ?_
    | refine xw_block ?_
    | (refine ite_two ?_ ?_ <;> intro _ <;> first | (exfalso; omega) | skip)
    | refine ord_split (by kernel_rfl) ?_
    | (refine xw_ret ?_ <;> try simp only [sq, bl, LQ])
    | ((first | refine xw_reg ?_ | refine xw_regd ?_ | refine xw_if ?_ | refine xw_skip ?_ | refine xw_exit ?_ | refine xw_label ?_ | refine post_ret ?_ | refine post_normal ?_ | refine postE_ret ?_ | refine postE_normal ?_ | (((first | refine at_region ?_ | refine at_out ?_ | refine at_cond ?_); split) <;> first | (exfalso; omega; done) | skip)) <;> try simp (config := { maxSteps := 3000000 }) (disch := first | assumption | omega | exact VG.okg (by assumption) | (simp only [List.length_set, List.length_append, List.length_cons, List.length_nil, List.length_replicate]; omega)) only [go_sem, ↓reduceIte, Int.reduceLE, Int.reduceLT, Int.reduceToNat, Int.reduceNeg, Int.reduceAdd, Int.reduceSub, Int.reduceMul, Int.reduceEq, Int.reduceNe, Nat.reduceEqDiff, Nat.reduceAdd, Nat.reduceSub, Nat.reduceMul, Nat.reduceLT, Nat.reduceLeDiff, Nat.reduceBEq, Nat.reduceBNe, UInt8.reduceToNat, Tryz.results207, hm]))
@[go_sem] theorem c_cloneT0 : KP 209 [.i (.lst [])] [] = some (.i .emp, [], []) := KK_prim rfl rfl
theorem c_cloneT (xs : List Bool) (h : xs ≠ []) (hl : xs.length ≤ 1048576) : KP 209 [LT xs] [] = some (.ref 2000 0 0 xs.length, [], [.arr 0 1 (xs.map encT)]) := by
  have hp : primC cfg 209 [LT xs] [] = none := by
    cases xs with
    | nil => exact absurd rfl h
    | cons e r => rfl
  have hm : xs.map encT ≠ [] := by simpa using h
  refine xw_call (fn := Tryz.f209) hp Tryz.func209 rfl ⟨Nat.le_of_ble_eq_true rfl, rfl, rfl⟩ ?_
  repeat' (first
    | refine xw_seq ?_
    | refine xw_block ?_
    | (refine ite_two ?_ ?_ <;> intro _ <;> first | (exfalso; omega) | skip)
    | refine ord_split (by kernel_rfl) ?_
    | (refine xw_ret ?_ <;> try simp only [sq, bl, LQ])
    | ((first | refine xw_reg ?_ | refine xw_regd ?_ | refine xw_if ?_ | refine xw_skip ?_ | refine xw_exit ?_ | refine xw_label ?_ | refine post_ret ?_ | refine post_normal ?_ | refine postE_ret ?_ | refine postE_normal ?_ | (((first | refine at_region ?_ | refine at_out ?_ | refine at_cond ?_); split) <;> first | (exfalso; omega; done) | skip)) <;> try simp (config := { maxSteps := 3000000 }) (disch := first | assumption | omega | exact VG.okg (by assumption) | (simp only [List.length_set, List.length_append, List.length_cons, List.length_nil, List.length_replicate]; omega)) only [go_sem, ↓reduceIte, Int.reduceLE, Int.reduceLT, Int.reduceToNat, Int.reduceNeg, Int.reduceAdd, Int.reduceSub, Int.reduceMul, Int.reduceEq, Int.reduceNe, Nat.reduceEqDiff, Nat.reduceAdd, Nat.reduceSub, Nat.reduceMul, Nat.reduceLT, Nat.reduceLeDiff, Nat.reduceBEq, Nat.reduceBNe, UInt8.reduceToNat, Tryz.results209, hm]))
theorem c_insI (xs : List Int) (x k : Int) (hl : xs.length ≤ 1000) (h0 : 0 ≤ k) (hk : k < xs.length) :
    KP 206 [.ref 1000 0 0 xs.length, I k, .ref 1001 0 0 1] [.arr 0 1 (xs.map encI), .arr 0 1 [[.v (.int .i64 x)]]] = some (.ref 1000 1 0 (xs.length + 1), [.arr 1 1 ((xs.take k.toNat ++ x :: xs.drop k.toNat).map encI), .arr 0 1 [[.v (.int .i64 x)]]], []) := by
  refine KK_prim rfl ?_
  have : xs.length ≤ 1000000 := by omega
  simp [insP, h0, hk, this, encI]
theorem c_insI_end (xs : List Int) (x : Int) (hl : xs.length ≤ 1000) :
    KP 206 [.ref 1000 0 0 xs.length, I xs.length, .ref 1001 0 0 1] [.arr 0 1 (xs.map encI), .arr 0 1 [[.v (.int .i64 x)]]] = some (.ref 1000 1 0 (xs.length + 1), [.arr 1 1 ((xs ++ [x]).map encI), .arr 0 1 [[.v (.int .i64 x)]]], []) := by
  have hp : primC cfg 206 [.ref 1000 0 0 xs.length, I xs.length, .ref 1001 0 0 1] [.arr 0 1 (xs.map encI), .arr 0 1 [[.v (.int .i64 x)]]] = none := by
    first | rfl | simp [primC, cfg, insP]
  refine xw_call (fn := Tryz.f206) hp Tryz.func206 rfl ⟨Nat.le_of_ble_eq_true rfl, rfl, rfl⟩ ?_
  repeat' (first
    | refine xw_seq ?_
    | refine xw_block ?_
    | (refine ite_two ?_ ?_ <;> intro _ <;> first | (exfalso; omega) | skip)
    | refine ord_split (by kernel_rfl) ?_
    | (refine xw_ret ?_ <;> try simp only [sq, bl, LQ])
    | ((first | refine xw_reg ?_ | refine xw_regd ?_ | refine xw_if ?_ | refine xw_skip ?_ | refine xw_exit ?_ | refine xw_label ?_ | refine post_ret ?_ | refine post_normal ?_ | refine postE_ret ?_ | refine postE_normal ?_ | (((first | refine at_region ?_ | refine at_out ?_ | refine at_cond ?_); split) <;> first | (exfalso; omega; done) | skip)) <;> try simp (config := { maxSteps := 3000000 }) (disch := first | assumption | omega | exact VG.okg (by assumption) | (simp only [List.length_set, List.length_append, List.length_cons, List.length_nil, List.length_replicate]; omega)) only [go_sem, ↓reduceIte, Int.reduceLE, Int.reduceLT, Int.reduceToNat, Int.reduceNeg, Int.reduceAdd, Int.reduceSub, Int.reduceMul, Int.reduceEq, Int.reduceNe, Nat.reduceEqDiff, Nat.reduceAdd, Nat.reduceSub, Nat.reduceMul, Nat.reduceLT, Nat.reduceLeDiff, Nat.reduceBEq, Nat.reduceBNe, UInt8.reduceToNat, Tryz.results206]))
theorem c_insI_nil (x : Int) :
    KP 206 [.i .emp, I 0, .ref 1000 0 0 1] [.arr 0 1 [[.v (.int .i64 x)]]] = some (.ref 2000 0 0 1, [.arr 0 1 [[.v (.int .i64 x)]]], [.arr 0 1 [[.v (.int .i64 x)]]]) := by
  have hp : primC cfg 206 [.i .emp, I 0, .ref 1000 0 0 1] [.arr 0 1 [[.v (.int .i64 x)]]] = none := by
    first | rfl | simp [primC, cfg, insP]
  refine xw_call (fn := Tryz.f206) hp Tryz.func206 rfl ⟨Nat.le_of_ble_eq_true rfl, rfl, rfl⟩ ?_
  repeat' (first
    | refine xw_seq ?_
    | refine xw_block ?_
    | (refine ite_two ?_ ?_ <;> intro _ <;> first | (exfalso; omega) | skip)
    | refine ord_split (by kernel_rfl) ?_
    | (refine xw_ret ?_ <;> try simp only [sq, bl, LQ])
    | ((first | refine xw_reg ?_ | refine xw_regd ?_ | refine xw_if ?_ | refine xw_skip ?_ | refine xw_exit ?_ | refine xw_label ?_ | refine post_ret ?_ | refine post_normal ?_ | refine postE_ret ?_ | refine postE_normal ?_ | (((first | refine at_region ?_ | refine at_out ?_ | refine at_cond ?_); split) <;> first | (exfalso; omega; done) | skip)) <;> try simp (config := { maxSteps := 3000000 }) (disch := first | assumption | omega | exact VG.okg (by assumption) | (simp only [List.length_set, List.length_append, List.length_cons, List.length_nil, List.length_replicate]; omega)) only [go_sem, ↓reduceIte, Int.reduceLE, Int.reduceLT, Int.reduceToNat, Int.reduceNeg, Int.reduceAdd, Int.reduceSub, Int.reduceMul, Int.reduceEq, Int.reduceNe, Nat.reduceEqDiff, Nat.reduceAdd, Nat.reduceSub, Nat.reduceMul, Nat.reduceLT, Nat.reduceLeDiff, Nat.reduceBEq, Nat.reduceBNe, UInt8.reduceToNat, Tryz.results206]))
theorem c_insT (xs : List Bool) (x : Bool) (k : Int) (hl : xs.length ≤ 1000) (h0 : 0 ≤ k) (hk : k < xs.length) :
    KP 208 [.ref 1000 0 0 xs.length, I k, .ref 1001 0 0 1] [.arr 0 1 (xs.map encT), .arr 0 1 [[.v (.bool x)]]] = some (.ref 1000 1 0 (xs.length + 1), [.arr 1 1 ((xs.take k.toNat ++ x :: xs.drop k.toNat).map encT), .arr 0 1 [[.v (.bool x)]]], []) := by
  refine KK_prim rfl ?_
  have : xs.length ≤ 1000000 := by omega
  simp [insP, h0, hk, this, encT]
theorem c_insT_end (xs : List Bool) (x : Bool) (hl : xs.length ≤ 1000) :
    KP 208 [.ref 1000 0 0 xs.length, I xs.length, .ref 1001 0 0 1] [.arr 0 1 (xs.map encT), .arr 0 1 [[.v (.bool x)]]] = some (.ref 1000 1 0 (xs.length + 1), [.arr 1 1 ((xs ++ [x]).map encT), .arr 0 1 [[.v (.bool x)]]], []) := by
  have hp : primC cfg 208 [.ref 1000 0 0 xs.length, I xs.length, .ref 1001 0 0 1] [.arr 0 1 (xs.map encT), .arr 0 1 [[.v (.bool x)]]] = none := by
    first | rfl | simp [primC, cfg, insP]
  refine xw_call (fn := Tryz.f208) hp Tryz.func208 rfl ⟨Nat.le_of_ble_eq_true rfl, rfl, rfl⟩ ?_
  repeat' (first
    | refine xw_seq ?_
    | refine xw_block ?_
    | (refine ite_two ?_ ?_ <;> intro _ <;> first | (exfalso; omega) | skip)
    | refine ord_split (by kernel_rfl) ?_
    | (refine xw_ret ?_ <;> try simp only [sq, bl, LQ])
    | ((first | refine xw_reg ?_ | refine xw_regd ?_ | refine xw_if ?_ | refine xw_skip ?_ | refine xw_exit ?_ | refine xw_label ?_ | refine post_ret ?_ | refine post_normal ?_ | refine postE_ret ?_ | refine postE_normal ?_ | (((first | refine at_region ?_ | refine at_out ?_ | refine at_cond ?_); split) <;> first | (exfalso; omega; done) | skip)) <;> try simp (config := { maxSteps := 3000000 }) (disch := first | assumption | omega | exact VG.okg (by assumption) | (simp only [List.length_set, List.length_append, List.length_cons, List.length_nil, List.length_replicate]; omega)) only [go_sem, ↓reduceIte, Int.reduceLE, Int.reduceLT, Int.reduceToNat, Int.reduceNeg, Int.reduceAdd, Int.reduceSub, Int.reduceMul, Int.reduceEq, Int.reduceNe, Nat.reduceEqDiff, Nat.reduceAdd, Nat.reduceSub, Nat.reduceMul, Nat.reduceLT, Nat.reduceLeDiff, Nat.reduceBEq, Nat.reduceBNe, UInt8.reduceToNat, Tryz.results208]))
theorem c_insT_nil (x : Bool) :
    KP 208 [.i .emp, I 0, .ref 1000 0 0 1] [.arr 0 1 [[.v (.bool x)]]] = some (.ref 2000 0 0 1, [.arr 0 1 [[.v (.bool x)]]], [.arr 0 1 [[.v (.bool x)]]]) := by
  have hp : primC cfg 208 [.i .emp, I 0, .ref 1000 0 0 1] [.arr 0 1 [[.v (.bool x)]]] = none := by
    first | rfl | simp [primC, cfg, insP]
  refine xw_call (fn := Tryz.f208) hp Tryz.func208 rfl ⟨Nat.le_of_ble_eq_true rfl, rfl, rfl⟩ ?_
  repeat' (first
    | refine xw_seq ?_
    | refine xw_block ?_
    | (refine ite_two ?_ ?_ <;> intro _ <;> first | (exfalso; omega) | skip)
    | refine ord_split (by kernel_rfl) ?_
    | (refine xw_ret ?_ <;> try simp only [sq, bl, LQ])
    | ((first | refine xw_reg ?_ | refine xw_regd ?_ | refine xw_if ?_ | refine xw_skip ?_ | refine xw_exit ?_ | refine xw_label ?_ | refine post_ret ?_ | refine post_normal ?_ | refine postE_ret ?_ | refine postE_normal ?_ | (((first | refine at_region ?_ | refine at_out ?_ | refine at_cond ?_); split) <;> first | (exfalso; omega; done) | skip)) <;> try simp (config := { maxSteps := 3000000 }) (disch := first | assumption | omega | exact VG.okg (by assumption) | (simp only [List.length_set, List.length_append, List.length_cons, List.length_nil, List.length_replicate]; omega)) only [go_sem, ↓reduceIte, Int.reduceLE, Int.reduceLT, Int.reduceToNat, Int.reduceNeg, Int.reduceAdd, Int.reduceSub, Int.reduceMul, Int.reduceEq, Int.reduceNe, Nat.reduceEqDiff, Nat.reduceAdd, Nat.reduceSub, Nat.reduceMul, Nat.reduceLT, Nat.reduceLeDiff, Nat.reduceBEq, Nat.reduceBNe, UInt8.reduceToNat, Tryz.results208]))
theorem del_eq {α : Type} {xs : List α} {d : α} {i : Int} (h0 : 0 ≤ i) (hi : i < xs.length) :
    List.take (xs.length - 1) (List.take i.toNat xs ++ List.drop (i + 1).toNat xs ++ List.drop (xs.length - 1) xs) ++ [d] ++ List.drop (xs.length - 1 + 1) (List.take i.toNat xs ++ List.drop (i + 1).toNat xs ++ List.drop (xs.length - 1) xs) = List.take i.toNat xs ++ List.drop (i.toNat + 1) xs ++ [d] := by
  have e : (i + 1).toNat = i.toNat + 1 := by omega
  rw [e]
  have hA : (List.take i.toNat xs ++ List.drop (i.toNat + 1) xs).length = xs.length - 1 := by simp; omega
  have h2 : List.drop (xs.length - 1 + 1) (List.take i.toNat xs ++ List.drop (i.toNat + 1) xs ++ List.drop (xs.length - 1) xs) = [] := List.drop_eq_nil_of_le (by rw [List.length_append, hA]; simp; omega)
  rw [List.take_left' hA, h2, List.append_nil]
theorem c_delI (xs : List Int) (i : Int) (hl : xs.length ≤ 1000) (h0 : 0 ≤ i) (hi : i < xs.length) :
    KP 211 [.ref 1000 0 0 xs.length, I i, I (i + 1)] [.arr 0 1 (xs.map encI)] = some (.ref 1000 0 0 (xs.length - 1), [.arr 0 1 ((xs.take i.toNat ++ xs.drop (i.toNat + 1) ++ [0]).map encI)], []) := by
  have hb : (i.toNat == xs.length) = false := by simp; omega
  have htk : List.take (xs.length - (i + 1).toNat) (List.drop (i + 1).toNat xs) = List.drop (i + 1).toNat xs := List.take_of_length_le (by simp)
  have hsum : i.toNat + (List.drop (i + 1).toNat xs).length = xs.length - 1 := by simp; omega
  have hle : (↑xs.length : Int) ≤ ↑((List.take i.toNat xs).length + (List.drop (i + 1).toNat xs).length + (List.drop (xs.length - 1) xs).length) := by simp; omega
  have h1 : xs.length - (xs.length - 1) = 1 := by omega
  refine xw_call (fn := Tryz.f211) rfl Tryz.func211 rfl ⟨Nat.le_of_ble_eq_true rfl, rfl, rfl⟩ ?_
  repeat' (first
    | refine xw_seq ?_
    | refine xw_block ?_
    | (refine ite_two ?_ ?_ <;> intro _ <;> first | (exfalso; omega) | skip)
    | refine ord_split (by kernel_rfl) ?_
    | (refine xw_ret ?_ <;> try simp only [sq, bl, LQ])
    | ((first | refine xw_reg ?_ | refine xw_regd ?_ | refine xw_if ?_ | refine xw_skip ?_ | refine xw_exit ?_ | refine xw_label ?_ | refine post_ret ?_ | refine post_normal ?_ | refine postE_ret ?_ | refine postE_normal ?_ | (((first | refine at_region ?_ | refine at_out ?_ | refine at_cond ?_); split) <;> first | (exfalso; omega; done) | skip)) <;> try simp (config := { maxSteps := 3000000 }) (disch := first | assumption | omega | exact VG.okg (by assumption) | (simp only [List.length_set, List.length_append, List.length_cons, List.length_nil, List.length_replicate]; omega)) only [go_sem, ↓reduceIte, Int.reduceLE, Int.reduceLT, Int.reduceToNat, Int.reduceNeg, Int.reduceAdd, Int.reduceSub, Int.reduceMul, Int.reduceEq, Int.reduceNe, Nat.reduceEqDiff, Nat.reduceAdd, Nat.reduceSub, Nat.reduceMul, Nat.reduceLT, Nat.reduceLeDiff, Nat.reduceBEq, Nat.reduceBNe, UInt8.reduceToNat, Tryz.results211, hb, htk, hsum, hle, h1]))
  rw [del_eq h0 hi]
theorem c_delT (xs : List Bool) (i : Int) (hl : xs.length ≤ 1000) (h0 : 0 ≤ i) (hi : i < xs.length) :
    KP 212 [.ref 1000 0 0 xs.length, I i, I (i + 1)] [.arr 0 1 (xs.map encT)] = some (.ref 1000 0 0 (xs.length - 1), [.arr 0 1 ((xs.take i.toNat ++ xs.drop (i.toNat + 1) ++ [false]).map encT)], []) := by
  have hb : (i.toNat == xs.length) = false := by simp; omega
  have htk : List.take (xs.length - (i + 1).toNat) (List.drop (i + 1).toNat xs) = List.drop (i + 1).toNat xs := List.take_of_length_le (by simp)
  have hsum : i.toNat + (List.drop (i + 1).toNat xs).length = xs.length - 1 := by simp; omega
  have hle : (↑xs.length : Int) ≤ ↑((List.take i.toNat xs).length + (List.drop (i + 1).toNat xs).length + (List.drop (xs.length - 1) xs).length) := by simp; omega
  have h1 : xs.length - (xs.length - 1) = 1 := by omega
  refine xw_call (fn := Tryz.f212) rfl Tryz.func212 rfl ⟨Nat.le_of_ble_eq_true rfl, rfl, rfl⟩ ?_
  repeat' (first
    | refine xw_seq ?_
    | refine xw_block ?_
    | (refine ite_two ?_ ?_ <;> intro _ <;> first | (exfalso; omega) | skip)
    | refine ord_split (by kernel_rfl) ?_
    | (refine xw_ret ?_ <;> try simp only [sq, bl, LQ])
    | ((first | refine xw_reg ?_ | refine xw_regd ?_ | refine xw_if ?_ | refine xw_skip ?_ | refine xw_exit ?_ | refine xw_label ?_ | refine post_ret ?_ | refine post_normal ?_ | refine postE_ret ?_ | refine postE_normal ?_ | (((first | refine at_region ?_ | refine at_out ?_ | refine at_cond ?_); split) <;> first | (exfalso; omega; done) | skip)) <;> try simp (config := { maxSteps := 3000000 }) (disch := first | assumption | omega | exact VG.okg (by assumption) | (simp only [List.length_set, List.length_append, List.length_cons, List.length_nil, List.length_replicate]; omega)) only [go_sem, ↓reduceIte, Int.reduceLE, Int.reduceLT, Int.reduceToNat, Int.reduceNeg, Int.reduceAdd, Int.reduceSub, Int.reduceMul, Int.reduceEq, Int.reduceNe, Nat.reduceEqDiff, Nat.reduceAdd, Nat.reduceSub, Nat.reduceMul, Nat.reduceLT, Nat.reduceLeDiff, Nat.reduceBEq, Nat.reduceBNe, UInt8.reduceToNat, Tryz.results212, hb, htk, hsum, hle, h1]))
  rw [del_eq h0 hi]
end Go.Proofs.YtdjdgnabcecdlaaGreatDoor.X

/- What functions compute: an edge is put into a graph with levels. -/
set_option linter.unusedSimpArgs false
set_option linter.unusedVariables false
set_option maxHeartbeats 8000000
set_option maxRecDepth 100000
namespace Go.Proofs.YtdjdgnabcecdlaaGreatDoor.X
open Go Go.Proofs
def putT (e : Int × Int) (b : Bool) : List Tl → List Tl
  | [] => [(e, 0, b)]
  | t :: r => if lessE e t.1 then (e, 0, b) :: t :: r else t :: putT e b r
theorem putT_es (e : Int × Int) (b : Bool) : ∀ ts : List Tl, esT (putT e b ts) = putE e (esT ts)
  | [] => rfl
  | t :: r => by
    have ih := putT_es e b r
    unfold esT at ih ⊢
    rw [putT, List.map_cons, putE]
    split
    · rfl
    · rw [List.map_cons, ih]
theorem putT_parts (e : Int × Int) (b : Bool) : ∀ ts : List Tl, ∃ p r, ts = p ++ r ∧ (∀ b, putT e b ts = p ++ (e, 0, b) :: r)
  | [] => ⟨[], [], rfl, fun _ => rfl⟩
  | t :: r => by
    by_cases h : lessE e t.1 = true
    · exact ⟨[], t :: r, rfl, fun b => by rw [putT, if_pos h]; rfl⟩
    · obtain ⟨p, q, h1, h2⟩ := putT_parts e b r
      exact ⟨t :: p, q, by rw [h1]; rfl, fun b => by rw [putT, if_neg h, h2]; rfl⟩
/-- The place of the edge. -/
theorem putT_at {e : Int × Int} {ts : List Tl} (hn : e ∉ esT ts) : ∃ k : Nat, k ≤ ts.length ∧ findE (putE e (esT ts)) e = k ∧ ∀ b, putT e b ts = ts.take k ++ (e, 0, b) :: ts.drop k := by
  obtain ⟨p, r, h1, h2⟩ := putT_parts e true ts
  have h3 := putT_es e true ts
  rw [h2 true] at h3
  have h4 : putE e (esT ts) = esT p ++ e :: esT r := by rw [← h3]; simp [esT]
  refine ⟨p.length, by rw [h1]; simp, ?_, fun b => by rw [h2 b, h1]; simp⟩
  refine findE_at (i := p.length) ?_ ?_
  · rw [h4, List.getElem?_append_right (by simp [esT])]
    simp [esT]
  · rw [h4, List.take_append_of_le_length (by simp [esT])]
    intro hm
    refine hn ?_
    rw [h1]
    have := List.mem_of_mem_take hm
    unfold esT at this ⊢
    rw [List.map_append]
    exact List.mem_append_left _ this
theorem putT_lv {e : Int × Int} {b : Bool} {ts : List Tl} {k : Nat} (h : putT e b ts = ts.take k ++ (e, 0, b) :: ts.drop k) : lvT (putT e b ts) = (lvT ts).take k ++ 0 :: (lvT ts).drop k := by
  rw [h]; simp [lvT]
theorem putT_tr {e : Int × Int} {b : Bool} {ts : List Tl} {k : Nat} (h : putT e b ts = ts.take k ++ (e, 0, b) :: ts.drop k) : trT (putT e b ts) = (trT ts).take k ++ b :: (trT ts).drop k := by
  rw [h]; simp [trT]
theorem putT_len (e : Int × Int) (b : Bool) (ts : List Tl) : (putT e b ts).length = ts.length + 1 := by
  have h := congrArg List.length (putT_es e b ts)
  rw [putE_length, esT_len', esT_len'] at h
  exact h
theorem LV.putT {n : Int} {ts : List Tl} {e : Int × Int} (h : LV n ts) (hP : PutOK n (esT ts) e) : LV n (putT e (!decide (Conn (esT ts) e.1 e.2)) ts) := by
  obtain ⟨p, r, h1, h2⟩ := putT_parts e true ts
  have hV : VG n (esT (p ++ (e, 0, true) :: r)) := by rw [← h2 true, putT_es]; exact hP.2.2
  rw [h2]
  have := LV.put (p := p) (r := r) (e := e) (by rw [← h1]; exact h) hV
  rw [← h1] at this
  exact this
/-- A row that is to come back. -/
def PlOK (n : Int) (ts : List Tl) (e : Int × Int) : Prop := LV n ts ∧ PutOK n (esT ts) e
noncomputable instance decPlOK (n : Int) (ts : List Tl) (e : Int × Int) : Decidable (PlOK n ts e) := Classical.propDecidable _
noncomputable abbrev plL (ts : List Tl) (e : Int × Int) : List Tl := putT e (!decide (Conn (esT ts) e.1 e.2)) ts
theorem c_PutLevel (n a b : Int) (ts : List Tl) (hP : PlOK n ts (a, b)) :
    ∃ r own, KP 181 [LvP n ts, PE a b] [] = some (r, [], own) ∧ imm 2 own r = some (.tup [LvP n (plL ts (a, b)), B true]) := by
  have hL := hP.1
  have hV := hL.vg
  have hlv := c_LevelsValid n ts hV
  have hel := hV.2.2.1
  rw [decide_eq_true hL] at hlv
  obtain ⟨rp, op, hpe, him⟩ := c_PutEdgeL n a b (esT ts) hP.2 (by omega)
  have hVp := hP.2.2.2
  have hpl := putE_length (a, b) (esT ts)
  have hix := c_indexE (putE (a, b) (esT ts)) a b (by omega)
  obtain ⟨k, hk1, hk2, hk3⟩ := putT_at hP.2.2.1
  rw [hk2] at hix
  have hmem : (a, b) ∈ putE (a, b) (esT ts) := mem_putE.2 (.inl rfl)
  obtain ⟨k0, k1, k2⟩ : 0 ≤ a ∧ a < b ∧ b < n := hVp.2.2.2.1 _ hmem
  have hcn := c_connected n a b (esT ts) hV.okg ⟨k0, by omega⟩ ⟨by omega, k2⟩
  have h1 : lvT (plL ts (a, b)) = _ := putT_lv (hk3 (!decide (Conn (esT ts) a b)))
  have h2 : trT (plL ts (a, b)) = _ := putT_tr (hk3 (!decide (Conn (esT ts) a b)))
  have h3 : esT (plL ts (a, b)) = _ := putT_es (a, b) (!decide (Conn (esT ts) a b)) ts
  have hlen := putT_len (a, b) (!decide (Conn (esT ts) a b)) ts
  have l2 := lvT_len ts
  have l3 := trT_len ts
  have l1 := esT_len' ts
  suffices hgoal : ∃ res, (imm 2 res.2.2 res.1 = some (.tup [LvP n (plL ts (a, b)), B true]) ∧ res.2.1 = []) ∧ KP 181 [LvP n ts, PE a b] [] = some res by
    obtain ⟨⟨r, q, own⟩, ⟨e1, e2⟩, e3⟩ := hgoal
    simp only at e1 e2
    subst e2
    exact ⟨r, own, e3, e1⟩
  by_cases hz : ts = []
  · subst hz
    obtain rfl : k = 0 := by simpa using hk1
    have hci : KP 207 [LI (lvT [])] [] = some (.i .emp, [], []) := c_cloneI0
    have hct : KP 209 [LT (trT [])] [] = some (.i .emp, [], []) := c_cloneT0
    have hii := c_insI_nil 0
    have hit := c_insT_nil (!decide (Conn (esT []) a b))
    refine xw_callE (fn := Tryz.f181) rfl Tryz.func181 rfl ⟨Nat.le_of_ble_eq_true rfl, rfl, rfl⟩ ?_
    repeat' (first
      | refine xw_seq ?_
      | refine xw_block ?_
      | (refine ite_two ?_ ?_ <;> intro _ <;> first | (exfalso; omega) | skip)
      | refine ord_split (by kernel_rfl) ?_
      | (refine xw_ret ?_ <;> try simp only [sq, bl, LQ])
      | ((first | refine xw_reg ?_ | refine xw_regd ?_ | refine xw_if ?_ | refine xw_skip ?_ | refine xw_exit ?_ | refine xw_label ?_ | refine post_ret ?_ | refine post_normal ?_ | refine postE_ret ?_ | refine postE_normal ?_ | (((first | refine at_region ?_ | refine at_out ?_ | refine at_cond ?_); split) <;> first | (exfalso; omega; done) | skip)) <;> try simp (config := { maxSteps := 3000000 }) (disch := first | assumption | omega | exact VG.okg (by assumption) | (simp only [List.length_set, List.length_append, List.length_cons, List.length_nil, List.length_replicate]; omega)) only [go_sem, ↓reduceIte, Int.reduceLE, Int.reduceLT, Int.reduceToNat, Int.reduceNeg, Int.reduceAdd, Int.reduceSub, Int.reduceMul, Int.reduceEq, Int.reduceNe, Nat.reduceEqDiff, Nat.reduceAdd, Nat.reduceSub, Nat.reduceMul, Nat.reduceLT, Nat.reduceLeDiff, Nat.reduceBEq, Nat.reduceBNe, UInt8.reduceToNat, Tryz.results181, hlv, hpe, him, hix, hcn, hci, hct, hii, hit]))
    simp only [LvP]
    rw [h1, h2, h3]
    rfl
  · have hlz : lvT ts ≠ [] := fun h => hz (List.length_eq_zero_iff.1 (by rw [← l2, h]; rfl))
    have htz : trT ts ≠ [] := fun h => hz (List.length_eq_zero_iff.1 (by rw [← l3, h]; rfl))
    have hci := c_cloneI (lvT ts) hlz (by omega)
    have hct := c_cloneT (trT ts) htz (by omega)
    have hii : KP 206 [.ref 1000 0 0 (lvT ts).length, I k, .ref 1001 0 0 1] [.arr 0 1 ((lvT ts).map encI), .arr 0 1 [[.v (.int .i64 0)]]] = some (.ref 1000 1 0 ((lvT ts).length + 1), [.arr 1 1 ((lvT (plL ts (a, b))).map encI), .arr 0 1 [[.v (.int .i64 0)]]], []) := by
      by_cases hke : k = (lvT ts).length
      · rw [hke]
        have := c_insI_end (lvT ts) 0 (by omega)
        rw [h1, hke]
        simpa using this
      · rw [h1]
        have := c_insI (lvT ts) 0 k (by omega) (by omega) (by omega)
        simpa using this
    have hit : ∀ q : Bool, q = (!decide (Conn (esT ts) a b)) → KP 208 [.ref 1000 0 0 (trT ts).length, I k, .ref 1001 0 0 1] [.arr 0 1 ((trT ts).map encT), .arr 0 1 [[.v (.bool q)]]] = some (.ref 1000 1 0 ((trT ts).length + 1), [.arr 1 1 ((trT (plL ts (a, b))).map encT), .arr 0 1 [[.v (.bool q)]]], []) := by
      intro q hq
      by_cases hke : k = (trT ts).length
      · rw [hke]
        have := c_insT_end (trT ts) q (by omega)
        rw [h2, hke, ← hq]
        simpa using this
      · rw [h2, ← hq]
        have := c_insT (trT ts) q k (by omega) (by omega) (by omega)
        simpa using this
    have hit' := hit _ rfl
    refine xw_callE (fn := Tryz.f181) rfl Tryz.func181 rfl ⟨Nat.le_of_ble_eq_true rfl, rfl, rfl⟩ ?_
    repeat' (first
      | refine xw_seq ?_
      | refine xw_block ?_
      | (refine ite_two ?_ ?_ <;> intro _ <;> first | (exfalso; omega) | skip)
      | refine ord_split (by kernel_rfl) ?_
      | (refine xw_ret ?_ <;> try simp only [sq, bl, LQ])
      | ((first | refine xw_reg ?_ | refine xw_regd ?_ | refine xw_if ?_ | refine xw_skip ?_ | refine xw_exit ?_ | refine xw_label ?_ | refine post_ret ?_ | refine post_normal ?_ | refine postE_ret ?_ | refine postE_normal ?_ | (((first | refine at_region ?_ | refine at_out ?_ | refine at_cond ?_); split) <;> first | (exfalso; omega; done) | skip)) <;> try simp (config := { maxSteps := 3000000 }) (disch := first | assumption | omega | exact VG.okg (by assumption) | (simp only [List.length_set, List.length_append, List.length_cons, List.length_nil, List.length_replicate]; omega)) only [go_sem, ↓reduceIte, Int.reduceLE, Int.reduceLT, Int.reduceToNat, Int.reduceNeg, Int.reduceAdd, Int.reduceSub, Int.reduceMul, Int.reduceEq, Int.reduceNe, Nat.reduceEqDiff, Nat.reduceAdd, Nat.reduceSub, Nat.reduceMul, Nat.reduceLT, Nat.reduceLeDiff, Nat.reduceBEq, Nat.reduceBNe, UInt8.reduceToNat, Tryz.results181, hlv, hpe, him, hix, hcn, hci, hct, hii, hit']))
    have hlp : (plL ts (a, b)).length = ts.length + 1 := hlen
    have t1 : List.take ((lvT ts).length + 1) (lvT (plL ts (a, b))) = lvT (plL ts (a, b)) := take_all (by rw [lvT_len, hlp, l2]; omega)
    have t2 : List.take ((trT ts).length + 1) (trT (plL ts (a, b))) = trT (plL ts (a, b)) := take_all (by rw [trT_len, hlp, l3]; omega)
    simp only [LvP]
    rw [h3, t1, t2]
end Go.Proofs.YtdjdgnabcecdlaaGreatDoor.X
