/- What functions compute: lists that may be tours. -/
import Derived.Test.YteknfomddncboaaC20
import Derived.Test.YteknfomddncboaaC21
import Derived.Test.YteknfomddncboaaC45
import Derived.Test.YteknfomddncboaaM25
set_option linter.unusedSimpArgs false
set_option linter.unusedVariables false
set_option maxHeartbeats 8000000
set_option maxRecDepth 100000
namespace Go.Proofs.Yteknfomddncboaa.X
open Go Go.Proofs
/-- The place of a number, or -1. -/
def findI (xs : List Int) (x : Int) : Int := if x ∈ xs then (xs.idxOf x : Int) else -1
theorem idxOfI_at {x : Int} : ∀ {xs : List Int} {i : Nat}, xs[i]? = some x → x ∉ xs.take i → xs.idxOf x = i
  | [], _, h, _ => by simp at h
  | y :: r, 0, h, _ => by simp at h; subst h; simp
  | y :: r, i + 1, h, hn => by
    simp only [List.take_succ_cons, List.mem_cons, not_or] at hn
    have hx : (y == x) = false := by simpa using fun e' => hn.1 e'.symm
    rw [List.idxOf_cons, hx, idxOfI_at (by simpa using h) hn.2]; rfl
theorem findI_at {xs : List Int} {x : Int} {i : Nat} (h : xs[i]? = some x) (hn : x ∉ xs.take i) : findI xs x = i := by
  have hin : x ∈ xs := List.mem_of_getElem? h
  simp [findI, hin, idxOfI_at h hn]
theorem c_indexI (xs : List Int) (x : Int) (hl : xs.length ≤ 1048576) : KP 99 [LI xs, I x] [] = some (I (findI xs x), [], []) := by
  refine xw_call (fn := Try.f99) rfl Try.func99 rfl ⟨Nat.le_of_ble_eq_true rfl, rfl, rfl⟩ ?_
  repeat' (first
    | refine xw_seq ?_
    | refine xw_block ?_
    | (refine ite_two ?_ ?_ <;> intro _ <;> first | (exfalso; omega) | skip)
    | refine ord_split (by kernel_rfl) ?_
    | (refine xw_ret ?_ <;> try simp only [sq, bl, LQ])
    | ((first | refine xw_reg ?_ | refine xw_regd ?_ | refine xw_if ?_ | refine xw_skip ?_ | refine xw_exit ?_ | refine xw_label ?_ | refine post_ret ?_ | refine post_normal ?_ | refine postE_ret ?_ | refine postE_normal ?_) <;> simp (config := { maxSteps := 3000000 }) (disch := first | assumption | omega | exact VG.okg (by assumption) | (simp only [List.length_set, List.length_append, List.length_cons, List.length_nil, List.length_replicate]; omega)) only [go_sem, ↓reduceIte, Int.reduceLE, Int.reduceLT, Int.reduceToNat, Int.reduceNeg, Int.reduceAdd, Int.reduceSub, Int.reduceMul, Int.reduceEq, Int.reduceNe, Nat.reduceEqDiff, Nat.reduceAdd, Nat.reduceSub, Nat.reduceMul, Nat.reduceLT, Nat.reduceLeDiff, Nat.reduceBEq, Nat.reduceBNe, Try.results99])
    | (((first | refine at_region ?_ | refine at_out ?_ | refine at_cond ?_); split) <;> first | (exfalso; omega; done) | simp (config := { maxSteps := 3000000 }) (disch := first | assumption | omega | exact VG.okg (by assumption) | (simp only [List.length_set, List.length_append, List.length_cons, List.length_nil, List.length_replicate]; omega)) only [go_sem, ↓reduceIte, Int.reduceLE, Int.reduceLT, Int.reduceToNat, Int.reduceNeg, Int.reduceAdd, Int.reduceSub, Int.reduceMul, Int.reduceEq, Int.reduceNe, Nat.reduceEqDiff, Nat.reduceAdd, Nat.reduceSub, Nat.reduceMul, Nat.reduceLT, Nat.reduceLeDiff, Nat.reduceBEq, Nat.reduceBNe, Try.results99] | skip))
  refine xw_loopR (fun (i : Int) s => s.ρ 0 = LI xs ∧ s.ρ 1 = I x ∧ s.ρ 7 = I xs.length ∧ s.ρ 8 = I i ∧ 0 ≤ i ∧ i ≤ xs.length ∧ x ∉ xs.take i.toNat) (fun i => (xs.length - i).toNat) 0 ⟨rfl, rfl, rfl, rfl, by simp, by simp, by simp⟩ ?_
  rintro i ⟨ρ, m⟩ ⟨h0, h1, h7, h8, g0, g1, g2⟩
  simp only at h0 h1 h7 h8
  by_cases hi : i < xs.length
  · have hgi := getI xs i.toNat (by omega)
    have hat : xs[i.toNat]? = some (xs.getD i.toNat 0) := by simp [show i.toNat < xs.length by omega]
    have htk := take_int 0 g0 hi
    generalize xs.getD i.toNat 0 = y at hgi hat htk
    by_cases hq : y = x
    · subst hq
      have hf := findI_at hat g2
      repeat' (first
        | refine xw_seq ?_
        | refine xw_block ?_
        | (refine ite_two ?_ ?_ <;> intro _ <;> first | (exfalso; omega) | skip)
        | refine ord_split (by kernel_rfl) ?_
        | (refine xw_ret ?_ <;> try simp only [sq, bl, LQ])
        | ((first | refine xw_reg ?_ | refine xw_regd ?_ | refine xw_if ?_ | refine xw_skip ?_ | refine xw_exit ?_ | refine xw_label ?_ | refine post_ret ?_ | refine post_normal ?_ | refine postE_ret ?_ | refine postE_normal ?_) <;> simp (config := { maxSteps := 3000000 }) (disch := first | assumption | omega | exact VG.okg (by assumption) | (simp only [List.length_set, List.length_append, List.length_cons, List.length_nil, List.length_replicate]; omega)) only [go_sem, ↓reduceIte, Int.reduceLE, Int.reduceLT, Int.reduceToNat, Int.reduceNeg, Int.reduceAdd, Int.reduceSub, Int.reduceMul, Int.reduceEq, Int.reduceNe, Nat.reduceEqDiff, Nat.reduceAdd, Nat.reduceSub, Nat.reduceMul, Nat.reduceLT, Nat.reduceLeDiff, Nat.reduceBEq, Nat.reduceBNe, Try.results99, h0, h1, h7, h8, hgi])
        | (((first | refine at_region ?_ | refine at_out ?_ | refine at_cond ?_); split) <;> first | (exfalso; omega; done) | simp (config := { maxSteps := 3000000 }) (disch := first | assumption | omega | exact VG.okg (by assumption) | (simp only [List.length_set, List.length_append, List.length_cons, List.length_nil, List.length_replicate]; omega)) only [go_sem, ↓reduceIte, Int.reduceLE, Int.reduceLT, Int.reduceToNat, Int.reduceNeg, Int.reduceAdd, Int.reduceSub, Int.reduceMul, Int.reduceEq, Int.reduceNe, Nat.reduceEqDiff, Nat.reduceAdd, Nat.reduceSub, Nat.reduceMul, Nat.reduceLT, Nat.reduceLeDiff, Nat.reduceBEq, Nat.reduceBNe, Try.results99, h0, h1, h7, h8, hgi] | skip))
      rw [hf]; omega
    · repeat' (first
        | refine xw_seq ?_
        | refine xw_block ?_
        | (refine ite_two ?_ ?_ <;> intro _ <;> first | (exfalso; omega) | skip)
        | refine ord_split (by kernel_rfl) ?_
        | (refine xw_ret ?_ <;> try simp only [sq, bl, LQ])
        | ((first | refine xw_reg ?_ | refine xw_regd ?_ | refine xw_if ?_ | refine xw_skip ?_ | refine xw_exit ?_ | refine xw_label ?_ | refine post_ret ?_ | refine post_normal ?_ | refine postE_ret ?_ | refine postE_normal ?_) <;> simp (config := { maxSteps := 3000000 }) (disch := first | assumption | omega | exact VG.okg (by assumption) | (simp only [List.length_set, List.length_append, List.length_cons, List.length_nil, List.length_replicate]; omega)) only [go_sem, ↓reduceIte, Int.reduceLE, Int.reduceLT, Int.reduceToNat, Int.reduceNeg, Int.reduceAdd, Int.reduceSub, Int.reduceMul, Int.reduceEq, Int.reduceNe, Nat.reduceEqDiff, Nat.reduceAdd, Nat.reduceSub, Nat.reduceMul, Nat.reduceLT, Nat.reduceLeDiff, Nat.reduceBEq, Nat.reduceBNe, Try.results99, h0, h1, h7, h8, hgi, hq])
        | (((first | refine at_region ?_ | refine at_out ?_ | refine at_cond ?_); split) <;> first | (exfalso; omega; done) | simp (config := { maxSteps := 3000000 }) (disch := first | assumption | omega | exact VG.okg (by assumption) | (simp only [List.length_set, List.length_append, List.length_cons, List.length_nil, List.length_replicate]; omega)) only [go_sem, ↓reduceIte, Int.reduceLE, Int.reduceLT, Int.reduceToNat, Int.reduceNeg, Int.reduceAdd, Int.reduceSub, Int.reduceMul, Int.reduceEq, Int.reduceNe, Nat.reduceEqDiff, Nat.reduceAdd, Nat.reduceSub, Nat.reduceMul, Nat.reduceLT, Nat.reduceLeDiff, Nat.reduceBEq, Nat.reduceBNe, Try.results99, h0, h1, h7, h8, hgi, hq] | skip))
      refine ⟨by omega, by omega, ?_, by omega⟩
      rw [htk, List.mem_append, List.mem_singleton]
      exact fun k => k.elim g2 fun k => hq k.symm
  · rw [take_all (by omega)] at g2
    have hf : findI xs x = -1 := if_neg g2
    repeat' (first
      | refine xw_seq ?_
      | refine xw_block ?_
      | (refine ite_two ?_ ?_ <;> intro _ <;> first | (exfalso; omega) | skip)
      | refine ord_split (by kernel_rfl) ?_
      | (refine xw_ret ?_ <;> try simp only [sq, bl, LQ])
      | ((first | refine xw_reg ?_ | refine xw_regd ?_ | refine xw_if ?_ | refine xw_skip ?_ | refine xw_exit ?_ | refine xw_label ?_ | refine post_ret ?_ | refine post_normal ?_ | refine postE_ret ?_ | refine postE_normal ?_) <;> simp (config := { maxSteps := 3000000 }) (disch := first | assumption | omega | exact VG.okg (by assumption) | (simp only [List.length_set, List.length_append, List.length_cons, List.length_nil, List.length_replicate]; omega)) only [go_sem, ↓reduceIte, Int.reduceLE, Int.reduceLT, Int.reduceToNat, Int.reduceNeg, Int.reduceAdd, Int.reduceSub, Int.reduceMul, Int.reduceEq, Int.reduceNe, Nat.reduceEqDiff, Nat.reduceAdd, Nat.reduceSub, Nat.reduceMul, Nat.reduceLT, Nat.reduceLeDiff, Nat.reduceBEq, Nat.reduceBNe, Try.results99, h0, h1, h7, h8])
      | (((first | refine at_region ?_ | refine at_out ?_ | refine at_cond ?_); split) <;> first | (exfalso; omega; done) | simp (config := { maxSteps := 3000000 }) (disch := first | assumption | omega | exact VG.okg (by assumption) | (simp only [List.length_set, List.length_append, List.length_cons, List.length_nil, List.length_replicate]; omega)) only [go_sem, ↓reduceIte, Int.reduceLE, Int.reduceLT, Int.reduceToNat, Int.reduceNeg, Int.reduceAdd, Int.reduceSub, Int.reduceMul, Int.reduceEq, Int.reduceNe, Nat.reduceEqDiff, Nat.reduceAdd, Nat.reduceSub, Nat.reduceMul, Nat.reduceLT, Nat.reduceLeDiff, Nat.reduceBEq, Nat.reduceBNe, Try.results99, h0, h1, h7, h8] | skip))
    exact hf.symm
theorem clo_TV1 : CloI (.fn 138 [] []) (fun _ => True) (fun x => !decide (0 ≤ x ∧ x < 16)) := by
  have k : ∀ x : Int, KP 138 [I x] [] = some (B (!decide (0 ≤ x ∧ x < 16)), [], []) := by
    intro x
    refine xw_call (fn := Try.f138) rfl Try.func138 rfl ⟨Nat.le_of_ble_eq_true rfl, rfl, rfl⟩ ?_
    repeat' (first
      | refine xw_seq ?_
      | refine xw_block ?_
      | (refine ite_two ?_ ?_ <;> intro _ <;> first | (exfalso; omega) | skip)
      | refine ord_split (by kernel_rfl) ?_
      | (refine xw_ret ?_ <;> try simp only [sq, bl, LQ])
      | ((first | refine xw_reg ?_ | refine xw_regd ?_ | refine xw_if ?_ | refine xw_skip ?_ | refine xw_exit ?_ | refine xw_label ?_ | refine post_ret ?_ | refine post_normal ?_ | refine postE_ret ?_ | refine postE_normal ?_) <;> simp (config := { maxSteps := 3000000 }) (disch := first | assumption | omega | exact VG.okg (by assumption) | (simp only [List.length_set, List.length_append, List.length_cons, List.length_nil, List.length_replicate]; omega)) only [go_sem, ↓reduceIte, Int.reduceLE, Int.reduceLT, Int.reduceToNat, Int.reduceNeg, Int.reduceAdd, Int.reduceSub, Int.reduceMul, Int.reduceEq, Int.reduceNe, Nat.reduceEqDiff, Nat.reduceAdd, Nat.reduceSub, Nat.reduceMul, Nat.reduceLT, Nat.reduceLeDiff, Nat.reduceBEq, Nat.reduceBNe, Try.results138])
      | (((first | refine at_region ?_ | refine at_out ?_ | refine at_cond ?_); split) <;> first | (exfalso; omega; done) | simp (config := { maxSteps := 3000000 }) (disch := first | assumption | omega | exact VG.okg (by assumption) | (simp only [List.length_set, List.length_append, List.length_cons, List.length_nil, List.length_replicate]; omega)) only [go_sem, ↓reduceIte, Int.reduceLE, Int.reduceLT, Int.reduceToNat, Int.reduceNeg, Int.reduceAdd, Int.reduceSub, Int.reduceMul, Int.reduceEq, Int.reduceNe, Nat.reduceEqDiff, Nat.reduceAdd, Nat.reduceSub, Nat.reduceMul, Nat.reduceLT, Nat.reduceLeDiff, Nat.reduceBEq, Nat.reduceBNe, Try.results138] | skip))
  refine ⟨fun n => by cases n <;> rfl, rfl, fun me d x hx => ?_⟩
  have hx' := k x
  simp only [go_sem, ↓reduceIte, Int.reduceLE, Int.reduceLT, Int.reduceToNat, Int.reduceNeg, Int.reduceAdd, Int.reduceSub, Int.reduceMul, Int.reduceEq, Int.reduceNe, Nat.reduceEqDiff, Nat.reduceAdd, Nat.reduceSub, Nat.reduceMul, Nat.reduceLT, Nat.reduceLeDiff, Nat.reduceBEq, Nat.reduceBNe, hx', ite_self]
/-- Each step is an edge. -/
def stOk (l : List Int) : Prop := ∀ i, i + 1 < l.length → eOk (l.getD i 0) (l.getD (i + 1) 0)
noncomputable instance decStOk (l : List Int) : Decidable (stOk l) := Classical.propDecidable _
theorem steps_one {l : List Int} (h : l.length ≤ 1) : stepsL l = [] := by
  match l, h with
  | [], _ => rfl
  | [x], _ => rfl
  | x :: y :: r, h => simp at h
theorem steps_takeI {l : List Int} {i : Int} (h0 : 1 ≤ i) (h1 : i < l.length) : stepsL (l.take (i + 1).toNat) = stepsL (l.take i.toNat) ++ [edgeOf (l.getD (i - 1).toNat 0) (l.getD i.toNat 0)] := by
  have := steps_take (l := l) (i := (i - 1).toNat) (by omega)
  rw [show (i - 1).toNat + 2 = (i + 1).toNat by omega, show (i - 1).toNat + 1 = i.toNat by omega] at this
  exact this
theorem steps_takeL (l : List Int) (k : Nat) : (stepsL (l.take k)).length ≤ l.length := by rw [steps_len, List.length_take]; omega
theorem c_steps (l : List Int) (hl : l.length ≤ 1000) : KP 140 [LI l] [] = some (if stOk l then (.tup [.ref 2000 0 0 (stepsL l).length, B true], [], [.arr 0 2 ((stepsL l).map encE)]) else (.tup [.i .emp, B false], [], [])) := by
  refine xw_call (fn := Try.f140) rfl Try.func140 rfl ⟨Nat.le_of_ble_eq_true rfl, rfl, rfl⟩ ?_
  repeat' (first
    | refine xw_seq ?_
    | refine xw_block ?_
    | (refine ite_two ?_ ?_ <;> intro _ <;> first | (exfalso; omega) | skip)
    | refine ord_split (by kernel_rfl) ?_
    | (refine xw_ret ?_ <;> try simp only [sq, bl, LQ])
    | ((first | refine xw_reg ?_ | refine xw_regd ?_ | refine xw_if ?_ | refine xw_skip ?_ | refine xw_exit ?_ | refine xw_label ?_ | refine post_ret ?_ | refine post_normal ?_ | refine postE_ret ?_ | refine postE_normal ?_) <;> simp (config := { maxSteps := 3000000 }) (disch := first | assumption | omega | exact VG.okg (by assumption) | (simp only [List.length_set, List.length_append, List.length_cons, List.length_nil, List.length_replicate]; omega)) only [go_sem, ↓reduceIte, Int.reduceLE, Int.reduceLT, Int.reduceToNat, Int.reduceNeg, Int.reduceAdd, Int.reduceSub, Int.reduceMul, Int.reduceEq, Int.reduceNe, Nat.reduceEqDiff, Nat.reduceAdd, Nat.reduceSub, Nat.reduceMul, Nat.reduceLT, Nat.reduceLeDiff, Nat.reduceBEq, Nat.reduceBNe, Try.results140])
    | (((first | refine at_region ?_ | refine at_out ?_ | refine at_cond ?_); split) <;> first | (exfalso; omega; done) | simp (config := { maxSteps := 3000000 }) (disch := first | assumption | omega | exact VG.okg (by assumption) | (simp only [List.length_set, List.length_append, List.length_cons, List.length_nil, List.length_replicate]; omega)) only [go_sem, ↓reduceIte, Int.reduceLE, Int.reduceLT, Int.reduceToNat, Int.reduceNeg, Int.reduceAdd, Int.reduceSub, Int.reduceMul, Int.reduceEq, Int.reduceNe, Nat.reduceEqDiff, Nat.reduceAdd, Nat.reduceSub, Nat.reduceMul, Nat.reduceLT, Nat.reduceLeDiff, Nat.reduceBEq, Nat.reduceBNe, Try.results140] | skip))
  refine xw_loopR (fun (u : Int × Nat) s => s.m 8 = some (.arr u.2 2 ((stepsL (l.take u.1.toNat)).map encE)) ∧ s.ρ 4 = .ref 8 u.2 0 (stepsL (l.take u.1.toNat)).length ∧ s.ρ 0 = LI l ∧ s.ρ 5 = I u.1 ∧ 1 ≤ u.1 ∧ (u.1 ≤ l.length ∨ u.1 = 1) ∧ ∀ i : Nat, (i : Int) + 1 < u.1 → i + 1 < l.length → eOk (l.getD i 0) (l.getD (i + 1) 0)) (fun u => (l.length - u.1).toNat) (1, 0) ?_ ?_
  · refine ⟨?_, ?_, rfl, rfl, by simp, by simp, fun i h => by simp at h; omega⟩
    · simp [upd, steps_one (l := l.take 1) (by simp; omega)]
    · simp [upd, steps_one (l := l.take 1) (by simp; omega)]
  rintro ⟨i, w⟩ ⟨ρ, m⟩ ⟨m8, e4, e0, e5, g0, g1, g2⟩
  simp only at m8 e4 e0 e5 g0 g1 g2
  by_cases hi : i < l.length
  rotate_left
  · have hst : stOk l := fun j hj => g2 j (by omega) hj
    rw [if_pos hst]
    rw [take_all (by omega)] at m8 e4
    repeat' (first
      | refine xw_seq ?_
      | refine xw_block ?_
      | (refine ite_two ?_ ?_ <;> intro _ <;> first | (exfalso; omega) | skip)
      | refine ord_split (by kernel_rfl) ?_
      | (refine xw_ret ?_ <;> try simp only [sq, bl, LQ])
      | ((first | refine xw_reg ?_ | refine xw_regd ?_ | refine xw_if ?_ | refine xw_skip ?_ | refine xw_exit ?_ | refine xw_label ?_ | refine post_ret ?_ | refine post_normal ?_ | refine postE_ret ?_ | refine postE_normal ?_) <;> simp (config := { maxSteps := 3000000 }) (disch := first | assumption | omega | exact VG.okg (by assumption) | (simp only [List.length_set, List.length_append, List.length_cons, List.length_nil, List.length_replicate]; omega)) only [go_sem, ↓reduceIte, Int.reduceLE, Int.reduceLT, Int.reduceToNat, Int.reduceNeg, Int.reduceAdd, Int.reduceSub, Int.reduceMul, Int.reduceEq, Int.reduceNe, Nat.reduceEqDiff, Nat.reduceAdd, Nat.reduceSub, Nat.reduceMul, Nat.reduceLT, Nat.reduceLeDiff, Nat.reduceBEq, Nat.reduceBNe, Try.results140, m8, e4, e0, e5])
      | (((first | refine at_region ?_ | refine at_out ?_ | refine at_cond ?_); split) <;> first | (exfalso; omega; done) | simp (config := { maxSteps := 3000000 }) (disch := first | assumption | omega | exact VG.okg (by assumption) | (simp only [List.length_set, List.length_append, List.length_cons, List.length_nil, List.length_replicate]; omega)) only [go_sem, ↓reduceIte, Int.reduceLE, Int.reduceLT, Int.reduceToNat, Int.reduceNeg, Int.reduceAdd, Int.reduceSub, Int.reduceMul, Int.reduceEq, Int.reduceNe, Nat.reduceEqDiff, Nat.reduceAdd, Nat.reduceSub, Nat.reduceMul, Nat.reduceLT, Nat.reduceLeDiff, Nat.reduceBEq, Nat.reduceBNe, Try.results140, m8, e4, e0, e5] | skip))
  have hg1 := getI l i.toNat (by omega)
  have hg0 := getI l (i - 1).toNat (by omega)
  have hsn := steps_takeI g0 hi
  have hsl := steps_takeL l i.toNat
  have hok : i.toNat = (i - 1).toNat + 1 := by omega
  by_cases hE : eOk (l.getD (i - 1).toNat 0) (l.getD i.toNat 0)
  · have hnew : ∀ j : Nat, (j : Int) + 1 < i + 1 → j + 1 < l.length → eOk (l.getD j 0) (l.getD (j + 1) 0) := fun j h1 h2 => by
      by_cases q : (j : Int) + 1 < i
      · exact g2 j q h2
      · have : j = (i - 1).toNat := by omega
        rw [this, ← hok]; exact hE
    have hed := c_EdgeOf (l.getD (i - 1).toNat 0) (l.getD i.toNat 0)
    rw [if_pos hE] at hed
    generalize stepsL (l.take i.toNat) = T0 at *
    generalize l.getD i.toNat 0 = b at *
    generalize l.getD (i - 1).toNat 0 = a at *
    generalize edgeOf a b = e at *
    repeat' (first
      | refine xw_seq ?_
      | refine xw_block ?_
      | (refine ite_two ?_ ?_ <;> intro _ <;> first | (exfalso; omega) | skip)
      | refine ord_split (by kernel_rfl) ?_
      | (refine xw_ret ?_ <;> try simp only [sq, bl, LQ])
      | ((first | refine xw_reg ?_ | refine xw_regd ?_ | refine xw_if ?_ | refine xw_skip ?_ | refine xw_exit ?_ | refine xw_label ?_ | refine post_ret ?_ | refine post_normal ?_ | refine postE_ret ?_ | refine postE_normal ?_) <;> simp (config := { maxSteps := 3000000 }) (disch := first | assumption | omega | exact VG.okg (by assumption) | (simp only [List.length_set, List.length_append, List.length_cons, List.length_nil, List.length_replicate]; omega)) only [go_sem, ↓reduceIte, Int.reduceLE, Int.reduceLT, Int.reduceToNat, Int.reduceNeg, Int.reduceAdd, Int.reduceSub, Int.reduceMul, Int.reduceEq, Int.reduceNe, Nat.reduceEqDiff, Nat.reduceAdd, Nat.reduceSub, Nat.reduceMul, Nat.reduceLT, Nat.reduceLeDiff, Nat.reduceBEq, Nat.reduceBNe, Try.results140, m8, e4, e0, e5, hg0, hg1, hed])
      | (((first | refine at_region ?_ | refine at_out ?_ | refine at_cond ?_); split) <;> first | (exfalso; omega; done) | simp (config := { maxSteps := 3000000 }) (disch := first | assumption | omega | exact VG.okg (by assumption) | (simp only [List.length_set, List.length_append, List.length_cons, List.length_nil, List.length_replicate]; omega)) only [go_sem, ↓reduceIte, Int.reduceLE, Int.reduceLT, Int.reduceToNat, Int.reduceNeg, Int.reduceAdd, Int.reduceSub, Int.reduceMul, Int.reduceEq, Int.reduceNe, Nat.reduceEqDiff, Nat.reduceAdd, Nat.reduceSub, Nat.reduceMul, Nat.reduceLT, Nat.reduceLeDiff, Nat.reduceBEq, Nat.reduceBNe, Try.results140, m8, e4, e0, e5, hg0, hg1, hed] | skip))
    exact ⟨i + 1, by rw [hsn], by rw [hsn]; simp, rfl, by omega, by omega, hnew, by omega⟩
  · have hst : ¬ stOk l := fun h => hE (by rw [hok]; exact h (i - 1).toNat (by omega))
    rw [if_neg hst]
    have hed := c_EdgeOf (l.getD (i - 1).toNat 0) (l.getD i.toNat 0)
    rw [if_neg hE] at hed
    repeat' (first
      | refine xw_seq ?_
      | refine xw_block ?_
      | (refine ite_two ?_ ?_ <;> intro _ <;> first | (exfalso; omega) | skip)
      | refine ord_split (by kernel_rfl) ?_
      | (refine xw_ret ?_ <;> try simp only [sq, bl, LQ])
      | ((first | refine xw_reg ?_ | refine xw_regd ?_ | refine xw_if ?_ | refine xw_skip ?_ | refine xw_exit ?_ | refine xw_label ?_ | refine post_ret ?_ | refine post_normal ?_ | refine postE_ret ?_ | refine postE_normal ?_) <;> simp (config := { maxSteps := 3000000 }) (disch := first | assumption | omega | exact VG.okg (by assumption) | (simp only [List.length_set, List.length_append, List.length_cons, List.length_nil, List.length_replicate]; omega)) only [go_sem, ↓reduceIte, Int.reduceLE, Int.reduceLT, Int.reduceToNat, Int.reduceNeg, Int.reduceAdd, Int.reduceSub, Int.reduceMul, Int.reduceEq, Int.reduceNe, Nat.reduceEqDiff, Nat.reduceAdd, Nat.reduceSub, Nat.reduceMul, Nat.reduceLT, Nat.reduceLeDiff, Nat.reduceBEq, Nat.reduceBNe, Try.results140, m8, e4, e0, e5, hg0, hg1, hed])
      | (((first | refine at_region ?_ | refine at_out ?_ | refine at_cond ?_); split) <;> first | (exfalso; omega; done) | simp (config := { maxSteps := 3000000 }) (disch := first | assumption | omega | exact VG.okg (by assumption) | (simp only [List.length_set, List.length_append, List.length_cons, List.length_nil, List.length_replicate]; omega)) only [go_sem, ↓reduceIte, Int.reduceLE, Int.reduceLT, Int.reduceToNat, Int.reduceNeg, Int.reduceAdd, Int.reduceSub, Int.reduceMul, Int.reduceEq, Int.reduceNe, Nat.reduceEqDiff, Nat.reduceAdd, Nat.reduceSub, Nat.reduceMul, Nat.reduceLT, Nat.reduceLeDiff, Nat.reduceBEq, Nat.reduceBNe, Try.results140, m8, e4, e0, e5, hg0, hg1, hed] | skip))
end Go.Proofs.Yteknfomddncboaa.X
