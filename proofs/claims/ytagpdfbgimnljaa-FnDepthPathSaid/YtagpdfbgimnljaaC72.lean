/- What functions compute: lists that may be tours. -/
import Derived.Test.YtagpdfbgimnljaaC20
import Derived.Test.YtagpdfbgimnljaaC21
import Derived.Test.YtagpdfbgimnljaaC45
import Derived.Test.YtagpdfbgimnljaaM25
set_option linter.unusedSimpArgs false
set_option linter.unusedVariables false
set_option maxHeartbeats 8000000
set_option maxRecDepth 100000
namespace Go.Proofs.Ytagpdfbgimnljaa.X
open Go Go.Proofs
/-- The place of a number, or -1. -/
def findI (xs : List Int) (x : Int) : Int := if x ∈ xs then (xs.idxOf x : Int) else -1
theorem idxOfI_at {x : Int} : ∀ {xs : List Int} {i : Nat}, xs[i]? = some x → x ∉ xs.take i → xs.idxOf x = i
  | [], _, h, _ => by simp at h
  | y :: r, 0, h, _ => by simp at h; subst h; simp
  | y :: r, i + 1, h, hn => by
    simp only [List.take_succ_cons, List.mem_cons, not_or] at hn
    have hx : (y == x) = false := by simpa using fun e' => hn.1 e'.symm
    rw [List.idxOf_cons, hx, idxOfI_at (by simpa using h) hn.2]; rfl
theorem findI_at {xs : List Int} {x : Int} {i : Nat} (h : xs[i]? = some x) (hn : x ∉ xs.take i) : findI xs x = i := by
  have hin : x ∈ xs := List.mem_of_getElem? h
  simp [findI, hin, idxOfI_at h hn]
theorem c_indexI (xs : List Int) (x : Int) (hl : xs.length ≤ 1048576) : KP 142 [LI xs, I x] [] = some (I (findI xs x), [], []) := by
  refine xw_call (fn := Try.f142) rfl Try.func142 rfl ⟨Nat.le_of_ble_eq_true rfl, rfl, rfl⟩ ?_
  repeat' (first
    | refine xw_seq ?_
    | refine xw_block ?_
    | (refine ite_two ?_ ?_ <;> intro _ <;> first | (exfalso; omega) | skip)
    | refine ord_split (by kernel_rfl) ?_
    | (refine xw_ret ?_ <;> try simp only [sq, bl, LQ])
    | ((first | refine xw_reg ?_ | refine xw_regd ?_ | refine xw_if ?_ | refine xw_skip ?_ | refine xw_exit ?_ | refine xw_label ?_ | refine post_ret ?_ | refine post_normal ?_ | refine postE_ret ?_ | refine postE_normal ?_) <;> simp (config := { maxSteps := 3000000 }) (disch := first | assumption | omega | exact VG.okg (by assumption) | (simp only [List.length_set, List.length_append, List.length_cons, List.length_nil, List.length_replicate]; omega)) only [go_sem, ↓reduceIte, Int.reduceLE, Int.reduceLT, Int.reduceToNat, Int.reduceNeg, Int.reduceAdd, Int.reduceSub, Int.reduceMul, Int.reduceEq, Int.reduceNe, Nat.reduceEqDiff, Nat.reduceAdd, Nat.reduceSub, Nat.reduceMul, Nat.reduceLT, Nat.reduceLeDiff, Nat.reduceBEq, Nat.reduceBNe, Try.results142])
    | (((first | refine at_region ?_ | refine at_out ?_ | refine at_cond ?_); split) <;> first | (exfalso; omega; done) | simp (config := { maxSteps := 3000000 }) (disch := first | assumption | omega | exact VG.okg (by assumption) | (simp only [List.length_set, List.length_append, List.length_cons, List.length_nil, List.length_replicate]; omega)) only [go_sem, ↓reduceIte, Int.reduceLE, Int.reduceLT, Int.reduceToNat, Int.reduceNeg, Int.reduceAdd, Int.reduceSub, Int.reduceMul, Int.reduceEq, Int.reduceNe, Nat.reduceEqDiff, Nat.reduceAdd, Nat.reduceSub, Nat.reduceMul, Nat.reduceLT, Nat.reduceLeDiff, Nat.reduceBEq, Nat.reduceBNe, Try.results142] | skip))
  refine xw_loopR (fun (i : Int) s => s.ρ 0 = LI xs ∧ s.ρ 1 = I x ∧ s.ρ 7 = I xs.length ∧ s.ρ 8 = I i ∧ 0 ≤ i ∧ i ≤ xs.length ∧ x ∉ xs.take i.toNat) (fun i => (xs.length - i).toNat) 0 ⟨rfl, rfl, rfl, rfl, by simp, by simp, by simp⟩ ?_
  rintro i ⟨ρ, m⟩ ⟨h0, h1, h7, h8, g0, g1, g2⟩
  simp only at h0 h1 h7 h8
  by_cases hi : i < xs.length
  · have hgi := getI xs i.toNat (by omega)
    have hat : xs[i.toNat]? = some (xs.getD i.toNat 0) := by simp [show i.toNat < xs.length by omega]
    have htk := take_int 0 g0 hi
    generalize xs.getD i.toNat 0 = y at hgi hat htk
    by_cases hq : y = x
    · subst hq
      have hf := findI_at hat g2
      repeat' (first
        | refine xw_seq ?_
        | refine xw_block ?_
        | (refine ite_two ?_ ?_ <;> intro _ <;> first | (exfalso; omega) | skip)
        | refine ord_split (by kernel_rfl) ?_
        | (refine xw_ret ?_ <;> try simp only [sq, bl, LQ])
        | ((first | refine xw_reg ?_ | refine xw_regd ?_ | refine xw_if ?_ | refine xw_skip ?_ | refine xw_exit ?_ | refine xw_label ?_ | refine post_ret ?_ | refine post_normal ?_ | refine postE_ret ?_ | refine postE_normal ?_) <;> simp (config := { maxSteps := 3000000 }) (disch := first | assumption | omega | exact VG.okg (by assumption) | (simp only [List.length_set, List.length_append, List.length_cons, List.length_nil, List.length_replicate]; omega)) only [go_sem, ↓reduceIte, Int.reduceLE, Int.reduceLT, Int.reduceToNat, Int.reduceNeg, Int.reduceAdd, Int.reduceSub, Int.reduceMul, Int.reduceEq, Int.reduceNe, Nat.reduceEqDiff, Nat.reduceAdd, Nat.reduceSub, Nat.reduceMul, Nat.reduceLT, Nat.reduceLeDiff, Nat.reduceBEq, Nat.reduceBNe, Try.results142, h0, h1, h7, h8, hgi])
        | (((first | refine at_region ?_ | refine at_out ?_ | refine at_cond ?_); split) <;> first | (exfalso; omega; done) | simp (config := { maxSteps := 3000000 }) (disch := first | assumption | omega | exact VG.okg (by assumption) | (simp only [List.length_set, List.length_append, List.length_cons, List.length_nil, List.length_replicate]; omega)) only [go_sem, ↓reduceIte, Int.reduceLE, Int.reduceLT, Int.reduceToNat, Int.reduceNeg, Int.reduceAdd, Int.reduceSub, Int.reduceMul, Int.reduceEq, Int.reduceNe, Nat.reduceEqDiff, Nat.reduceAdd, Nat.reduceSub, Nat.reduceMul, Nat.reduceLT, Nat.reduceLeDiff, Nat.reduceBEq, Nat.reduceBNe, Try.results142, h0, h1, h7, h8, hgi] | skip))
      rw [hf]; omega
    · repeat' (first
        | refine xw_seq ?_
        | refine xw_block ?_
        | (refine ite_two ?_ ?_ <;> intro _ <;> first | (exfalso; omega) | skip)
        | refine ord_split (by kernel_rfl) ?_
        | (refine xw_ret ?_ <;> try simp only [sq, bl, LQ])
        | ((first | refine xw_reg ?_ | refine xw_regd ?_ | refine xw_if ?_ | refine xw_skip ?_ | refine xw_exit ?_ | refine xw_label ?_ | refine post_ret ?_ | refine post_normal ?_ | refine postE_ret ?_ | refine postE_normal ?_) <;> simp (config := { maxSteps := 3000000 }) (disch := first | assumption | omega | exact VG.okg (by assumption) | (simp only [List.length_set, List.length_append, List.length_cons, List.length_nil, List.length_replicate]; omega)) only [go_sem, ↓reduceIte, Int.reduceLE, Int.reduceLT, Int.reduceToNat, Int.reduceNeg, Int.reduceAdd, Int.reduceSub, Int.reduceMul, Int.reduceEq, Int.reduceNe, Nat.reduceEqDiff, Nat.reduceAdd, Nat.reduceSub, Nat.reduceMul, Nat.reduceLT, Nat.reduceLeDiff, Nat.reduceBEq, Nat.reduceBNe, Try.results142, h0, h1, h7, h8, hgi, hq])
        | (((first | refine at_region ?_ | refine at_out ?_ | refine at_cond ?_); split) <;> first | (exfalso; omega; done) | simp (config := { maxSteps := 3000000 }) (disch := first | assumption | omega | exact VG.okg (by assumption) | (simp only [List.length_set, List.length_append, List.length_cons, List.length_nil, List.length_replicate]; omega)) only [go_sem, ↓reduceIte, Int.reduceLE, Int.reduceLT, Int.reduceToNat, Int.reduceNeg, Int.reduceAdd, Int.reduceSub, Int.reduceMul, Int.reduceEq, Int.reduceNe, Nat.reduceEqDiff, Nat.reduceAdd, Nat.reduceSub, Nat.reduceMul, Nat.reduceLT, Nat.reduceLeDiff, Nat.reduceBEq, Nat.reduceBNe, Try.results142, h0, h1, h7, h8, hgi, hq] | skip))
      refine ⟨by omega, by omega, ?_, by omega⟩
      rw [htk, List.mem_append, List.mem_singleton]
      exact fun k => k.elim g2 fun k => hq k.symm
  · rw [take_all (by omega)] at g2
    have hf : findI xs x = -1 := if_neg g2
    repeat' (first
      | refine xw_seq ?_
      | refine xw_block ?_
      | (refine ite_two ?_ ?_ <;> intro _ <;> first | (exfalso; omega) | skip)
      | refine ord_split (by kernel_rfl) ?_
      | (refine xw_ret ?_ <;> try simp only [sq, bl, LQ])
      | ((first | refine xw_reg ?_ | refine xw_regd ?_ | refine xw_if ?_ | refine xw_skip ?_ | refine xw_exit ?_ | refine xw_label ?_ | refine post_ret ?_ | refine post_normal ?_ | refine postE_ret ?_ | refine postE_normal ?_) <;> simp (config := { maxSteps := 3000000 }) (disch := first | assumption | omega | exact VG.okg (by assumption) | (simp only [List.length_set, List.length_append, List.length_cons, List.length_nil, List.length_replicate]; omega)) only [go_sem, ↓reduceIte, Int.reduceLE, Int.reduceLT, Int.reduceToNat, Int.reduceNeg, Int.reduceAdd, Int.reduceSub, Int.reduceMul, Int.reduceEq, Int.reduceNe, Nat.reduceEqDiff, Nat.reduceAdd, Nat.reduceSub, Nat.reduceMul, Nat.reduceLT, Nat.reduceLeDiff, Nat.reduceBEq, Nat.reduceBNe, Try.results142, h0, h1, h7, h8])
      | (((first | refine at_region ?_ | refine at_out ?_ | refine at_cond ?_); split) <;> first | (exfalso; omega; done) | simp (config := { maxSteps := 3000000 }) (disch := first | assumption | omega | exact VG.okg (by assumption) | (simp only [List.length_set, List.length_append, List.length_cons, List.length_nil, List.length_replicate]; omega)) only [go_sem, ↓reduceIte, Int.reduceLE, Int.reduceLT, Int.reduceToNat, Int.reduceNeg, Int.reduceAdd, Int.reduceSub, Int.reduceMul, Int.reduceEq, Int.reduceNe, Nat.reduceEqDiff, Nat.reduceAdd, Nat.reduceSub, Nat.reduceMul, Nat.reduceLT, Nat.reduceLeDiff, Nat.reduceBEq, Nat.reduceBNe, Try.results142, h0, h1, h7, h8] | skip))
    exact hf.symm
theorem clo_TV1 : CloI (.fn 135 [] []) (fun _ => True) (fun x => !decide (0 ≤ x ∧ x < 16)) := by
  have k : ∀ x : Int, KP 135 [I x] [] = some (B (!decide (0 ≤ x ∧ x < 16)), [], []) := by
    intro x
    refine xw_call (fn := Try.f135) rfl Try.func135 rfl ⟨Nat.le_of_ble_eq_true rfl, rfl, rfl⟩ ?_
    repeat' (first
      | refine xw_seq ?_
      | refine xw_block ?_
      | (refine ite_two ?_ ?_ <;> intro _ <;> first | (exfalso; omega) | skip)
      | refine ord_split (by kernel_rfl) ?_
      | (refine xw_ret ?_ <;> try simp only [sq, bl, LQ])
      | ((first | refine xw_reg ?_ | refine xw_regd ?_ | refine xw_if ?_ | refine xw_skip ?_ | refine xw_exit ?_ | refine xw_label ?_ | refine post_ret ?_ | refine post_normal ?_ | refine postE_ret ?_ | refine postE_normal ?_) <;> simp (config := { maxSteps := 3000000 }) (disch := first | assumption | omega | exact VG.okg (by assumption) | (simp only [List.length_set, List.length_append, List.length_cons, List.length_nil, List.length_replicate]; omega)) only [go_sem, ↓reduceIte, Int.reduceLE, Int.reduceLT, Int.reduceToNat, Int.reduceNeg, Int.reduceAdd, Int.reduceSub, Int.reduceMul, Int.reduceEq, Int.reduceNe, Nat.reduceEqDiff, Nat.reduceAdd, Nat.reduceSub, Nat.reduceMul, Nat.reduceLT, Nat.reduceLeDiff, Nat.reduceBEq, Nat.reduceBNe, Try.results135])
      | (((first | refine at_region ?_ | refine at_out ?_ | refine at_cond ?_); split) <;> first | (exfalso; omega; done) | simp (config := { maxSteps := 3000000 }) (disch := first | assumption | omega | exact VG.okg (by assumption) | (simp only [List.length_set, List.length_append, List.length_cons, List.length_nil, List.length_replicate]; omega)) only [go_sem, ↓reduceIte, Int.reduceLE, Int.reduceLT, Int.reduceToNat, Int.reduceNeg, Int.reduceAdd, Int.reduceSub, Int.reduceMul, Int.reduceEq, Int.reduceNe, Nat.reduceEqDiff, Nat.reduceAdd, Nat.reduceSub, Nat.reduceMul, Nat.reduceLT, Nat.reduceLeDiff, Nat.reduceBEq, Nat.reduceBNe, Try.results135] | skip))
  refine ⟨fun n => by cases n <;> rfl, rfl, fun me d x hx => ?_⟩
  have hx' := k x
  simp only [go_sem, ↓reduceIte, Int.reduceLE, Int.reduceLT, Int.reduceToNat, Int.reduceNeg, Int.reduceAdd, Int.reduceSub, Int.reduceMul, Int.reduceEq, Int.reduceNe, Nat.reduceEqDiff, Nat.reduceAdd, Nat.reduceSub, Nat.reduceMul, Nat.reduceLT, Nat.reduceLeDiff, Nat.reduceBEq, Nat.reduceBNe, hx', ite_self]
/-- Each step is an edge. -/
def stOk (l : List Int) : Prop := ∀ i, i + 1 < l.length → eOk (l.getD i 0) (l.getD (i + 1) 0)
noncomputable instance decStOk (l : List Int) : Decidable (stOk l) := Classical.propDecidable _
theorem steps_one {l : List Int} (h : l.length ≤ 1) : stepsL l = [] := by
  match l, h with
  | [], _ => rfl
  | [x], _ => rfl
  | x :: y :: r, h => simp at h
theorem steps_takeI {l : List Int} {i : Int} (h0 : 1 ≤ i) (h1 : i < l.length) : stepsL (l.take (i + 1).toNat) = stepsL (l.take i.toNat) ++ [edgeOf (l.getD (i - 1).toNat 0) (l.getD i.toNat 0)] := by
  have := steps_take (l := l) (i := (i - 1).toNat) (by omega)
  rw [show (i - 1).toNat + 2 = (i + 1).toNat by omega, show (i - 1).toNat + 1 = i.toNat by omega] at this
  exact this
theorem steps_takeL (l : List Int) (k : Nat) : (stepsL (l.take k)).length ≤ l.length := by rw [steps_len, List.length_take]; omega
theorem c_steps (l : List Int) (hl : l.length ≤ 1000) : KP 137 [LI l] [] = some (if stOk l then (.tup [.ref 2000 0 0 (stepsL l).length, B true], [], [.arr 0 2 ((stepsL l).map encE)]) else (.tup [.i .emp, B false], [], [])) := by
  refine xw_call (fn := Try.f137) rfl Try.func137 rfl ⟨Nat.le_of_ble_eq_true rfl, rfl, rfl⟩ ?_
  repeat' (first
    | refine xw_seq ?_
    | refine xw_block ?_
    | (refine ite_two ?_ ?_ <;> intro _ <;> first | (exfalso; omega) | skip)
    | refine ord_split (by kernel_rfl) ?_
    | (refine xw_ret ?_ <;> try simp only [sq, bl, LQ])
    | ((first | refine xw_reg ?_ | refine xw_regd ?_ | refine xw_if ?_ | refine xw_skip ?_ | refine xw_exit ?_ | refine xw_label ?_ | refine post_ret ?_ | refine post_normal ?_ | refine postE_ret ?_ | refine postE_normal ?_) <;> simp (config := { maxSteps := 3000000 }) (disch := first | assumption | omega | exact VG.okg (by assumption) | (simp only [List.length_set, List.length_append, List.length_cons, List.length_nil, List.length_replicate]; omega)) only [go_sem, ↓reduceIte, Int.reduceLE, Int.reduceLT, Int.reduceToNat, Int.reduceNeg, Int.reduceAdd, Int.reduceSub, Int.reduceMul, Int.reduceEq, Int.reduceNe, Nat.reduceEqDiff, Nat.reduceAdd, Nat.reduceSub, Nat.reduceMul, Nat.reduceLT, Nat.reduceLeDiff, Nat.reduceBEq, Nat.reduceBNe, Try.results137])
    | (((first | refine at_region ?_ | refine at_out ?_ | refine at_cond ?_); split) <;> first | (exfalso; omega; done) | simp (config := { maxSteps := 3000000 }) (disch := first | assumption | omega | exact VG.okg (by assumption) | (simp only [List.length_set, List.length_append, List.length_cons, List.length_nil, List.length_replicate]; omega)) only [go_sem, ↓reduceIte, Int.reduceLE, Int.reduceLT, Int.reduceToNat, Int.reduceNeg, Int.reduceAdd, Int.reduceSub, Int.reduceMul, Int.reduceEq, Int.reduceNe, Nat.reduceEqDiff, Nat.reduceAdd, Nat.reduceSub, Nat.reduceMul, Nat.reduceLT, Nat.reduceLeDiff, Nat.reduceBEq, Nat.reduceBNe, Try.results137] | skip))
  refine xw_loopR (fun (u : Int × Nat) s => s.m 8 = some (.arr u.2 2 ((stepsL (l.take u.1.toNat)).map encE)) ∧ s.ρ 4 = .ref 8 u.2 0 (stepsL (l.take u.1.toNat)).length ∧ s.ρ 0 = LI l ∧ s.ρ 5 = I u.1 ∧ 1 ≤ u.1 ∧ (u.1 ≤ l.length ∨ u.1 = 1) ∧ ∀ i : Nat, (i : Int) + 1 < u.1 → i + 1 < l.length → eOk (l.getD i 0) (l.getD (i + 1) 0)) (fun u => (l.length - u.1).toNat) (1, 0) ?_ ?_
  · refine ⟨?_, ?_, rfl, rfl, by simp, by simp, fun i h => by simp at h; omega⟩
    · simp [upd, steps_one (l := l.take 1) (by simp; omega)]
    · simp [upd, steps_one (l := l.take 1) (by simp; omega)]
  rintro ⟨i, w⟩ ⟨ρ, m⟩ ⟨m8, e4, e0, e5, g0, g1, g2⟩
  simp only at m8 e4 e0 e5 g0 g1 g2
  by_cases hi : i < l.length
  rotate_left
  · have hst : stOk l := fun j hj => g2 j (by omega) hj
    rw [if_pos hst]
    rw [take_all (by omega)] at m8 e4
    repeat' (first
      | refine xw_seq ?_
      | refine xw_block ?_
      | (refine ite_two ?_ ?_ <;> intro _ <;> first | (exfalso; omega) | skip)
      | refine ord_split (by kernel_rfl) ?_
      | (refine xw_ret ?_ <;> try simp only [sq, bl, LQ])
      | ((first | refine xw_reg ?_ | refine xw_regd ?_ | refine xw_if ?_ | refine xw_skip ?_ | refine xw_exit ?_ | refine xw_label ?_ | refine post_ret ?_ | refine post_normal ?_ | refine postE_ret ?_ | refine postE_normal ?_) <;> simp (config := { maxSteps := 3000000 }) (disch := first | assumption | omega | exact VG.okg (by assumption) | (simp only [List.length_set, List.length_append, List.length_cons, List.length_nil, List.length_replicate]; omega)) only [go_sem, ↓reduceIte, Int.reduceLE, Int.reduceLT, Int.reduceToNat, Int.reduceNeg, Int.reduceAdd, Int.reduceSub, Int.reduceMul, Int.reduceEq, Int.reduceNe, Nat.reduceEqDiff, Nat.reduceAdd, Nat.reduceSub, Nat.reduceMul, Nat.reduceLT, Nat.reduceLeDiff, Nat.reduceBEq, Nat.reduceBNe, Try.results137, m8, e4, e0, e5])
      | (((first | refine at_region ?_ | refine at_out ?_ | refine at_cond ?_); split) <;> first | (exfalso; omega; done) | simp (config := { maxSteps := 3000000 }) (disch := first | assumption | omega | exact VG.okg (by assumption) | (simp only [List.length_set, List.length_append, List.length_cons, List.length_nil, List.length_replicate]; omega)) only [go_sem, ↓reduceIte, Int.reduceLE, Int.reduceLT, Int.reduceToNat, Int.reduceNeg, Int.reduceAdd, Int.reduceSub, Int.reduceMul, Int.reduceEq, Int.reduceNe, Nat.reduceEqDiff, Nat.reduceAdd, Nat.reduceSub, Nat.reduceMul, Nat.reduceLT, Nat.reduceLeDiff, Nat.reduceBEq, Nat.reduceBNe, Try.results137, m8, e4, e0, e5] | skip))
  have hg1 := getI l i.toNat (by omega)
  have hg0 := getI l (i - 1).toNat (by omega)
  have hsn := steps_takeI g0 hi
  have hsl := steps_takeL l i.toNat
  have hok : i.toNat = (i - 1).toNat + 1 := by omega
  by_cases hE : eOk (l.getD (i - 1).toNat 0) (l.getD i.toNat 0)
  · have hnew : ∀ j : Nat, (j : Int) + 1 < i + 1 → j + 1 < l.length → eOk (l.getD j 0) (l.getD (j + 1) 0) := fun j h1 h2 => by
      by_cases q : (j : Int) + 1 < i
      · exact g2 j q h2
      · have : j = (i - 1).toNat := by omega
        rw [this, ← hok]; exact hE
    have hed := c_EdgeOf (l.getD (i - 1).toNat 0) (l.getD i.toNat 0)
    rw [if_pos hE] at hed
    generalize stepsL (l.take i.toNat) = T0 at *
    generalize l.getD i.toNat 0 = b at *
    generalize l.getD (i - 1).toNat 0 = a at *
    generalize edgeOf a b = e at *
    repeat' (first
      | refine xw_seq ?_
      | refine xw_block ?_
      | (refine ite_two ?_ ?_ <;> intro _ <;> first | (exfalso; omega) | skip)
      | refine ord_split (by kernel_rfl) ?_
      | (refine xw_ret ?_ <;> try simp only [sq, bl, LQ])
      | ((first | refine xw_reg ?_ | refine xw_regd ?_ | refine xw_if ?_ | refine xw_skip ?_ | refine xw_exit ?_ | refine xw_label ?_ | refine post_ret ?_ | refine post_normal ?_ | refine postE_ret ?_ | refine postE_normal ?_) <;> simp (config := { maxSteps := 3000000 }) (disch := first | assumption | omega | exact VG.okg (by assumption) | (simp only [List.length_set, List.length_append, List.length_cons, List.length_nil, List.length_replicate]; omega)) only [go_sem, ↓reduceIte, Int.reduceLE, Int.reduceLT, Int.reduceToNat, Int.reduceNeg, Int.reduceAdd, Int.reduceSub, Int.reduceMul, Int.reduceEq, Int.reduceNe, Nat.reduceEqDiff, Nat.reduceAdd, Nat.reduceSub, Nat.reduceMul, Nat.reduceLT, Nat.reduceLeDiff, Nat.reduceBEq, Nat.reduceBNe, Try.results137, m8, e4, e0, e5, hg0, hg1, hed])
      | (((first | refine at_region ?_ | refine at_out ?_ | refine at_cond ?_); split) <;> first | (exfalso; omega; done) | simp (config := { maxSteps := 3000000 }) (disch := first | assumption | omega | exact VG.okg (by assumption) | (simp only [List.length_set, List.length_append, List.length_cons, List.length_nil, List.length_replicate]; omega)) only [go_sem, ↓reduceIte, Int.reduceLE, Int.reduceLT, Int.reduceToNat, Int.reduceNeg, Int.reduceAdd, Int.reduceSub, Int.reduceMul, Int.reduceEq, Int.reduceNe, Nat.reduceEqDiff, Nat.reduceAdd, Nat.reduceSub, Nat.reduceMul, Nat.reduceLT, Nat.reduceLeDiff, Nat.reduceBEq, Nat.reduceBNe, Try.results137, m8, e4, e0, e5, hg0, hg1, hed] | skip))
    exact ⟨i + 1, by rw [hsn], by rw [hsn]; simp, rfl, by omega, by omega, hnew, by omega⟩
  · have hst : ¬ stOk l := fun h => hE (by rw [hok]; exact h (i - 1).toNat (by omega))
    rw [if_neg hst]
    have hed := c_EdgeOf (l.getD (i - 1).toNat 0) (l.getD i.toNat 0)
    rw [if_neg hE] at hed
    repeat' (first
      | refine xw_seq ?_
      | refine xw_block ?_
      | (refine ite_two ?_ ?_ <;> intro _ <;> first | (exfalso; omega) | skip)
      | refine ord_split (by kernel_rfl) ?_
      | (refine xw_ret ?_ <;> try simp only [sq, bl, LQ])
      | ((first | refine xw_reg ?_ | refine xw_regd ?_ | refine xw_if ?_ | refine xw_skip ?_ | refine xw_exit ?_ | refine xw_label ?_ | refine post_ret ?_ | refine post_normal ?_ | refine postE_ret ?_ | refine postE_normal ?_) <;> simp (config := { maxSteps := 3000000 }) (disch := first | assumption | omega | exact VG.okg (by assumption) | (simp only [List.length_set, List.length_append, List.length_cons, List.length_nil, List.length_replicate]; omega)) only [go_sem, ↓reduceIte, Int.reduceLE, Int.reduceLT, Int.reduceToNat, Int.reduceNeg, Int.reduceAdd, Int.reduceSub, Int.reduceMul, Int.reduceEq, Int.reduceNe, Nat.reduceEqDiff, Nat.reduceAdd, Nat.reduceSub, Nat.reduceMul, Nat.reduceLT, Nat.reduceLeDiff, Nat.reduceBEq, Nat.reduceBNe, Try.results137, m8, e4, e0, e5, hg0, hg1, hed])
      | (((first | refine at_region ?_ | refine at_out ?_ | refine at_cond ?_); split) <;> first | (exfalso; omega; done) | simp (config := { maxSteps := 3000000 }) (disch := first | assumption | omega | exact VG.okg (by assumption) | (simp only [List.length_set, List.length_append, List.length_cons, List.length_nil, List.length_replicate]; omega)) only [go_sem, ↓reduceIte, Int.reduceLE, Int.reduceLT, Int.reduceToNat, Int.reduceNeg, Int.reduceAdd, Int.reduceSub, Int.reduceMul, Int.reduceEq, Int.reduceNe, Nat.reduceEqDiff, Nat.reduceAdd, Nat.reduceSub, Nat.reduceMul, Nat.reduceLT, Nat.reduceLeDiff, Nat.reduceBEq, Nat.reduceBNe, Try.results137, m8, e4, e0, e5, hg0, hg1, hed] | skip))
/-- Of lists of edges: neighbours alike are kept once. -/
theorem c_compactE (xs : List (Int × Int)) (hl : xs.length ≤ 1048576) :
    ∃ ys : List (Int × Int), ys.length = xs.length ∧ ys.take (dd xs).length = dd xs ∧ KP 182 [.ref 1000 0 0 xs.length] [.arr 0 2 (xs.map encE)] = some (.ref 1000 0 0 (dd xs).length, [.arr 0 2 (ys.map encE)], []) := by
  by_cases h2 : (xs.length : Int) < 2
  · have hd : dd xs = xs := by
      have := dd_take (l := xs) (0, 0) xs.length (Nat.le_refl _) (fun i h0 h1 => by omega)
      rwa [List.take_length] at this
    refine ⟨xs, rfl, by rw [hd, List.take_length], ?_⟩
    rw [hd]
    refine xw_call (fn := Try.f182) rfl Try.func182 rfl ⟨Nat.le_of_ble_eq_true rfl, rfl, rfl⟩ ?_
    repeat' (first
      | refine xw_seq ?_
      | refine xw_block ?_
      | (refine ite_two ?_ ?_ <;> intro _ <;> first | (exfalso; omega) | skip)
      | refine ord_split (by kernel_rfl) ?_
      | (refine xw_ret ?_ <;> try simp only [sq, bl, LQ])
      | ((first | refine xw_reg ?_ | refine xw_regd ?_ | refine xw_if ?_ | refine xw_skip ?_ | refine xw_exit ?_ | refine xw_label ?_ | refine post_ret ?_ | refine post_normal ?_ | refine postE_ret ?_ | refine postE_normal ?_) <;> simp (config := { maxSteps := 3000000 }) (disch := first | assumption | omega | exact VG.okg (by assumption) | (simp only [List.length_set, List.length_append, List.length_cons, List.length_nil, List.length_replicate]; omega)) only [go_sem, ↓reduceIte, Int.reduceLE, Int.reduceLT, Int.reduceToNat, Int.reduceNeg, Int.reduceAdd, Int.reduceSub, Int.reduceMul, Int.reduceEq, Int.reduceNe, Nat.reduceEqDiff, Nat.reduceAdd, Nat.reduceSub, Nat.reduceMul, Nat.reduceLT, Nat.reduceLeDiff, Nat.reduceBEq, Nat.reduceBNe, Try.results182])
      | (((first | refine at_region ?_ | refine at_out ?_ | refine at_cond ?_); split) <;> first | (exfalso; omega; done) | simp (config := { maxSteps := 3000000 }) (disch := first | assumption | omega | exact VG.okg (by assumption) | (simp only [List.length_set, List.length_append, List.length_cons, List.length_nil, List.length_replicate]; omega)) only [go_sem, ↓reduceIte, Int.reduceLE, Int.reduceLT, Int.reduceToNat, Int.reduceNeg, Int.reduceAdd, Int.reduceSub, Int.reduceMul, Int.reduceEq, Int.reduceNe, Nat.reduceEqDiff, Nat.reduceAdd, Nat.reduceSub, Nat.reduceMul, Nat.reduceLT, Nat.reduceLeDiff, Nat.reduceBEq, Nat.reduceBNe, Try.results182] | skip))
  suffices hgoal : ∃ res, (∃ ys : List (Int × Int), ys.length = xs.length ∧ ys.take (dd xs).length = dd xs ∧ res = (.ref 1000 0 0 (dd xs).length, [.arr 0 2 (ys.map encE)], [])) ∧ KP 182 [.ref 1000 0 0 xs.length] [.arr 0 2 (xs.map encE)] = some res by
    obtain ⟨res, ⟨ys, h1, h2, rfl⟩, h3⟩ := hgoal
    exact ⟨ys, h1, h2, h3⟩
  refine xw_callE (fn := Try.f182) rfl Try.func182 rfl ⟨Nat.le_of_ble_eq_true rfl, rfl, rfl⟩ ?_
  repeat' (first
    | refine xw_seq ?_
    | refine xw_block ?_
    | (refine ite_two ?_ ?_ <;> intro _ <;> first | (exfalso; omega) | skip)
    | refine ord_split (by kernel_rfl) ?_
    | (refine xw_ret ?_ <;> try simp only [sq, bl, LQ])
    | ((first | refine xw_reg ?_ | refine xw_regd ?_ | refine xw_if ?_ | refine xw_skip ?_ | refine xw_exit ?_ | refine xw_label ?_ | refine post_ret ?_ | refine post_normal ?_ | refine postE_ret ?_ | refine postE_normal ?_) <;> simp (config := { maxSteps := 3000000 }) (disch := first | assumption | omega | exact VG.okg (by assumption) | (simp only [List.length_set, List.length_append, List.length_cons, List.length_nil, List.length_replicate]; omega)) only [go_sem, ↓reduceIte, Int.reduceLE, Int.reduceLT, Int.reduceToNat, Int.reduceNeg, Int.reduceAdd, Int.reduceSub, Int.reduceMul, Int.reduceEq, Int.reduceNe, Nat.reduceEqDiff, Nat.reduceAdd, Nat.reduceSub, Nat.reduceMul, Nat.reduceLT, Nat.reduceLeDiff, Nat.reduceBEq, Nat.reduceBNe, Try.results182])
    | (((first | refine at_region ?_ | refine at_out ?_ | refine at_cond ?_); split) <;> first | (exfalso; omega; done) | simp (config := { maxSteps := 3000000 }) (disch := first | assumption | omega | exact VG.okg (by assumption) | (simp only [List.length_set, List.length_append, List.length_cons, List.length_nil, List.length_replicate]; omega)) only [go_sem, ↓reduceIte, Int.reduceLE, Int.reduceLT, Int.reduceToNat, Int.reduceNeg, Int.reduceAdd, Int.reduceSub, Int.reduceMul, Int.reduceEq, Int.reduceNe, Nat.reduceEqDiff, Nat.reduceAdd, Nat.reduceSub, Nat.reduceMul, Nat.reduceLT, Nat.reduceLeDiff, Nat.reduceBEq, Nat.reduceBNe, Try.results182] | skip))
  refine xw_loopR (fun (k : Int) s => s.m 1000 = some (.arr 0 2 (xs.map encE)) ∧ s.ρ 0 = .ref 1000 0 0 xs.length ∧ s.ρ 3 = I k ∧ 1 ≤ k ∧ k ≤ xs.length ∧ ∀ i : Nat, 0 < i → (i : Int) < k → xs.getD i (0, 0) ≠ xs.getD (i - 1) (0, 0)) (fun k => (xs.length - k).toNat) 1 ?_ ?_
  · exact ⟨by simp [upd, mp], by simp [upd], by simp [upd], by omega, by omega, fun i h0 h1 => by omega⟩
  rintro k ⟨ρ, m⟩ ⟨m0, h0, h3, g0, g1, g2⟩
  simp only at m0 h0 h3 g0 g1 g2
  by_cases hk : k < xs.length
  rotate_left
  · have hd : dd xs = xs := by
      have := dd_take (l := xs) (0, 0) xs.length (Nat.le_refl _) (fun i h0 h1 => g2 i h0 (by omega))
      rwa [List.take_length] at this
    repeat' (first
      | refine xw_seq ?_
      | refine xw_block ?_
      | (refine ite_two ?_ ?_ <;> intro _ <;> first | (exfalso; omega) | skip)
      | refine ord_split (by kernel_rfl) ?_
      | (refine xw_ret ?_ <;> try simp only [sq, bl, LQ])
      | ((first | refine xw_reg ?_ | refine xw_regd ?_ | refine xw_if ?_ | refine xw_skip ?_ | refine xw_exit ?_ | refine xw_label ?_ | refine post_ret ?_ | refine post_normal ?_ | refine postE_ret ?_ | refine postE_normal ?_) <;> simp (config := { maxSteps := 3000000 }) (disch := first | assumption | omega | exact VG.okg (by assumption) | (simp only [List.length_set, List.length_append, List.length_cons, List.length_nil, List.length_replicate]; omega)) only [go_sem, ↓reduceIte, Int.reduceLE, Int.reduceLT, Int.reduceToNat, Int.reduceNeg, Int.reduceAdd, Int.reduceSub, Int.reduceMul, Int.reduceEq, Int.reduceNe, Nat.reduceEqDiff, Nat.reduceAdd, Nat.reduceSub, Nat.reduceMul, Nat.reduceLT, Nat.reduceLeDiff, Nat.reduceBEq, Nat.reduceBNe, Try.results182, m0, h0, h3])
      | (((first | refine at_region ?_ | refine at_out ?_ | refine at_cond ?_); split) <;> first | (exfalso; omega; done) | simp (config := { maxSteps := 3000000 }) (disch := first | assumption | omega | exact VG.okg (by assumption) | (simp only [List.length_set, List.length_append, List.length_cons, List.length_nil, List.length_replicate]; omega)) only [go_sem, ↓reduceIte, Int.reduceLE, Int.reduceLT, Int.reduceToNat, Int.reduceNeg, Int.reduceAdd, Int.reduceSub, Int.reduceMul, Int.reduceEq, Int.reduceNe, Nat.reduceEqDiff, Nat.reduceAdd, Nat.reduceSub, Nat.reduceMul, Nat.reduceLT, Nat.reduceLeDiff, Nat.reduceBEq, Nat.reduceBNe, Try.results182, m0, h0, h3] | skip))
    exact ⟨xs, rfl, by rw [hd, List.take_length], by rw [hd], rfl⟩
  have hga := getE xs k.toNat (by omega)
  have hgb := getE xs (k - 1).toNat (by omega)
  by_cases he : xs.getD k.toNat (0, 0) = xs.getD (k - 1).toNat (0, 0)
  rotate_left
  · have hne : ¬ ((xs.getD k.toNat (0, 0)).1 = (xs.getD (k - 1).toNat (0, 0)).1 ∧ (xs.getD k.toNat (0, 0)).2 = (xs.getD (k - 1).toNat (0, 0)).2) := fun q => he (Prod.ext q.1 q.2)
    repeat' (first
      | refine xw_seq ?_
      | refine xw_block ?_
      | (refine ite_two ?_ ?_ <;> intro _ <;> first | (exfalso; omega) | skip)
      | refine ord_split (by kernel_rfl) ?_
      | (refine xw_ret ?_ <;> try simp only [sq, bl, LQ])
      | ((first | refine xw_reg ?_ | refine xw_regd ?_ | refine xw_if ?_ | refine xw_skip ?_ | refine xw_exit ?_ | refine xw_label ?_ | refine post_ret ?_ | refine post_normal ?_ | refine postE_ret ?_ | refine postE_normal ?_) <;> simp (config := { maxSteps := 3000000 }) (disch := first | assumption | omega | exact VG.okg (by assumption) | (simp only [List.length_set, List.length_append, List.length_cons, List.length_nil, List.length_replicate]; omega)) only [go_sem, ↓reduceIte, Int.reduceLE, Int.reduceLT, Int.reduceToNat, Int.reduceNeg, Int.reduceAdd, Int.reduceSub, Int.reduceMul, Int.reduceEq, Int.reduceNe, Nat.reduceEqDiff, Nat.reduceAdd, Nat.reduceSub, Nat.reduceMul, Nat.reduceLT, Nat.reduceLeDiff, Nat.reduceBEq, Nat.reduceBNe, Try.results182, m0, h0, h3, hga, hgb, hne])
      | (((first | refine at_region ?_ | refine at_out ?_ | refine at_cond ?_); split) <;> first | (exfalso; omega; done) | simp (config := { maxSteps := 3000000 }) (disch := first | assumption | omega | exact VG.okg (by assumption) | (simp only [List.length_set, List.length_append, List.length_cons, List.length_nil, List.length_replicate]; omega)) only [go_sem, ↓reduceIte, Int.reduceLE, Int.reduceLT, Int.reduceToNat, Int.reduceNeg, Int.reduceAdd, Int.reduceSub, Int.reduceMul, Int.reduceEq, Int.reduceNe, Nat.reduceEqDiff, Nat.reduceAdd, Nat.reduceSub, Nat.reduceMul, Nat.reduceLT, Nat.reduceLeDiff, Nat.reduceBEq, Nat.reduceBNe, Try.results182, m0, h0, h3, hga, hgb, hne] | skip))
    refine ⟨by omega, by omega, fun i i0 i1 => ?_, by omega⟩
    by_cases hik : (i : Int) < k
    · exact g2 i i0 hik
    · have e1 : i = k.toNat := by omega
      have e2 : i - 1 = (k - 1).toNat := by omega
      rw [e2, e1]; exact he
  have hk1 : ((k.toNat : Nat) : Int) = k := by omega
  have hd1 : dd (xs.take k.toNat) = xs.take k.toNat := dd_take (0, 0) k.toNat (by omega) (fun i h0 h1 => g2 i h0 (by omega))
  have hd2 : dd (xs.take (k.toNat + 1)) = xs.take k.toNat := by
    rw [dd_next (0, 0) (by omega) (by omega), if_pos (by rw [he]; congr 1; omega), hd1]
  repeat' (first
    | refine xw_seq ?_
    | refine xw_block ?_
    | (refine ite_two ?_ ?_ <;> intro _ <;> first | (exfalso; omega) | skip)
    | refine ord_split (by kernel_rfl) ?_
    | (refine xw_ret ?_ <;> try simp only [sq, bl, LQ])
    | ((first | refine xw_reg ?_ | refine xw_regd ?_ | refine xw_if ?_ | refine xw_skip ?_ | refine xw_exit ?_ | refine xw_label ?_ | refine post_ret ?_ | refine post_normal ?_ | refine postE_ret ?_ | refine postE_normal ?_) <;> simp (config := { maxSteps := 3000000 }) (disch := first | assumption | omega | exact VG.okg (by assumption) | (simp only [List.length_set, List.length_append, List.length_cons, List.length_nil, List.length_replicate]; omega)) only [go_sem, ↓reduceIte, Int.reduceLE, Int.reduceLT, Int.reduceToNat, Int.reduceNeg, Int.reduceAdd, Int.reduceSub, Int.reduceMul, Int.reduceEq, Int.reduceNe, Nat.reduceEqDiff, Nat.reduceAdd, Nat.reduceSub, Nat.reduceMul, Nat.reduceLT, Nat.reduceLeDiff, Nat.reduceBEq, Nat.reduceBNe, Try.results182, m0, h0, h3, hga, hgb, he])
    | (((first | refine at_region ?_ | refine at_out ?_ | refine at_cond ?_); split) <;> first | (exfalso; omega; done) | simp (config := { maxSteps := 3000000 }) (disch := first | assumption | omega | exact VG.okg (by assumption) | (simp only [List.length_set, List.length_append, List.length_cons, List.length_nil, List.length_replicate]; omega)) only [go_sem, ↓reduceIte, Int.reduceLE, Int.reduceLT, Int.reduceToNat, Int.reduceNeg, Int.reduceAdd, Int.reduceSub, Int.reduceMul, Int.reduceEq, Int.reduceNe, Nat.reduceEqDiff, Nat.reduceAdd, Nat.reduceSub, Nat.reduceMul, Nat.reduceLT, Nat.reduceLeDiff, Nat.reduceBEq, Nat.reduceBNe, Try.results182, m0, h0, h3, hga, hgb, he] | skip))
  refine xw_loopR (fun (u : Int × Int × List (Int × Int)) s => s.m 1000 = some (.arr 0 2 (u.2.2.map encE)) ∧ s.ρ 0 = .ref 1000 0 0 xs.length ∧ s.ρ 4 = .ref 1000 0 k.toNat (xs.length - k.toNat) ∧ s.ρ 3 = I u.1 ∧ s.ρ 5 = I u.2.1 ∧
    1 ≤ u.1 ∧ 1 ≤ u.2.1 ∧ k + u.2.1 ≤ xs.length ∧ u.1 ≤ k + u.2.1 - 1 ∧ u.2.2.length = xs.length ∧ (dd (xs.take (k + u.2.1).toNat)).length = u.1.toNat ∧ u.2.2.take u.1.toNat = dd (xs.take (k + u.2.1).toNat) ∧ u.2.2.drop (k + u.2.1 - 1).toNat = xs.drop (k + u.2.1 - 1).toNat) (fun u => (xs.length - u.2.1).toNat) (k, 1, xs) ?_ ?_
  · have e1 : (k + 1).toNat = k.toNat + 1 := by omega
    refine ⟨by simp [upd, m0], by simp [upd, h0], by simp [upd], by simp [upd, h3], by simp [upd], g0, by simp only; omega, by simp only; omega, by simp only; omega, rfl, ?_, ?_, ?_⟩
    · simp only [e1, hd2]; simp; omega
    · simp only [e1, hd2]
    · rfl
  rintro ⟨q, j, ys⟩ ⟨ρ, m⟩ ⟨m0, h0, h4, h3, h5, f0, f1, f2, f3, f4, f5, f6, f7⟩
  simp only at m0 h0 h4 h3 h5 f0 f1 f2 f3 f4 f5 f6 f7
  have hql : q.toNat ≤ ys.length := by omega
  by_cases hj : k + j < xs.length
  rotate_left
  · have ee : k + j = xs.length := by omega
    have e2 : (k + j).toNat = xs.length := by omega
    rw [e2, List.take_length] at f5 f6
    repeat' (first
      | refine xw_seq ?_
      | refine xw_block ?_
      | (refine ite_two ?_ ?_ <;> intro _ <;> first | (exfalso; omega) | skip)
      | refine ord_split (by kernel_rfl) ?_
      | (refine xw_ret ?_ <;> try simp only [sq, bl, LQ])
      | ((first | refine xw_reg ?_ | refine xw_regd ?_ | refine xw_if ?_ | refine xw_skip ?_ | refine xw_exit ?_ | refine xw_label ?_ | refine post_ret ?_ | refine post_normal ?_ | refine postE_ret ?_ | refine postE_normal ?_) <;> simp (config := { maxSteps := 3000000 }) (disch := first | assumption | omega | exact VG.okg (by assumption) | (simp only [List.length_set, List.length_append, List.length_cons, List.length_nil, List.length_replicate]; omega)) only [go_sem, ↓reduceIte, Int.reduceLE, Int.reduceLT, Int.reduceToNat, Int.reduceNeg, Int.reduceAdd, Int.reduceSub, Int.reduceMul, Int.reduceEq, Int.reduceNe, Nat.reduceEqDiff, Nat.reduceAdd, Nat.reduceSub, Nat.reduceMul, Nat.reduceLT, Nat.reduceLeDiff, Nat.reduceBEq, Nat.reduceBNe, Try.results182, m0, h0, h4, h3, h5])
      | (((first | refine at_region ?_ | refine at_out ?_ | refine at_cond ?_); split) <;> first | (exfalso; omega; done) | simp (config := { maxSteps := 3000000 }) (disch := first | assumption | omega | exact VG.okg (by assumption) | (simp only [List.length_set, List.length_append, List.length_cons, List.length_nil, List.length_replicate]; omega)) only [go_sem, ↓reduceIte, Int.reduceLE, Int.reduceLT, Int.reduceToNat, Int.reduceNeg, Int.reduceAdd, Int.reduceSub, Int.reduceMul, Int.reduceEq, Int.reduceNe, Nat.reduceEqDiff, Nat.reduceAdd, Nat.reduceSub, Nat.reduceMul, Nat.reduceLT, Nat.reduceLeDiff, Nat.reduceBEq, Nat.reduceBNe, Try.results182, m0, h0, h4, h3, h5] | skip))
    refine ⟨_, ?_, ?_, f5.symm, rfl⟩
    · simp only [List.length_append, List.length_take, zE_len, List.length_drop]; omega
    · rw [f5, List.append_assoc, List.take_append_of_le_length (by simp; omega), List.take_take, Nat.min_self]; exact f6
  have r1 : ys.getD (k + j).toNat (0, 0) = xs.getD (k + j).toNat (0, 0) := by
    have := congrArg (fun l : List (Int × Int) => l.getD 1 (0, 0)) f7
    simp only [List.getD, List.getElem?_drop] at this
    rw [show (k + j - 1).toNat + 1 = (k + j).toNat by omega] at this
    exact this
  have r2 : ys.getD (k + j - 1).toNat (0, 0) = xs.getD (k + j - 1).toNat (0, 0) := getD_of_drop f7
  have hnx := dd_next (l := xs) (0, 0) (i := (k + j).toNat) (by omega) (by omega)
  rw [show (k + j).toNat + 1 = (k + (j + 1)).toNat by omega, show (k + j).toNat - 1 = (k + j - 1).toNat by omega] at hnx
  have a1 : k.toNat + j.toNat = (k + j).toNat := by omega
  have a2 : k.toNat + (j - 1).toNat = (k + j - 1).toNat := by omega
  have hyc := getE ys (k + j).toNat (by omega)
  have hyd := getE ys (k + j - 1).toNat (by omega)
  rw [r1] at hyc
  rw [r2] at hyd
  by_cases hd : xs.getD (k + j).toNat (0, 0) = xs.getD (k + j - 1).toNat (0, 0)
  · rw [if_pos hd] at hnx
    rw [hd] at hyc
    repeat' (first
      | refine xw_seq ?_
      | refine xw_block ?_
      | (refine ite_two ?_ ?_ <;> intro _ <;> first | (exfalso; omega) | skip)
      | refine ord_split (by kernel_rfl) ?_
      | (refine xw_ret ?_ <;> try simp only [sq, bl, LQ])
      | ((first | refine xw_reg ?_ | refine xw_regd ?_ | refine xw_if ?_ | refine xw_skip ?_ | refine xw_exit ?_ | refine xw_label ?_ | refine post_ret ?_ | refine post_normal ?_ | refine postE_ret ?_ | refine postE_normal ?_) <;> simp (config := { maxSteps := 3000000 }) (disch := first | assumption | omega | exact VG.okg (by assumption) | (simp only [List.length_set, List.length_append, List.length_cons, List.length_nil, List.length_replicate]; omega)) only [go_sem, ↓reduceIte, Int.reduceLE, Int.reduceLT, Int.reduceToNat, Int.reduceNeg, Int.reduceAdd, Int.reduceSub, Int.reduceMul, Int.reduceEq, Int.reduceNe, Nat.reduceEqDiff, Nat.reduceAdd, Nat.reduceSub, Nat.reduceMul, Nat.reduceLT, Nat.reduceLeDiff, Nat.reduceBEq, Nat.reduceBNe, Try.results182, m0, h0, h4, h3, h5, a1, a2, hyc, hyd])
      | (((first | refine at_region ?_ | refine at_out ?_ | refine at_cond ?_); split) <;> first | (exfalso; omega; done) | simp (config := { maxSteps := 3000000 }) (disch := first | assumption | omega | exact VG.okg (by assumption) | (simp only [List.length_set, List.length_append, List.length_cons, List.length_nil, List.length_replicate]; omega)) only [go_sem, ↓reduceIte, Int.reduceLE, Int.reduceLT, Int.reduceToNat, Int.reduceNeg, Int.reduceAdd, Int.reduceSub, Int.reduceMul, Int.reduceEq, Int.reduceNe, Nat.reduceEqDiff, Nat.reduceAdd, Nat.reduceSub, Nat.reduceMul, Nat.reduceLT, Nat.reduceLeDiff, Nat.reduceBEq, Nat.reduceBNe, Try.results182, m0, h0, h4, h3, h5, a1, a2, hyc, hyd] | skip))
    refine ⟨f0, by omega, by omega, by omega, f4, by rw [hnx]; exact f5, by rw [hnx]; exact f6, ?_, by omega⟩
    rw [show k + (j + 1) - 1 = (k + j - 1) + 1 by omega]
    exact drop_succ_of (by omega) f7
  · rw [if_neg hd] at hnx
    have hne : ¬ ((xs.getD (k + j).toNat (0, 0)).1 = (xs.getD (k + j - 1).toNat (0, 0)).1 ∧ (xs.getD (k + j).toNat (0, 0)).2 = (xs.getD (k + j - 1).toNat (0, 0)).2) := fun q => hd (Prod.ext q.1 q.2)
    repeat' (first
      | refine xw_seq ?_
      | refine xw_block ?_
      | (refine ite_two ?_ ?_ <;> intro _ <;> first | (exfalso; omega) | skip)
      | refine ord_split (by kernel_rfl) ?_
      | (refine xw_ret ?_ <;> try simp only [sq, bl, LQ])
      | ((first | refine xw_reg ?_ | refine xw_regd ?_ | refine xw_if ?_ | refine xw_skip ?_ | refine xw_exit ?_ | refine xw_label ?_ | refine post_ret ?_ | refine post_normal ?_ | refine postE_ret ?_ | refine postE_normal ?_) <;> simp (config := { maxSteps := 3000000 }) (disch := first | assumption | omega | exact VG.okg (by assumption) | (simp only [List.length_set, List.length_append, List.length_cons, List.length_nil, List.length_replicate]; omega)) only [go_sem, ↓reduceIte, Int.reduceLE, Int.reduceLT, Int.reduceToNat, Int.reduceNeg, Int.reduceAdd, Int.reduceSub, Int.reduceMul, Int.reduceEq, Int.reduceNe, Nat.reduceEqDiff, Nat.reduceAdd, Nat.reduceSub, Nat.reduceMul, Nat.reduceLT, Nat.reduceLeDiff, Nat.reduceBEq, Nat.reduceBNe, Try.results182, m0, h0, h4, h3, h5, a1, a2, hyc, hyd, hne])
      | (((first | refine at_region ?_ | refine at_out ?_ | refine at_cond ?_); split) <;> first | (exfalso; omega; done) | simp (config := { maxSteps := 3000000 }) (disch := first | assumption | omega | exact VG.okg (by assumption) | (simp only [List.length_set, List.length_append, List.length_cons, List.length_nil, List.length_replicate]; omega)) only [go_sem, ↓reduceIte, Int.reduceLE, Int.reduceLT, Int.reduceToNat, Int.reduceNeg, Int.reduceAdd, Int.reduceSub, Int.reduceMul, Int.reduceEq, Int.reduceNe, Nat.reduceEqDiff, Nat.reduceAdd, Nat.reduceSub, Nat.reduceMul, Nat.reduceLT, Nat.reduceLeDiff, Nat.reduceBEq, Nat.reduceBNe, Try.results182, m0, h0, h4, h3, h5, a1, a2, hyc, hyd, hne] | skip))
    refine ⟨by omega, by omega, by omega, by omega, f4, ?_, ?_, ?_, by omega⟩
    · rw [hnx, List.length_append, f5]; simp; omega
    · rw [take_set_int (by omega) (by omega), f6, hnx]
    · rw [drop_set_int (by omega) (by omega), show k + (j + 1) - 1 = (k + j - 1) + 1 by omega]
      exact drop_succ_of (by omega) f7
end Go.Proofs.Ytagpdfbgimnljaa.X
