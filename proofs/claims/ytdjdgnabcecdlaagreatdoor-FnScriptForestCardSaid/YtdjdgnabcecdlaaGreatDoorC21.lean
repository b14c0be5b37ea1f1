/- What functions compute: cycles, forests. -/
import Derived.Test.YtdjdgnabcecdlaaGreatDoorKAG
set_option linter.unusedSimpArgs false
set_option linter.unusedVariables false
set_option maxHeartbeats 4000000
namespace Go.Proofs.YtdjdgnabcecdlaaGreatDoor.X
open Go Go.Proofs
theorem OKG.sub {n : Int} {es fs : List (Int × Int)} (h : OKG n es) (hs : fs.Sublist es) : OKG n fs := ⟨h.n0, h.n1, Nat.le_trans hs.length_le h.len, fun e he => h.ok e (hs.subset he)⟩
theorem VG.cut {n : Int} {es : List (Int × Int)} (h : VG n es) (e : Int × Int) : VG n (cutE e es) := h.sub List.filter_sublist
theorem fold_sub : ∀ (fs acc : List (Int × Int)), (fs.foldl fstep acc).Sublist (acc ++ fs)
  | [], acc => by simp
  | e :: fs, acc => by
    refine (fold_sub fs (fstep acc e)).trans ?_
    unfold fstep
    split
    · exact List.Sublist.append_left (List.sublist_cons_self _ _) _
    · simp
theorem fold_take {n : Int} {es : List (Int × Int)} (h : OKG n es) (k : Nat) : OKG n ((es.take k).foldl fstep []) :=
  h.sub ((fold_sub (es.take k) []).trans (by simpa using List.take_sublist k es))
theorem fold_next {es : List (Int × Int)} {i : Int} (h0 : 0 ≤ i) (h1 : i < es.length) : (es.take (i + 1).toNat).foldl fstep [] = fstep ((es.take i.toNat).foldl fstep []) (es.getD i.toNat (0, 0)) := by
  rw [take_int (0, 0) h0 h1, List.foldl_append]; rfl
@[go_sem] theorem c_l2Forest (n : Int) (es : List (Int × Int)) (h : OKG n es) : KP 98 [I n, LE es] [] = some (.ref 2000 0 0 (forestL es).length, [], [.arr 0 2 ((forestL es).map encE)]) := by
  have hl := h.len
  refine xw_call (fn := Tryz.f98) rfl Tryz.func98 rfl ⟨Nat.le_of_ble_eq_true rfl, rfl, rfl⟩ ?_
  repeat' (first
    | refine xw_seq ?_
    | refine xw_block ?_
    | (refine ite_two ?_ ?_ <;> intro _ <;> first | (exfalso; omega) | skip)
    | refine ord_split (by kernel_rfl) ?_
    | (refine xw_ret ?_ <;> try simp only [sq, bl, LQ])
    | ((first | refine xw_reg ?_ | refine xw_regd ?_ | refine xw_if ?_ | refine xw_skip ?_ | refine xw_exit ?_ | refine xw_label ?_ | refine post_ret ?_ | refine post_normal ?_ | refine postE_ret ?_ | refine postE_normal ?_ | (((first | refine at_region ?_ | refine at_out ?_ | refine at_cond ?_); split) <;> first | (exfalso; omega; done) | skip)) <;> try simp (config := { maxSteps := 3000000 }) (disch := first | assumption | omega | exact VG.okg (by assumption) | (simp only [List.length_set, List.length_append, List.length_cons, List.length_nil, List.length_replicate]; omega)) only [go_sem, ↓reduceIte, Int.reduceLE, Int.reduceLT, Int.reduceToNat, Int.reduceNeg, Int.reduceAdd, Int.reduceSub, Int.reduceMul, Int.reduceEq, Int.reduceNe, Nat.reduceEqDiff, Nat.reduceAdd, Nat.reduceSub, Nat.reduceMul, Nat.reduceLT, Nat.reduceLeDiff, Nat.reduceBEq, Nat.reduceBNe, UInt8.reduceToNat, Tryz.results98]))
  refine xw_loopR (fun (x : Int × Nat × List (Int × Int)) s => s.m 7 = some (.arr x.2.1 2 (x.2.2.map encE)) ∧ s.ρ 5 = .ref 7 x.2.1 0 x.2.2.length ∧ s.ρ 6 = I x.1 ∧ s.ρ 0 = I n ∧ s.ρ 1 = LE es ∧
    0 ≤ x.1 ∧ x.1 ≤ es.length ∧ (x.2.2.length : Int) ≤ x.1 ∧ x.2.2 = (es.take x.1.toNat).foldl fstep []) (fun x => (es.length - x.1).toNat) (0, 0, []) (by simp [upd]) ?_
  rintro ⟨i, w, xs⟩ ⟨ρ, m⟩ ⟨m7, h5, h6, h0, h1, g0, g1, g2, g3⟩
  simp only at m7 h5 h6 h0 h1 g0 g1 g2 g3
  have hxs : OKG n xs := by rw [g3]; exact fold_take h _
  by_cases hj : i < es.length
  · have hoe := h.ok _ (getD_mem (d := (0, 0)) (show i.toNat < es.length by omega))
    unfold okE at hoe
    have hnx := fold_next g0 hj
    rw [← g3, fstep] at hnx
    repeat' (first
      | refine xw_seq ?_
      | refine xw_block ?_
      | (refine ite_two ?_ ?_ <;> intro _ <;> first | (exfalso; omega) | skip)
      | refine ord_split (by kernel_rfl) ?_
      | (refine xw_ret ?_ <;> try simp only [sq, bl, LQ])
      | ((first | refine xw_reg ?_ | refine xw_regd ?_ | refine xw_if ?_ | refine xw_skip ?_ | refine xw_exit ?_ | refine xw_label ?_ | refine post_ret ?_ | refine post_normal ?_ | refine postE_ret ?_ | refine postE_normal ?_ | (((first | refine at_region ?_ | refine at_out ?_ | refine at_cond ?_); split) <;> first | (exfalso; omega; done) | skip)) <;> try simp (config := { maxSteps := 3000000 }) (disch := first | assumption | omega | exact VG.okg (by assumption) | (simp only [List.length_set, List.length_append, List.length_cons, List.length_nil, List.length_replicate]; omega)) only [go_sem, ↓reduceIte, Int.reduceLE, Int.reduceLT, Int.reduceToNat, Int.reduceNeg, Int.reduceAdd, Int.reduceSub, Int.reduceMul, Int.reduceEq, Int.reduceNe, Nat.reduceEqDiff, Nat.reduceAdd, Nat.reduceSub, Nat.reduceMul, Nat.reduceLT, Nat.reduceLeDiff, Nat.reduceBEq, Nat.reduceBNe, UInt8.reduceToNat, Tryz.results98, m7, h5, h6, h0, h1]))
    all_goals
      refine ⟨by omega, by omega, by omega, ?_, by omega⟩
      rw [hnx]
      first | rw [if_pos (by assumption)] | rw [if_neg (by assumption)]
  · repeat' (first
      | refine xw_seq ?_
      | refine xw_block ?_
      | (refine ite_two ?_ ?_ <;> intro _ <;> first | (exfalso; omega) | skip)
      | refine ord_split (by kernel_rfl) ?_
      | (refine xw_ret ?_ <;> try simp only [sq, bl, LQ])
      | ((first | refine xw_reg ?_ | refine xw_regd ?_ | refine xw_if ?_ | refine xw_skip ?_ | refine xw_exit ?_ | refine xw_label ?_ | refine post_ret ?_ | refine post_normal ?_ | refine postE_ret ?_ | refine postE_normal ?_ | (((first | refine at_region ?_ | refine at_out ?_ | refine at_cond ?_); split) <;> first | (exfalso; omega; done) | skip)) <;> try simp (config := { maxSteps := 3000000 }) (disch := first | assumption | omega | exact VG.okg (by assumption) | (simp only [List.length_set, List.length_append, List.length_cons, List.length_nil, List.length_replicate]; omega)) only [go_sem, ↓reduceIte, Int.reduceLE, Int.reduceLT, Int.reduceToNat, Int.reduceNeg, Int.reduceAdd, Int.reduceSub, Int.reduceMul, Int.reduceEq, Int.reduceNe, Nat.reduceEqDiff, Nat.reduceAdd, Nat.reduceSub, Nat.reduceMul, Nat.reduceLT, Nat.reduceLeDiff, Nat.reduceBEq, Nat.reduceBNe, UInt8.reduceToNat, Tryz.results98, m7, h5, h6, h0, h1]))
    rw [take_all (by omega)] at g3
    rw [g3]
    exact ⟨rfl, rfl⟩
theorem c_sForestOf (n : Int) (es : List (Int × Int)) (hl : es.length ≤ 1048576) : KP 35 [GL n es] [] = some (if VG n es then (LE (forestL es), [], []) else (.ref 2000 0 0 0, [], [.arr 0 2 []])) := by
  by_cases h : VG n es
  · have hb := h.okg
    refine xw_call (fn := Tryz.f35) rfl Tryz.func35 rfl ⟨Nat.le_of_ble_eq_true rfl, rfl, rfl⟩ ?_
    repeat' (first
      | refine xw_seq ?_
      | refine xw_block ?_
      | (refine ite_two ?_ ?_ <;> intro _ <;> first | (exfalso; omega) | skip)
      | refine ord_split (by kernel_rfl) ?_
      | (refine xw_ret ?_ <;> try simp only [sq, bl, LQ])
      | ((first | refine xw_reg ?_ | refine xw_regd ?_ | refine xw_if ?_ | refine xw_skip ?_ | refine xw_exit ?_ | refine xw_label ?_ | refine post_ret ?_ | refine post_normal ?_ | refine postE_ret ?_ | refine postE_normal ?_ | (((first | refine at_region ?_ | refine at_out ?_ | refine at_cond ?_); split) <;> first | (exfalso; omega; done) | skip)) <;> try simp (config := { maxSteps := 3000000 }) (disch := first | assumption | omega | exact VG.okg (by assumption) | (simp only [List.length_set, List.length_append, List.length_cons, List.length_nil, List.length_replicate]; omega)) only [go_sem, ↓reduceIte, Int.reduceLE, Int.reduceLT, Int.reduceToNat, Int.reduceNeg, Int.reduceAdd, Int.reduceSub, Int.reduceMul, Int.reduceEq, Int.reduceNe, Nat.reduceEqDiff, Nat.reduceAdd, Nat.reduceSub, Nat.reduceMul, Nat.reduceLT, Nat.reduceLeDiff, Nat.reduceBEq, Nat.reduceBNe, UInt8.reduceToNat, Tryz.results35]))
  · refine xw_call (fn := Tryz.f35) rfl Tryz.func35 rfl ⟨Nat.le_of_ble_eq_true rfl, rfl, rfl⟩ ?_
    repeat' (first
      | refine xw_seq ?_
      | refine xw_block ?_
      | (refine ite_two ?_ ?_ <;> intro _ <;> first | (exfalso; omega) | skip)
      | refine ord_split (by kernel_rfl) ?_
      | (refine xw_ret ?_ <;> try simp only [sq, bl, LQ])
      | ((first | refine xw_reg ?_ | refine xw_regd ?_ | refine xw_if ?_ | refine xw_skip ?_ | refine xw_exit ?_ | refine xw_label ?_ | refine post_ret ?_ | refine post_normal ?_ | refine postE_ret ?_ | refine postE_normal ?_ | (((first | refine at_region ?_ | refine at_out ?_ | refine at_cond ?_); split) <;> first | (exfalso; omega; done) | skip)) <;> try simp (config := { maxSteps := 3000000 }) (disch := first | assumption | omega | exact VG.okg (by assumption) | (simp only [List.length_set, List.length_append, List.length_cons, List.length_nil, List.length_replicate]; omega)) only [go_sem, ↓reduceIte, Int.reduceLE, Int.reduceLT, Int.reduceToNat, Int.reduceNeg, Int.reduceAdd, Int.reduceSub, Int.reduceMul, Int.reduceEq, Int.reduceNe, Nat.reduceEqDiff, Nat.reduceAdd, Nat.reduceSub, Nat.reduceMul, Nat.reduceLT, Nat.reduceLeDiff, Nat.reduceBEq, Nat.reduceBNe, UInt8.reduceToNat, Tryz.results35]))
/-- A row of edges as it is while a function builds it: nothing, or an array. -/
def fP (d v : Nat) (xs : List (Int × Int)) : PV := if xs = [] then .i .emp else .ref d v 0 xs.length
/-- What a function hands back that builds a row of edges. -/
def qP (xs : List (Int × Int)) : PV := if xs = [] then .i .emp else .ref 2000 0 0 xs.length
def qA (xs : List (Int × Int)) : List Arr := if xs = [] then [] else [.arr 0 2 (xs.map encE)]
@[go_sem] theorem imm_q {xs : List (Int × Int)} {n : Nat} : imm (n + 1) (qA xs) (qP xs) = some (.i (qe xs)) := by
  unfold qA qP qe
  split
  · rfl
  · simp only [imm, imm1]
    simp [List.take_of_length_le]
@[go_sem] theorem c_forest (n : Int) (es : List (Int × Int)) (h : OKG n es) : KP 92 [GL n es] [] = some (qP (forestL es), [], qA (forestL es)) := by
  have hl := h.len
  refine xw_call (fn := Tryz.f92) rfl Tryz.func92 rfl ⟨Nat.le_of_ble_eq_true rfl, rfl, rfl⟩ ?_
  repeat' (first
    | refine xw_seq ?_
    | refine xw_block ?_
    | (refine ite_two ?_ ?_ <;> intro _ <;> first | (exfalso; omega) | skip)
    | refine ord_split (by kernel_rfl) ?_
    | (refine xw_ret ?_ <;> try simp only [sq, bl, LQ])
    | ((first | refine xw_reg ?_ | refine xw_regd ?_ | refine xw_if ?_ | refine xw_skip ?_ | refine xw_exit ?_ | refine xw_label ?_ | refine post_ret ?_ | refine post_normal ?_ | refine postE_ret ?_ | refine postE_normal ?_ | (((first | refine at_region ?_ | refine at_out ?_ | refine at_cond ?_); split) <;> first | (exfalso; omega; done) | skip)) <;> try simp (config := { maxSteps := 3000000 }) (disch := first | assumption | omega | exact VG.okg (by assumption) | (simp only [List.length_set, List.length_append, List.length_cons, List.length_nil, List.length_replicate]; omega)) only [go_sem, ↓reduceIte, Int.reduceLE, Int.reduceLT, Int.reduceToNat, Int.reduceNeg, Int.reduceAdd, Int.reduceSub, Int.reduceMul, Int.reduceEq, Int.reduceNe, Nat.reduceEqDiff, Nat.reduceAdd, Nat.reduceSub, Nat.reduceMul, Nat.reduceLT, Nat.reduceLeDiff, Nat.reduceBEq, Nat.reduceBNe, UInt8.reduceToNat, Tryz.results92]))
  refine xw_loopR (fun (x : Int × Nat × List (Int × Int)) s => s.m 3 = some (.box 0 [I n, fP 27 x.2.1 x.2.2]) ∧ s.ρ 3 = .ptr 3 0 0 0 ∧ (x.2.2 ≠ [] → s.m 27 = some (.arr x.2.1 2 (x.2.2.map encE))) ∧ s.ρ 12 = I x.1 ∧ s.ρ 10 = LE es ∧ s.ρ 11 = I es.length ∧
    0 ≤ x.1 ∧ x.1 ≤ es.length ∧ (x.2.2.length : Int) ≤ x.1 ∧ x.2.2 = (es.take x.1.toNat).foldl fstep []) (fun x => (es.length - x.1).toNat) (0, 0, []) (by simp [upd, fP]) ?_
  rintro ⟨i, w, xs⟩ ⟨ρ, m⟩ ⟨m3, h3, m27, h12, h10, h11, g0, g1, g2, g3⟩
  simp only at m3 h3 m27 h12 h10 h11 g0 g1 g2 g3
  have hxs : OKG n xs := by rw [g3]; exact fold_take h _
  by_cases hj : i < es.length
  · have hoe := h.ok _ (getD_mem (d := (0, 0)) (show i.toNat < es.length by omega))
    unfold okE at hoe
    have hnx := fold_next g0 hj
    rw [← g3, fstep] at hnx
    by_cases hx : xs = []
    · subst hx
      have m3' : m 3 = some (.box 0 [I n, .i .emp]) := m3
      have hkeep : (es.getD i.toNat (0, 0)).1 ≠ (es.getD i.toNat (0, 0)).2 := by omega
      have hno : ¬ Conn [] (es.getD i.toNat (0, 0)).1 (es.getD i.toNat (0, 0)).2 := fun hc => hkeep hc.nil
      rw [if_neg hno] at hnx
      have hcc := c_connected n (es.getD i.toNat (0, 0)).1 (es.getD i.toNat (0, 0)).2 [] hxs (by omega) (by omega)
      rw [decide_eq_false hno] at hcc
      have hcc' : KP 105 [.agg [I n, .i (.lst [])], I (es.getD i.toNat (0, 0)).1, I (es.getD i.toNat (0, 0)).2] [] = some (B false, [], []) := hcc
      repeat' (first
        | refine xw_seq ?_
        | refine xw_block ?_
        | (refine ite_two ?_ ?_ <;> intro _ <;> first | (exfalso; omega) | skip)
        | refine ord_split (by kernel_rfl) ?_
        | (refine xw_ret ?_ <;> try simp only [sq, bl, LQ])
        | ((first | refine xw_reg ?_ | refine xw_regd ?_ | refine xw_if ?_ | refine xw_skip ?_ | refine xw_exit ?_ | refine xw_label ?_ | refine post_ret ?_ | refine post_normal ?_ | refine postE_ret ?_ | refine postE_normal ?_ | (((first | refine at_region ?_ | refine at_out ?_ | refine at_cond ?_); split) <;> first | (exfalso; omega; done) | skip)) <;> try simp (config := { maxSteps := 3000000 }) (disch := first | assumption | omega | exact VG.okg (by assumption) | (simp only [List.length_set, List.length_append, List.length_cons, List.length_nil, List.length_replicate]; omega)) only [go_sem, ↓reduceIte, Int.reduceLE, Int.reduceLT, Int.reduceToNat, Int.reduceNeg, Int.reduceAdd, Int.reduceSub, Int.reduceMul, Int.reduceEq, Int.reduceNe, Nat.reduceEqDiff, Nat.reduceAdd, Nat.reduceSub, Nat.reduceMul, Nat.reduceLT, Nat.reduceLeDiff, Nat.reduceBEq, Nat.reduceBNe, UInt8.reduceToNat, Tryz.results92, m3', h3, h12, h10, h11, hcc']))
      exact ⟨i + 1, nv (m 27), [es.getD i.toNat (0, 0)], by simp [fP], fun _ => ⟨rfl, by simp [encE]⟩, rfl, by omega, by omega, by simp; omega, by rw [hnx]; rfl, by omega⟩
    · have m27' := m27 hx
      have m3' : m 3 = some (.box 0 [I n, .ref 27 w 0 xs.length]) := by rw [m3, fP, if_neg hx]
      repeat' (first
        | refine xw_seq ?_
        | refine xw_block ?_
        | (refine ite_two ?_ ?_ <;> intro _ <;> first | (exfalso; omega) | skip)
        | refine ord_split (by kernel_rfl) ?_
        | (refine xw_ret ?_ <;> try simp only [sq, bl, LQ])
        | ((first | refine xw_reg ?_ | refine xw_regd ?_ | refine xw_if ?_ | refine xw_skip ?_ | refine xw_exit ?_ | refine xw_label ?_ | refine post_ret ?_ | refine post_normal ?_ | refine postE_ret ?_ | refine postE_normal ?_ | (((first | refine at_region ?_ | refine at_out ?_ | refine at_cond ?_); split) <;> first | (exfalso; omega; done) | skip)) <;> try simp (config := { maxSteps := 3000000 }) (disch := first | assumption | omega | exact VG.okg (by assumption) | (simp only [List.length_set, List.length_append, List.length_cons, List.length_nil, List.length_replicate]; omega)) only [go_sem, ↓reduceIte, Int.reduceLE, Int.reduceLT, Int.reduceToNat, Int.reduceNeg, Int.reduceAdd, Int.reduceSub, Int.reduceMul, Int.reduceEq, Int.reduceNe, Nat.reduceEqDiff, Nat.reduceAdd, Nat.reduceSub, Nat.reduceMul, Nat.reduceLT, Nat.reduceLeDiff, Nat.reduceBEq, Nat.reduceBNe, UInt8.reduceToNat, Tryz.results92, m3', m27', h3, h12, h10, h11]))
      · exact ⟨i + 1, w, xs, by rw [fP, if_neg hx], fun _ => ⟨rfl, rfl⟩, rfl, by omega, by omega, by omega, by rw [hnx, if_pos (by assumption)], by omega⟩
      · exact ⟨i + 1, w + 1, xs ++ [es.getD i.toNat (0, 0)], by rw [fP, if_neg (by simp)]; simp, fun _ => ⟨rfl, rfl⟩, rfl, by omega, by omega, by simp; omega, by rw [hnx, if_neg (by assumption)], by omega⟩
  · have hxe : xs = forestL es := by rw [take_all (by omega)] at g3; exact g3
    by_cases hx : xs = []
    · have m3' : m 3 = some (.box 0 [I n, .i .emp]) := by rw [m3, fP, if_pos hx]
      unfold qP qA
      rw [← hxe, if_pos hx, if_pos hx]
      repeat' (first
        | refine xw_seq ?_
        | refine xw_block ?_
        | (refine ite_two ?_ ?_ <;> intro _ <;> first | (exfalso; omega) | skip)
        | refine ord_split (by kernel_rfl) ?_
        | (refine xw_ret ?_ <;> try simp only [sq, bl, LQ])
        | ((first | refine xw_reg ?_ | refine xw_regd ?_ | refine xw_if ?_ | refine xw_skip ?_ | refine xw_exit ?_ | refine xw_label ?_ | refine post_ret ?_ | refine post_normal ?_ | refine postE_ret ?_ | refine postE_normal ?_ | (((first | refine at_region ?_ | refine at_out ?_ | refine at_cond ?_); split) <;> first | (exfalso; omega; done) | skip)) <;> try simp (config := { maxSteps := 3000000 }) (disch := first | assumption | omega | exact VG.okg (by assumption) | (simp only [List.length_set, List.length_append, List.length_cons, List.length_nil, List.length_replicate]; omega)) only [go_sem, ↓reduceIte, Int.reduceLE, Int.reduceLT, Int.reduceToNat, Int.reduceNeg, Int.reduceAdd, Int.reduceSub, Int.reduceMul, Int.reduceEq, Int.reduceNe, Nat.reduceEqDiff, Nat.reduceAdd, Nat.reduceSub, Nat.reduceMul, Nat.reduceLT, Nat.reduceLeDiff, Nat.reduceBEq, Nat.reduceBNe, UInt8.reduceToNat, Tryz.results92, m3', h3, h12, h10, h11]))
    · have m27' := m27 hx
      have m3' : m 3 = some (.box 0 [I n, .ref 27 w 0 xs.length]) := by rw [m3, fP, if_neg hx]
      unfold qP qA
      rw [← hxe, if_neg hx, if_neg hx]
      repeat' (first
        | refine xw_seq ?_
        | refine xw_block ?_
        | (refine ite_two ?_ ?_ <;> intro _ <;> first | (exfalso; omega) | skip)
        | refine ord_split (by kernel_rfl) ?_
        | (refine xw_ret ?_ <;> try simp only [sq, bl, LQ])
        | ((first | refine xw_reg ?_ | refine xw_regd ?_ | refine xw_if ?_ | refine xw_skip ?_ | refine xw_exit ?_ | refine xw_label ?_ | refine post_ret ?_ | refine post_normal ?_ | refine postE_ret ?_ | refine postE_normal ?_ | (((first | refine at_region ?_ | refine at_out ?_ | refine at_cond ?_); split) <;> first | (exfalso; omega; done) | skip)) <;> try simp (config := { maxSteps := 3000000 }) (disch := first | assumption | omega | exact VG.okg (by assumption) | (simp only [List.length_set, List.length_append, List.length_cons, List.length_nil, List.length_replicate]; omega)) only [go_sem, ↓reduceIte, Int.reduceLE, Int.reduceLT, Int.reduceToNat, Int.reduceNeg, Int.reduceAdd, Int.reduceSub, Int.reduceMul, Int.reduceEq, Int.reduceNe, Nat.reduceEqDiff, Nat.reduceAdd, Nat.reduceSub, Nat.reduceMul, Nat.reduceLT, Nat.reduceLeDiff, Nat.reduceBEq, Nat.reduceBNe, UInt8.reduceToNat, Tryz.results92, m3', m27', h3, h12, h10, h11]))
theorem c_ForestOf (n : Int) (es : List (Int × Int)) (hl : es.length ≤ 1048576) : KP 31 [GL n es] [] = some (if VG n es then .i (qe (forestL es)) else .i .emp, [], []) := by
  by_cases h : VG n es
  · have hb := h.okg
    refine xw_call (fn := Tryz.f31) rfl Tryz.func31 rfl ⟨Nat.le_of_ble_eq_true rfl, rfl, rfl⟩ ?_
    repeat' (first
      | refine xw_seq ?_
      | refine xw_block ?_
      | (refine ite_two ?_ ?_ <;> intro _ <;> first | (exfalso; omega) | skip)
      | refine ord_split (by kernel_rfl) ?_
      | (refine xw_ret ?_ <;> try simp only [sq, bl, LQ])
      | ((first | refine xw_reg ?_ | refine xw_regd ?_ | refine xw_if ?_ | refine xw_skip ?_ | refine xw_exit ?_ | refine xw_label ?_ | refine post_ret ?_ | refine post_normal ?_ | refine postE_ret ?_ | refine postE_normal ?_ | (((first | refine at_region ?_ | refine at_out ?_ | refine at_cond ?_); split) <;> first | (exfalso; omega; done) | skip)) <;> try simp (config := { maxSteps := 3000000 }) (disch := first | assumption | omega | exact VG.okg (by assumption) | (simp only [List.length_set, List.length_append, List.length_cons, List.length_nil, List.length_replicate]; omega)) only [go_sem, ↓reduceIte, Int.reduceLE, Int.reduceLT, Int.reduceToNat, Int.reduceNeg, Int.reduceAdd, Int.reduceSub, Int.reduceMul, Int.reduceEq, Int.reduceNe, Nat.reduceEqDiff, Nat.reduceAdd, Nat.reduceSub, Nat.reduceMul, Nat.reduceLT, Nat.reduceLeDiff, Nat.reduceBEq, Nat.reduceBNe, UInt8.reduceToNat, Tryz.results31]))
  · refine xw_call (fn := Tryz.f31) rfl Tryz.func31 rfl ⟨Nat.le_of_ble_eq_true rfl, rfl, rfl⟩ ?_
    repeat' (first
      | refine xw_seq ?_
      | refine xw_block ?_
      | (refine ite_two ?_ ?_ <;> intro _ <;> first | (exfalso; omega) | skip)
      | refine ord_split (by kernel_rfl) ?_
      | (refine xw_ret ?_ <;> try simp only [sq, bl, LQ])
      | ((first | refine xw_reg ?_ | refine xw_regd ?_ | refine xw_if ?_ | refine xw_skip ?_ | refine xw_exit ?_ | refine xw_label ?_ | refine post_ret ?_ | refine post_normal ?_ | refine postE_ret ?_ | refine postE_normal ?_ | (((first | refine at_region ?_ | refine at_out ?_ | refine at_cond ?_); split) <;> first | (exfalso; omega; done) | skip)) <;> try simp (config := { maxSteps := 3000000 }) (disch := first | assumption | omega | exact VG.okg (by assumption) | (simp only [List.length_set, List.length_append, List.length_cons, List.length_nil, List.length_replicate]; omega)) only [go_sem, ↓reduceIte, Int.reduceLE, Int.reduceLT, Int.reduceToNat, Int.reduceNeg, Int.reduceAdd, Int.reduceSub, Int.reduceMul, Int.reduceEq, Int.reduceNe, Nat.reduceEqDiff, Nat.reduceAdd, Nat.reduceSub, Nat.reduceMul, Nat.reduceLT, Nat.reduceLeDiff, Nat.reduceBEq, Nat.reduceBNe, UInt8.reduceToNat, Tryz.results31]))
end Go.Proofs.YtdjdgnabcecdlaaGreatDoor.X
