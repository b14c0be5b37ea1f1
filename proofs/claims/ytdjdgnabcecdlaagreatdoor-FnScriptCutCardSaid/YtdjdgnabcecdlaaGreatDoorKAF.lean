/- What functions answer, and the plain laws behind it. -/
import Derived.Test.YtdjdgnabcecdlaaGreatDoorKAE
/- What functions compute: bridges, safe parts, nodes and edges by a property. -/
set_option linter.unusedSimpArgs false
set_option linter.unusedVariables false
set_option maxHeartbeats 2000000
namespace Go.Proofs.YtdjdgnabcecdlaaGreatDoor.X
open Go Go.Proofs
theorem OKG.cutE {n : Int} {es : List (Int × Int)} (h : OKG n es) (e : Int × Int) : OKG n (X.cutE e es) := ⟨h.n0, h.n1, Nat.le_trans (cutE_len e es) h.len, fun f hf => h.ok f (cutE_mem.1 hf).1⟩
theorem OKG.bare {n : Int} {es : List (Int × Int)} (h : OKG n es) : OKG n (X.bare es) := ⟨h.n0, h.n1, Nat.le_trans (List.length_filter_le _ _) h.len, fun f hf => h.ok f (mem_bare.1 hf).1⟩
theorem brg_dec {es : List (Int × Int)} {a b : Int} : (!decide (Conn (cutE (a, b) es) a b)) = decide (Brg es (a, b)) := by
  by_cases h : Conn (cutE (a, b) es) a b
  · have : ¬ Brg es (a, b) := fun k => k h
    rw [decide_eq_true h, decide_eq_false this]; rfl
  · rw [decide_eq_false h, decide_eq_true (show Brg es (a, b) from h)]; rfl
/-- What deleting what does not fulfil something hands back. -/
def delF (p : Int × Int → Bool) (es : List (Int × Int)) : IV := if es = [] then .emp else .lst ((es.filter p).map encE)
theorem delE_not {p : Int × Int → Bool} {es : List (Int × Int)} : delE (fun e => !p e) es = delF p es := by
  unfold delE delF; simp only [Bool.not_not]
theorem frz_delF {p : Int × Int → Bool} {es : List (Int × Int)} {n : Nat} : frz n (.i (delF p es)) = .ret (.lst ((es.filter p).map encE)) := by
  rw [← delE_not, frz_del]; simp only [Bool.not_not]
theorem flat_delF {p : Int × Int → Bool} {es : List (Int × Int)} : (delF p es).flat = true := by rw [← delE_not]; exact flat_del
theorem lenP_delF {p : Int × Int → Bool} {es : List (Int × Int)} : lenP (.i (delF p es)) = some (es.filter p).length := by
  rw [← delE_not, lenP_del]; simp only [Bool.not_not]
theorem iaR_delF {p : Int × Int → Bool} {es : List (Int × Int)} {el : TypeId} {n : Int} (h0 : 0 ≤ n) (h : n < (es.filter p).length) :
    iaR Tryz.prog (some (.slice el)) (some n) (.i (delF p es)) = iaR Tryz.prog (some (.slice el)) (some n) (.i (.lst ((es.filter p).map encE))) := by
  have := iaR_del (p := fun e => !p e) (es := es) (el := el) (n := n) h0 (by simpa only [Bool.not_not] using h)
  rw [delE_not] at this
  simpa only [Bool.not_not] using this
attribute [go_sem] frz_delF flat_delF lenP_delF iaR_delF
@[go_sem] theorem c_isBridge (n a b : Int) (es : List (Int × Int)) (h : OKG n es) (he : okE n (a, b)) : KP 93 [GL n es, PE a b] [] = some (B (decide (Brg es (a, b))), [], []) := by
  have hl := h.len
  have hok := h.cutE (a, b)
  unfold okE at he; simp only at he
  refine xw_call (fn := Tryz.f93) rfl Tryz.func93 rfl ⟨Nat.le_of_ble_eq_true rfl, rfl, rfl⟩ ?_
  repeat' (first
    | refine xw_seq ?_
    | refine xw_block ?_
    | (refine ite_two ?_ ?_ <;> intro _ <;> first | (exfalso; omega) | skip)
    | refine ord_split (by kernel_rfl) ?_
    | (refine xw_ret ?_ <;> try simp only [sq, bl, LQ])
    | ((first | refine xw_reg ?_ | refine xw_regd ?_ | refine xw_if ?_ | refine xw_skip ?_ | refine xw_exit ?_ | refine xw_label ?_ | refine post_ret ?_ | refine post_normal ?_ | refine postE_ret ?_ | refine postE_normal ?_ | (((first | refine at_region ?_ | refine at_out ?_ | refine at_cond ?_); split) <;> first | (exfalso; omega; done) | skip)) <;> try simp (config := { maxSteps := 3000000 }) (disch := first | assumption | omega | exact VG.okg (by assumption) | (simp only [List.length_set, List.length_append, List.length_cons, List.length_nil, List.length_replicate]; omega)) only [go_sem, ↓reduceIte, Int.reduceLE, Int.reduceLT, Int.reduceToNat, Int.reduceNeg, Int.reduceAdd, Int.reduceSub, Int.reduceMul, Int.reduceEq, Int.reduceNe, Nat.reduceEqDiff, Nat.reduceAdd, Nat.reduceSub, Nat.reduceMul, Nat.reduceLT, Nat.reduceLeDiff, Nat.reduceBEq, Nat.reduceBNe, UInt8.reduceToNat, Tryz.results93, cut_del]))
  all_goals exact brg_dec
@[go_sem] theorem c_IsBridge (n a b : Int) (es : List (Int × Int)) (hl : es.length ≤ 1048576) : KP 32 [GL n es, PE a b] [] = some (B (decide (VG n es ∧ (a, b) ∈ es ∧ Brg es (a, b))), [], []) := by
  by_cases h : VG n es ∧ (a, b) ∈ es
  · have hog := h.1.okg
    have hoe := hog.ok _ h.2
    refine xw_call (fn := Tryz.f32) rfl Tryz.func32 rfl ⟨Nat.le_of_ble_eq_true rfl, rfl, rfl⟩ ?_
    repeat' (first
      | refine xw_seq ?_
      | refine xw_block ?_
      | (refine ite_two ?_ ?_ <;> intro _ <;> first | (exfalso; omega) | skip)
      | refine ord_split (by kernel_rfl) ?_
      | (refine xw_ret ?_ <;> try simp only [sq, bl, LQ])
      | ((first | refine xw_reg ?_ | refine xw_regd ?_ | refine xw_if ?_ | refine xw_skip ?_ | refine xw_exit ?_ | refine xw_label ?_ | refine post_ret ?_ | refine post_normal ?_ | refine postE_ret ?_ | refine postE_normal ?_ | (((first | refine at_region ?_ | refine at_out ?_ | refine at_cond ?_); split) <;> first | (exfalso; omega; done) | skip)) <;> try simp (config := { maxSteps := 3000000 }) (disch := first | assumption | omega | exact VG.okg (by assumption) | (simp only [List.length_set, List.length_append, List.length_cons, List.length_nil, List.length_replicate]; omega)) only [go_sem, ↓reduceIte, Int.reduceLE, Int.reduceLT, Int.reduceToNat, Int.reduceNeg, Int.reduceAdd, Int.reduceSub, Int.reduceMul, Int.reduceEq, Int.reduceNe, Nat.reduceEqDiff, Nat.reduceAdd, Nat.reduceSub, Nat.reduceMul, Nat.reduceLT, Nat.reduceLeDiff, Nat.reduceBEq, Nat.reduceBNe, UInt8.reduceToNat, Tryz.results32]))
    all_goals grind
  · refine xw_call (fn := Tryz.f32) rfl Tryz.func32 rfl ⟨Nat.le_of_ble_eq_true rfl, rfl, rfl⟩ ?_
    repeat' (first
      | refine xw_seq ?_
      | refine xw_block ?_
      | (refine ite_two ?_ ?_ <;> intro _ <;> first | (exfalso; omega) | skip)
      | refine ord_split (by kernel_rfl) ?_
      | (refine xw_ret ?_ <;> try simp only [sq, bl, LQ])
      | ((first | refine xw_reg ?_ | refine xw_regd ?_ | refine xw_if ?_ | refine xw_skip ?_ | refine xw_exit ?_ | refine xw_label ?_ | refine post_ret ?_ | refine post_normal ?_ | refine postE_ret ?_ | refine postE_normal ?_ | (((first | refine at_region ?_ | refine at_out ?_ | refine at_cond ?_); split) <;> first | (exfalso; omega; done) | skip)) <;> try simp (config := { maxSteps := 3000000 }) (disch := first | assumption | omega | exact VG.okg (by assumption) | (simp only [List.length_set, List.length_append, List.length_cons, List.length_nil, List.length_replicate]; omega)) only [go_sem, ↓reduceIte, Int.reduceLE, Int.reduceLT, Int.reduceToNat, Int.reduceNeg, Int.reduceAdd, Int.reduceSub, Int.reduceMul, Int.reduceEq, Int.reduceNe, Nat.reduceEqDiff, Nat.reduceAdd, Nat.reduceSub, Nat.reduceMul, Nat.reduceLT, Nat.reduceLeDiff, Nat.reduceBEq, Nat.reduceBNe, UInt8.reduceToNat, Tryz.results32]))
    all_goals grind
/-- A list of edges, in whatever form, that can be looked at. -/
structure EQ (x : IV) (es : List (Int × Int)) : Prop extends EL x es where
  len : lenP (.i x) = some es.length
  ia : ∀ (el : TypeId) (i : Int), 0 ≤ i → i < es.length → iaR Tryz.prog (some (.slice el)) (some i) (.i x) = iaR Tryz.prog (some (.slice el)) (some i) (.i (.lst (es.map encE)))
theorem EQ.lst (es : List (Int × Int)) : EQ (.lst (es.map encE)) es := ⟨EL.lst es, by simp [lenP], fun _ _ _ _ => rfl⟩
theorem EQ.qe (es : List (Int × Int)) : EQ (qe es) es := ⟨EL.qe es, lenP_qe, fun el i h0 h1 => by
  cases es with
  | nil => simp at h1; omega
  | cons e r => rfl⟩
end Go.Proofs.YtdjdgnabcecdlaaGreatDoor.X

/- Bridges and cut nodes on paths; cycles: plain law. -/
set_option linter.unusedVariables false
namespace Go.Proofs.YtdjdgnabcecdlaaGreatDoor.X
open Go
theorem lab_congr {n : Int} {es fs : List (Int × Int)} (h : ∀ x y : Int, Conn es x y ↔ Conn fs x y) : lab n es = lab n fs := by
  unfold lab
  refine List.map_congr_left fun x _ => ?_
  have : least es x = least fs x := by
    obtain ⟨a1, a2, a3⟩ := least_spec es x
    obtain ⟨b1, b2, b3⟩ := least_spec fs x
    refine Nat.le_antisymm (Nat.le_of_not_lt fun hl => a3 _ hl ((h _ _).2 b2)) (Nat.le_of_not_lt fun hl => b3 _ hl ((h _ _).1 a2))
  rw [this]
end Go.Proofs.YtdjdgnabcecdlaaGreatDoor.X

/- What functions compute: cycles, forests. -/
set_option linter.unusedSimpArgs false
set_option linter.unusedVariables false
set_option maxHeartbeats 4000000
namespace Go.Proofs.YtdjdgnabcecdlaaGreatDoor.X
open Go Go.Proofs
theorem OKG.sub {n : Int} {es fs : List (Int × Int)} (h : OKG n es) (hs : fs.Sublist es) : OKG n fs := ⟨h.n0, h.n1, Nat.le_trans hs.length_le h.len, fun e he => h.ok e (hs.subset he)⟩
theorem VG.cut {n : Int} {es : List (Int × Int)} (h : VG n es) (e : Int × Int) : VG n (cutE e es) := h.sub List.filter_sublist
theorem fold_sub : ∀ (fs acc : List (Int × Int)), (fs.foldl fstep acc).Sublist (acc ++ fs)
  | [], acc => by simp
  | e :: fs, acc => by
    refine (fold_sub fs (fstep acc e)).trans ?_
    unfold fstep
    split
    · exact List.Sublist.append_left (List.sublist_cons_self _ _) _
    · simp
theorem fold_take {n : Int} {es : List (Int × Int)} (h : OKG n es) (k : Nat) : OKG n ((es.take k).foldl fstep []) :=
  h.sub ((fold_sub (es.take k) []).trans (by simpa using List.take_sublist k es))
theorem fold_next {es : List (Int × Int)} {i : Int} (h0 : 0 ≤ i) (h1 : i < es.length) : (es.take (i + 1).toNat).foldl fstep [] = fstep ((es.take i.toNat).foldl fstep []) (es.getD i.toNat (0, 0)) := by
  rw [take_int (0, 0) h0 h1, List.foldl_append]; rfl
/-- A row of edges as it is while a function builds it: nothing, or an array. -/
def fP (d v : Nat) (xs : List (Int × Int)) : PV := if xs = [] then .i .emp else .ref d v 0 xs.length
/-- What a function hands back that builds a row of edges. -/
def qP (xs : List (Int × Int)) : PV := if xs = [] then .i .emp else .ref 2000 0 0 xs.length
def qA (xs : List (Int × Int)) : List Arr := if xs = [] then [] else [.arr 0 2 (xs.map encE)]
@[go_sem] theorem imm_q {xs : List (Int × Int)} {n : Nat} : imm (n + 1) (qA xs) (qP xs) = some (.i (qe xs)) := by
  unfold qA qP qe
  split
  · rfl
  · simp only [imm, imm1]
    simp [List.take_of_length_le]
@[go_sem] theorem c_forest (n : Int) (es : List (Int × Int)) (h : OKG n es) : KP 92 [GL n es] [] = some (qP (forestL es), [], qA (forestL es)) := by
  have hl := h.len
  refine xw_call (fn := Tryz.f92) rfl Tryz.func92 rfl ⟨Nat.le_of_ble_eq_true rfl, rfl, rfl⟩ ?_
  repeat' (first
    | refine xw_seq ?_
    | refine xw_block ?_
    | (refine ite_two ?_ ?_ <;> intro _ <;> first | (exfalso; omega) | skip)
    | refine ord_split (by kernel_rfl) ?_
    | (refine xw_ret ?_ <;> try simp only [sq, bl, LQ])
    | ((first | refine xw_reg ?_ | refine xw_regd ?_ | refine xw_if ?_ | refine xw_skip ?_ | refine xw_exit ?_ | refine xw_label ?_ | refine post_ret ?_ | refine post_normal ?_ | refine postE_ret ?_ | refine postE_normal ?_ | (((first | refine at_region ?_ | refine at_out ?_ | refine at_cond ?_); split) <;> first | (exfalso; omega; done) | skip)) <;> try simp (config := { maxSteps := 3000000 }) (disch := first | assumption | omega | exact VG.okg (by assumption) | (simp only [List.length_set, List.length_append, List.length_cons, List.length_nil, List.length_replicate]; omega)) only [go_sem, ↓reduceIte, Int.reduceLE, Int.reduceLT, Int.reduceToNat, Int.reduceNeg, Int.reduceAdd, Int.reduceSub, Int.reduceMul, Int.reduceEq, Int.reduceNe, Nat.reduceEqDiff, Nat.reduceAdd, Nat.reduceSub, Nat.reduceMul, Nat.reduceLT, Nat.reduceLeDiff, Nat.reduceBEq, Nat.reduceBNe, UInt8.reduceToNat, Tryz.results92]))
  refine xw_loopR (fun (x : Int × Nat × List (Int × Int)) s => s.m 3 = some (.box 0 [I n, fP 27 x.2.1 x.2.2]) ∧ s.ρ 3 = .ptr 3 0 0 0 ∧ (x.2.2 ≠ [] → s.m 27 = some (.arr x.2.1 2 (x.2.2.map encE))) ∧ s.ρ 12 = I x.1 ∧ s.ρ 10 = LE es ∧ s.ρ 11 = I es.length ∧
    0 ≤ x.1 ∧ x.1 ≤ es.length ∧ (x.2.2.length : Int) ≤ x.1 ∧ x.2.2 = (es.take x.1.toNat).foldl fstep []) (fun x => (es.length - x.1).toNat) (0, 0, []) (by simp [upd, fP]) ?_
  rintro ⟨i, w, xs⟩ ⟨ρ, m⟩ ⟨m3, h3, m27, h12, h10, h11, g0, g1, g2, g3⟩
  simp only at m3 h3 m27 h12 h10 h11 g0 g1 g2 g3
  have hxs : OKG n xs := by rw [g3]; exact fold_take h _
  by_cases hj : i < es.length
  · have hoe := h.ok _ (getD_mem (d := (0, 0)) (show i.toNat < es.length by omega))
    unfold okE at hoe
    have hnx := fold_next g0 hj
    rw [← g3, fstep] at hnx
    by_cases hx : xs = []
    · subst hx
      have m3' : m 3 = some (.box 0 [I n, .i .emp]) := m3
      have hkeep : (es.getD i.toNat (0, 0)).1 ≠ (es.getD i.toNat (0, 0)).2 := by omega
      have hno : ¬ Conn [] (es.getD i.toNat (0, 0)).1 (es.getD i.toNat (0, 0)).2 := fun hc => hkeep hc.nil
      rw [if_neg hno] at hnx
      have hcc := c_connected n (es.getD i.toNat (0, 0)).1 (es.getD i.toNat (0, 0)).2 [] hxs (by omega) (by omega)
      rw [decide_eq_false hno] at hcc
      have hcc' : KP 105 [.agg [I n, .i (.lst [])], I (es.getD i.toNat (0, 0)).1, I (es.getD i.toNat (0, 0)).2] [] = some (B false, [], []) := hcc
      repeat' (first
        | refine xw_seq ?_
        | refine xw_block ?_
        | (refine ite_two ?_ ?_ <;> intro _ <;> first | (exfalso; omega) | skip)
        | refine ord_split (by kernel_rfl) ?_
        | (refine xw_ret ?_ <;> try simp only [sq, bl, LQ])
        | ((first | refine xw_reg ?_ | refine xw_regd ?_ | refine xw_if ?_ | refine xw_skip ?_ | refine xw_exit ?_ | refine xw_label ?_ | refine post_ret ?_ | refine post_normal ?_ | refine postE_ret ?_ | refine postE_normal ?_ | (((first | refine at_region ?_ | refine at_out ?_ | refine at_cond ?_); split) <;> first | (exfalso; omega; done) | skip)) <;> try simp (config := { maxSteps := 3000000 }) (disch := first | assumption | omega | exact VG.okg (by assumption) | (simp only [List.length_set, List.length_append, List.length_cons, List.length_nil, List.length_replicate]; omega)) only [go_sem, ↓reduceIte, Int.reduceLE, Int.reduceLT, Int.reduceToNat, Int.reduceNeg, Int.reduceAdd, Int.reduceSub, Int.reduceMul, Int.reduceEq, Int.reduceNe, Nat.reduceEqDiff, Nat.reduceAdd, Nat.reduceSub, Nat.reduceMul, Nat.reduceLT, Nat.reduceLeDiff, Nat.reduceBEq, Nat.reduceBNe, UInt8.reduceToNat, Tryz.results92, m3', h3, h12, h10, h11, hcc']))
      exact ⟨i + 1, nv (m 27), [es.getD i.toNat (0, 0)], by simp [fP], fun _ => ⟨rfl, by simp [encE]⟩, rfl, by omega, by omega, by simp; omega, by rw [hnx]; rfl, by omega⟩
    · have m27' := m27 hx
      have m3' : m 3 = some (.box 0 [I n, .ref 27 w 0 xs.length]) := by rw [m3, fP, if_neg hx]
      repeat' (first
        | refine xw_seq ?_
        | refine xw_block ?_
        | (refine ite_two ?_ ?_ <;> intro _ <;> first | (exfalso; omega) | skip)
        | refine ord_split (by kernel_rfl) ?_
        | (refine xw_ret ?_ <;> try simp only [sq, bl, LQ])
        | ((first | refine xw_reg ?_ | refine xw_regd ?_ | refine xw_if ?_ | refine xw_skip ?_ | refine xw_exit ?_ | refine xw_label ?_ | refine post_ret ?_ | refine post_normal ?_ | refine postE_ret ?_ | refine postE_normal ?_ | (((first | refine at_region ?_ | refine at_out ?_ | refine at_cond ?_); split) <;> first | (exfalso; omega; done) | skip)) <;> try simp (config := { maxSteps := 3000000 }) (disch := first | assumption | omega | exact VG.okg (by assumption) | (simp only [List.length_set, List.length_append, List.length_cons, List.length_nil, List.length_replicate]; omega)) only [go_sem, ↓reduceIte, Int.reduceLE, Int.reduceLT, Int.reduceToNat, Int.reduceNeg, Int.reduceAdd, Int.reduceSub, Int.reduceMul, Int.reduceEq, Int.reduceNe, Nat.reduceEqDiff, Nat.reduceAdd, Nat.reduceSub, Nat.reduceMul, Nat.reduceLT, Nat.reduceLeDiff, Nat.reduceBEq, Nat.reduceBNe, UInt8.reduceToNat, Tryz.results92, m3', m27', h3, h12, h10, h11]))
      · exact ⟨i + 1, w, xs, by rw [fP, if_neg hx], fun _ => ⟨rfl, rfl⟩, rfl, by omega, by omega, by omega, by rw [hnx, if_pos (by assumption)], by omega⟩
      · exact ⟨i + 1, w + 1, xs ++ [es.getD i.toNat (0, 0)], by rw [fP, if_neg (by simp)]; simp, fun _ => ⟨rfl, rfl⟩, rfl, by omega, by omega, by simp; omega, by rw [hnx, if_neg (by assumption)], by omega⟩
  · have hxe : xs = forestL es := by rw [take_all (by omega)] at g3; exact g3
    by_cases hx : xs = []
    · have m3' : m 3 = some (.box 0 [I n, .i .emp]) := by rw [m3, fP, if_pos hx]
      unfold qP qA
      rw [← hxe, if_pos hx, if_pos hx]
      repeat' (first
        | refine xw_seq ?_
        | refine xw_block ?_
        | (refine ite_two ?_ ?_ <;> intro _ <;> first | (exfalso; omega) | skip)
        | refine ord_split (by kernel_rfl) ?_
        | (refine xw_ret ?_ <;> try simp only [sq, bl, LQ])
        | ((first | refine xw_reg ?_ | refine xw_regd ?_ | refine xw_if ?_ | refine xw_skip ?_ | refine xw_exit ?_ | refine xw_label ?_ | refine post_ret ?_ | refine post_normal ?_ | refine postE_ret ?_ | refine postE_normal ?_ | (((first | refine at_region ?_ | refine at_out ?_ | refine at_cond ?_); split) <;> first | (exfalso; omega; done) | skip)) <;> try simp (config := { maxSteps := 3000000 }) (disch := first | assumption | omega | exact VG.okg (by assumption) | (simp only [List.length_set, List.length_append, List.length_cons, List.length_nil, List.length_replicate]; omega)) only [go_sem, ↓reduceIte, Int.reduceLE, Int.reduceLT, Int.reduceToNat, Int.reduceNeg, Int.reduceAdd, Int.reduceSub, Int.reduceMul, Int.reduceEq, Int.reduceNe, Nat.reduceEqDiff, Nat.reduceAdd, Nat.reduceSub, Nat.reduceMul, Nat.reduceLT, Nat.reduceLeDiff, Nat.reduceBEq, Nat.reduceBNe, UInt8.reduceToNat, Tryz.results92, m3', h3, h12, h10, h11]))
    · have m27' := m27 hx
      have m3' : m 3 = some (.box 0 [I n, .ref 27 w 0 xs.length]) := by rw [m3, fP, if_neg hx]
      unfold qP qA
      rw [← hxe, if_neg hx, if_neg hx]
      repeat' (first
        | refine xw_seq ?_
        | refine xw_block ?_
        | (refine ite_two ?_ ?_ <;> intro _ <;> first | (exfalso; omega) | skip)
        | refine ord_split (by kernel_rfl) ?_
        | (refine xw_ret ?_ <;> try simp only [sq, bl, LQ])
        | ((first | refine xw_reg ?_ | refine xw_regd ?_ | refine xw_if ?_ | refine xw_skip ?_ | refine xw_exit ?_ | refine xw_label ?_ | refine post_ret ?_ | refine post_normal ?_ | refine postE_ret ?_ | refine postE_normal ?_ | (((first | refine at_region ?_ | refine at_out ?_ | refine at_cond ?_); split) <;> first | (exfalso; omega; done) | skip)) <;> try simp (config := { maxSteps := 3000000 }) (disch := first | assumption | omega | exact VG.okg (by assumption) | (simp only [List.length_set, List.length_append, List.length_cons, List.length_nil, List.length_replicate]; omega)) only [go_sem, ↓reduceIte, Int.reduceLE, Int.reduceLT, Int.reduceToNat, Int.reduceNeg, Int.reduceAdd, Int.reduceSub, Int.reduceMul, Int.reduceEq, Int.reduceNe, Nat.reduceEqDiff, Nat.reduceAdd, Nat.reduceSub, Nat.reduceMul, Nat.reduceLT, Nat.reduceLeDiff, Nat.reduceBEq, Nat.reduceBNe, UInt8.reduceToNat, Tryz.results92, m3', m27', h3, h12, h10, h11]))
theorem c_ForestOf (n : Int) (es : List (Int × Int)) (hl : es.length ≤ 1048576) : KP 31 [GL n es] [] = some (if VG n es then .i (qe (forestL es)) else .i .emp, [], []) := by
  by_cases h : VG n es
  · have hb := h.okg
    refine xw_call (fn := Tryz.f31) rfl Tryz.func31 rfl ⟨Nat.le_of_ble_eq_true rfl, rfl, rfl⟩ ?_
    repeat' (first
      | refine xw_seq ?_
      | refine xw_block ?_
      | (refine ite_two ?_ ?_ <;> intro _ <;> first | (exfalso; omega) | skip)
      | refine ord_split (by kernel_rfl) ?_
      | (refine xw_ret ?_ <;> try simp only [sq, bl, LQ])
      | ((first | refine xw_reg ?_ | refine xw_regd ?_ | refine xw_if ?_ | refine xw_skip ?_ | refine xw_exit ?_ | refine xw_label ?_ | refine post_ret ?_ | refine post_normal ?_ | refine postE_ret ?_ | refine postE_normal ?_ | (((first | refine at_region ?_ | refine at_out ?_ | refine at_cond ?_); split) <;> first | (exfalso; omega; done) | skip)) <;> try simp (config := { maxSteps := 3000000 }) (disch := first | assumption | omega | exact VG.okg (by assumption) | (simp only [List.length_set, List.length_append, List.length_cons, List.length_nil, List.length_replicate]; omega)) only [go_sem, ↓reduceIte, Int.reduceLE, Int.reduceLT, Int.reduceToNat, Int.reduceNeg, Int.reduceAdd, Int.reduceSub, Int.reduceMul, Int.reduceEq, Int.reduceNe, Nat.reduceEqDiff, Nat.reduceAdd, Nat.reduceSub, Nat.reduceMul, Nat.reduceLT, Nat.reduceLeDiff, Nat.reduceBEq, Nat.reduceBNe, UInt8.reduceToNat, Tryz.results31]))
  · refine xw_call (fn := Tryz.f31) rfl Tryz.func31 rfl ⟨Nat.le_of_ble_eq_true rfl, rfl, rfl⟩ ?_
    repeat' (first
      | refine xw_seq ?_
      | refine xw_block ?_
      | (refine ite_two ?_ ?_ <;> intro _ <;> first | (exfalso; omega) | skip)
      | refine ord_split (by kernel_rfl) ?_
      | (refine xw_ret ?_ <;> try simp only [sq, bl, LQ])
      | ((first | refine xw_reg ?_ | refine xw_regd ?_ | refine xw_if ?_ | refine xw_skip ?_ | refine xw_exit ?_ | refine xw_label ?_ | refine post_ret ?_ | refine post_normal ?_ | refine postE_ret ?_ | refine postE_normal ?_ | (((first | refine at_region ?_ | refine at_out ?_ | refine at_cond ?_); split) <;> first | (exfalso; omega; done) | skip)) <;> try simp (config := { maxSteps := 3000000 }) (disch := first | assumption | omega | exact VG.okg (by assumption) | (simp only [List.length_set, List.length_append, List.length_cons, List.length_nil, List.length_replicate]; omega)) only [go_sem, ↓reduceIte, Int.reduceLE, Int.reduceLT, Int.reduceToNat, Int.reduceNeg, Int.reduceAdd, Int.reduceSub, Int.reduceMul, Int.reduceEq, Int.reduceNe, Nat.reduceEqDiff, Nat.reduceAdd, Nat.reduceSub, Nat.reduceMul, Nat.reduceLT, Nat.reduceLeDiff, Nat.reduceBEq, Nat.reduceBNe, UInt8.reduceToNat, Tryz.results31]))
end Go.Proofs.YtdjdgnabcecdlaaGreatDoor.X
