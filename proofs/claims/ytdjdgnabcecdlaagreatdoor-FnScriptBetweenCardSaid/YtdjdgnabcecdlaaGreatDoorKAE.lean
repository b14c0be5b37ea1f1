/- What functions answer, and the plain laws behind it. -/
import Derived.Test.YtdjdgnabcecdlaaGreatDoorKAD
/- What functions compute: the number of parts. -/
set_option linter.unusedSimpArgs false
set_option linter.unusedVariables false
set_option maxHeartbeats 2000000
namespace Go.Proofs.YtdjdgnabcecdlaaGreatDoor.X
open Go Go.Proofs
theorem cnt_step {es : List (Int × Int)} {i : Int} (h : 0 ≤ i) : (((List.range (i + 1).toNat).filter fun x => decide (least es x = x)).length : Int) = ((List.range i.toNat).filter fun x => decide (least es x = x)).length + if least es i.toNat = i.toNat then 1 else 0 := by
  rw [show (i + 1).toNat = i.toNat + 1 by omega, List.range_succ, List.filter_append, List.length_append]
  simp only [List.filter_cons, List.filter_nil, decide_eq_true_eq]
  split <;> simp
@[go_sem] theorem c_PartCount (n : Int) (es : List (Int × Int)) (hl : es.length ≤ 1048576) : KP 26 [GL n es] [] = some (I (if VG n es then (cnt n es : Int) else 0), [], []) := by
  by_cases h : VG n es
  rotate_left
  · refine xw_call (fn := Tryz.f26) rfl Tryz.func26 rfl ⟨Nat.le_of_ble_eq_true rfl, rfl, rfl⟩ ?_
    repeat' (first
      | refine xw_seq ?_
      | refine xw_block ?_
      | (refine ite_two ?_ ?_ <;> intro _ <;> first | (exfalso; omega) | skip)
      | refine ord_split (by kernel_rfl) ?_
      | (refine xw_ret ?_ <;> try simp only [sq, bl, LQ])
      | ((first | refine xw_reg ?_ | refine xw_regd ?_ | refine xw_if ?_ | refine xw_skip ?_ | refine xw_exit ?_ | refine xw_label ?_ | refine post_ret ?_ | refine post_normal ?_ | refine postE_ret ?_ | refine postE_normal ?_) <;> simp (config := { maxSteps := 3000000 }) (disch := first | assumption | omega | exact VG.okg (by assumption) | (simp only [List.length_set, List.length_append, List.length_cons, List.length_nil, List.length_replicate]; omega)) only [go_sem, ↓reduceIte, Int.reduceLE, Int.reduceLT, Int.reduceToNat, Int.reduceNeg, Int.reduceAdd, Int.reduceSub, Int.reduceMul, Int.reduceEq, Int.reduceNe, Nat.reduceEqDiff, Nat.reduceAdd, Nat.reduceSub, Nat.reduceMul, Nat.reduceLT, Nat.reduceLeDiff, Nat.reduceBEq, Nat.reduceBNe, Tryz.results26])
      | (((first | refine at_region ?_ | refine at_out ?_ | refine at_cond ?_); split) <;> first | (exfalso; omega; done) | simp (config := { maxSteps := 3000000 }) (disch := first | assumption | omega | exact VG.okg (by assumption) | (simp only [List.length_set, List.length_append, List.length_cons, List.length_nil, List.length_replicate]; omega)) only [go_sem, ↓reduceIte, Int.reduceLE, Int.reduceLT, Int.reduceToNat, Int.reduceNeg, Int.reduceAdd, Int.reduceSub, Int.reduceMul, Int.reduceEq, Int.reduceNe, Nat.reduceEqDiff, Nat.reduceAdd, Nat.reduceSub, Nat.reduceMul, Nat.reduceLT, Nat.reduceLeDiff, Nat.reduceBEq, Nat.reduceBNe, Tryz.results26] | skip))
    refine xw_loopR (fun (x : Int) s => s.ρ 8 = I 0 ∧ s.ρ 9 = I 0 ∧ s.ρ 3 = I 0 ∧ x = 0) (fun x => 0) 0 (by simp [upd]) ?_
    rintro x ⟨ρ, m⟩ ⟨h8, h9, h3, hx⟩
    simp only at h8 h9 h3
    repeat' (first
      | refine xw_seq ?_
      | refine xw_block ?_
      | (refine ite_two ?_ ?_ <;> intro _ <;> first | (exfalso; omega) | skip)
      | refine ord_split (by kernel_rfl) ?_
      | (refine xw_ret ?_ <;> try simp only [sq, bl, LQ])
      | ((first | refine xw_reg ?_ | refine xw_regd ?_ | refine xw_if ?_ | refine xw_skip ?_ | refine xw_exit ?_ | refine xw_label ?_ | refine post_ret ?_ | refine post_normal ?_ | refine postE_ret ?_ | refine postE_normal ?_) <;> simp (config := { maxSteps := 3000000 }) (disch := first | assumption | omega | exact VG.okg (by assumption) | (simp only [List.length_set, List.length_append, List.length_cons, List.length_nil, List.length_replicate]; omega)) only [go_sem, ↓reduceIte, Int.reduceLE, Int.reduceLT, Int.reduceToNat, Int.reduceNeg, Int.reduceAdd, Int.reduceSub, Int.reduceMul, Int.reduceEq, Int.reduceNe, Nat.reduceEqDiff, Nat.reduceAdd, Nat.reduceSub, Nat.reduceMul, Nat.reduceLT, Nat.reduceLeDiff, Nat.reduceBEq, Nat.reduceBNe, Tryz.results26, h8, h9, h3])
      | (((first | refine at_region ?_ | refine at_out ?_ | refine at_cond ?_); split) <;> first | (exfalso; omega; done) | simp (config := { maxSteps := 3000000 }) (disch := first | assumption | omega | exact VG.okg (by assumption) | (simp only [List.length_set, List.length_append, List.length_cons, List.length_nil, List.length_replicate]; omega)) only [go_sem, ↓reduceIte, Int.reduceLE, Int.reduceLT, Int.reduceToNat, Int.reduceNeg, Int.reduceAdd, Int.reduceSub, Int.reduceMul, Int.reduceEq, Int.reduceNe, Nat.reduceEqDiff, Nat.reduceAdd, Nat.reduceSub, Nat.reduceMul, Nat.reduceLT, Nat.reduceLeDiff, Nat.reduceBEq, Nat.reduceBNe, Tryz.results26, h8, h9, h3] | skip))
  have hn := h.1
  have hn' := h.2.1
  have hll := lab_length n es
  refine xw_call (fn := Tryz.f26) rfl Tryz.func26 rfl ⟨Nat.le_of_ble_eq_true rfl, rfl, rfl⟩ ?_
  repeat' (first
    | refine xw_seq ?_
    | refine xw_block ?_
    | (refine ite_two ?_ ?_ <;> intro _ <;> first | (exfalso; omega) | skip)
    | refine ord_split (by kernel_rfl) ?_
    | (refine xw_ret ?_ <;> try simp only [sq, bl, LQ])
    | ((first | refine xw_reg ?_ | refine xw_regd ?_ | refine xw_if ?_ | refine xw_skip ?_ | refine xw_exit ?_ | refine xw_label ?_ | refine post_ret ?_ | refine post_normal ?_ | refine postE_ret ?_ | refine postE_normal ?_) <;> simp (config := { maxSteps := 3000000 }) (disch := first | assumption | omega | exact VG.okg (by assumption) | (simp only [List.length_set, List.length_append, List.length_cons, List.length_nil, List.length_replicate]; omega)) only [go_sem, ↓reduceIte, Int.reduceLE, Int.reduceLT, Int.reduceToNat, Int.reduceNeg, Int.reduceAdd, Int.reduceSub, Int.reduceMul, Int.reduceEq, Int.reduceNe, Nat.reduceEqDiff, Nat.reduceAdd, Nat.reduceSub, Nat.reduceMul, Nat.reduceLT, Nat.reduceLeDiff, Nat.reduceBEq, Nat.reduceBNe, Tryz.results26])
    | (((first | refine at_region ?_ | refine at_out ?_ | refine at_cond ?_); split) <;> first | (exfalso; omega; done) | simp (config := { maxSteps := 3000000 }) (disch := first | assumption | omega | exact VG.okg (by assumption) | (simp only [List.length_set, List.length_append, List.length_cons, List.length_nil, List.length_replicate]; omega)) only [go_sem, ↓reduceIte, Int.reduceLE, Int.reduceLT, Int.reduceToNat, Int.reduceNeg, Int.reduceAdd, Int.reduceSub, Int.reduceMul, Int.reduceEq, Int.reduceNe, Nat.reduceEqDiff, Nat.reduceAdd, Nat.reduceSub, Nat.reduceMul, Nat.reduceLT, Nat.reduceLeDiff, Nat.reduceBEq, Nat.reduceBNe, Tryz.results26] | skip))
  refine xw_loopR (fun (x : Int × Int) s => s.ρ 7 = LI (lab n es) ∧ s.ρ 8 = I (lab n es).length ∧ s.ρ 9 = I x.1 ∧ s.ρ 3 = I x.2 ∧ 0 ≤ x.1 ∧ x.1 ≤ n ∧ 0 ≤ x.2 ∧ x.2 ≤ x.1 ∧ x.2 = ((List.range x.1.toNat).filter fun y => decide (least es y = y)).length) (fun x => (n - x.1).toNat) (0, 0) (by
    refine ⟨by simp [upd], by simp [upd], by simp [upd], by simp [upd], by simp, by simp only; omega, by simp, by simp, by simp⟩) ?_
  rintro ⟨i, c⟩ ⟨ρ, m⟩ ⟨h7, h8, h9, h3, g0, g1, g2, g3, g4⟩
  simp only at h7 h8 h9 h3 g0 g1 g2 g3 g4
  by_cases hi : i < n
  · have hg : (lab n es).getD i.toNat 0 = (least es i.toNat : Nat) := lab_get (by omega)
    have hs := cnt_step (es := es) g0
    repeat' (first
      | refine xw_seq ?_
      | refine xw_block ?_
      | (refine ite_two ?_ ?_ <;> intro _ <;> first | (exfalso; omega) | skip)
      | refine ord_split (by kernel_rfl) ?_
      | (refine xw_ret ?_ <;> try simp only [sq, bl, LQ])
      | ((first | refine xw_reg ?_ | refine xw_regd ?_ | refine xw_if ?_ | refine xw_skip ?_ | refine xw_exit ?_ | refine xw_label ?_ | refine post_ret ?_ | refine post_normal ?_ | refine postE_ret ?_ | refine postE_normal ?_) <;> simp (config := { maxSteps := 3000000 }) (disch := first | assumption | omega | exact VG.okg (by assumption) | (simp only [List.length_set, List.length_append, List.length_cons, List.length_nil, List.length_replicate]; omega)) only [go_sem, ↓reduceIte, Int.reduceLE, Int.reduceLT, Int.reduceToNat, Int.reduceNeg, Int.reduceAdd, Int.reduceSub, Int.reduceMul, Int.reduceEq, Int.reduceNe, Nat.reduceEqDiff, Nat.reduceAdd, Nat.reduceSub, Nat.reduceMul, Nat.reduceLT, Nat.reduceLeDiff, Nat.reduceBEq, Nat.reduceBNe, Tryz.results26, h7, h8, h9, h3, hg])
      | (((first | refine at_region ?_ | refine at_out ?_ | refine at_cond ?_); split) <;> first | (exfalso; omega; done) | simp (config := { maxSteps := 3000000 }) (disch := first | assumption | omega | exact VG.okg (by assumption) | (simp only [List.length_set, List.length_append, List.length_cons, List.length_nil, List.length_replicate]; omega)) only [go_sem, ↓reduceIte, Int.reduceLE, Int.reduceLT, Int.reduceToNat, Int.reduceNeg, Int.reduceAdd, Int.reduceSub, Int.reduceMul, Int.reduceEq, Int.reduceNe, Nat.reduceEqDiff, Nat.reduceAdd, Nat.reduceSub, Nat.reduceMul, Nat.reduceLT, Nat.reduceLeDiff, Nat.reduceBEq, Nat.reduceBNe, Tryz.results26, h7, h8, h9, h3, hg] | skip))
    all_goals (first | (rw [if_pos (by omega)] at hs; refine ⟨_, _, ⟨rfl, rfl⟩, ?_⟩; omega) | (rw [if_neg (by omega)] at hs; omega) | (rw [if_pos (by omega)] at hs; omega))
  · have : i = n := by omega
    subst this
    repeat' (first
      | refine xw_seq ?_
      | refine xw_block ?_
      | (refine ite_two ?_ ?_ <;> intro _ <;> first | (exfalso; omega) | skip)
      | refine ord_split (by kernel_rfl) ?_
      | (refine xw_ret ?_ <;> try simp only [sq, bl, LQ])
      | ((first | refine xw_reg ?_ | refine xw_regd ?_ | refine xw_if ?_ | refine xw_skip ?_ | refine xw_exit ?_ | refine xw_label ?_ | refine post_ret ?_ | refine post_normal ?_ | refine postE_ret ?_ | refine postE_normal ?_) <;> simp (config := { maxSteps := 3000000 }) (disch := first | assumption | omega | exact VG.okg (by assumption) | (simp only [List.length_set, List.length_append, List.length_cons, List.length_nil, List.length_replicate]; omega)) only [go_sem, ↓reduceIte, Int.reduceLE, Int.reduceLT, Int.reduceToNat, Int.reduceNeg, Int.reduceAdd, Int.reduceSub, Int.reduceMul, Int.reduceEq, Int.reduceNe, Nat.reduceEqDiff, Nat.reduceAdd, Nat.reduceSub, Nat.reduceMul, Nat.reduceLT, Nat.reduceLeDiff, Nat.reduceBEq, Nat.reduceBNe, Tryz.results26, h7, h8, h9, h3])
      | (((first | refine at_region ?_ | refine at_out ?_ | refine at_cond ?_); split) <;> first | (exfalso; omega; done) | simp (config := { maxSteps := 3000000 }) (disch := first | assumption | omega | exact VG.okg (by assumption) | (simp only [List.length_set, List.length_append, List.length_cons, List.length_nil, List.length_replicate]; omega)) only [go_sem, ↓reduceIte, Int.reduceLE, Int.reduceLT, Int.reduceToNat, Int.reduceNeg, Int.reduceAdd, Int.reduceSub, Int.reduceMul, Int.reduceEq, Int.reduceNe, Nat.reduceEqDiff, Nat.reduceAdd, Nat.reduceSub, Nat.reduceMul, Nat.reduceLT, Nat.reduceLeDiff, Nat.reduceBEq, Nat.reduceBNe, Tryz.results26, h7, h8, h9, h3] | skip))
    unfold cnt
    omega
end Go.Proofs.YtdjdgnabcecdlaaGreatDoor.X

/- Safe parts and the tree of bridges: plain law. -/
set_option linter.unusedVariables false
namespace Go.Proofs.YtdjdgnabcecdlaaGreatDoor.X
open Go
/-- A graph's edges without its bridges. -/
noncomputable def bare (es : List (Int × Int)) : List (Int × Int) := es.filter fun e => !decide (Brg es e)
/-- A graph's bridges. -/
noncomputable def brgs (es : List (Int × Int)) : List (Int × Int) := es.filter fun e => decide (Brg es e)
theorem mem_bare {es : List (Int × Int)} {e : Int × Int} : e ∈ bare es ↔ e ∈ es ∧ ¬ Brg es e := by simp [bare]
theorem VG.bare {n : Int} {es : List (Int × Int)} (h : VG n es) : VG n (X.bare es) := h.sub List.filter_sublist
theorem VG.brgs {n : Int} {es : List (Int × Int)} (h : VG n es) : VG n (X.brgs es) := h.sub List.filter_sublist
/-- The label of a node's safe part. -/
noncomputable def sl (es : List (Int × Int)) (x : Int) : Int := (least (bare es) x.toNat : Nat)
noncomputable def treeE (es : List (Int × Int)) (e : Int × Int) : Int × Int := edgeOf (sl es e.1) (sl es e.2)
/-- The edges between safe parts, in the order of bridges. -/
noncomputable def treeL (es : List (Int × Int)) : List (Int × Int) := (brgs es).map (treeE es)
end Go.Proofs.YtdjdgnabcecdlaaGreatDoor.X

/- What functions compute: bridges, safe parts, nodes and edges by a property. -/
set_option linter.unusedSimpArgs false
set_option linter.unusedVariables false
set_option maxHeartbeats 2000000
namespace Go.Proofs.YtdjdgnabcecdlaaGreatDoor.X
open Go Go.Proofs
theorem filt_yes {α : Type} {l : List α} {p : α → Bool} {i : Int} {d : α} (h0 : 0 ≤ i) (h1 : i < l.length) (hp : p (l.getD i.toNat d) = true) : (l.take (i + 1).toNat).filter p = (l.take i.toNat).filter p ++ [l.getD i.toNat d] := by
  rw [take_int d h0 h1, List.filter_append, List.filter_cons_of_pos hp]; rfl
theorem filt_no {α : Type} {l : List α} {p : α → Bool} {i : Int} {d : α} (h0 : 0 ≤ i) (h1 : i < l.length) (hp : ¬ p (l.getD i.toNat d) = true) : (l.take (i + 1).toNat).filter p = (l.take i.toNat).filter p := by
  rw [take_int d h0 h1, List.filter_append, List.filter_cons_of_neg hp, List.filter_nil, List.append_nil]
theorem OKG.cutE {n : Int} {es : List (Int × Int)} (h : OKG n es) (e : Int × Int) : OKG n (X.cutE e es) := ⟨h.n0, h.n1, Nat.le_trans (cutE_len e es) h.len, fun f hf => h.ok f (cutE_mem.1 hf).1⟩
theorem OKG.bare {n : Int} {es : List (Int × Int)} (h : OKG n es) : OKG n (X.bare es) := ⟨h.n0, h.n1, Nat.le_trans (List.length_filter_le _ _) h.len, fun f hf => h.ok f (mem_bare.1 hf).1⟩
/-- What deleting what does not fulfil something hands back. -/
def delF (p : Int × Int → Bool) (es : List (Int × Int)) : IV := if es = [] then .emp else .lst ((es.filter p).map encE)
theorem delE_not {p : Int × Int → Bool} {es : List (Int × Int)} : delE (fun e => !p e) es = delF p es := by
  unfold delE delF; simp only [Bool.not_not]
theorem frz_delF {p : Int × Int → Bool} {es : List (Int × Int)} {n : Nat} : frz n (.i (delF p es)) = .ret (.lst ((es.filter p).map encE)) := by
  rw [← delE_not, frz_del]; simp only [Bool.not_not]
theorem flat_delF {p : Int × Int → Bool} {es : List (Int × Int)} : (delF p es).flat = true := by rw [← delE_not]; exact flat_del
theorem lenP_delF {p : Int × Int → Bool} {es : List (Int × Int)} : lenP (.i (delF p es)) = some (es.filter p).length := by
  rw [← delE_not, lenP_del]; simp only [Bool.not_not]
theorem iaR_delF {p : Int × Int → Bool} {es : List (Int × Int)} {el : TypeId} {n : Int} (h0 : 0 ≤ n) (h : n < (es.filter p).length) :
    iaR Tryz.prog (some (.slice el)) (some n) (.i (delF p es)) = iaR Tryz.prog (some (.slice el)) (some n) (.i (.lst ((es.filter p).map encE))) := by
  have := iaR_del (p := fun e => !p e) (es := es) (el := el) (n := n) h0 (by simpa only [Bool.not_not] using h)
  rw [delE_not] at this
  simpa only [Bool.not_not] using this
attribute [go_sem] frz_delF flat_delF lenP_delF iaR_delF
theorem clo_edgesBy {c : IV} {dom : Int × Int → Prop} {p : Int × Int → Bool} (hc : Clo c dom p) : Clo (.fn 153 [] [.eptr [c] 0]) dom (fun e => !p e) := by
  obtain ⟨hc1, hc2, hc3⟩ := hc
  have h : ∀ x y : Int, dom (x, y) → KP 153 [PE x y, .i (.eptr [c] 0)] [] = some (B (!p (x, y)), [], []) := by
    intro x y hd
    refine xw_call (fn := Tryz.f153) rfl Tryz.func153 rfl ⟨Nat.le_of_ble_eq_true rfl, rfl, rfl⟩ ?_
    repeat' (first
      | refine xw_seq ?_
      | refine xw_block ?_
      | (refine ite_two ?_ ?_ <;> intro _ <;> first | (exfalso; omega) | skip)
      | refine ord_split (by kernel_rfl) ?_
      | (refine xw_ret ?_ <;> try simp only [sq, bl, LQ])
      | ((first | refine xw_reg ?_ | refine xw_regd ?_ | refine xw_if ?_ | refine xw_skip ?_ | refine xw_exit ?_ | refine xw_label ?_ | refine post_ret ?_ | refine post_normal ?_ | refine postE_ret ?_ | refine postE_normal ?_) <;> simp (config := { maxSteps := 3000000 }) (disch := first | assumption | omega | exact VG.okg (by assumption) | (simp only [List.length_set, List.length_append, List.length_cons, List.length_nil, List.length_replicate]; omega)) only [go_sem, ↓reduceIte, Int.reduceLE, Int.reduceLT, Int.reduceToNat, Int.reduceNeg, Int.reduceAdd, Int.reduceSub, Int.reduceMul, Int.reduceEq, Int.reduceNe, Nat.reduceEqDiff, Nat.reduceAdd, Nat.reduceSub, Nat.reduceMul, Nat.reduceLT, Nat.reduceLeDiff, Nat.reduceBEq, Nat.reduceBNe, Tryz.results153, hc1, hc2, hc3])
      | (((first | refine at_region ?_ | refine at_out ?_ | refine at_cond ?_); split) <;> first | (exfalso; omega; done) | simp (config := { maxSteps := 3000000 }) (disch := first | assumption | omega | exact VG.okg (by assumption) | (simp only [List.length_set, List.length_append, List.length_cons, List.length_nil, List.length_replicate]; omega)) only [go_sem, ↓reduceIte, Int.reduceLE, Int.reduceLT, Int.reduceToNat, Int.reduceNeg, Int.reduceAdd, Int.reduceSub, Int.reduceMul, Int.reduceEq, Int.reduceNe, Nat.reduceEqDiff, Nat.reduceAdd, Nat.reduceSub, Nat.reduceMul, Nat.reduceLT, Nat.reduceLeDiff, Nat.reduceBEq, Nat.reduceBNe, Tryz.results153, hc1, hc2, hc3] | skip))
  refine ⟨fun n => by cases n <;> rfl, rfl, fun me d x y hd => ?_⟩
  have hx := h x y hd
  simp only [go_sem, ↓reduceIte, Int.reduceLE, Int.reduceLT, Int.reduceToNat, Int.reduceNeg, Int.reduceAdd, Int.reduceSub, Int.reduceMul, Int.reduceEq, Int.reduceNe, Nat.reduceEqDiff, Nat.reduceAdd, Nat.reduceSub, Nat.reduceMul, Nat.reduceLT, Nat.reduceLeDiff, Nat.reduceBEq, Nat.reduceBNe, hx, ite_self]
theorem delP_not {p : Int × Int → Bool} {es : List (Int × Int)} {n : Nat} : imm (n + 1) (delA (fun e => !p e) es) (delP (fun e => !p e) es) = some (.i (delF p es)) := by rw [imm_del, delE_not]
theorem c_edgesBy {c : IV} {dom : Int × Int → Prop} {p : Int × Int → Bool} (hc : Clo c dom p) (n : Int) (es : List (Int × Int)) (hd : ∀ e ∈ es, dom e) (hl : es.length ≤ 1048576) : KP 103 [GL n es, .i c] [] = some (delP (fun e => !p e) es, [], delA (fun e => !p e) es) := by
  have hw := c_without (clo_edgesBy hc) n es hd hl
  obtain ⟨hc1, hc2, hc3⟩ := hc
  unfold delP delA at hw ⊢
  by_cases he : es = []
  · simp only [if_pos he] at hw ⊢
    refine xw_call (fn := Tryz.f103) rfl Tryz.func103 rfl ⟨Nat.le_of_ble_eq_true rfl, rfl, rfl⟩ ?_
    repeat' (first
      | refine xw_seq ?_
      | refine xw_block ?_
      | (refine ite_two ?_ ?_ <;> intro _ <;> first | (exfalso; omega) | skip)
      | refine ord_split (by kernel_rfl) ?_
      | (refine xw_ret ?_ <;> try simp only [sq, bl, LQ])
      | ((first | refine xw_reg ?_ | refine xw_regd ?_ | refine xw_if ?_ | refine xw_skip ?_ | refine xw_exit ?_ | refine xw_label ?_ | refine post_ret ?_ | refine post_normal ?_ | refine postE_ret ?_ | refine postE_normal ?_) <;> simp (config := { maxSteps := 3000000 }) (disch := first | assumption | omega | exact VG.okg (by assumption) | (simp only [List.length_set, List.length_append, List.length_cons, List.length_nil, List.length_replicate]; omega)) only [go_sem, ↓reduceIte, Int.reduceLE, Int.reduceLT, Int.reduceToNat, Int.reduceNeg, Int.reduceAdd, Int.reduceSub, Int.reduceMul, Int.reduceEq, Int.reduceNe, Nat.reduceEqDiff, Nat.reduceAdd, Nat.reduceSub, Nat.reduceMul, Nat.reduceLT, Nat.reduceLeDiff, Nat.reduceBEq, Nat.reduceBNe, Tryz.results103, hc1, hc2, hw])
      | (((first | refine at_region ?_ | refine at_out ?_ | refine at_cond ?_); split) <;> first | (exfalso; omega; done) | simp (config := { maxSteps := 3000000 }) (disch := first | assumption | omega | exact VG.okg (by assumption) | (simp only [List.length_set, List.length_append, List.length_cons, List.length_nil, List.length_replicate]; omega)) only [go_sem, ↓reduceIte, Int.reduceLE, Int.reduceLT, Int.reduceToNat, Int.reduceNeg, Int.reduceAdd, Int.reduceSub, Int.reduceMul, Int.reduceEq, Int.reduceNe, Nat.reduceEqDiff, Nat.reduceAdd, Nat.reduceSub, Nat.reduceMul, Nat.reduceLT, Nat.reduceLeDiff, Nat.reduceBEq, Nat.reduceBNe, Tryz.results103, hc1, hc2, hw] | skip))
  · simp only [if_neg he] at hw ⊢
    refine xw_call (fn := Tryz.f103) rfl Tryz.func103 rfl ⟨Nat.le_of_ble_eq_true rfl, rfl, rfl⟩ ?_
    repeat' (first
      | refine xw_seq ?_
      | refine xw_block ?_
      | (refine ite_two ?_ ?_ <;> intro _ <;> first | (exfalso; omega) | skip)
      | refine ord_split (by kernel_rfl) ?_
      | (refine xw_ret ?_ <;> try simp only [sq, bl, LQ])
      | ((first | refine xw_reg ?_ | refine xw_regd ?_ | refine xw_if ?_ | refine xw_skip ?_ | refine xw_exit ?_ | refine xw_label ?_ | refine post_ret ?_ | refine post_normal ?_ | refine postE_ret ?_ | refine postE_normal ?_) <;> simp (config := { maxSteps := 3000000 }) (disch := first | assumption | omega | exact VG.okg (by assumption) | (simp only [List.length_set, List.length_append, List.length_cons, List.length_nil, List.length_replicate]; omega)) only [go_sem, ↓reduceIte, Int.reduceLE, Int.reduceLT, Int.reduceToNat, Int.reduceNeg, Int.reduceAdd, Int.reduceSub, Int.reduceMul, Int.reduceEq, Int.reduceNe, Nat.reduceEqDiff, Nat.reduceAdd, Nat.reduceSub, Nat.reduceMul, Nat.reduceLT, Nat.reduceLeDiff, Nat.reduceBEq, Nat.reduceBNe, Tryz.results103, hc1, hc2, hw])
      | (((first | refine at_region ?_ | refine at_out ?_ | refine at_cond ?_); split) <;> first | (exfalso; omega; done) | simp (config := { maxSteps := 3000000 }) (disch := first | assumption | omega | exact VG.okg (by assumption) | (simp only [List.length_set, List.length_append, List.length_cons, List.length_nil, List.length_replicate]; omega)) only [go_sem, ↓reduceIte, Int.reduceLE, Int.reduceLT, Int.reduceToNat, Int.reduceNeg, Int.reduceAdd, Int.reduceSub, Int.reduceMul, Int.reduceEq, Int.reduceNe, Nat.reduceEqDiff, Nat.reduceAdd, Nat.reduceSub, Nat.reduceMul, Nat.reduceLT, Nat.reduceLeDiff, Nat.reduceBEq, Nat.reduceBNe, Tryz.results103, hc1, hc2, hw] | skip))
theorem c_nodesBy {c : IV} {dom : Int → Prop} {p : Int → Bool} (hc : CloI c dom p) (n : Int) (es : List (Int × Int)) (hn : 0 ≤ n ∧ n ≤ 1048576) (hd : ∀ x, 0 ≤ x → x < n → dom x) (hl : es.length ≤ 1048576) :
    KP 108 [GL n es, .i c] [] = some (.ref 2000 0 0 ((iota n).filter p).length, [], [.arr 0 1 (((iota n).filter p).map encI)]) := by
  obtain ⟨hc1, hc2, hc3⟩ := hc
  refine xw_call (fn := Tryz.f108) rfl Tryz.func108 rfl ⟨Nat.le_of_ble_eq_true rfl, rfl, rfl⟩ ?_
  repeat' (first
    | refine xw_seq ?_
    | refine xw_block ?_
    | (refine ite_two ?_ ?_ <;> intro _ <;> first | (exfalso; omega) | skip)
    | refine ord_split (by kernel_rfl) ?_
    | (refine xw_ret ?_ <;> try simp only [sq, bl, LQ])
    | ((first | refine xw_reg ?_ | refine xw_regd ?_ | refine xw_if ?_ | refine xw_skip ?_ | refine xw_exit ?_ | refine xw_label ?_ | refine post_ret ?_ | refine post_normal ?_ | refine postE_ret ?_ | refine postE_normal ?_) <;> simp (config := { maxSteps := 3000000 }) (disch := first | assumption | omega | exact VG.okg (by assumption) | (simp only [List.length_set, List.length_append, List.length_cons, List.length_nil, List.length_replicate]; omega)) only [go_sem, ↓reduceIte, Int.reduceLE, Int.reduceLT, Int.reduceToNat, Int.reduceNeg, Int.reduceAdd, Int.reduceSub, Int.reduceMul, Int.reduceEq, Int.reduceNe, Nat.reduceEqDiff, Nat.reduceAdd, Nat.reduceSub, Nat.reduceMul, Nat.reduceLT, Nat.reduceLeDiff, Nat.reduceBEq, Nat.reduceBNe, Tryz.results108, hc1, hc2])
    | (((first | refine at_region ?_ | refine at_out ?_ | refine at_cond ?_); split) <;> first | (exfalso; omega; done) | simp (config := { maxSteps := 3000000 }) (disch := first | assumption | omega | exact VG.okg (by assumption) | (simp only [List.length_set, List.length_append, List.length_cons, List.length_nil, List.length_replicate]; omega)) only [go_sem, ↓reduceIte, Int.reduceLE, Int.reduceLT, Int.reduceToNat, Int.reduceNeg, Int.reduceAdd, Int.reduceSub, Int.reduceMul, Int.reduceEq, Int.reduceNe, Nat.reduceEqDiff, Nat.reduceAdd, Nat.reduceSub, Nat.reduceMul, Nat.reduceLT, Nat.reduceLeDiff, Nat.reduceBEq, Nat.reduceBNe, Tryz.results108, hc1, hc2] | skip))
  refine xw_loopR (fun (x : Int × Nat × List Int) s => s.m 7 = some (.arr x.2.1 1 (x.2.2.map encI)) ∧ s.ρ 5 = .ref 7 x.2.1 0 x.2.2.length ∧ s.ρ 10 = I x.1 ∧ s.ρ 9 = I n ∧ s.ρ 1 = .i c ∧
    0 ≤ x.1 ∧ x.1 ≤ n ∧ (x.2.2.length : Int) ≤ x.1 ∧ x.2.2 = (iota x.1).filter p) (fun x => (n - x.1).toNat) (0, 0, []) (by simp [upd, iota, hn.1]) ?_
  rintro ⟨i, w, xs⟩ ⟨ρ, m⟩ ⟨m7, h5, h10, h9, h1, g0, g1, g2, g3⟩
  simp only at m7 h5 h10 h9 h1 g0 g1 g2 g3
  by_cases hj : i < n
  · have hdi := hd i g0 hj
    repeat' (first
      | refine xw_seq ?_
      | refine xw_block ?_
      | (refine ite_two ?_ ?_ <;> intro _ <;> first | (exfalso; omega) | skip)
      | refine ord_split (by kernel_rfl) ?_
      | (refine xw_ret ?_ <;> try simp only [sq, bl, LQ])
      | ((first | refine xw_reg ?_ | refine xw_regd ?_ | refine xw_if ?_ | refine xw_skip ?_ | refine xw_exit ?_ | refine xw_label ?_ | refine post_ret ?_ | refine post_normal ?_ | refine postE_ret ?_ | refine postE_normal ?_) <;> simp (config := { maxSteps := 3000000 }) (disch := first | assumption | omega | exact VG.okg (by assumption) | (simp only [List.length_set, List.length_append, List.length_cons, List.length_nil, List.length_replicate]; omega)) only [go_sem, ↓reduceIte, Int.reduceLE, Int.reduceLT, Int.reduceToNat, Int.reduceNeg, Int.reduceAdd, Int.reduceSub, Int.reduceMul, Int.reduceEq, Int.reduceNe, Nat.reduceEqDiff, Nat.reduceAdd, Nat.reduceSub, Nat.reduceMul, Nat.reduceLT, Nat.reduceLeDiff, Nat.reduceBEq, Nat.reduceBNe, Tryz.results108, m7, h5, h10, h9, h1, hc3, hc1, hc2])
      | (((first | refine at_region ?_ | refine at_out ?_ | refine at_cond ?_); split) <;> first | (exfalso; omega; done) | simp (config := { maxSteps := 3000000 }) (disch := first | assumption | omega | exact VG.okg (by assumption) | (simp only [List.length_set, List.length_append, List.length_cons, List.length_nil, List.length_replicate]; omega)) only [go_sem, ↓reduceIte, Int.reduceLE, Int.reduceLT, Int.reduceToNat, Int.reduceNeg, Int.reduceAdd, Int.reduceSub, Int.reduceMul, Int.reduceEq, Int.reduceNe, Nat.reduceEqDiff, Nat.reduceAdd, Nat.reduceSub, Nat.reduceMul, Nat.reduceLT, Nat.reduceLeDiff, Nat.reduceBEq, Nat.reduceBNe, Tryz.results108, m7, h5, h10, h9, h1, hc3, hc1, hc2] | skip))
    all_goals (refine ⟨by omega, by omega, by omega, ?_, by omega⟩; rw [iota_snoc g0, List.filter_append, ← g3]; simp_all)
  · have : i = n := by omega
    subst this
    repeat' (first
      | refine xw_seq ?_
      | refine xw_block ?_
      | (refine ite_two ?_ ?_ <;> intro _ <;> first | (exfalso; omega) | skip)
      | refine ord_split (by kernel_rfl) ?_
      | (refine xw_ret ?_ <;> try simp only [sq, bl, LQ])
      | ((first | refine xw_reg ?_ | refine xw_regd ?_ | refine xw_if ?_ | refine xw_skip ?_ | refine xw_exit ?_ | refine xw_label ?_ | refine post_ret ?_ | refine post_normal ?_ | refine postE_ret ?_ | refine postE_normal ?_) <;> simp (config := { maxSteps := 3000000 }) (disch := first | assumption | omega | exact VG.okg (by assumption) | (simp only [List.length_set, List.length_append, List.length_cons, List.length_nil, List.length_replicate]; omega)) only [go_sem, ↓reduceIte, Int.reduceLE, Int.reduceLT, Int.reduceToNat, Int.reduceNeg, Int.reduceAdd, Int.reduceSub, Int.reduceMul, Int.reduceEq, Int.reduceNe, Nat.reduceEqDiff, Nat.reduceAdd, Nat.reduceSub, Nat.reduceMul, Nat.reduceLT, Nat.reduceLeDiff, Nat.reduceBEq, Nat.reduceBNe, Tryz.results108, m7, h5, h10, h9, h1, hc1, hc2])
      | (((first | refine at_region ?_ | refine at_out ?_ | refine at_cond ?_); split) <;> first | (exfalso; omega; done) | simp (config := { maxSteps := 3000000 }) (disch := first | assumption | omega | exact VG.okg (by assumption) | (simp only [List.length_set, List.length_append, List.length_cons, List.length_nil, List.length_replicate]; omega)) only [go_sem, ↓reduceIte, Int.reduceLE, Int.reduceLT, Int.reduceToNat, Int.reduceNeg, Int.reduceAdd, Int.reduceSub, Int.reduceMul, Int.reduceEq, Int.reduceNe, Nat.reduceEqDiff, Nat.reduceAdd, Nat.reduceSub, Nat.reduceMul, Nat.reduceLT, Nat.reduceLeDiff, Nat.reduceBEq, Nat.reduceBNe, Tryz.results108, m7, h5, h10, h9, h1, hc1, hc2] | skip))
    rw [← g3]
    exact ⟨rfl, rfl⟩
/-- A list of edges, in whatever form, that can be looked at. -/
structure EQ (x : IV) (es : List (Int × Int)) : Prop extends EL x es where
  len : lenP (.i x) = some es.length
  ia : ∀ (el : TypeId) (i : Int), 0 ≤ i → i < es.length → iaR Tryz.prog (some (.slice el)) (some i) (.i x) = iaR Tryz.prog (some (.slice el)) (some i) (.i (.lst (es.map encE)))
theorem EQ.lst (es : List (Int × Int)) : EQ (.lst (es.map encE)) es := ⟨EL.lst es, by simp [lenP], fun _ _ _ _ => rfl⟩
theorem EQ.qe (es : List (Int × Int)) : EQ (qe es) es := ⟨EL.qe es, lenP_qe, fun el i h0 h1 => by
  cases es with
  | nil => simp at h1; omega
  | cons e r => rfl⟩
end Go.Proofs.YtdjdgnabcecdlaaGreatDoor.X

/- Bridges and cut nodes on paths; cycles: plain law. -/
set_option linter.unusedVariables false
namespace Go.Proofs.YtdjdgnabcecdlaaGreatDoor.X
open Go
theorem lab_congr {n : Int} {es fs : List (Int × Int)} (h : ∀ x y : Int, Conn es x y ↔ Conn fs x y) : lab n es = lab n fs := by
  unfold lab
  refine List.map_congr_left fun x _ => ?_
  have : least es x = least fs x := by
    obtain ⟨a1, a2, a3⟩ := least_spec es x
    obtain ⟨b1, b2, b3⟩ := least_spec fs x
    refine Nat.le_antisymm (Nat.le_of_not_lt fun hl => a3 _ hl ((h _ _).2 b2)) (Nat.le_of_not_lt fun hl => b3 _ hl ((h _ _).1 a2))
  rw [this]
end Go.Proofs.YtdjdgnabcecdlaaGreatDoor.X
