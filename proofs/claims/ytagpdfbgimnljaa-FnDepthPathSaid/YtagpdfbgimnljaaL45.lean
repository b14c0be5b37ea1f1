/- The law: depths are of paths. -/
import Derived.Test.YtagpdfbgimnljaaL44
import Derived.Test.YtagpdfbgimnljaaC81
import Derived.Test.YtagpdfbgimnljaaKE
set_option linter.unusedSimpArgs false
set_option linter.unusedVariables false
set_option maxHeartbeats 8000000
set_option maxRecDepth 100000
namespace Go.Proofs.Ytagpdfbgimnljaa.X
open Go Go.Proofs
theorem TV.aw {l : List Int} (h : TV l) : AW 16 (csL l) l := ⟨h.okE, by omega, by omega, h.tree, h.walk, h.rg⟩
theorem law_DepthPath (bs : List Int) (hb : ∀ b ∈ bs, 0 ≤ b ∧ b < 256) : KP 10 [LB bs] [] = some (B true, [], []) := by
  by_cases hbig : (1048576 : Int) < bs.length
  · refine xw_call (fn := Try.f10) rfl Try.func10 rfl ⟨Nat.le_of_ble_eq_true rfl, rfl, rfl⟩ ?_
    repeat' (first
      | refine xw_seq ?_
      | refine xw_block ?_
      | (refine ite_two ?_ ?_ <;> intro _ <;> first | (exfalso; omega) | skip)
      | refine ord_split (by kernel_rfl) ?_
      | (refine xw_ret ?_ <;> try simp only [sq, bl, LQ])
      | ((first | refine xw_reg ?_ | refine xw_regd ?_ | refine xw_if ?_ | refine xw_skip ?_ | refine xw_exit ?_ | refine xw_label ?_ | refine post_ret ?_ | refine post_normal ?_ | refine postE_ret ?_ | refine postE_normal ?_) <;> simp (config := { maxSteps := 3000000 }) (disch := first | assumption | omega | exact VG.okg (by assumption) | (simp only [List.length_set, List.length_append, List.length_cons, List.length_nil, List.length_replicate]; omega)) only [go_sem, ↓reduceIte, Int.reduceLE, Int.reduceLT, Int.reduceToNat, Int.reduceNeg, Int.reduceAdd, Int.reduceSub, Int.reduceMul, Int.reduceEq, Int.reduceNe, Nat.reduceEqDiff, Nat.reduceAdd, Nat.reduceSub, Nat.reduceMul, Nat.reduceLT, Nat.reduceLeDiff, Nat.reduceBEq, Nat.reduceBNe, Try.results10])
      | (((first | refine at_region ?_ | refine at_out ?_ | refine at_cond ?_); split) <;> first | (exfalso; omega; done) | simp (config := { maxSteps := 3000000 }) (disch := first | assumption | omega | exact VG.okg (by assumption) | (simp only [List.length_set, List.length_append, List.length_cons, List.length_nil, List.length_replicate]; omega)) only [go_sem, ↓reduceIte, Int.reduceLE, Int.reduceLT, Int.reduceToNat, Int.reduceNeg, Int.reduceAdd, Int.reduceSub, Int.reduceMul, Int.reduceEq, Int.reduceNe, Nat.reduceEqDiff, Nat.reduceAdd, Nat.reduceSub, Nat.reduceMul, Nat.reduceLT, Nat.reduceLeDiff, Nat.reduceBEq, Nat.reduceBNe, Try.results10] | skip))
  obtain ⟨l, hl1, hl31, hdraw⟩ := c_DrawTourDepths bs hb (by omega)
  by_cases hT : TV l
  rotate_left
  · have hp := c_TourDepths_no l (by omega) hT
    have hs := c_sTourDepths_no l (by omega) hT
    have hd := c_dyInts_nil
    refine xw_call (fn := Try.f10) rfl Try.func10 rfl ⟨Nat.le_of_ble_eq_true rfl, rfl, rfl⟩ ?_
    repeat' (first
      | refine xw_seq ?_
      | refine xw_block ?_
      | (refine ite_two ?_ ?_ <;> intro _ <;> first | (exfalso; omega) | skip)
      | refine ord_split (by kernel_rfl) ?_
      | (refine xw_ret ?_ <;> try simp only [sq, bl, LQ])
      | ((first | refine xw_reg ?_ | refine xw_regd ?_ | refine xw_if ?_ | refine xw_skip ?_ | refine xw_exit ?_ | refine xw_label ?_ | refine post_ret ?_ | refine post_normal ?_ | refine postE_ret ?_ | refine postE_normal ?_) <;> simp (config := { maxSteps := 3000000 }) (disch := first | assumption | omega | exact VG.okg (by assumption) | (simp only [List.length_set, List.length_append, List.length_cons, List.length_nil, List.length_replicate]; omega)) only [go_sem, ↓reduceIte, Int.reduceLE, Int.reduceLT, Int.reduceToNat, Int.reduceNeg, Int.reduceAdd, Int.reduceSub, Int.reduceMul, Int.reduceEq, Int.reduceNe, Nat.reduceEqDiff, Nat.reduceAdd, Nat.reduceSub, Nat.reduceMul, Nat.reduceLT, Nat.reduceLeDiff, Nat.reduceBEq, Nat.reduceBNe, Try.results10, hdraw, hp, hs, hd])
      | (((first | refine at_region ?_ | refine at_out ?_ | refine at_cond ?_); split) <;> first | (exfalso; omega; done) | simp (config := { maxSteps := 3000000 }) (disch := first | assumption | omega | exact VG.okg (by assumption) | (simp only [List.length_set, List.length_append, List.length_cons, List.length_nil, List.length_replicate]; omega)) only [go_sem, ↓reduceIte, Int.reduceLE, Int.reduceLT, Int.reduceToNat, Int.reduceNeg, Int.reduceAdd, Int.reduceSub, Int.reduceMul, Int.reduceEq, Int.reduceNe, Nat.reduceEqDiff, Nat.reduceAdd, Nat.reduceSub, Nat.reduceMul, Nat.reduceLT, Nat.reduceLeDiff, Nat.reduceBEq, Nat.reduceBNe, Try.results10, hdraw, hp, hs, hd] | skip))
  have hA := hT.aw
  have hp := c_TourDepths hT hA
  have hs := c_sTourDepths hT hA
  have hte := c_TourEdges l (by omega)
  rw [if_pos hT, decide_eq_true hT] at hte
  have hDl := dpL_len 16 (csL l) l
  have hd := c_dyInts (dpL 16 (csL l) l) (dpL 16 (csL l) l) (by omega)
  have hcl := cs_len l
  have hV := hT.vg
  have hg0 := getI l 0 (by omega)
  have hr := hT.at' (i := 0) (by omega)
  have hpath : ∀ i : Int, 0 ≤ i → i < l.length → KP 63 [GL 16 (csL l), I (l.getD 0 0), I (l.getD i.toNat 0)] [] = _ := fun i h0 h1 => c_PathBetween 16 (l.getD 0 0) (l.getD i.toNat 0) (csL l) (by omega)
  have hpos : ∀ i : Int, 0 ≤ i → i < l.length → (VG 16 (csL l) ∧ 0 ≤ l.getD 0 0 ∧ l.getD 0 0 < 16 ∧ 0 ≤ l.getD i.toNat 0 ∧ l.getD i.toNat 0 < 16 ∧ Conn (csL l) (l.getD 0 0) (l.getD i.toNat 0)) := fun i h0 h1 => by
    have := hT.at' (i := i.toNat) (by omega)
    exact ⟨hV, hr.1, hr.2, this.1, this.2, hT.walk.conn _ (by omega)⟩
  have hplen : ∀ i : Int, 0 ≤ i → i < l.length → ((pathL 16 (csL l) (l.getD 0 0) (l.getD i.toNat 0)).length : Int) = (dpL 16 (csL l) l).getD i.toNat 0 + 1 := fun i h0 h1 => by
    have hc := hT.walk.conn i.toNat (by omega)
    have hb := hA.bd (i := i.toNat) (by omega)
    rw [dpL_get (by omega), pathL_len, dst_symm hV.okg.ok hc.symm]
    omega
  have hbdD : ∀ i : Int, 0 ≤ i → i < l.length → 0 ≤ (dpL 16 (csL l) l).getD i.toNat 0 ∧ (dpL 16 (csL l) l).getD i.toNat 0 < 16 := fun i h0 h1 => by
    rw [dpL_get (by omega)]; exact hA.bd (by omega)
  generalize hDe : dpL 16 (csL l) l = D at *
  have hDt : D.take l.length = D := List.take_of_length_le (by omega)
  refine xw_call (fn := Try.f10) rfl Try.func10 rfl ⟨Nat.le_of_ble_eq_true rfl, rfl, rfl⟩ ?_
  repeat' (first
    | refine xw_seq ?_
    | refine xw_block ?_
    | (refine ite_two ?_ ?_ <;> intro _ <;> first | (exfalso; omega) | skip)
    | refine ord_split (by kernel_rfl) ?_
    | (refine xw_ret ?_ <;> try simp only [sq, bl, LQ])
    | ((first | refine xw_reg ?_ | refine xw_regd ?_ | refine xw_if ?_ | refine xw_skip ?_ | refine xw_exit ?_ | refine xw_label ?_ | refine post_ret ?_ | refine post_normal ?_ | refine postE_ret ?_ | refine postE_normal ?_) <;> simp (config := { maxSteps := 3000000 }) (disch := first | assumption | omega | exact VG.okg (by assumption) | (simp only [List.length_set, List.length_append, List.length_cons, List.length_nil, List.length_replicate]; omega)) only [go_sem, ↓reduceIte, Int.reduceLE, Int.reduceLT, Int.reduceToNat, Int.reduceNeg, Int.reduceAdd, Int.reduceSub, Int.reduceMul, Int.reduceEq, Int.reduceNe, Nat.reduceEqDiff, Nat.reduceAdd, Nat.reduceSub, Nat.reduceMul, Nat.reduceLT, Nat.reduceLeDiff, Nat.reduceBEq, Nat.reduceBNe, Try.results10, hdraw, hp, hs, hd, decide_true, hte, hDt])
    | (((first | refine at_region ?_ | refine at_out ?_ | refine at_cond ?_); split) <;> first | (exfalso; omega; done) | simp (config := { maxSteps := 3000000 }) (disch := first | assumption | omega | exact VG.okg (by assumption) | (simp only [List.length_set, List.length_append, List.length_cons, List.length_nil, List.length_replicate]; omega)) only [go_sem, ↓reduceIte, Int.reduceLE, Int.reduceLT, Int.reduceToNat, Int.reduceNeg, Int.reduceAdd, Int.reduceSub, Int.reduceMul, Int.reduceEq, Int.reduceNe, Nat.reduceEqDiff, Nat.reduceAdd, Nat.reduceSub, Nat.reduceMul, Nat.reduceLT, Nat.reduceLeDiff, Nat.reduceBEq, Nat.reduceBNe, Try.results10, hdraw, hp, hs, hd, decide_true, hte, hDt] | skip))
  refine xw_loopR (fun (i : Int) s => s.ρ 3 = LI l ∧ s.ρ 4 = LI D ∧ s.ρ 10 = .ptr 10 0 0 0 ∧ s.m 10 = some (.box 0 [I 16, .i (qe (csL l))]) ∧ s.ρ 11 = I i ∧ 0 ≤ i ∧ i ≤ l.length) (fun i => (l.length - i).toNat) 0 ?_ ?_
  · refine ⟨rfl, ?_, rfl, rfl, rfl, by omega, by omega⟩
    all_goals (simp [upd]; done)
  rintro i ⟨ρ, m⟩ ⟨e3, e4, e10, m10, e11, g0, g1⟩
  simp only at e3 e4 e10 m10 e11 g0 g1
  by_cases hi : i < l.length
  · have hgi := getI l i.toNat (by omega)
    have hgd := getI D i.toNat (by omega)
    have hpi := hpath i g0 hi
    rw [if_pos (hpos i g0 hi)] at hpi
    have hpl := hplen i g0 hi
    have hbd := hbdD i g0 hi
    generalize pathL 16 (csL l) (l.getD 0 0) (l.getD i.toNat 0) = p at hpi hpl
    generalize l.getD i.toNat 0 = v at *
    generalize D.getD i.toNat 0 = d at *
    have hz : (p.length : Int) - 1 = d := by omega
    repeat' (first
      | refine xw_seq ?_
      | refine xw_block ?_
      | (refine ite_two ?_ ?_ <;> intro _ <;> first | (exfalso; omega) | skip)
      | refine ord_split (by kernel_rfl) ?_
      | (refine xw_ret ?_ <;> try simp only [sq, bl, LQ])
      | ((first | refine xw_reg ?_ | refine xw_regd ?_ | refine xw_if ?_ | refine xw_skip ?_ | refine xw_exit ?_ | refine xw_label ?_ | refine post_ret ?_ | refine post_normal ?_ | refine postE_ret ?_ | refine postE_normal ?_) <;> simp (config := { maxSteps := 3000000 }) (disch := first | assumption | omega | exact VG.okg (by assumption) | (simp only [List.length_set, List.length_append, List.length_cons, List.length_nil, List.length_replicate]; omega)) only [go_sem, ↓reduceIte, Int.reduceLE, Int.reduceLT, Int.reduceToNat, Int.reduceNeg, Int.reduceAdd, Int.reduceSub, Int.reduceMul, Int.reduceEq, Int.reduceNe, Nat.reduceEqDiff, Nat.reduceAdd, Nat.reduceSub, Nat.reduceMul, Nat.reduceLT, Nat.reduceLeDiff, Nat.reduceBEq, Nat.reduceBNe, Try.results10, e3, e4, e10, m10, e11, hgi, hgd, hg0, hpi, hz])
      | (((first | refine at_region ?_ | refine at_out ?_ | refine at_cond ?_); split) <;> first | (exfalso; omega; done) | simp (config := { maxSteps := 3000000 }) (disch := first | assumption | omega | exact VG.okg (by assumption) | (simp only [List.length_set, List.length_append, List.length_cons, List.length_nil, List.length_replicate]; omega)) only [go_sem, ↓reduceIte, Int.reduceLE, Int.reduceLT, Int.reduceToNat, Int.reduceNeg, Int.reduceAdd, Int.reduceSub, Int.reduceMul, Int.reduceEq, Int.reduceNe, Nat.reduceEqDiff, Nat.reduceAdd, Nat.reduceSub, Nat.reduceMul, Nat.reduceLT, Nat.reduceLeDiff, Nat.reduceBEq, Nat.reduceBNe, Try.results10, e3, e4, e10, m10, e11, hgi, hgd, hg0, hpi, hz] | skip))
    exact ⟨by omega, by omega, by omega⟩
  repeat' (first
    | refine xw_seq ?_
    | refine xw_block ?_
    | (refine ite_two ?_ ?_ <;> intro _ <;> first | (exfalso; omega) | skip)
    | refine ord_split (by kernel_rfl) ?_
    | (refine xw_ret ?_ <;> try simp only [sq, bl, LQ])
    | ((first | refine xw_reg ?_ | refine xw_regd ?_ | refine xw_if ?_ | refine xw_skip ?_ | refine xw_exit ?_ | refine xw_label ?_ | refine post_ret ?_ | refine post_normal ?_ | refine postE_ret ?_ | refine postE_normal ?_) <;> simp (config := { maxSteps := 3000000 }) (disch := first | assumption | omega | exact VG.okg (by assumption) | (simp only [List.length_set, List.length_append, List.length_cons, List.length_nil, List.length_replicate]; omega)) only [go_sem, ↓reduceIte, Int.reduceLE, Int.reduceLT, Int.reduceToNat, Int.reduceNeg, Int.reduceAdd, Int.reduceSub, Int.reduceMul, Int.reduceEq, Int.reduceNe, Nat.reduceEqDiff, Nat.reduceAdd, Nat.reduceSub, Nat.reduceMul, Nat.reduceLT, Nat.reduceLeDiff, Nat.reduceBEq, Nat.reduceBNe, Try.results10, e3, e4, e10, m10, e11])
    | (((first | refine at_region ?_ | refine at_out ?_ | refine at_cond ?_); split) <;> first | (exfalso; omega; done) | simp (config := { maxSteps := 3000000 }) (disch := first | assumption | omega | exact VG.okg (by assumption) | (simp only [List.length_set, List.length_append, List.length_cons, List.length_nil, List.length_replicate]; omega)) only [go_sem, ↓reduceIte, Int.reduceLE, Int.reduceLT, Int.reduceToNat, Int.reduceNeg, Int.reduceAdd, Int.reduceSub, Int.reduceMul, Int.reduceEq, Int.reduceNe, Nat.reduceEqDiff, Nat.reduceAdd, Nat.reduceSub, Nat.reduceMul, Nat.reduceLT, Nat.reduceLeDiff, Nat.reduceBEq, Nat.reduceBNe, Try.results10, e3, e4, e10, m10, e11] | skip))
end Go.Proofs.Ytagpdfbgimnljaa.X
