/- What functions compute: the depths of a tour. -/
import Derived.Test.YteknfomddncboaaC79
set_option linter.unusedSimpArgs false
set_option linter.unusedVariables false
set_option maxHeartbeats 8000000
set_option maxRecDepth 100000
namespace Go.Proofs.Yteknfomddncboaa.X
open Go Go.Proofs
/-- Along a tree. -/
structure AW (n : Int) (es : List (Int × Int)) (l : List Int) : Prop where
  ok : ∀ e ∈ es, okE n e
  n0 : 0 ≤ n
  n16 : n ≤ 16
  tree : Tree n es
  walk : Walk es l
  inn : ∀ x ∈ l, inN n x
noncomputable def dpL (n : Int) (es : List (Int × Int)) (l : List Int) : List Int := l.map (dst n es (l.getD 0 0))
theorem dpL_len (n : Int) (es : List (Int × Int)) (l : List Int) : (dpL n es l).length = l.length := by simp [dpL]
theorem dpL_get {n : Int} {es : List (Int × Int)} {l : List Int} {i : Nat} (h : i < l.length) : (dpL n es l).getD i 0 = dst n es (l.getD 0 0) (l.getD i 0) := by simp [dpL, h]
theorem AW.bd {n : Int} {es : List (Int × Int)} {l : List Int} (h : AW n es l) {i : Nat} (hi : i < l.length) : 0 ≤ dst n es (l.getD 0 0) (l.getD i 0) ∧ dst n es (l.getD 0 0) (l.getD i 0) < 16 := by
  have hc := h.walk.conn i hi
  have h1 := (dst_spec (n := n) h.ok hc).1
  have h2 := dst_bound (n := n) h.ok h.n0 hc (h.inn _ (getD_mem hi))
  have := h.n16
  omega
theorem idxOf_le_at : ∀ {xs : List Int} {i : Nat} (h : i < xs.length), xs.idxOf xs[i] ≤ i
  | [], i, h => by simp at h
  | y :: r, 0, h => by simp
  | y :: r, i + 1, h => by
    have h' : i < r.length := by simpa using h
    have ih := idxOf_le_at (xs := r) (i := i) h'
    have e : (y :: r)[i + 1] = r[i] := rfl
    rw [e, List.idxOf_cons]
    cases hh : (y == r[i]) <;> simp
    exact ih
theorem c_TourDepths {n : Int} {es : List (Int × Int)} {l : List Int} (h : TV l) (ha : AW n es l) : KP 42 [LI l] [] = some (.tup [.ref 2000 0 0 l.length, B true], [], [.arr 0 1 ((dpL n es l).map encI)]) := by
  have hl31 := h.l31
  have hv := c_TourValid l (by omega)
  rw [decide_eq_true h] at hv
  have hDl := dpL_len n es l
  refine xw_call (fn := Try.f42) rfl Try.func42 rfl ⟨Nat.le_of_ble_eq_true rfl, rfl, rfl⟩ ?_
  repeat' (first
    | refine xw_seq ?_
    | refine xw_block ?_
    | (refine ite_two ?_ ?_ <;> intro _ <;> first | (exfalso; omega) | skip)
    | refine ord_split (by kernel_rfl) ?_
    | (refine xw_ret ?_ <;> try simp only [sq, bl, LQ])
    | ((first | refine xw_reg ?_ | refine xw_regd ?_ | refine xw_if ?_ | refine xw_skip ?_ | refine xw_exit ?_ | refine xw_label ?_ | refine post_ret ?_ | refine post_normal ?_ | refine postE_ret ?_ | refine postE_normal ?_) <;> simp (config := { maxSteps := 3000000 }) (disch := first | assumption | omega | exact VG.okg (by assumption) | (simp only [List.length_set, List.length_append, List.length_cons, List.length_nil, List.length_replicate]; omega)) only [go_sem, ↓reduceIte, Int.reduceLE, Int.reduceLT, Int.reduceToNat, Int.reduceNeg, Int.reduceAdd, Int.reduceSub, Int.reduceMul, Int.reduceEq, Int.reduceNe, Nat.reduceEqDiff, Nat.reduceAdd, Nat.reduceSub, Nat.reduceMul, Nat.reduceLT, Nat.reduceLeDiff, Nat.reduceBEq, Nat.reduceBNe, Try.results42, hv])
    | (((first | refine at_region ?_ | refine at_out ?_ | refine at_cond ?_); split) <;> first | (exfalso; omega; done) | simp (config := { maxSteps := 3000000 }) (disch := first | assumption | omega | exact VG.okg (by assumption) | (simp only [List.length_set, List.length_append, List.length_cons, List.length_nil, List.length_replicate]; omega)) only [go_sem, ↓reduceIte, Int.reduceLE, Int.reduceLT, Int.reduceToNat, Int.reduceNeg, Int.reduceAdd, Int.reduceSub, Int.reduceMul, Int.reduceEq, Int.reduceNe, Nat.reduceEqDiff, Nat.reduceAdd, Nat.reduceSub, Nat.reduceMul, Nat.reduceLT, Nat.reduceLeDiff, Nat.reduceBEq, Nat.reduceBNe, Try.results42, hv] | skip))
  refine xw_loopR (fun (u : Int × Nat) s => s.m 11 = some (.arr u.2 1 (((dpL n es l).take u.1.toNat).map encI)) ∧ s.ρ 4 = .ref 11 u.2 0 u.1.toNat ∧ s.ρ 0 = LI l ∧ s.ρ 12 = LI l ∧ s.ρ 13 = I (l.length : Int) ∧ s.ρ 14 = I u.1 ∧ 0 ≤ u.1 ∧ u.1 ≤ l.length) (fun u => (l.length - u.1).toNat) (0, 0) ?_ ?_
  · exact ⟨rfl, rfl, rfl, rfl, rfl, rfl, by simp, by simp⟩
  rintro ⟨i, w⟩ ⟨ρ, m⟩ ⟨m11, e4, e0, e12, e13, e14, g0, g1⟩
  simp only at m11 e4 e0 e12 e13 e14 g0 g1
  have htl : ((dpL n es l).take i.toNat).length = i.toNat := by rw [List.length_take]; omega
  by_cases hi : i < l.length
  rotate_left
  · rw [take_all (by omega)] at m11
    have hit : i.toNat = l.length := by omega
    repeat' (first
      | refine xw_seq ?_
      | refine xw_block ?_
      | (refine ite_two ?_ ?_ <;> intro _ <;> first | (exfalso; omega) | skip)
      | refine ord_split (by kernel_rfl) ?_
      | (refine xw_ret ?_ <;> try simp only [sq, bl, LQ])
      | ((first | refine xw_reg ?_ | refine xw_regd ?_ | refine xw_if ?_ | refine xw_skip ?_ | refine xw_exit ?_ | refine xw_label ?_ | refine post_ret ?_ | refine post_normal ?_ | refine postE_ret ?_ | refine postE_normal ?_) <;> simp (config := { maxSteps := 3000000 }) (disch := first | assumption | omega | exact VG.okg (by assumption) | (simp only [List.length_set, List.length_append, List.length_cons, List.length_nil, List.length_replicate]; omega)) only [go_sem, ↓reduceIte, Int.reduceLE, Int.reduceLT, Int.reduceToNat, Int.reduceNeg, Int.reduceAdd, Int.reduceSub, Int.reduceMul, Int.reduceEq, Int.reduceNe, Nat.reduceEqDiff, Nat.reduceAdd, Nat.reduceSub, Nat.reduceMul, Nat.reduceLT, Nat.reduceLeDiff, Nat.reduceBEq, Nat.reduceBNe, Try.results42, m11, e4, e0, e12, e13, e14, hit])
      | (((first | refine at_region ?_ | refine at_out ?_ | refine at_cond ?_); split) <;> first | (exfalso; omega; done) | simp (config := { maxSteps := 3000000 }) (disch := first | assumption | omega | exact VG.okg (by assumption) | (simp only [List.length_set, List.length_append, List.length_cons, List.length_nil, List.length_replicate]; omega)) only [go_sem, ↓reduceIte, Int.reduceLE, Int.reduceLT, Int.reduceToNat, Int.reduceNeg, Int.reduceAdd, Int.reduceSub, Int.reduceMul, Int.reduceEq, Int.reduceNe, Nat.reduceEqDiff, Nat.reduceAdd, Nat.reduceSub, Nat.reduceMul, Nat.reduceLT, Nat.reduceLeDiff, Nat.reduceBEq, Nat.reduceBNe, Try.results42, m11, e4, e0, e12, e13, e14, hit] | skip))
  have hgi := getI l i.toNat (by omega)
  have hix := c_indexI l (l.getD i.toNat 0) (by omega)
  have hmem := getD_mem (d := 0) (show i.toNat < l.length by omega)
  have hsn := take_int 0 g0 (show i < (dpL n es l).length by omega)
  rw [dpL_get (by omega)] at hsn
  by_cases hz : i = 0
  · subst hz
    have hgi' := getI l 0 (by omega)
    have hix' := c_indexI l (l.getD 0 0) (by omega)
    have hd0 : dst n es (l.getD 0 0) (l.getD (0 : Int).toNat 0) = 0 := dst_self ha.ok ha.n0
    rw [hd0] at hsn
    have hsn' : (dpL n es l).take 1 = [0] := by simpa using hsn
    generalize findI l (l.getD 0 0) = f at hix'
    repeat' (first
      | refine xw_seq ?_
      | refine xw_block ?_
      | (refine ite_two ?_ ?_ <;> intro _ <;> first | (exfalso; omega) | skip)
      | refine ord_split (by kernel_rfl) ?_
      | (refine xw_ret ?_ <;> try simp only [sq, bl, LQ])
      | ((first | refine xw_reg ?_ | refine xw_regd ?_ | refine xw_if ?_ | refine xw_skip ?_ | refine xw_exit ?_ | refine xw_label ?_ | refine post_ret ?_ | refine post_normal ?_ | refine postE_ret ?_ | refine postE_normal ?_) <;> simp (config := { maxSteps := 3000000 }) (disch := first | assumption | omega | exact VG.okg (by assumption) | (simp only [List.length_set, List.length_append, List.length_cons, List.length_nil, List.length_replicate]; omega)) only [go_sem, ↓reduceIte, Int.reduceLE, Int.reduceLT, Int.reduceToNat, Int.reduceNeg, Int.reduceAdd, Int.reduceSub, Int.reduceMul, Int.reduceEq, Int.reduceNe, Nat.reduceEqDiff, Nat.reduceAdd, Nat.reduceSub, Nat.reduceMul, Nat.reduceLT, Nat.reduceLeDiff, Nat.reduceBEq, Nat.reduceBNe, Try.results42, m11, e4, e0, e12, e13, e14, hgi', hix'])
      | (((first | refine at_region ?_ | refine at_out ?_ | refine at_cond ?_); split) <;> first | (exfalso; omega; done) | simp (config := { maxSteps := 3000000 }) (disch := first | assumption | omega | exact VG.okg (by assumption) | (simp only [List.length_set, List.length_append, List.length_cons, List.length_nil, List.length_replicate]; omega)) only [go_sem, ↓reduceIte, Int.reduceLE, Int.reduceLT, Int.reduceToNat, Int.reduceNeg, Int.reduceAdd, Int.reduceSub, Int.reduceMul, Int.reduceEq, Int.reduceNe, Nat.reduceEqDiff, Nat.reduceAdd, Nat.reduceSub, Nat.reduceMul, Nat.reduceLT, Nat.reduceLeDiff, Nat.reduceBEq, Nat.reduceBNe, Try.results42, m11, e4, e0, e12, e13, e14, hgi', hix'] | skip))
    exact ⟨1, by rw [show (1 : Int).toNat = 1 from rfl, hsn']; rfl, rfl, rfl, by omega, by omega, by omega⟩
  by_cases hnew : l.getD i.toNat 0 ∈ l.take i.toNat
  · obtain ⟨j, hj, hje⟩ := List.mem_iff_getElem.1 hnew
    rw [List.length_take] at hj
    have hf : findI l (l.getD i.toNat 0) = (l.idxOf (l.getD i.toNat 0) : Int) := if_pos hmem
    have hk1 : l.idxOf (l.getD i.toNat 0) < i.toNat := by
      have h1 : l.idxOf (l.getD i.toNat 0) ≤ j := by
        rw [List.getElem_take] at hje
        rw [← hje]
        exact idxOf_le_at (by omega)
      omega
    have hk2 : l.getD (l.idxOf (l.getD i.toNat 0)) 0 = l.getD i.toNat 0 := by
      have hlt := List.idxOf_lt_length_iff.2 hmem
      rw [List.getD_eq_getElem?_getD, List.getElem?_eq_getElem hlt, Option.getD_some]
      exact List.getElem_idxOf hlt
    have hDf : ((dpL n es l).take i.toNat).getD (l.idxOf (l.getD i.toNat 0)) 0 = dst n es (l.getD 0 0) (l.getD i.toNat 0) := by
      rw [List.getD_eq_getElem?_getD, List.getElem?_take_of_lt hk1, ← List.getD_eq_getElem?_getD, dpL_get (by omega), hk2]
    have hgf := getI ((dpL n es l).take i.toNat) (l.idxOf (l.getD i.toNat 0)) (by omega)
    rw [hDf] at hgf
    rw [hf] at hix
    generalize hfe : l.idxOf (l.getD i.toNat 0) = f at *
    generalize dst n es (l.getD 0 0) (l.getD i.toNat 0) = d at *
    generalize l.getD i.toNat 0 = x at *
    repeat' (first
      | refine xw_seq ?_
      | refine xw_block ?_
      | (refine ite_two ?_ ?_ <;> intro _ <;> first | (exfalso; omega) | skip)
      | refine ord_split (by kernel_rfl) ?_
      | (refine xw_ret ?_ <;> try simp only [sq, bl, LQ])
      | ((first | refine xw_reg ?_ | refine xw_regd ?_ | refine xw_if ?_ | refine xw_skip ?_ | refine xw_exit ?_ | refine xw_label ?_ | refine post_ret ?_ | refine post_normal ?_ | refine postE_ret ?_ | refine postE_normal ?_) <;> simp (config := { maxSteps := 3000000 }) (disch := first | assumption | omega | exact VG.okg (by assumption) | (simp only [List.length_set, List.length_append, List.length_cons, List.length_nil, List.length_replicate]; omega)) only [go_sem, ↓reduceIte, Int.reduceLE, Int.reduceLT, Int.reduceToNat, Int.reduceNeg, Int.reduceAdd, Int.reduceSub, Int.reduceMul, Int.reduceEq, Int.reduceNe, Nat.reduceEqDiff, Nat.reduceAdd, Nat.reduceSub, Nat.reduceMul, Nat.reduceLT, Nat.reduceLeDiff, Nat.reduceBEq, Nat.reduceBNe, Try.results42, m11, e4, e0, e12, e13, e14, hgi, hix, hgf, htl])
      | (((first | refine at_region ?_ | refine at_out ?_ | refine at_cond ?_); split) <;> first | (exfalso; omega; done) | simp (config := { maxSteps := 3000000 }) (disch := first | assumption | omega | exact VG.okg (by assumption) | (simp only [List.length_set, List.length_append, List.length_cons, List.length_nil, List.length_replicate]; omega)) only [go_sem, ↓reduceIte, Int.reduceLE, Int.reduceLT, Int.reduceToNat, Int.reduceNeg, Int.reduceAdd, Int.reduceSub, Int.reduceMul, Int.reduceEq, Int.reduceNe, Nat.reduceEqDiff, Nat.reduceAdd, Nat.reduceSub, Nat.reduceMul, Nat.reduceLT, Nat.reduceLeDiff, Nat.reduceBEq, Nat.reduceBNe, Try.results42, m11, e4, e0, e12, e13, e14, hgi, hix, hgf, htl] | skip))
    exact ⟨i + 1, hsn.symm, by omega, rfl, by omega, by omega, by omega⟩
  · have hf : findI l (l.getD i.toNat 0) = i := by
      have := findI_at (xs := l) (x := l.getD i.toNat 0) (i := i.toNat) (by simp [show i.toNat < l.length by omega]) hnew
      omega
    rw [hf] at hix
    have hi1 : (i - 1).toNat + 1 = i.toNat := by omega
    have hst := walk_new ha.ok ha.n0 ha.tree ha.walk (j := (i - 1).toNat) (by omega) (by rw [hi1]; exact hnew)
    rw [hi1] at hst
    have hbd := ha.bd (i := (i - 1).toNat) (by omega)
    have hDp : ((dpL n es l).take i.toNat).getD (i - 1).toNat 0 = dst n es (l.getD 0 0) (l.getD (i - 1).toNat 0) := by
      rw [List.getD_eq_getElem?_getD, List.getElem?_take_of_lt (show (i - 1).toNat < i.toNat by omega), ← List.getD_eq_getElem?_getD, dpL_get (by omega)]
    have hgp := getI ((dpL n es l).take i.toNat) (i - 1).toNat (by omega)
    rw [hDp] at hgp
    rw [hst] at hsn
    generalize dst n es (l.getD 0 0) (l.getD (i - 1).toNat 0) = d at *
    generalize l.getD i.toNat 0 = x at *
    repeat' (first
      | refine xw_seq ?_
      | refine xw_block ?_
      | (refine ite_two ?_ ?_ <;> intro _ <;> first | (exfalso; omega) | skip)
      | refine ord_split (by kernel_rfl) ?_
      | (refine xw_ret ?_ <;> try simp only [sq, bl, LQ])
      | ((first | refine xw_reg ?_ | refine xw_regd ?_ | refine xw_if ?_ | refine xw_skip ?_ | refine xw_exit ?_ | refine xw_label ?_ | refine post_ret ?_ | refine post_normal ?_ | refine postE_ret ?_ | refine postE_normal ?_) <;> simp (config := { maxSteps := 3000000 }) (disch := first | assumption | omega | exact VG.okg (by assumption) | (simp only [List.length_set, List.length_append, List.length_cons, List.length_nil, List.length_replicate]; omega)) only [go_sem, ↓reduceIte, Int.reduceLE, Int.reduceLT, Int.reduceToNat, Int.reduceNeg, Int.reduceAdd, Int.reduceSub, Int.reduceMul, Int.reduceEq, Int.reduceNe, Nat.reduceEqDiff, Nat.reduceAdd, Nat.reduceSub, Nat.reduceMul, Nat.reduceLT, Nat.reduceLeDiff, Nat.reduceBEq, Nat.reduceBNe, Try.results42, m11, e4, e0, e12, e13, e14, hgi, hix, hgp, htl])
      | (((first | refine at_region ?_ | refine at_out ?_ | refine at_cond ?_); split) <;> first | (exfalso; omega; done) | simp (config := { maxSteps := 3000000 }) (disch := first | assumption | omega | exact VG.okg (by assumption) | (simp only [List.length_set, List.length_append, List.length_cons, List.length_nil, List.length_replicate]; omega)) only [go_sem, ↓reduceIte, Int.reduceLE, Int.reduceLT, Int.reduceToNat, Int.reduceNeg, Int.reduceAdd, Int.reduceSub, Int.reduceMul, Int.reduceEq, Int.reduceNe, Nat.reduceEqDiff, Nat.reduceAdd, Nat.reduceSub, Nat.reduceMul, Nat.reduceLT, Nat.reduceLeDiff, Nat.reduceBEq, Nat.reduceBNe, Try.results42, m11, e4, e0, e12, e13, e14, hgi, hix, hgp, htl] | skip))
    exact ⟨i + 1, hsn.symm, by omega, rfl, by omega, by omega, by omega⟩
end Go.Proofs.Yteknfomddncboaa.X
