/- What functions compute: blocks and their nodes, as the reference has them. -/
import Derived.Test.YtbaholclcfpknaaC40
import Derived.Test.YtbaholclcfpknaaC47
import Derived.Test.YtbaholclcfpknaaC43
import Derived.Test.YtbaholclcfpknaaC19
set_option linter.unusedSimpArgs false
set_option linter.unusedVariables false
set_option maxHeartbeats 8000000
set_option maxRecDepth 100000
namespace Go.Proofs.Ytbaholclcfpknaa.X
open Go Go.Proofs

theorem c_l5Blocks (n : Int) (es : List (Int × Int)) (hG : OKG n es) (hnd : es.Nodup) : KP 89 [GL n es] [] = some (.ref 2000 0 0 (blocksL es).length, [], [.arr 0 1 ((blocksL es).map encLE)]) := by
  have hl := hG.len
  have hbk := c_l5Labels n es hG hnd
  have hbl := blkL_length es
  refine xw_call (fn := Try.f89) rfl Try.func89 rfl ⟨Nat.le_of_ble_eq_true rfl, rfl, rfl⟩ ?_
  repeat' (first
    | refine xw_seq ?_
    | refine xw_block ?_
    | (refine ite_two ?_ ?_ <;> intro _ <;> first | (exfalso; omega) | skip)
    | refine ord_split (by kernel_rfl) ?_
    | (refine xw_ret ?_ <;> try simp only [sq, bl, LQ])
    | ((first | refine xw_reg ?_ | refine xw_regd ?_ | refine xw_if ?_ | refine xw_skip ?_ | refine xw_exit ?_ | refine xw_label ?_ | refine post_ret ?_ | refine post_normal ?_ | refine postE_ret ?_ | refine postE_normal ?_) <;> simp (config := { maxSteps := 3000000 }) (disch := first | assumption | omega | exact VG.okg (by assumption) | (simp only [List.length_set, List.length_append, List.length_cons, List.length_nil, List.length_replicate]; omega)) only [go_sem, ↓reduceIte, Int.reduceLE, Int.reduceLT, Int.reduceToNat, Int.reduceNeg, Int.reduceAdd, Int.reduceSub, Int.reduceMul, Int.reduceEq, Int.reduceNe, Nat.reduceEqDiff, Nat.reduceAdd, Nat.reduceSub, Nat.reduceMul, Nat.reduceLT, Nat.reduceLeDiff, Nat.reduceBEq, Nat.reduceBNe, Try.results89, hbk])
    | (((first | refine at_region ?_ | refine at_out ?_ | refine at_cond ?_); split) <;> first | (exfalso; omega; done) | simp (config := { maxSteps := 3000000 }) (disch := first | assumption | omega | exact VG.okg (by assumption) | (simp only [List.length_set, List.length_append, List.length_cons, List.length_nil, List.length_replicate]; omega)) only [go_sem, ↓reduceIte, Int.reduceLE, Int.reduceLT, Int.reduceToNat, Int.reduceNeg, Int.reduceAdd, Int.reduceSub, Int.reduceMul, Int.reduceEq, Int.reduceNe, Nat.reduceEqDiff, Nat.reduceAdd, Nat.reduceSub, Nat.reduceMul, Nat.reduceLT, Nat.reduceLeDiff, Nat.reduceBEq, Nat.reduceBNe, Try.results89, hbk] | skip))
  refine xw_loopR (fun (u : Int × Nat) s => s.m 8 = some (.arr u.2 1 ((blocksT es u.1).map encLE)) ∧ s.ρ 3 = .ref 8 u.2 0 (blocksT es u.1).length ∧ s.ρ 4 = LI (blkL es) ∧ s.ρ 1 = .ptr 1 0 0 0 ∧ s.m 1 = some (.box 0 [I n, LE es]) ∧ s.ρ 5 = I u.1 ∧ 0 ≤ u.1 ∧ u.1 ≤ es.length) (fun u => (es.length - u.1).toNat) (0, 0) ?_ ?_
  · exact ⟨rfl, rfl, rfl, rfl, rfl, rfl, by simp, by simp only; omega⟩
  rintro ⟨i, v⟩ ⟨ρ, m⟩ ⟨m8, h3, h4, h1, m1, h5, g0, g1⟩
  simp only at m8 h3 h4 h1 m1 h5 g0 g1
  by_cases hi : i < es.length
  rotate_left
  · have he : i = es.length := by omega
    subst he
    have e : blocksT es es.length = blocksL es := rfl
    rw [e] at m8 h3
    repeat' (first
      | refine xw_seq ?_
      | refine xw_block ?_
      | (refine ite_two ?_ ?_ <;> intro _ <;> first | (exfalso; omega) | skip)
      | refine ord_split (by kernel_rfl) ?_
      | (refine xw_ret ?_ <;> try simp only [sq, bl, LQ])
      | ((first | refine xw_reg ?_ | refine xw_regd ?_ | refine xw_if ?_ | refine xw_skip ?_ | refine xw_exit ?_ | refine xw_label ?_ | refine post_ret ?_ | refine post_normal ?_ | refine postE_ret ?_ | refine postE_normal ?_) <;> simp (config := { maxSteps := 3000000 }) (disch := first | assumption | omega | exact VG.okg (by assumption) | (simp only [List.length_set, List.length_append, List.length_cons, List.length_nil, List.length_replicate]; omega)) only [go_sem, ↓reduceIte, Int.reduceLE, Int.reduceLT, Int.reduceToNat, Int.reduceNeg, Int.reduceAdd, Int.reduceSub, Int.reduceMul, Int.reduceEq, Int.reduceNe, Nat.reduceEqDiff, Nat.reduceAdd, Nat.reduceSub, Nat.reduceMul, Nat.reduceLT, Nat.reduceLeDiff, Nat.reduceBEq, Nat.reduceBNe, Try.results89, m8, h3, h4, h1, m1, h5])
      | (((first | refine at_region ?_ | refine at_out ?_ | refine at_cond ?_); split) <;> first | (exfalso; omega; done) | simp (config := { maxSteps := 3000000 }) (disch := first | assumption | omega | exact VG.okg (by assumption) | (simp only [List.length_set, List.length_append, List.length_cons, List.length_nil, List.length_replicate]; omega)) only [go_sem, ↓reduceIte, Int.reduceLE, Int.reduceLT, Int.reduceToNat, Int.reduceNeg, Int.reduceAdd, Int.reduceSub, Int.reduceMul, Int.reduceEq, Int.reduceNe, Nat.reduceEqDiff, Nat.reduceAdd, Nat.reduceSub, Nat.reduceMul, Nat.reduceLT, Nat.reduceLeDiff, Nat.reduceBEq, Nat.reduceBNe, Try.results89, m8, h3, h4, h1, m1, h5] | skip))
  have hsn := blocksT_snoc (es := es) g0
  have hbt := blocksT_len (es := es) g0
  by_cases hk : (blkL es).getD i.toNat 0 = i
  rotate_left
  · rw [if_neg hk, List.append_nil] at hsn
    repeat' (first
      | refine xw_seq ?_
      | refine xw_block ?_
      | (refine ite_two ?_ ?_ <;> intro _ <;> first | (exfalso; omega) | skip)
      | refine ord_split (by kernel_rfl) ?_
      | (refine xw_ret ?_ <;> try simp only [sq, bl, LQ])
      | ((first | refine xw_reg ?_ | refine xw_regd ?_ | refine xw_if ?_ | refine xw_skip ?_ | refine xw_exit ?_ | refine xw_label ?_ | refine post_ret ?_ | refine post_normal ?_ | refine postE_ret ?_ | refine postE_normal ?_) <;> simp (config := { maxSteps := 3000000 }) (disch := first | assumption | omega | exact VG.okg (by assumption) | (simp only [List.length_set, List.length_append, List.length_cons, List.length_nil, List.length_replicate]; omega)) only [go_sem, ↓reduceIte, Int.reduceLE, Int.reduceLT, Int.reduceToNat, Int.reduceNeg, Int.reduceAdd, Int.reduceSub, Int.reduceMul, Int.reduceEq, Int.reduceNe, Nat.reduceEqDiff, Nat.reduceAdd, Nat.reduceSub, Nat.reduceMul, Nat.reduceLT, Nat.reduceLeDiff, Nat.reduceBEq, Nat.reduceBNe, Try.results89, m8, h3, h4, h1, m1, h5, hk])
      | (((first | refine at_region ?_ | refine at_out ?_ | refine at_cond ?_); split) <;> first | (exfalso; omega; done) | simp (config := { maxSteps := 3000000 }) (disch := first | assumption | omega | exact VG.okg (by assumption) | (simp only [List.length_set, List.length_append, List.length_cons, List.length_nil, List.length_replicate]; omega)) only [go_sem, ↓reduceIte, Int.reduceLE, Int.reduceLT, Int.reduceToNat, Int.reduceNeg, Int.reduceAdd, Int.reduceSub, Int.reduceMul, Int.reduceEq, Int.reduceNe, Nat.reduceEqDiff, Nat.reduceAdd, Nat.reduceSub, Nat.reduceMul, Nat.reduceLT, Nat.reduceLeDiff, Nat.reduceBEq, Nat.reduceBNe, Try.results89, m8, h3, h4, h1, m1, h5, hk] | skip))
    exact ⟨i + 1, by rw [hsn], by rw [hsn], rfl, by omega, by omega, by omega⟩
  rw [if_pos hk] at hsn
  repeat' (first
    | refine xw_seq ?_
    | refine xw_block ?_
    | (refine ite_two ?_ ?_ <;> intro _ <;> first | (exfalso; omega) | skip)
    | refine ord_split (by kernel_rfl) ?_
    | (refine xw_ret ?_ <;> try simp only [sq, bl, LQ])
    | ((first | refine xw_reg ?_ | refine xw_regd ?_ | refine xw_if ?_ | refine xw_skip ?_ | refine xw_exit ?_ | refine xw_label ?_ | refine post_ret ?_ | refine post_normal ?_ | refine postE_ret ?_ | refine postE_normal ?_) <;> simp (config := { maxSteps := 3000000 }) (disch := first | assumption | omega | exact VG.okg (by assumption) | (simp only [List.length_set, List.length_append, List.length_cons, List.length_nil, List.length_replicate]; omega)) only [go_sem, ↓reduceIte, Int.reduceLE, Int.reduceLT, Int.reduceToNat, Int.reduceNeg, Int.reduceAdd, Int.reduceSub, Int.reduceMul, Int.reduceEq, Int.reduceNe, Nat.reduceEqDiff, Nat.reduceAdd, Nat.reduceSub, Nat.reduceMul, Nat.reduceLT, Nat.reduceLeDiff, Nat.reduceBEq, Nat.reduceBNe, Try.results89, m8, h3, h4, h1, m1, h5, hk])
    | (((first | refine at_region ?_ | refine at_out ?_ | refine at_cond ?_); split) <;> first | (exfalso; omega; done) | simp (config := { maxSteps := 3000000 }) (disch := first | assumption | omega | exact VG.okg (by assumption) | (simp only [List.length_set, List.length_append, List.length_cons, List.length_nil, List.length_replicate]; omega)) only [go_sem, ↓reduceIte, Int.reduceLE, Int.reduceLT, Int.reduceToNat, Int.reduceNeg, Int.reduceAdd, Int.reduceSub, Int.reduceMul, Int.reduceEq, Int.reduceNe, Nat.reduceEqDiff, Nat.reduceAdd, Nat.reduceSub, Nat.reduceMul, Nat.reduceLT, Nat.reduceLeDiff, Nat.reduceBEq, Nat.reduceBNe, Try.results89, m8, h3, h4, h1, m1, h5, hk] | skip))
  generalize nv (m 23) = V
  refine xw_loopR (fun (u : Int × Nat) s => s.m 8 = some (.arr v 1 ((blocksT es i).map encLE)) ∧ s.ρ 3 = .ref 8 v 0 (blocksT es i).length ∧ s.ρ 4 = LI (blkL es) ∧ s.ρ 1 = .ptr 1 0 0 0 ∧ s.m 1 = some (.box 0 [I n, LE es]) ∧ s.ρ 5 = I i ∧
    s.m 23 = some (.arr u.2 2 ((blkE (es.take u.1.toNat) ((blkL es).take u.1.toNat) i).map encE)) ∧ s.ρ 6 = .ref 23 u.2 0 (blkE (es.take u.1.toNat) ((blkL es).take u.1.toNat) i).length ∧ s.ρ 7 = I u.1 ∧ 0 ≤ u.1 ∧ u.1 ≤ es.length) (fun u => (es.length - u.1).toNat) (0, V) ?_ ?_
  · exact ⟨m8, h3, h4, h1, m1, h5, rfl, rfl, rfl, by simp, by simp only; omega⟩
  rintro ⟨j, w⟩ ⟨ρ, m⟩ ⟨m8, h3, h4, h1, m1, h5, m23, h6, h7, f0, f1⟩
  simp only at m8 h3 h4 h1 m1 h5 m23 h6 h7 f0 f1
  by_cases hj : j < es.length
  · have hs2 := blkE_snoc (ls := blkL es) (k := i) f0 hj hbl
    have hb2 := blkE_len (es := es.take j.toNat) (ls := (blkL es).take j.toNat) (k := i)
    rw [List.length_take] at hb2
    by_cases hk2 : (blkL es).getD j.toNat 0 = i
    · rw [if_pos hk2] at hs2
      repeat' (first
        | refine xw_seq ?_
        | refine xw_block ?_
        | (refine ite_two ?_ ?_ <;> intro _ <;> first | (exfalso; omega) | skip)
        | refine ord_split (by kernel_rfl) ?_
        | (refine xw_ret ?_ <;> try simp only [sq, bl, LQ])
        | ((first | refine xw_reg ?_ | refine xw_regd ?_ | refine xw_if ?_ | refine xw_skip ?_ | refine xw_exit ?_ | refine xw_label ?_ | refine post_ret ?_ | refine post_normal ?_ | refine postE_ret ?_ | refine postE_normal ?_) <;> simp (config := { maxSteps := 3000000 }) (disch := first | assumption | omega | exact VG.okg (by assumption) | (simp only [List.length_set, List.length_append, List.length_cons, List.length_nil, List.length_replicate]; omega)) only [go_sem, ↓reduceIte, Int.reduceLE, Int.reduceLT, Int.reduceToNat, Int.reduceNeg, Int.reduceAdd, Int.reduceSub, Int.reduceMul, Int.reduceEq, Int.reduceNe, Nat.reduceEqDiff, Nat.reduceAdd, Nat.reduceSub, Nat.reduceMul, Nat.reduceLT, Nat.reduceLeDiff, Nat.reduceBEq, Nat.reduceBNe, Try.results89, m8, h3, h4, h1, m1, h5, m23, h6, h7, hk2])
        | (((first | refine at_region ?_ | refine at_out ?_ | refine at_cond ?_); split) <;> first | (exfalso; omega; done) | simp (config := { maxSteps := 3000000 }) (disch := first | assumption | omega | exact VG.okg (by assumption) | (simp only [List.length_set, List.length_append, List.length_cons, List.length_nil, List.length_replicate]; omega)) only [go_sem, ↓reduceIte, Int.reduceLE, Int.reduceLT, Int.reduceToNat, Int.reduceNeg, Int.reduceAdd, Int.reduceSub, Int.reduceMul, Int.reduceEq, Int.reduceNe, Nat.reduceEqDiff, Nat.reduceAdd, Nat.reduceSub, Nat.reduceMul, Nat.reduceLT, Nat.reduceLeDiff, Nat.reduceBEq, Nat.reduceBNe, Try.results89, m8, h3, h4, h1, m1, h5, m23, h6, h7, hk2] | skip))
      exact ⟨j + 1, hs2.symm, by rw [hs2, List.length_append]; rfl, rfl, by omega, by omega, by omega⟩
    · rw [if_neg hk2, List.append_nil] at hs2
      repeat' (first
        | refine xw_seq ?_
        | refine xw_block ?_
        | (refine ite_two ?_ ?_ <;> intro _ <;> first | (exfalso; omega) | skip)
        | refine ord_split (by kernel_rfl) ?_
        | (refine xw_ret ?_ <;> try simp only [sq, bl, LQ])
        | ((first | refine xw_reg ?_ | refine xw_regd ?_ | refine xw_if ?_ | refine xw_skip ?_ | refine xw_exit ?_ | refine xw_label ?_ | refine post_ret ?_ | refine post_normal ?_ | refine postE_ret ?_ | refine postE_normal ?_) <;> simp (config := { maxSteps := 3000000 }) (disch := first | assumption | omega | exact VG.okg (by assumption) | (simp only [List.length_set, List.length_append, List.length_cons, List.length_nil, List.length_replicate]; omega)) only [go_sem, ↓reduceIte, Int.reduceLE, Int.reduceLT, Int.reduceToNat, Int.reduceNeg, Int.reduceAdd, Int.reduceSub, Int.reduceMul, Int.reduceEq, Int.reduceNe, Nat.reduceEqDiff, Nat.reduceAdd, Nat.reduceSub, Nat.reduceMul, Nat.reduceLT, Nat.reduceLeDiff, Nat.reduceBEq, Nat.reduceBNe, Try.results89, m8, h3, h4, h1, m1, h5, m23, h6, h7, hk2])
        | (((first | refine at_region ?_ | refine at_out ?_ | refine at_cond ?_); split) <;> first | (exfalso; omega; done) | simp (config := { maxSteps := 3000000 }) (disch := first | assumption | omega | exact VG.okg (by assumption) | (simp only [List.length_set, List.length_append, List.length_cons, List.length_nil, List.length_replicate]; omega)) only [go_sem, ↓reduceIte, Int.reduceLE, Int.reduceLT, Int.reduceToNat, Int.reduceNeg, Int.reduceAdd, Int.reduceSub, Int.reduceMul, Int.reduceEq, Int.reduceNe, Nat.reduceEqDiff, Nat.reduceAdd, Nat.reduceSub, Nat.reduceMul, Nat.reduceLT, Nat.reduceLeDiff, Nat.reduceBEq, Nat.reduceBNe, Try.results89, m8, h3, h4, h1, m1, h5, m23, h6, h7, hk2] | skip))
      exact ⟨j + 1, hs2.symm, by rw [hs2], rfl, by omega, by omega, by omega⟩
  · rw [take_all (by omega), take_all (by omega)] at m23 h6
    repeat' (first
      | refine xw_seq ?_
      | refine xw_block ?_
      | (refine ite_two ?_ ?_ <;> intro _ <;> first | (exfalso; omega) | skip)
      | refine ord_split (by kernel_rfl) ?_
      | (refine xw_ret ?_ <;> try simp only [sq, bl, LQ])
      | ((first | refine xw_reg ?_ | refine xw_regd ?_ | refine xw_if ?_ | refine xw_skip ?_ | refine xw_exit ?_ | refine xw_label ?_ | refine post_ret ?_ | refine post_normal ?_ | refine postE_ret ?_ | refine postE_normal ?_) <;> simp (config := { maxSteps := 3000000 }) (disch := first | assumption | omega | exact VG.okg (by assumption) | (simp only [List.length_set, List.length_append, List.length_cons, List.length_nil, List.length_replicate]; omega)) only [go_sem, ↓reduceIte, Int.reduceLE, Int.reduceLT, Int.reduceToNat, Int.reduceNeg, Int.reduceAdd, Int.reduceSub, Int.reduceMul, Int.reduceEq, Int.reduceNe, Nat.reduceEqDiff, Nat.reduceAdd, Nat.reduceSub, Nat.reduceMul, Nat.reduceLT, Nat.reduceLeDiff, Nat.reduceBEq, Nat.reduceBNe, Try.results89, m8, h3, h4, h1, m1, h5, m23, h6, h7])
      | (((first | refine at_region ?_ | refine at_out ?_ | refine at_cond ?_); split) <;> first | (exfalso; omega; done) | simp (config := { maxSteps := 3000000 }) (disch := first | assumption | omega | exact VG.okg (by assumption) | (simp only [List.length_set, List.length_append, List.length_cons, List.length_nil, List.length_replicate]; omega)) only [go_sem, ↓reduceIte, Int.reduceLE, Int.reduceLT, Int.reduceToNat, Int.reduceNeg, Int.reduceAdd, Int.reduceSub, Int.reduceMul, Int.reduceEq, Int.reduceNe, Nat.reduceEqDiff, Nat.reduceAdd, Nat.reduceSub, Nat.reduceMul, Nat.reduceLT, Nat.reduceLeDiff, Nat.reduceBEq, Nat.reduceBNe, Try.results89, m8, h3, h4, h1, m1, h5, m23, h6, h7] | skip))
    exact ⟨i + 1, by rw [hsn], by rw [hsn, List.length_append]; rfl, rfl, by omega, by omega, by omega⟩

theorem blkL_idem {es : List (Int × Int)} {i : Int} (h : 0 ≤ i ∧ i < es.length) : (0 ≤ (blkL es).getD i.toNat 0 ∧ (blkL es).getD i.toNat 0 < es.length) ∧ (blkL es).getD ((blkL es).getD i.toNat 0).toNat 0 = (blkL es).getD i.toNat 0 := by
  obtain ⟨k, rfl⟩ := Int.eq_ofNat_of_zero_le h.1
  have hg : (blkL es).getD (k : Int).toNat 0 = (least (relL es) k : Nat) := by rw [blkL, Int.toNat_natCast]; exact lab_get (by omega)
  obtain ⟨l1, l2, -⟩ := least_spec (relL es) k
  rw [hg]
  refine ⟨by omega, ?_⟩
  rw [← hg]
  exact (blk_iff (by rw [hg]; omega) h).2 (by rw [hg]; exact l2)
theorem mem_blkE {es : List (Int × Int)} {ls : List Int} {k : Int} {f : Int × Int} : f ∈ blkE es ls k ↔ ∃ i : Nat, es[i]? = some f ∧ ls[i]? = some k := by
  unfold blkE
  rw [List.mem_filterMap]
  constructor
  · rintro ⟨q, hq, h⟩
    split at h
    · rename_i e
      cases h
      obtain ⟨i, hi⟩ := List.mem_iff_getElem?.1 hq
      rw [List.getElem?_zip_eq_some] at hi
      exact ⟨i, hi.1, by rw [hi.2, e]⟩
    · cases h
  · rintro ⟨i, h1, h2⟩
    exact ⟨(f, k), List.mem_iff_getElem?.2 ⟨i, List.getElem?_zip_eq_some.2 ⟨h1, h2⟩⟩, by simp⟩
theorem mem_blk {es : List (Int × Int)} (hnd : es.Nodup) {e : Int × Int} (he : e ∈ es) {k : Int} : e ∈ blkE es (blkL es) k ↔ (blkL es).getD (findE es e).toNat 0 = k := by
  obtain ⟨f0, f1, f2⟩ := findE_lt he
  have hbl := blkL_length es
  rw [mem_blkE]
  constructor
  · rintro ⟨i, h1, h2⟩
    have hi : i < es.length := (List.getElem?_eq_some_iff.1 h1).1
    have : (i : Int) = findE es e := eAt_inj hnd (by omega) ⟨f0, f1⟩ (by rw [f2]; simp [eAt, h1])
    rw [← this]
    simp [h2]
  · intro h
    refine ⟨(findE es e).toNat, ?_, ?_⟩
    · have : (findE es e).toNat < es.length := by omega
      have h2 := f2
      simp only [eAt, List.getD, List.getElem?_eq_getElem this, Option.getD_some] at h2
      rw [List.getElem?_eq_getElem this, h2]
    · have : (findE es e).toNat < (blkL es).length := by omega
      simp only [List.getD, List.getElem?_eq_getElem this, Option.getD_some] at h
      rw [List.getElem?_eq_getElem this, h]
theorem mem_blocks {es : List (Int × Int)} {b : List (Int × Int)} : b ∈ blocksL es ↔ ∃ k : Int, (0 ≤ k ∧ k < es.length) ∧ (blkL es).getD k.toNat 0 = k ∧ b = blkE es (blkL es) k := by
  unfold blocksL blocksT
  rw [List.mem_map]
  simp only [List.mem_filter, mem_iota, decide_eq_true_eq]
  exact ⟨fun ⟨k, ⟨h1, h2⟩, h3⟩ => ⟨k, h1, h2, h3.symm⟩, fun ⟨k, h1, h2, h3⟩ => ⟨k, ⟨h1, h2⟩, h3.symm⟩⟩
theorem blocks_has {es : List (Int × Int)} (hnd : es.Nodup) {e : Int × Int} (he : e ∈ es) : ∃ b ∈ blocksL es, e ∈ b := by
  obtain ⟨f0, f1, f2⟩ := findE_lt he
  obtain ⟨h1, h2⟩ := blkL_idem (es := es) ⟨f0, f1⟩
  exact ⟨_, mem_blocks.2 ⟨_, h1, h2, rfl⟩, (mem_blk hnd he).2 rfl⟩
theorem blocks_of {es : List (Int × Int)} (hnd : es.Nodup) {e : Int × Int} (he : e ∈ es) {b : List (Int × Int)} (hb : b ∈ blocksL es) (h : e ∈ b) : b = blkE es (blkL es) ((blkL es).getD (findE es e).toNat 0) := by
  obtain ⟨k, h1, h2, rfl⟩ := mem_blocks.1 hb
  rw [(mem_blk hnd he).1 h]
theorem blocks_len {es : List (Int × Int)} : (blocksL es).length ≤ es.length := by
  have := blocksT_len (es := es) (i := es.length) (by omega)
  unfold blocksL; omega
theorem blocks_ok {n : Int} {es : List (Int × Int)} (ho : ∀ e ∈ es, okE n e) {b : List (Int × Int)} (hb : b ∈ blocksL es) : (∀ e ∈ b, okE n e) ∧ b.length ≤ es.length := by
  obtain ⟨k, h1, h2, rfl⟩ := mem_blocks.1 hb
  exact ⟨blkE_ok ho, blkE_len⟩

/-- Is a node on one of the first edges? -/
theorem any_snoc {es : List (Int × Int)} {v i : Int} (h0 : 0 ≤ i) (h1 : i < es.length) : ((es.take (i + 1).toNat).any fun e => decide (On v e)) = (((es.take i.toNat).any fun e => decide (On v e)) || decide (On v (es.getD i.toNat (0, 0)))) := by
  rw [take_int (0, 0) h0 h1, List.any_append]; simp

theorem c_l5Nodes (n : Int) (es : List (Int × Int)) (hn : 0 ≤ n ∧ n ≤ 1000) (hl : es.length ≤ 1000) : KP 91 [I n, LE es] [] = some (.ref 2000 0 0 (nodesL n es).length, [], [.arr 0 1 ((nodesL n es).map encI)]) := by
  refine xw_call (fn := Try.f91) rfl Try.func91 rfl ⟨Nat.le_of_ble_eq_true rfl, rfl, rfl⟩ ?_
  repeat' (first
    | refine xw_seq ?_
    | refine xw_block ?_
    | (refine ite_two ?_ ?_ <;> intro _ <;> first | (exfalso; omega) | skip)
    | refine ord_split (by kernel_rfl) ?_
    | (refine xw_ret ?_ <;> try simp only [sq, bl, LQ])
    | ((first | refine xw_reg ?_ | refine xw_regd ?_ | refine xw_if ?_ | refine xw_skip ?_ | refine xw_exit ?_ | refine xw_label ?_ | refine post_ret ?_ | refine post_normal ?_ | refine postE_ret ?_ | refine postE_normal ?_) <;> simp (config := { maxSteps := 3000000 }) (disch := first | assumption | omega | exact VG.okg (by assumption) | (simp only [List.length_set, List.length_append, List.length_cons, List.length_nil, List.length_replicate]; omega)) only [go_sem, ↓reduceIte, Int.reduceLE, Int.reduceLT, Int.reduceToNat, Int.reduceNeg, Int.reduceAdd, Int.reduceSub, Int.reduceMul, Int.reduceEq, Int.reduceNe, Nat.reduceEqDiff, Nat.reduceAdd, Nat.reduceSub, Nat.reduceMul, Nat.reduceLT, Nat.reduceLeDiff, Nat.reduceBEq, Nat.reduceBNe, Try.results91])
    | (((first | refine at_region ?_ | refine at_out ?_ | refine at_cond ?_); split) <;> first | (exfalso; omega; done) | simp (config := { maxSteps := 3000000 }) (disch := first | assumption | omega | exact VG.okg (by assumption) | (simp only [List.length_set, List.length_append, List.length_cons, List.length_nil, List.length_replicate]; omega)) only [go_sem, ↓reduceIte, Int.reduceLE, Int.reduceLT, Int.reduceToNat, Int.reduceNeg, Int.reduceAdd, Int.reduceSub, Int.reduceMul, Int.reduceEq, Int.reduceNe, Nat.reduceEqDiff, Nat.reduceAdd, Nat.reduceSub, Nat.reduceMul, Nat.reduceLT, Nat.reduceLeDiff, Nat.reduceBEq, Nat.reduceBNe, Try.results91] | skip))
  refine xw_loopR (fun (u : Int × Nat) s => s.m 9 = some (.arr u.2 1 ((nodesL u.1 es).map encI)) ∧ s.ρ 5 = .ref 9 u.2 0 (nodesL u.1 es).length ∧ s.ρ 0 = I n ∧ s.ρ 1 = LE es ∧ s.ρ 6 = I u.1 ∧ 0 ≤ u.1 ∧ u.1 ≤ n) (fun u => (n - u.1).toNat) (0, 0) ?_ ?_
  · exact ⟨rfl, rfl, rfl, rfl, rfl, by simp, by simp only; omega⟩
  rintro ⟨i, v⟩ ⟨ρ, m⟩ ⟨m9, h5, h0, h1, h6, g0, g1⟩
  simp only at m9 h5 h0 h1 h6 g0 g1
  have hsn : nodesL (i + 1) es = nodesL i es ++ if (es.any fun e => decide (On i e)) = true then [i] else [] := by
    unfold nodesL
    rw [iota_snoc g0, List.filter_append]
    congr 1
    simp [List.filter_cons]
  have hnl : (nodesL i es).length ≤ i.toNat := by
    unfold nodesL
    refine Nat.le_trans (List.length_filter_le _ _) ?_
    rw [iota_length]; omega
  by_cases hi : i < n
  rotate_left
  · have he : i = n := by omega
    subst he
    repeat' (first
      | refine xw_seq ?_
      | refine xw_block ?_
      | (refine ite_two ?_ ?_ <;> intro _ <;> first | (exfalso; omega) | skip)
      | refine ord_split (by kernel_rfl) ?_
      | (refine xw_ret ?_ <;> try simp only [sq, bl, LQ])
      | ((first | refine xw_reg ?_ | refine xw_regd ?_ | refine xw_if ?_ | refine xw_skip ?_ | refine xw_exit ?_ | refine xw_label ?_ | refine post_ret ?_ | refine post_normal ?_ | refine postE_ret ?_ | refine postE_normal ?_) <;> simp (config := { maxSteps := 3000000 }) (disch := first | assumption | omega | exact VG.okg (by assumption) | (simp only [List.length_set, List.length_append, List.length_cons, List.length_nil, List.length_replicate]; omega)) only [go_sem, ↓reduceIte, Int.reduceLE, Int.reduceLT, Int.reduceToNat, Int.reduceNeg, Int.reduceAdd, Int.reduceSub, Int.reduceMul, Int.reduceEq, Int.reduceNe, Nat.reduceEqDiff, Nat.reduceAdd, Nat.reduceSub, Nat.reduceMul, Nat.reduceLT, Nat.reduceLeDiff, Nat.reduceBEq, Nat.reduceBNe, Try.results91, m9, h5, h0, h1, h6])
      | (((first | refine at_region ?_ | refine at_out ?_ | refine at_cond ?_); split) <;> first | (exfalso; omega; done) | simp (config := { maxSteps := 3000000 }) (disch := first | assumption | omega | exact VG.okg (by assumption) | (simp only [List.length_set, List.length_append, List.length_cons, List.length_nil, List.length_replicate]; omega)) only [go_sem, ↓reduceIte, Int.reduceLE, Int.reduceLT, Int.reduceToNat, Int.reduceNeg, Int.reduceAdd, Int.reduceSub, Int.reduceMul, Int.reduceEq, Int.reduceNe, Nat.reduceEqDiff, Nat.reduceAdd, Nat.reduceSub, Nat.reduceMul, Nat.reduceLT, Nat.reduceLeDiff, Nat.reduceBEq, Nat.reduceBNe, Try.results91, m9, h5, h0, h1, h6] | skip))
  repeat' (first
    | refine xw_seq ?_
    | refine xw_block ?_
    | (refine ite_two ?_ ?_ <;> intro _ <;> first | (exfalso; omega) | skip)
    | refine ord_split (by kernel_rfl) ?_
    | (refine xw_ret ?_ <;> try simp only [sq, bl, LQ])
    | ((first | refine xw_reg ?_ | refine xw_regd ?_ | refine xw_if ?_ | refine xw_skip ?_ | refine xw_exit ?_ | refine xw_label ?_ | refine post_ret ?_ | refine post_normal ?_ | refine postE_ret ?_ | refine postE_normal ?_) <;> simp (config := { maxSteps := 3000000 }) (disch := first | assumption | omega | exact VG.okg (by assumption) | (simp only [List.length_set, List.length_append, List.length_cons, List.length_nil, List.length_replicate]; omega)) only [go_sem, ↓reduceIte, Int.reduceLE, Int.reduceLT, Int.reduceToNat, Int.reduceNeg, Int.reduceAdd, Int.reduceSub, Int.reduceMul, Int.reduceEq, Int.reduceNe, Nat.reduceEqDiff, Nat.reduceAdd, Nat.reduceSub, Nat.reduceMul, Nat.reduceLT, Nat.reduceLeDiff, Nat.reduceBEq, Nat.reduceBNe, Try.results91, m9, h5, h0, h1, h6])
    | (((first | refine at_region ?_ | refine at_out ?_ | refine at_cond ?_); split) <;> first | (exfalso; omega; done) | simp (config := { maxSteps := 3000000 }) (disch := first | assumption | omega | exact VG.okg (by assumption) | (simp only [List.length_set, List.length_append, List.length_cons, List.length_nil, List.length_replicate]; omega)) only [go_sem, ↓reduceIte, Int.reduceLE, Int.reduceLT, Int.reduceToNat, Int.reduceNeg, Int.reduceAdd, Int.reduceSub, Int.reduceMul, Int.reduceEq, Int.reduceNe, Nat.reduceEqDiff, Nat.reduceAdd, Nat.reduceSub, Nat.reduceMul, Nat.reduceLT, Nat.reduceLeDiff, Nat.reduceBEq, Nat.reduceBNe, Try.results91, m9, h5, h0, h1, h6] | skip))
  refine xw_loopR (fun (j : Int) s => s.m 9 = some (.arr v 1 ((nodesL i es).map encI)) ∧ s.ρ 5 = .ref 9 v 0 (nodesL i es).length ∧ s.ρ 0 = I n ∧ s.ρ 1 = LE es ∧ s.ρ 6 = I i ∧ s.ρ 7 = B ((es.take j.toNat).any fun e => decide (On i e)) ∧ s.ρ 8 = I j ∧ 0 ≤ j ∧ j ≤ es.length) (fun j => (es.length - j).toNat) 0 ?_ ?_
  · exact ⟨m9, h5, h0, h1, h6, by simp [upd], rfl, by simp, by omega⟩
  rintro j ⟨ρ, m⟩ ⟨m9, h5, h0, h1, h6, h7, h8, f0, f1⟩
  simp only at m9 h5 h0 h1 h6 h7 h8 f0 f1
  by_cases hj : j < es.length
  rotate_left
  · rw [take_all (by omega)] at h7
    cases hc : es.any fun e => decide (On i e)
    · rw [hc] at h7 hsn
      rw [if_neg (by simp), List.append_nil] at hsn
      repeat' (first
        | refine xw_seq ?_
        | refine xw_block ?_
        | (refine ite_two ?_ ?_ <;> intro _ <;> first | (exfalso; omega) | skip)
        | refine ord_split (by kernel_rfl) ?_
        | (refine xw_ret ?_ <;> try simp only [sq, bl, LQ])
        | ((first | refine xw_reg ?_ | refine xw_regd ?_ | refine xw_if ?_ | refine xw_skip ?_ | refine xw_exit ?_ | refine xw_label ?_ | refine post_ret ?_ | refine post_normal ?_ | refine postE_ret ?_ | refine postE_normal ?_) <;> simp (config := { maxSteps := 3000000 }) (disch := first | assumption | omega | exact VG.okg (by assumption) | (simp only [List.length_set, List.length_append, List.length_cons, List.length_nil, List.length_replicate]; omega)) only [go_sem, ↓reduceIte, Int.reduceLE, Int.reduceLT, Int.reduceToNat, Int.reduceNeg, Int.reduceAdd, Int.reduceSub, Int.reduceMul, Int.reduceEq, Int.reduceNe, Nat.reduceEqDiff, Nat.reduceAdd, Nat.reduceSub, Nat.reduceMul, Nat.reduceLT, Nat.reduceLeDiff, Nat.reduceBEq, Nat.reduceBNe, Try.results91, m9, h5, h0, h1, h6, h7, h8])
        | (((first | refine at_region ?_ | refine at_out ?_ | refine at_cond ?_); split) <;> first | (exfalso; omega; done) | simp (config := { maxSteps := 3000000 }) (disch := first | assumption | omega | exact VG.okg (by assumption) | (simp only [List.length_set, List.length_append, List.length_cons, List.length_nil, List.length_replicate]; omega)) only [go_sem, ↓reduceIte, Int.reduceLE, Int.reduceLT, Int.reduceToNat, Int.reduceNeg, Int.reduceAdd, Int.reduceSub, Int.reduceMul, Int.reduceEq, Int.reduceNe, Nat.reduceEqDiff, Nat.reduceAdd, Nat.reduceSub, Nat.reduceMul, Nat.reduceLT, Nat.reduceLeDiff, Nat.reduceBEq, Nat.reduceBNe, Try.results91, m9, h5, h0, h1, h6, h7, h8] | skip))
      exact ⟨i + 1, by rw [hsn], by rw [hsn], rfl, by omega, by omega, by omega⟩
    · rw [hc] at h7 hsn
      rw [if_pos rfl] at hsn
      repeat' (first
        | refine xw_seq ?_
        | refine xw_block ?_
        | (refine ite_two ?_ ?_ <;> intro _ <;> first | (exfalso; omega) | skip)
        | refine ord_split (by kernel_rfl) ?_
        | (refine xw_ret ?_ <;> try simp only [sq, bl, LQ])
        | ((first | refine xw_reg ?_ | refine xw_regd ?_ | refine xw_if ?_ | refine xw_skip ?_ | refine xw_exit ?_ | refine xw_label ?_ | refine post_ret ?_ | refine post_normal ?_ | refine postE_ret ?_ | refine postE_normal ?_) <;> simp (config := { maxSteps := 3000000 }) (disch := first | assumption | omega | exact VG.okg (by assumption) | (simp only [List.length_set, List.length_append, List.length_cons, List.length_nil, List.length_replicate]; omega)) only [go_sem, ↓reduceIte, Int.reduceLE, Int.reduceLT, Int.reduceToNat, Int.reduceNeg, Int.reduceAdd, Int.reduceSub, Int.reduceMul, Int.reduceEq, Int.reduceNe, Nat.reduceEqDiff, Nat.reduceAdd, Nat.reduceSub, Nat.reduceMul, Nat.reduceLT, Nat.reduceLeDiff, Nat.reduceBEq, Nat.reduceBNe, Try.results91, m9, h5, h0, h1, h6, h7, h8])
        | (((first | refine at_region ?_ | refine at_out ?_ | refine at_cond ?_); split) <;> first | (exfalso; omega; done) | simp (config := { maxSteps := 3000000 }) (disch := first | assumption | omega | exact VG.okg (by assumption) | (simp only [List.length_set, List.length_append, List.length_cons, List.length_nil, List.length_replicate]; omega)) only [go_sem, ↓reduceIte, Int.reduceLE, Int.reduceLT, Int.reduceToNat, Int.reduceNeg, Int.reduceAdd, Int.reduceSub, Int.reduceMul, Int.reduceEq, Int.reduceNe, Nat.reduceEqDiff, Nat.reduceAdd, Nat.reduceSub, Nat.reduceMul, Nat.reduceLT, Nat.reduceLeDiff, Nat.reduceBEq, Nat.reduceBNe, Try.results91, m9, h5, h0, h1, h6, h7, h8] | skip))
      exact ⟨i + 1, by rw [hsn], by rw [hsn, List.length_append]; rfl, rfl, by omega, by omega, by omega⟩
  have has := any_snoc (v := i) f0 hj
  generalize ((es.take j.toNat).any fun e => decide (On i e)) = w at has h7
  by_cases q1 : (es.getD j.toNat (0, 0)).1 = i
  · have q : decide (On i (es.getD j.toNat (0, 0))) = true := decide_eq_true (.inl q1)
    rw [q, Bool.or_true] at has
    cases w
    · repeat' (first
        | refine xw_seq ?_
        | refine xw_block ?_
        | (refine ite_two ?_ ?_ <;> intro _ <;> first | (exfalso; omega) | skip)
        | refine ord_split (by kernel_rfl) ?_
        | (refine xw_ret ?_ <;> try simp only [sq, bl, LQ])
        | ((first | refine xw_reg ?_ | refine xw_regd ?_ | refine xw_if ?_ | refine xw_skip ?_ | refine xw_exit ?_ | refine xw_label ?_ | refine post_ret ?_ | refine post_normal ?_ | refine postE_ret ?_ | refine postE_normal ?_) <;> simp (config := { maxSteps := 3000000 }) (disch := first | assumption | omega | exact VG.okg (by assumption) | (simp only [List.length_set, List.length_append, List.length_cons, List.length_nil, List.length_replicate]; omega)) only [go_sem, ↓reduceIte, Int.reduceLE, Int.reduceLT, Int.reduceToNat, Int.reduceNeg, Int.reduceAdd, Int.reduceSub, Int.reduceMul, Int.reduceEq, Int.reduceNe, Nat.reduceEqDiff, Nat.reduceAdd, Nat.reduceSub, Nat.reduceMul, Nat.reduceLT, Nat.reduceLeDiff, Nat.reduceBEq, Nat.reduceBNe, Try.results91, m9, h5, h0, h1, h6, h7, h8, q1])
        | (((first | refine at_region ?_ | refine at_out ?_ | refine at_cond ?_); split) <;> first | (exfalso; omega; done) | simp (config := { maxSteps := 3000000 }) (disch := first | assumption | omega | exact VG.okg (by assumption) | (simp only [List.length_set, List.length_append, List.length_cons, List.length_nil, List.length_replicate]; omega)) only [go_sem, ↓reduceIte, Int.reduceLE, Int.reduceLT, Int.reduceToNat, Int.reduceNeg, Int.reduceAdd, Int.reduceSub, Int.reduceMul, Int.reduceEq, Int.reduceNe, Nat.reduceEqDiff, Nat.reduceAdd, Nat.reduceSub, Nat.reduceMul, Nat.reduceLT, Nat.reduceLeDiff, Nat.reduceBEq, Nat.reduceBNe, Try.results91, m9, h5, h0, h1, h6, h7, h8, q1] | skip))
      exact ⟨j + 1, has.symm, rfl, by omega, by omega, by omega⟩
    · repeat' (first
        | refine xw_seq ?_
        | refine xw_block ?_
        | (refine ite_two ?_ ?_ <;> intro _ <;> first | (exfalso; omega) | skip)
        | refine ord_split (by kernel_rfl) ?_
        | (refine xw_ret ?_ <;> try simp only [sq, bl, LQ])
        | ((first | refine xw_reg ?_ | refine xw_regd ?_ | refine xw_if ?_ | refine xw_skip ?_ | refine xw_exit ?_ | refine xw_label ?_ | refine post_ret ?_ | refine post_normal ?_ | refine postE_ret ?_ | refine postE_normal ?_) <;> simp (config := { maxSteps := 3000000 }) (disch := first | assumption | omega | exact VG.okg (by assumption) | (simp only [List.length_set, List.length_append, List.length_cons, List.length_nil, List.length_replicate]; omega)) only [go_sem, ↓reduceIte, Int.reduceLE, Int.reduceLT, Int.reduceToNat, Int.reduceNeg, Int.reduceAdd, Int.reduceSub, Int.reduceMul, Int.reduceEq, Int.reduceNe, Nat.reduceEqDiff, Nat.reduceAdd, Nat.reduceSub, Nat.reduceMul, Nat.reduceLT, Nat.reduceLeDiff, Nat.reduceBEq, Nat.reduceBNe, Try.results91, m9, h5, h0, h1, h6, h7, h8, q1])
        | (((first | refine at_region ?_ | refine at_out ?_ | refine at_cond ?_); split) <;> first | (exfalso; omega; done) | simp (config := { maxSteps := 3000000 }) (disch := first | assumption | omega | exact VG.okg (by assumption) | (simp only [List.length_set, List.length_append, List.length_cons, List.length_nil, List.length_replicate]; omega)) only [go_sem, ↓reduceIte, Int.reduceLE, Int.reduceLT, Int.reduceToNat, Int.reduceNeg, Int.reduceAdd, Int.reduceSub, Int.reduceMul, Int.reduceEq, Int.reduceNe, Nat.reduceEqDiff, Nat.reduceAdd, Nat.reduceSub, Nat.reduceMul, Nat.reduceLT, Nat.reduceLeDiff, Nat.reduceBEq, Nat.reduceBNe, Try.results91, m9, h5, h0, h1, h6, h7, h8, q1] | skip))
      exact ⟨j + 1, has.symm, rfl, by omega, by omega, by omega⟩
  · by_cases q2 : (es.getD j.toNat (0, 0)).2 = i
    · have q : decide (On i (es.getD j.toNat (0, 0))) = true := decide_eq_true (.inr q2)
      rw [q, Bool.or_true] at has
      cases w
      · repeat' (first
          | refine xw_seq ?_
          | refine xw_block ?_
          | (refine ite_two ?_ ?_ <;> intro _ <;> first | (exfalso; omega) | skip)
          | refine ord_split (by kernel_rfl) ?_
          | (refine xw_ret ?_ <;> try simp only [sq, bl, LQ])
          | ((first | refine xw_reg ?_ | refine xw_regd ?_ | refine xw_if ?_ | refine xw_skip ?_ | refine xw_exit ?_ | refine xw_label ?_ | refine post_ret ?_ | refine post_normal ?_ | refine postE_ret ?_ | refine postE_normal ?_) <;> simp (config := { maxSteps := 3000000 }) (disch := first | assumption | omega | exact VG.okg (by assumption) | (simp only [List.length_set, List.length_append, List.length_cons, List.length_nil, List.length_replicate]; omega)) only [go_sem, ↓reduceIte, Int.reduceLE, Int.reduceLT, Int.reduceToNat, Int.reduceNeg, Int.reduceAdd, Int.reduceSub, Int.reduceMul, Int.reduceEq, Int.reduceNe, Nat.reduceEqDiff, Nat.reduceAdd, Nat.reduceSub, Nat.reduceMul, Nat.reduceLT, Nat.reduceLeDiff, Nat.reduceBEq, Nat.reduceBNe, Try.results91, m9, h5, h0, h1, h6, h7, h8, q1, q2])
          | (((first | refine at_region ?_ | refine at_out ?_ | refine at_cond ?_); split) <;> first | (exfalso; omega; done) | simp (config := { maxSteps := 3000000 }) (disch := first | assumption | omega | exact VG.okg (by assumption) | (simp only [List.length_set, List.length_append, List.length_cons, List.length_nil, List.length_replicate]; omega)) only [go_sem, ↓reduceIte, Int.reduceLE, Int.reduceLT, Int.reduceToNat, Int.reduceNeg, Int.reduceAdd, Int.reduceSub, Int.reduceMul, Int.reduceEq, Int.reduceNe, Nat.reduceEqDiff, Nat.reduceAdd, Nat.reduceSub, Nat.reduceMul, Nat.reduceLT, Nat.reduceLeDiff, Nat.reduceBEq, Nat.reduceBNe, Try.results91, m9, h5, h0, h1, h6, h7, h8, q1, q2] | skip))
        exact ⟨j + 1, has.symm, rfl, by omega, by omega, by omega⟩
      · repeat' (first
          | refine xw_seq ?_
          | refine xw_block ?_
          | (refine ite_two ?_ ?_ <;> intro _ <;> first | (exfalso; omega) | skip)
          | refine ord_split (by kernel_rfl) ?_
          | (refine xw_ret ?_ <;> try simp only [sq, bl, LQ])
          | ((first | refine xw_reg ?_ | refine xw_regd ?_ | refine xw_if ?_ | refine xw_skip ?_ | refine xw_exit ?_ | refine xw_label ?_ | refine post_ret ?_ | refine post_normal ?_ | refine postE_ret ?_ | refine postE_normal ?_) <;> simp (config := { maxSteps := 3000000 }) (disch := first | assumption | omega | exact VG.okg (by assumption) | (simp only [List.length_set, List.length_append, List.length_cons, List.length_nil, List.length_replicate]; omega)) only [go_sem, ↓reduceIte, Int.reduceLE, Int.reduceLT, Int.reduceToNat, Int.reduceNeg, Int.reduceAdd, Int.reduceSub, Int.reduceMul, Int.reduceEq, Int.reduceNe, Nat.reduceEqDiff, Nat.reduceAdd, Nat.reduceSub, Nat.reduceMul, Nat.reduceLT, Nat.reduceLeDiff, Nat.reduceBEq, Nat.reduceBNe, Try.results91, m9, h5, h0, h1, h6, h7, h8, q1, q2])
          | (((first | refine at_region ?_ | refine at_out ?_ | refine at_cond ?_); split) <;> first | (exfalso; omega; done) | simp (config := { maxSteps := 3000000 }) (disch := first | assumption | omega | exact VG.okg (by assumption) | (simp only [List.length_set, List.length_append, List.length_cons, List.length_nil, List.length_replicate]; omega)) only [go_sem, ↓reduceIte, Int.reduceLE, Int.reduceLT, Int.reduceToNat, Int.reduceNeg, Int.reduceAdd, Int.reduceSub, Int.reduceMul, Int.reduceEq, Int.reduceNe, Nat.reduceEqDiff, Nat.reduceAdd, Nat.reduceSub, Nat.reduceMul, Nat.reduceLT, Nat.reduceLeDiff, Nat.reduceBEq, Nat.reduceBNe, Try.results91, m9, h5, h0, h1, h6, h7, h8, q1, q2] | skip))
        exact ⟨j + 1, has.symm, rfl, by omega, by omega, by omega⟩
    · have q : decide (On i (es.getD j.toNat (0, 0))) = false := decide_eq_false (fun h => h.elim q1 q2)
      rw [q, Bool.or_false] at has
      cases w
      · repeat' (first
          | refine xw_seq ?_
          | refine xw_block ?_
          | (refine ite_two ?_ ?_ <;> intro _ <;> first | (exfalso; omega) | skip)
          | refine ord_split (by kernel_rfl) ?_
          | (refine xw_ret ?_ <;> try simp only [sq, bl, LQ])
          | ((first | refine xw_reg ?_ | refine xw_regd ?_ | refine xw_if ?_ | refine xw_skip ?_ | refine xw_exit ?_ | refine xw_label ?_ | refine post_ret ?_ | refine post_normal ?_ | refine postE_ret ?_ | refine postE_normal ?_) <;> simp (config := { maxSteps := 3000000 }) (disch := first | assumption | omega | exact VG.okg (by assumption) | (simp only [List.length_set, List.length_append, List.length_cons, List.length_nil, List.length_replicate]; omega)) only [go_sem, ↓reduceIte, Int.reduceLE, Int.reduceLT, Int.reduceToNat, Int.reduceNeg, Int.reduceAdd, Int.reduceSub, Int.reduceMul, Int.reduceEq, Int.reduceNe, Nat.reduceEqDiff, Nat.reduceAdd, Nat.reduceSub, Nat.reduceMul, Nat.reduceLT, Nat.reduceLeDiff, Nat.reduceBEq, Nat.reduceBNe, Try.results91, m9, h5, h0, h1, h6, h7, h8, q1, q2])
          | (((first | refine at_region ?_ | refine at_out ?_ | refine at_cond ?_); split) <;> first | (exfalso; omega; done) | simp (config := { maxSteps := 3000000 }) (disch := first | assumption | omega | exact VG.okg (by assumption) | (simp only [List.length_set, List.length_append, List.length_cons, List.length_nil, List.length_replicate]; omega)) only [go_sem, ↓reduceIte, Int.reduceLE, Int.reduceLT, Int.reduceToNat, Int.reduceNeg, Int.reduceAdd, Int.reduceSub, Int.reduceMul, Int.reduceEq, Int.reduceNe, Nat.reduceEqDiff, Nat.reduceAdd, Nat.reduceSub, Nat.reduceMul, Nat.reduceLT, Nat.reduceLeDiff, Nat.reduceBEq, Nat.reduceBNe, Try.results91, m9, h5, h0, h1, h6, h7, h8, q1, q2] | skip))
        exact ⟨j + 1, has.symm, rfl, by omega, by omega, by omega⟩
      · repeat' (first
          | refine xw_seq ?_
          | refine xw_block ?_
          | (refine ite_two ?_ ?_ <;> intro _ <;> first | (exfalso; omega) | skip)
          | refine ord_split (by kernel_rfl) ?_
          | (refine xw_ret ?_ <;> try simp only [sq, bl, LQ])
          | ((first | refine xw_reg ?_ | refine xw_regd ?_ | refine xw_if ?_ | refine xw_skip ?_ | refine xw_exit ?_ | refine xw_label ?_ | refine post_ret ?_ | refine post_normal ?_ | refine postE_ret ?_ | refine postE_normal ?_) <;> simp (config := { maxSteps := 3000000 }) (disch := first | assumption | omega | exact VG.okg (by assumption) | (simp only [List.length_set, List.length_append, List.length_cons, List.length_nil, List.length_replicate]; omega)) only [go_sem, ↓reduceIte, Int.reduceLE, Int.reduceLT, Int.reduceToNat, Int.reduceNeg, Int.reduceAdd, Int.reduceSub, Int.reduceMul, Int.reduceEq, Int.reduceNe, Nat.reduceEqDiff, Nat.reduceAdd, Nat.reduceSub, Nat.reduceMul, Nat.reduceLT, Nat.reduceLeDiff, Nat.reduceBEq, Nat.reduceBNe, Try.results91, m9, h5, h0, h1, h6, h7, h8, q1, q2])
          | (((first | refine at_region ?_ | refine at_out ?_ | refine at_cond ?_); split) <;> first | (exfalso; omega; done) | simp (config := { maxSteps := 3000000 }) (disch := first | assumption | omega | exact VG.okg (by assumption) | (simp only [List.length_set, List.length_append, List.length_cons, List.length_nil, List.length_replicate]; omega)) only [go_sem, ↓reduceIte, Int.reduceLE, Int.reduceLT, Int.reduceToNat, Int.reduceNeg, Int.reduceAdd, Int.reduceSub, Int.reduceMul, Int.reduceEq, Int.reduceNe, Nat.reduceEqDiff, Nat.reduceAdd, Nat.reduceSub, Nat.reduceMul, Nat.reduceLT, Nat.reduceLeDiff, Nat.reduceBEq, Nat.reduceBNe, Try.results91, m9, h5, h0, h1, h6, h7, h8, q1, q2] | skip))
        exact ⟨j + 1, has.symm, rfl, by omega, by omega, by omega⟩

theorem c_DrawLeafBlocks (bs : List Int) (hb : ∀ b ∈ bs, 0 ≤ b ∧ b < 256) (hl : bs.length ≤ 1000000000) :
    ∃ (n : Int) (es : List (Int × Int)), 0 ≤ n ∧ n ≤ 17 ∧ es.length ≤ 40 ∧ KP 37 [LB bs] [] = some (GL n es, [], []) := by
  obtain ⟨cs, hcs, hopen⟩ := c_l14Open bs hb hl
  obtain ⟨n, es, p, n0, n1, hel, p0, p1, hsm⟩ := c_l5Small cs 0 hcs (by omega)
  refine ⟨n, es, n0, n1, hel, xw_call (fn := Try.f37) rfl Try.func37 rfl ⟨Nat.le_of_ble_eq_true rfl, rfl, rfl⟩ ?_⟩
  repeat' (first
    | refine xw_seq ?_
    | refine xw_block ?_
    | (refine ite_two ?_ ?_ <;> intro _ <;> first | (exfalso; omega) | skip)
    | refine ord_split (by kernel_rfl) ?_
    | (refine xw_ret ?_ <;> try simp only [sq, bl, LQ])
    | ((first | refine xw_reg ?_ | refine xw_regd ?_ | refine xw_if ?_ | refine xw_skip ?_ | refine xw_exit ?_ | refine xw_label ?_ | refine post_ret ?_ | refine post_normal ?_ | refine postE_ret ?_ | refine postE_normal ?_) <;> simp (config := { maxSteps := 3000000 }) (disch := first | assumption | omega | exact VG.okg (by assumption) | (simp only [List.length_set, List.length_append, List.length_cons, List.length_nil, List.length_replicate]; omega)) only [go_sem, ↓reduceIte, Int.reduceLE, Int.reduceLT, Int.reduceToNat, Int.reduceNeg, Int.reduceAdd, Int.reduceSub, Int.reduceMul, Int.reduceEq, Int.reduceNe, Nat.reduceEqDiff, Nat.reduceAdd, Nat.reduceSub, Nat.reduceMul, Nat.reduceLT, Nat.reduceLeDiff, Nat.reduceBEq, Nat.reduceBNe, Try.results37, hopen, hsm])
    | (((first | refine at_region ?_ | refine at_out ?_ | refine at_cond ?_); split) <;> first | (exfalso; omega; done) | simp (config := { maxSteps := 3000000 }) (disch := first | assumption | omega | exact VG.okg (by assumption) | (simp only [List.length_set, List.length_append, List.length_cons, List.length_nil, List.length_replicate]; omega)) only [go_sem, ↓reduceIte, Int.reduceLE, Int.reduceLT, Int.reduceToNat, Int.reduceNeg, Int.reduceAdd, Int.reduceSub, Int.reduceMul, Int.reduceEq, Int.reduceNe, Nat.reduceEqDiff, Nat.reduceAdd, Nat.reduceSub, Nat.reduceMul, Nat.reduceLT, Nat.reduceLeDiff, Nat.reduceBEq, Nat.reduceBNe, Try.results37, hopen, hsm] | skip))
end Go.Proofs.Ytbaholclcfpknaa.X


