/- What functions compute: the nodes of a part. -/
import Derived.Test.YtagpdfbgimnljaaKF
import Derived.Test.YtagpdfbgimnljaaM23
set_option linter.unusedSimpArgs false
set_option linter.unusedVariables false
set_option maxHeartbeats 8000000
set_option maxRecDepth 100000
namespace Go.Proofs.Ytagpdfbgimnljaa.X
open Go Go.Proofs
noncomputable def ptL (n : Int) (es : List (Int × Int)) (r : Int) : List Int := (iota n).filter fun v => decide (Conn es r v)
theorem mem_ptL {n : Int} {es : List (Int × Int)} {r v : Int} : v ∈ ptL n es r ↔ inN n v ∧ Conn es r v := by
  rw [ptL, List.mem_filter, mem_iota, decide_eq_true_eq]
theorem ptL_nodup (n : Int) (es : List (Int × Int)) (r : Int) : (ptL n es r).Nodup := (nodup_iota n).sublist List.filter_sublist
theorem ptL_len (n : Int) (es : List (Int × Int)) (r : Int) : (ptL n es r).length ≤ n.toNat := by
  have := List.length_filter_le (fun v => decide (Conn es r v)) (iota n)
  rw [iota_length] at this
  exact this
theorem ptF_snoc {n i : Int} {p : Int → Bool} (h0 : 0 ≤ i) (h1 : i < n) : (iota (i + 1)).filter p = (iota i).filter p ++ if p i = true then [i] else [] := by
  have : iota (i + 1) = iota i ++ [i] := by
    unfold iota
    rw [show (i + 1).toNat = i.toNat + 1 by omega, List.range_succ, List.map_append]
    simp [Int.toNat_of_nonneg h0]
  rw [this, List.filter_append]
  cases h : p i <;> simp [h]
theorem c_PartNodes (n r : Int) (es : List (Int × Int)) (hV : VG n es) (hr : inN n r) : KP 57 [GL n es, I r] [] = some (.ref 2000 0 0 (ptL n es r).length, [], [.arr 0 1 ((ptL n es r).map encI)]) := by
  have hel := hV.2.2.1
  have hn16 := hV.2.1
  have hhn := c_hasNode n es r (by omega)
  rw [decide_eq_true (show VG n es ∧ 0 ≤ r ∧ r < n from ⟨hV, hr.1, hr.2⟩)] at hhn
  have hp := c_parts n es hV.okg
  have hll := lab_length n es
  obtain ⟨r0, r1⟩ := id hr
  have hgr := getI (lab n es) r.toNat (by omega)
  have hiff : ∀ v, inN n v → ((lab n es).getD v.toNat 0 = (lab n es).getD r.toNat 0 ↔ Conn es r v) := fun v hv => by
    rw [lab_iff hv hr]; exact ⟨Conn.symm, Conn.symm⟩
  refine xw_call (fn := Try.f57) rfl Try.func57 rfl ⟨Nat.le_of_ble_eq_true rfl, rfl, rfl⟩ ?_
  repeat' (first
    | refine xw_seq ?_
    | refine xw_block ?_
    | (refine ite_two ?_ ?_ <;> intro _ <;> first | (exfalso; omega) | skip)
    | refine ord_split (by kernel_rfl) ?_
    | (refine xw_ret ?_ <;> try simp only [sq, bl, LQ])
    | ((first | refine xw_reg ?_ | refine xw_regd ?_ | refine xw_if ?_ | refine xw_skip ?_ | refine xw_exit ?_ | refine xw_label ?_ | refine post_ret ?_ | refine post_normal ?_ | refine postE_ret ?_ | refine postE_normal ?_) <;> simp (config := { maxSteps := 3000000 }) (disch := first | assumption | omega | exact VG.okg (by assumption) | (simp only [List.length_set, List.length_append, List.length_cons, List.length_nil, List.length_replicate]; omega)) only [go_sem, ↓reduceIte, Int.reduceLE, Int.reduceLT, Int.reduceToNat, Int.reduceNeg, Int.reduceAdd, Int.reduceSub, Int.reduceMul, Int.reduceEq, Int.reduceNe, Nat.reduceEqDiff, Nat.reduceAdd, Nat.reduceSub, Nat.reduceMul, Nat.reduceLT, Nat.reduceLeDiff, Nat.reduceBEq, Nat.reduceBNe, Try.results57, hhn, hp])
    | (((first | refine at_region ?_ | refine at_out ?_ | refine at_cond ?_); split) <;> first | (exfalso; omega; done) | simp (config := { maxSteps := 3000000 }) (disch := first | assumption | omega | exact VG.okg (by assumption) | (simp only [List.length_set, List.length_append, List.length_cons, List.length_nil, List.length_replicate]; omega)) only [go_sem, ↓reduceIte, Int.reduceLE, Int.reduceLT, Int.reduceToNat, Int.reduceNeg, Int.reduceAdd, Int.reduceSub, Int.reduceMul, Int.reduceEq, Int.reduceNe, Nat.reduceEqDiff, Nat.reduceAdd, Nat.reduceSub, Nat.reduceMul, Nat.reduceLT, Nat.reduceLeDiff, Nat.reduceBEq, Nat.reduceBNe, Try.results57, hhn, hp] | skip))
  refine xw_loopR (fun (u : Int × Nat) s => s.m 12 = some (.arr u.2 1 (((iota u.1).filter fun v => decide (Conn es r v)).map encI)) ∧ s.ρ 5 = .ref 12 u.2 0 ((iota u.1).filter fun v => decide (Conn es r v)).length ∧ s.ρ 6 = LI (lab n es) ∧ s.ρ 1 = I r ∧ s.ρ 16 = I n ∧ s.ρ 17 = I u.1 ∧ 0 ≤ u.1 ∧ u.1 ≤ n) (fun u => (n - u.1).toNat) (0, 0) ?_ ?_
  · exact ⟨rfl, rfl, rfl, rfl, rfl, rfl, by simp, by simp only; omega⟩
  rintro ⟨i, w⟩ ⟨ρ, m⟩ ⟨m12, e5, e6, e1, e16, e17, g0, g1⟩
  simp only at m12 e5 e6 e1 e16 e17 g0 g1
  have hfl := List.length_filter_le (fun v => decide (Conn es r v)) (iota i)
  rw [iota_length] at hfl
  by_cases hi : i < n
  rotate_left
  · have hin : i = n := by omega
    subst hin
    repeat' (first
      | refine xw_seq ?_
      | refine xw_block ?_
      | (refine ite_two ?_ ?_ <;> intro _ <;> first | (exfalso; omega) | skip)
      | refine ord_split (by kernel_rfl) ?_
      | (refine xw_ret ?_ <;> try simp only [sq, bl, LQ])
      | ((first | refine xw_reg ?_ | refine xw_regd ?_ | refine xw_if ?_ | refine xw_skip ?_ | refine xw_exit ?_ | refine xw_label ?_ | refine post_ret ?_ | refine post_normal ?_ | refine postE_ret ?_ | refine postE_normal ?_) <;> simp (config := { maxSteps := 3000000 }) (disch := first | assumption | omega | exact VG.okg (by assumption) | (simp only [List.length_set, List.length_append, List.length_cons, List.length_nil, List.length_replicate]; omega)) only [go_sem, ↓reduceIte, Int.reduceLE, Int.reduceLT, Int.reduceToNat, Int.reduceNeg, Int.reduceAdd, Int.reduceSub, Int.reduceMul, Int.reduceEq, Int.reduceNe, Nat.reduceEqDiff, Nat.reduceAdd, Nat.reduceSub, Nat.reduceMul, Nat.reduceLT, Nat.reduceLeDiff, Nat.reduceBEq, Nat.reduceBNe, Try.results57, m12, e5, e6, e1, e16, e17])
      | (((first | refine at_region ?_ | refine at_out ?_ | refine at_cond ?_); split) <;> first | (exfalso; omega; done) | simp (config := { maxSteps := 3000000 }) (disch := first | assumption | omega | exact VG.okg (by assumption) | (simp only [List.length_set, List.length_append, List.length_cons, List.length_nil, List.length_replicate]; omega)) only [go_sem, ↓reduceIte, Int.reduceLE, Int.reduceLT, Int.reduceToNat, Int.reduceNeg, Int.reduceAdd, Int.reduceSub, Int.reduceMul, Int.reduceEq, Int.reduceNe, Nat.reduceEqDiff, Nat.reduceAdd, Nat.reduceSub, Nat.reduceMul, Nat.reduceLT, Nat.reduceLeDiff, Nat.reduceBEq, Nat.reduceBNe, Try.results57, m12, e5, e6, e1, e16, e17] | skip))
    exact ⟨rfl, rfl⟩
  have hgi := getI (lab n es) i.toNat (by omega)
  have hii := hiff i ⟨g0, hi⟩
  have hsn := ptF_snoc (p := fun v => decide (Conn es r v)) g0 hi
  generalize (lab n es).getD i.toNat 0 = a at *
  generalize (lab n es).getD r.toNat 0 = b at *
  generalize (iota i).filter (fun v => decide (Conn es r v)) = T at *
  by_cases hq : a = b
  · rw [if_pos (by simpa using hii.1 hq)] at hsn
    subst hq
    repeat' (first
      | refine xw_seq ?_
      | refine xw_block ?_
      | (refine ite_two ?_ ?_ <;> intro _ <;> first | (exfalso; omega) | skip)
      | refine ord_split (by kernel_rfl) ?_
      | (refine xw_ret ?_ <;> try simp only [sq, bl, LQ])
      | ((first | refine xw_reg ?_ | refine xw_regd ?_ | refine xw_if ?_ | refine xw_skip ?_ | refine xw_exit ?_ | refine xw_label ?_ | refine post_ret ?_ | refine post_normal ?_ | refine postE_ret ?_ | refine postE_normal ?_) <;> simp (config := { maxSteps := 3000000 }) (disch := first | assumption | omega | exact VG.okg (by assumption) | (simp only [List.length_set, List.length_append, List.length_cons, List.length_nil, List.length_replicate]; omega)) only [go_sem, ↓reduceIte, Int.reduceLE, Int.reduceLT, Int.reduceToNat, Int.reduceNeg, Int.reduceAdd, Int.reduceSub, Int.reduceMul, Int.reduceEq, Int.reduceNe, Nat.reduceEqDiff, Nat.reduceAdd, Nat.reduceSub, Nat.reduceMul, Nat.reduceLT, Nat.reduceLeDiff, Nat.reduceBEq, Nat.reduceBNe, Try.results57, m12, e5, e6, e1, e16, e17, hgi, hgr])
      | (((first | refine at_region ?_ | refine at_out ?_ | refine at_cond ?_); split) <;> first | (exfalso; omega; done) | simp (config := { maxSteps := 3000000 }) (disch := first | assumption | omega | exact VG.okg (by assumption) | (simp only [List.length_set, List.length_append, List.length_cons, List.length_nil, List.length_replicate]; omega)) only [go_sem, ↓reduceIte, Int.reduceLE, Int.reduceLT, Int.reduceToNat, Int.reduceNeg, Int.reduceAdd, Int.reduceSub, Int.reduceMul, Int.reduceEq, Int.reduceNe, Nat.reduceEqDiff, Nat.reduceAdd, Nat.reduceSub, Nat.reduceMul, Nat.reduceLT, Nat.reduceLeDiff, Nat.reduceBEq, Nat.reduceBNe, Try.results57, m12, e5, e6, e1, e16, e17, hgi, hgr] | skip))
    exact ⟨i + 1, by rw [hsn], by rw [hsn]; simp, rfl, by omega, by omega, by omega⟩
  · rw [if_neg (by simpa using fun h => hq (hii.2 h)), List.append_nil] at hsn
    repeat' (first
      | refine xw_seq ?_
      | refine xw_block ?_
      | (refine ite_two ?_ ?_ <;> intro _ <;> first | (exfalso; omega) | skip)
      | refine ord_split (by kernel_rfl) ?_
      | (refine xw_ret ?_ <;> try simp only [sq, bl, LQ])
      | ((first | refine xw_reg ?_ | refine xw_regd ?_ | refine xw_if ?_ | refine xw_skip ?_ | refine xw_exit ?_ | refine xw_label ?_ | refine post_ret ?_ | refine post_normal ?_ | refine postE_ret ?_ | refine postE_normal ?_) <;> simp (config := { maxSteps := 3000000 }) (disch := first | assumption | omega | exact VG.okg (by assumption) | (simp only [List.length_set, List.length_append, List.length_cons, List.length_nil, List.length_replicate]; omega)) only [go_sem, ↓reduceIte, Int.reduceLE, Int.reduceLT, Int.reduceToNat, Int.reduceNeg, Int.reduceAdd, Int.reduceSub, Int.reduceMul, Int.reduceEq, Int.reduceNe, Nat.reduceEqDiff, Nat.reduceAdd, Nat.reduceSub, Nat.reduceMul, Nat.reduceLT, Nat.reduceLeDiff, Nat.reduceBEq, Nat.reduceBNe, Try.results57, m12, e5, e6, e1, e16, e17, hgi, hgr, hq])
      | (((first | refine at_region ?_ | refine at_out ?_ | refine at_cond ?_); split) <;> first | (exfalso; omega; done) | simp (config := { maxSteps := 3000000 }) (disch := first | assumption | omega | exact VG.okg (by assumption) | (simp only [List.length_set, List.length_append, List.length_cons, List.length_nil, List.length_replicate]; omega)) only [go_sem, ↓reduceIte, Int.reduceLE, Int.reduceLT, Int.reduceToNat, Int.reduceNeg, Int.reduceAdd, Int.reduceSub, Int.reduceMul, Int.reduceEq, Int.reduceNe, Nat.reduceEqDiff, Nat.reduceAdd, Nat.reduceSub, Nat.reduceMul, Nat.reduceLT, Nat.reduceLeDiff, Nat.reduceBEq, Nat.reduceBNe, Try.results57, m12, e5, e6, e1, e16, e17, hgi, hgr, hq] | skip))
    exact ⟨i + 1, by rw [hsn], by rw [hsn], rfl, by omega, by omega, by omega⟩
end Go.Proofs.Ytagpdfbgimnljaa.X
