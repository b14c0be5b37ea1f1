/- What functions compute: the depths of a tour, as the reference has them. -/
import Derived.Test.YtagpdfbgimnljaaC80
set_option linter.unusedSimpArgs false
set_option linter.unusedVariables false
set_option maxHeartbeats 8000000
set_option maxRecDepth 100000
namespace Go.Proofs.Ytagpdfbgimnljaa.X
open Go Go.Proofs
theorem c_sTourDepths_no (l : List Int) (hl : l.length ≤ 1000) (h : ¬ TV l) : KP 62 [LI l] [] = some (.tup [.ref 2000 0 0 0, B false], [], [.arr 0 1 []]) := by
  have hv := c_sTourValid l hl
  rw [decide_eq_false h] at hv
  refine xw_call (fn := Try.f62) rfl Try.func62 rfl ⟨Nat.le_of_ble_eq_true rfl, rfl, rfl⟩ ?_
  repeat' (first
    | refine xw_seq ?_
    | refine xw_block ?_
    | (refine ite_two ?_ ?_ <;> intro _ <;> first | (exfalso; omega) | skip)
    | refine ord_split (by kernel_rfl) ?_
    | (refine xw_ret ?_ <;> try simp only [sq, bl, LQ])
    | ((first | refine xw_reg ?_ | refine xw_regd ?_ | refine xw_if ?_ | refine xw_skip ?_ | refine xw_exit ?_ | refine xw_label ?_ | refine post_ret ?_ | refine post_normal ?_ | refine postE_ret ?_ | refine postE_normal ?_) <;> simp (config := { maxSteps := 3000000 }) (disch := first | assumption | omega | exact VG.okg (by assumption) | (simp only [List.length_set, List.length_append, List.length_cons, List.length_nil, List.length_replicate]; omega)) only [go_sem, ↓reduceIte, Int.reduceLE, Int.reduceLT, Int.reduceToNat, Int.reduceNeg, Int.reduceAdd, Int.reduceSub, Int.reduceMul, Int.reduceEq, Int.reduceNe, Nat.reduceEqDiff, Nat.reduceAdd, Nat.reduceSub, Nat.reduceMul, Nat.reduceLT, Nat.reduceLeDiff, Nat.reduceBEq, Nat.reduceBNe, Try.results62, hv])
    | (((first | refine at_region ?_ | refine at_out ?_ | refine at_cond ?_); split) <;> first | (exfalso; omega; done) | simp (config := { maxSteps := 3000000 }) (disch := first | assumption | omega | exact VG.okg (by assumption) | (simp only [List.length_set, List.length_append, List.length_cons, List.length_nil, List.length_replicate]; omega)) only [go_sem, ↓reduceIte, Int.reduceLE, Int.reduceLT, Int.reduceToNat, Int.reduceNeg, Int.reduceAdd, Int.reduceSub, Int.reduceMul, Int.reduceEq, Int.reduceNe, Nat.reduceEqDiff, Nat.reduceAdd, Nat.reduceSub, Nat.reduceMul, Nat.reduceLT, Nat.reduceLeDiff, Nat.reduceBEq, Nat.reduceBNe, Try.results62, hv] | skip))
theorem c_sTourDepths {n : Int} {es : List (Int × Int)} {l : List Int} (h : TV l) (ha : AW n es l) : KP 62 [LI l] [] = some (.tup [.ref 2000 0 0 l.length, B true], [], [.arr 0 1 ((dpL n es l).map encI)]) := by
  have hl31 := h.l31
  have hv := c_sTourValid l (by omega)
  rw [decide_eq_true h] at hv
  have hDl := dpL_len n es l
  refine xw_call (fn := Try.f62) rfl Try.func62 rfl ⟨Nat.le_of_ble_eq_true rfl, rfl, rfl⟩ ?_
  repeat' (first
    | refine xw_seq ?_
    | refine xw_block ?_
    | (refine ite_two ?_ ?_ <;> intro _ <;> first | (exfalso; omega) | skip)
    | refine ord_split (by kernel_rfl) ?_
    | (refine xw_ret ?_ <;> try simp only [sq, bl, LQ])
    | ((first | refine xw_reg ?_ | refine xw_regd ?_ | refine xw_if ?_ | refine xw_skip ?_ | refine xw_exit ?_ | refine xw_label ?_ | refine post_ret ?_ | refine post_normal ?_ | refine postE_ret ?_ | refine postE_normal ?_) <;> simp (config := { maxSteps := 3000000 }) (disch := first | assumption | omega | exact VG.okg (by assumption) | (simp only [List.length_set, List.length_append, List.length_cons, List.length_nil, List.length_replicate]; omega)) only [go_sem, ↓reduceIte, Int.reduceLE, Int.reduceLT, Int.reduceToNat, Int.reduceNeg, Int.reduceAdd, Int.reduceSub, Int.reduceMul, Int.reduceEq, Int.reduceNe, Nat.reduceEqDiff, Nat.reduceAdd, Nat.reduceSub, Nat.reduceMul, Nat.reduceLT, Nat.reduceLeDiff, Nat.reduceBEq, Nat.reduceBNe, Try.results62, hv])
    | (((first | refine at_region ?_ | refine at_out ?_ | refine at_cond ?_); split) <;> first | (exfalso; omega; done) | simp (config := { maxSteps := 3000000 }) (disch := first | assumption | omega | exact VG.okg (by assumption) | (simp only [List.length_set, List.length_append, List.length_cons, List.length_nil, List.length_replicate]; omega)) only [go_sem, ↓reduceIte, Int.reduceLE, Int.reduceLT, Int.reduceToNat, Int.reduceNeg, Int.reduceAdd, Int.reduceSub, Int.reduceMul, Int.reduceEq, Int.reduceNe, Nat.reduceEqDiff, Nat.reduceAdd, Nat.reduceSub, Nat.reduceMul, Nat.reduceLT, Nat.reduceLeDiff, Nat.reduceBEq, Nat.reduceBNe, Try.results62, hv] | skip))
  refine xw_loopR (fun (u : Int × Nat × List Int) s => s.m 7 = some (.arr u.2.1 1 (((dpL n es l).take u.1.toNat).map encI)) ∧ s.ρ 4 = .ref 7 u.2.1 0 u.1.toNat ∧ s.ρ 0 = LI l ∧ s.ρ 5 = LI u.2.2 ∧ s.ρ 6 = I u.1 ∧ 0 ≤ u.1 ∧ u.1 ≤ l.length ∧ ((u.1 = 0 ∧ u.2.2 = []) ∨ (0 < u.1 ∧ Stk n es (l.getD 0 0) (l.getD (u.1 - 1).toNat 0) u.2.2))) (fun u => (l.length - u.1).toNat) (0, 0, []) ?_ ?_
  · exact ⟨rfl, rfl, rfl, rfl, rfl, by simp, by simp, .inl ⟨rfl, rfl⟩⟩
  rintro ⟨i, w, S⟩ ⟨ρ, m⟩ ⟨m7, e4, e0, e5, e6, g0, g1, g2⟩
  simp only at m7 e4 e0 e5 e6 g0 g1 g2
  have htl : ((dpL n es l).take i.toNat).length = i.toNat := by rw [List.length_take]; omega
  by_cases hi : i < l.length
  rotate_left
  · rw [take_all (by omega)] at m7
    have hit : i.toNat = l.length := by omega
    repeat' (first
      | refine xw_seq ?_
      | refine xw_block ?_
      | (refine ite_two ?_ ?_ <;> intro _ <;> first | (exfalso; omega) | skip)
      | refine ord_split (by kernel_rfl) ?_
      | (refine xw_ret ?_ <;> try simp only [sq, bl, LQ])
      | ((first | refine xw_reg ?_ | refine xw_regd ?_ | refine xw_if ?_ | refine xw_skip ?_ | refine xw_exit ?_ | refine xw_label ?_ | refine post_ret ?_ | refine post_normal ?_ | refine postE_ret ?_ | refine postE_normal ?_) <;> simp (config := { maxSteps := 3000000 }) (disch := first | assumption | omega | exact VG.okg (by assumption) | (simp only [List.length_set, List.length_append, List.length_cons, List.length_nil, List.length_replicate]; omega)) only [go_sem, ↓reduceIte, Int.reduceLE, Int.reduceLT, Int.reduceToNat, Int.reduceNeg, Int.reduceAdd, Int.reduceSub, Int.reduceMul, Int.reduceEq, Int.reduceNe, Nat.reduceEqDiff, Nat.reduceAdd, Nat.reduceSub, Nat.reduceMul, Nat.reduceLT, Nat.reduceLeDiff, Nat.reduceBEq, Nat.reduceBNe, Try.results62, m7, e4, e0, e5, e6, hit])
      | (((first | refine at_region ?_ | refine at_out ?_ | refine at_cond ?_); split) <;> first | (exfalso; omega; done) | simp (config := { maxSteps := 3000000 }) (disch := first | assumption | omega | exact VG.okg (by assumption) | (simp only [List.length_set, List.length_append, List.length_cons, List.length_nil, List.length_replicate]; omega)) only [go_sem, ↓reduceIte, Int.reduceLE, Int.reduceLT, Int.reduceToNat, Int.reduceNeg, Int.reduceAdd, Int.reduceSub, Int.reduceMul, Int.reduceEq, Int.reduceNe, Nat.reduceEqDiff, Nat.reduceAdd, Nat.reduceSub, Nat.reduceMul, Nat.reduceLT, Nat.reduceLeDiff, Nat.reduceBEq, Nat.reduceBNe, Try.results62, m7, e4, e0, e5, e6, hit] | skip))
  have hgi := getI l i.toNat (by omega)
  have hsn := take_int 0 g0 (show i < (dpL n es l).length by omega)
  rw [dpL_get (by omega)] at hsn
  rcases g2 with ⟨rfl, rfl⟩ | ⟨hi0, hS⟩
  · have hgi' := getI l 0 (by omega)
    have hd0 : dst n es (l.getD 0 0) (l.getD (0 : Int).toNat 0) = 0 := dst_self ha.ok ha.n0
    rw [hd0] at hsn
    have hsn' : (dpL n es l).take 1 = [0] := by simpa using hsn
    have hnew : Stk n es (l.getD 0 0) (l.getD 0 0) [l.getD 0 0] := Stk.new ha.ok ha.n0 rfl
    repeat' (first
      | refine xw_seq ?_
      | refine xw_block ?_
      | (refine ite_two ?_ ?_ <;> intro _ <;> first | (exfalso; omega) | skip)
      | refine ord_split (by kernel_rfl) ?_
      | (refine xw_ret ?_ <;> try simp only [sq, bl, LQ])
      | ((first | refine xw_reg ?_ | refine xw_regd ?_ | refine xw_if ?_ | refine xw_skip ?_ | refine xw_exit ?_ | refine xw_label ?_ | refine post_ret ?_ | refine post_normal ?_ | refine postE_ret ?_ | refine postE_normal ?_) <;> simp (config := { maxSteps := 3000000 }) (disch := first | assumption | omega | exact VG.okg (by assumption) | (simp only [List.length_set, List.length_append, List.length_cons, List.length_nil, List.length_replicate]; omega)) only [go_sem, ↓reduceIte, Int.reduceLE, Int.reduceLT, Int.reduceToNat, Int.reduceNeg, Int.reduceAdd, Int.reduceSub, Int.reduceMul, Int.reduceEq, Int.reduceNe, Nat.reduceEqDiff, Nat.reduceAdd, Nat.reduceSub, Nat.reduceMul, Nat.reduceLT, Nat.reduceLeDiff, Nat.reduceBEq, Nat.reduceBNe, Try.results62, m7, e4, e0, e5, e6, hgi'])
      | (((first | refine at_region ?_ | refine at_out ?_ | refine at_cond ?_); split) <;> first | (exfalso; omega; done) | simp (config := { maxSteps := 3000000 }) (disch := first | assumption | omega | exact VG.okg (by assumption) | (simp only [List.length_set, List.length_append, List.length_cons, List.length_nil, List.length_replicate]; omega)) only [go_sem, ↓reduceIte, Int.reduceLE, Int.reduceLT, Int.reduceToNat, Int.reduceNeg, Int.reduceAdd, Int.reduceSub, Int.reduceMul, Int.reduceEq, Int.reduceNe, Nat.reduceEqDiff, Nat.reduceAdd, Nat.reduceSub, Nat.reduceMul, Nat.reduceLT, Nat.reduceLeDiff, Nat.reduceBEq, Nat.reduceBNe, Try.results62, m7, e4, e0, e5, e6, hgi'] | skip))
    exact ⟨1, by rw [show (1 : Int).toNat = 1 from rfl, hsn']; rfl, rfl, [l.getD 0 0], rfl, rfl, by omega, by omega, .inr ⟨by omega, hnew⟩, by omega⟩
  have hc := ha.walk.conn (i - 1).toNat (by omega)
  have hi1 : (i - 1).toNat + 1 = i.toNat := by omega
  have hadj := ha.walk (i - 1).toNat (by omega)
  rw [hi1] at hadj
  have hb := ha.bd (i := (i - 1).toNat) (by omega)
  have hlen := hS.len
  rcases hS.step ha.ok ha.n0 ha.tree hc hadj with ⟨h1, h2, h3⟩ | ⟨h1, h3⟩
  · have hgs := getI S (S.length - 2) (by omega)
    rw [h2] at hgs
    have hl3 := h3.len
    have hz2 : ((S.length : Int) - 2).toNat = S.length - 2 := by omega
    have hz1 : ((S.length : Int) - 1).toNat = S.length - 1 := by omega
    have hlt : (S.take (S.length - 1)).length = S.length - 1 := by rw [List.length_take]; omega
    rw [hlt] at hl3
    have hgt : 1 < (S.length : Int) := by omega
    have e1 : (i + 1 - 1).toNat = i.toNat := by omega
    generalize dst n es (l.getD 0 0) (l.getD i.toNat 0) = d at *
    have htt : List.take (S.length - 1) (List.take (S.length - 1) S) = List.take (S.length - 1) S := by rw [List.take_take, Nat.min_self]
    have hvd : ((S.length - 1 : Nat) : Int) - 1 = d := by omega
    repeat' (first
      | refine xw_seq ?_
      | refine xw_block ?_
      | (refine ite_two ?_ ?_ <;> intro _ <;> first | (exfalso; omega) | skip)
      | refine ord_split (by kernel_rfl) ?_
      | (refine xw_ret ?_ <;> try simp only [sq, bl, LQ])
      | ((first | refine xw_reg ?_ | refine xw_regd ?_ | refine xw_if ?_ | refine xw_skip ?_ | refine xw_exit ?_ | refine xw_label ?_ | refine post_ret ?_ | refine post_normal ?_ | refine postE_ret ?_ | refine postE_normal ?_) <;> simp (config := { maxSteps := 3000000 }) (disch := first | assumption | omega | exact VG.okg (by assumption) | (simp only [List.length_set, List.length_append, List.length_cons, List.length_nil, List.length_replicate]; omega)) only [go_sem, ↓reduceIte, Int.reduceLE, Int.reduceLT, Int.reduceToNat, Int.reduceNeg, Int.reduceAdd, Int.reduceSub, Int.reduceMul, Int.reduceEq, Int.reduceNe, Nat.reduceEqDiff, Nat.reduceAdd, Nat.reduceSub, Nat.reduceMul, Nat.reduceLT, Nat.reduceLeDiff, Nat.reduceBEq, Nat.reduceBNe, Try.results62, m7, e4, e0, e5, e6, hgi, hgs, hz1, hz2, hlt, hgt, htt, htl, hvd])
      | (((first | refine at_region ?_ | refine at_out ?_ | refine at_cond ?_); split) <;> first | (exfalso; omega; done) | simp (config := { maxSteps := 3000000 }) (disch := first | assumption | omega | exact VG.okg (by assumption) | (simp only [List.length_set, List.length_append, List.length_cons, List.length_nil, List.length_replicate]; omega)) only [go_sem, ↓reduceIte, Int.reduceLE, Int.reduceLT, Int.reduceToNat, Int.reduceNeg, Int.reduceAdd, Int.reduceSub, Int.reduceMul, Int.reduceEq, Int.reduceNe, Nat.reduceEqDiff, Nat.reduceAdd, Nat.reduceSub, Nat.reduceMul, Nat.reduceLT, Nat.reduceLeDiff, Nat.reduceBEq, Nat.reduceBNe, Try.results62, m7, e4, e0, e5, e6, hgi, hgs, hz1, hz2, hlt, hgt, htt, htl, hvd] | skip))
    exact ⟨i + 1, hsn.symm, by omega, _, rfl, rfl, by omega, by omega, .inr ⟨by omega, by rw [e1]; exact h3⟩, by omega⟩
  · have hl3 := h3.len
    have hlt : (S ++ [l.getD i.toNat 0]).length = S.length + 1 := by simp
    rw [hlt] at hl3
    have e1 : (i + 1 - 1).toNat = i.toNat := by omega
    have htt : List.take (S.length + 1) (S ++ [l.getD i.toNat 0]) = S ++ [l.getD i.toNat 0] := take_all (by omega)
    have hvd : ((S.length + 1 : Nat) : Int) - 1 = dst n es (l.getD 0 0) (l.getD i.toNat 0) := by omega
    by_cases hgt : 1 < (S.length : Int)
    · have hgs := getI S (S.length - 2) (by omega)
      have hz2 : ((S.length : Int) - 2).toNat = S.length - 2 := by omega
      have hne : ¬ S.getD (S.length - 2) 0 = l.getD i.toNat 0 := fun e => h1 ⟨by omega, e⟩
      generalize dst n es (l.getD 0 0) (l.getD i.toNat 0) = d at *
      repeat' (first
        | refine xw_seq ?_
        | refine xw_block ?_
        | (refine ite_two ?_ ?_ <;> intro _ <;> first | (exfalso; omega) | skip)
        | refine ord_split (by kernel_rfl) ?_
        | (refine xw_ret ?_ <;> try simp only [sq, bl, LQ])
        | ((first | refine xw_reg ?_ | refine xw_regd ?_ | refine xw_if ?_ | refine xw_skip ?_ | refine xw_exit ?_ | refine xw_label ?_ | refine post_ret ?_ | refine post_normal ?_ | refine postE_ret ?_ | refine postE_normal ?_) <;> simp (config := { maxSteps := 3000000 }) (disch := first | assumption | omega | exact VG.okg (by assumption) | (simp only [List.length_set, List.length_append, List.length_cons, List.length_nil, List.length_replicate]; omega)) only [go_sem, ↓reduceIte, Int.reduceLE, Int.reduceLT, Int.reduceToNat, Int.reduceNeg, Int.reduceAdd, Int.reduceSub, Int.reduceMul, Int.reduceEq, Int.reduceNe, Nat.reduceEqDiff, Nat.reduceAdd, Nat.reduceSub, Nat.reduceMul, Nat.reduceLT, Nat.reduceLeDiff, Nat.reduceBEq, Nat.reduceBNe, Try.results62, m7, e4, e0, e5, e6, hgi, hgs, hz2, hgt, hne, htl, htt, hvd, hlt])
        | (((first | refine at_region ?_ | refine at_out ?_ | refine at_cond ?_); split) <;> first | (exfalso; omega; done) | simp (config := { maxSteps := 3000000 }) (disch := first | assumption | omega | exact VG.okg (by assumption) | (simp only [List.length_set, List.length_append, List.length_cons, List.length_nil, List.length_replicate]; omega)) only [go_sem, ↓reduceIte, Int.reduceLE, Int.reduceLT, Int.reduceToNat, Int.reduceNeg, Int.reduceAdd, Int.reduceSub, Int.reduceMul, Int.reduceEq, Int.reduceNe, Nat.reduceEqDiff, Nat.reduceAdd, Nat.reduceSub, Nat.reduceMul, Nat.reduceLT, Nat.reduceLeDiff, Nat.reduceBEq, Nat.reduceBNe, Try.results62, m7, e4, e0, e5, e6, hgi, hgs, hz2, hgt, hne, htl, htt, hvd, hlt] | skip))
      exact ⟨i + 1, hsn.symm, by omega, _, rfl, rfl, by omega, by omega, .inr ⟨by omega, by rw [e1]; exact h3⟩, by omega⟩
    · generalize dst n es (l.getD 0 0) (l.getD i.toNat 0) = d at *
      repeat' (first
        | refine xw_seq ?_
        | refine xw_block ?_
        | (refine ite_two ?_ ?_ <;> intro _ <;> first | (exfalso; omega) | skip)
        | refine ord_split (by kernel_rfl) ?_
        | (refine xw_ret ?_ <;> try simp only [sq, bl, LQ])
        | ((first | refine xw_reg ?_ | refine xw_regd ?_ | refine xw_if ?_ | refine xw_skip ?_ | refine xw_exit ?_ | refine xw_label ?_ | refine post_ret ?_ | refine post_normal ?_ | refine postE_ret ?_ | refine postE_normal ?_) <;> simp (config := { maxSteps := 3000000 }) (disch := first | assumption | omega | exact VG.okg (by assumption) | (simp only [List.length_set, List.length_append, List.length_cons, List.length_nil, List.length_replicate]; omega)) only [go_sem, ↓reduceIte, Int.reduceLE, Int.reduceLT, Int.reduceToNat, Int.reduceNeg, Int.reduceAdd, Int.reduceSub, Int.reduceMul, Int.reduceEq, Int.reduceNe, Nat.reduceEqDiff, Nat.reduceAdd, Nat.reduceSub, Nat.reduceMul, Nat.reduceLT, Nat.reduceLeDiff, Nat.reduceBEq, Nat.reduceBNe, Try.results62, m7, e4, e0, e5, e6, hgi, hgt, htl, htt, hvd, hlt])
        | (((first | refine at_region ?_ | refine at_out ?_ | refine at_cond ?_); split) <;> first | (exfalso; omega; done) | simp (config := { maxSteps := 3000000 }) (disch := first | assumption | omega | exact VG.okg (by assumption) | (simp only [List.length_set, List.length_append, List.length_cons, List.length_nil, List.length_replicate]; omega)) only [go_sem, ↓reduceIte, Int.reduceLE, Int.reduceLT, Int.reduceToNat, Int.reduceNeg, Int.reduceAdd, Int.reduceSub, Int.reduceMul, Int.reduceEq, Int.reduceNe, Nat.reduceEqDiff, Nat.reduceAdd, Nat.reduceSub, Nat.reduceMul, Nat.reduceLT, Nat.reduceLeDiff, Nat.reduceBEq, Nat.reduceBNe, Try.results62, m7, e4, e0, e5, e6, hgi, hgt, htl, htt, hvd, hlt] | skip))
      exact ⟨i + 1, hsn.symm, by omega, _, rfl, rfl, by omega, by omega, .inr ⟨by omega, by rw [e1]; exact h3⟩, by omega⟩
end Go.Proofs.Ytagpdfbgimnljaa.X
