/- What functions compute: texts that are parsed. -/
import Derived.Test.YtdjdgnabcecdlaaDoorC102
import Derived.Test.YtdjdgnabcecdlaaDoorKAE
set_option linter.unusedSimpArgs false
set_option linter.unusedVariables false
set_option maxHeartbeats 8000000
set_option maxRecDepth 100000
namespace Go.Proofs.YtdjdgnabcecdlaaDoor.X
open Go Go.Proofs
theorem encS_all (xs : List (List UInt8)) : (xs.map encS).all (fun e => e.length == 1) = true := by simp [encS]
theorem edT_cut (e : Int × Int) (h : (0 ≤ e.1 ∧ e.1 < 100) ∧ 0 ≤ e.2 ∧ e.2 < 100) : KP 25 [S (edT e), S [45]] [] = some (.tup [S (dgt e.1), S (dgt e.2), B true], [], []) := by
  have l1 : (dgt e.1).length ≤ 2 := (dec2_len (n := e.1.toNat)).2
  have l2 : (dgt e.2).length ≤ 2 := (dec2_len (n := e.2.toNat)).2
  exact c_Cut_at (dgt e.1) (dgt e.2) 45 (dec2_no (by omega) (by decide)) (by omega)
theorem c_ParseGraph (n : Int) (es : List (Int × Int)) (hV : VG n es) : KP 9 [S (fmtG n es)] [] = some (.tup [.agg [I n, qP es], B true], [], qA es) := by
  obtain ⟨hs, n0, n1⟩ := hV.small
  have hel := hV.2.2.1
  have hlen := fmtG_len n es
  have hpc := pcs_fmtG ⟨n0, n1⟩ hs
  have hsp := c_SplitN (fmtG n es) 32 42 (by omega) (by rw [hpc]; simp; omega) (by omega)
  rw [hpc] at hsp
  simp only [List.map_cons, encS] at hsp
  have hfg := c_FormatGraph n es (by omega)
  rw [if_pos hV] at hfg
  have hne : eqS (fmtG n es) [] = false := eqS_ne (fun h => by rw [h] at hlen; simp at hlen)
  have han := c_atoi n n0 n1
  have hWl : ((es.map edT).map encS).length = es.length := by simp
  have hWt : ((es.map edT).map encS).take es.length = (es.map edT).map encS := List.take_of_length_le (by simp)
  have hWa := encS_all (es.map edT)
  have hWg : ∀ i : Nat, i < es.length → ((es.map edT).map encS)[i]? = some [.v (.string ⟨(edT (es.getD i (0, 0))).toArray⟩)] := fun i hi => by simp [encS, hi]
  generalize hW : (es.map edT).map encS = W at *
  have hsub : es.length + 1 - 1 = es.length := by omega
  generalize hT : fmtG n es = T at *
  refine xw_call (fn := Tryd.f9) rfl Tryd.func9 rfl ⟨Nat.le_of_ble_eq_true rfl, rfl, rfl⟩ ?_
  repeat' (first
    | refine xw_seq ?_
    | refine xw_block ?_
    | (refine ite_two ?_ ?_ <;> intro _ <;> first | (exfalso; omega) | skip)
    | refine ord_split (by kernel_rfl) ?_
    | (refine xw_ret ?_ <;> try simp only [sq, bl, LQ])
    | ((first | refine xw_reg ?_ | refine xw_regd ?_ | refine xw_if ?_ | refine xw_skip ?_ | refine xw_exit ?_ | refine xw_label ?_ | refine post_ret ?_ | refine post_normal ?_ | refine postE_ret ?_ | refine postE_normal ?_ | (((first | refine at_region ?_ | refine at_out ?_ | refine at_cond ?_); split) <;> first | (exfalso; omega; done) | skip)) <;> try simp (config := { maxSteps := 3000000 }) (disch := first | assumption | omega | exact VG.okg (by assumption) | (simp only [List.length_set, List.length_append, List.length_cons, List.length_nil, List.length_replicate]; omega)) only [go_sem, ↓reduceIte, Int.reduceLE, Int.reduceLT, Int.reduceToNat, Int.reduceNeg, Int.reduceAdd, Int.reduceSub, Int.reduceMul, Int.reduceEq, Int.reduceNe, Nat.reduceEqDiff, Nat.reduceAdd, Nat.reduceSub, Nat.reduceMul, Nat.reduceLT, Nat.reduceLeDiff, Nat.reduceBEq, Nat.reduceBNe, UInt8.reduceToNat, Tryd.results9, hsp, han, hWl, hWt, hWa, hsub]))
  refine xw_loopR (fun (x : Int × Nat) s => s.ρ 29 = .i (.lst W) ∧ s.ρ 30 = I es.length ∧ s.ρ 31 = I x.1 ∧ s.ρ 5 = I n ∧ s.ρ 6 = .i (.v .nilIface) ∧ s.ρ 0 = S T ∧ s.ρ 2 = .ptr 2 0 0 0 ∧ s.m 2 = some (.box 0 [I 0, .i .emp]) ∧ s.ρ 7 = .ptr 7 0 0 0 ∧ s.m 7 = some (.box 0 [I n, fP 68 x.2 (es.take x.1.toNat)]) ∧ (es.take x.1.toNat ≠ [] → s.m 68 = some (.arr x.2 2 ((es.take x.1.toNat).map encE))) ∧
    0 ≤ x.1 ∧ x.1 ≤ es.length) (fun x => (es.length - x.1).toNat) (0, 0) ?_ ?_
  · exact ⟨rfl, by simp [upd, hWl], rfl, rfl, rfl, rfl, rfl, rfl, rfl, rfl, fun h => absurd rfl h, by simp, by simp⟩
  rintro ⟨i, w⟩ ⟨ρ, m⟩ ⟨e29, e30, e31, e5, e6, e0, e2, m2, e7, m7, m68, g0, g1⟩
  simp only at e29 e30 e31 e5 e6 e0 e2 m2 e7 m7 m68 g0 g1
  by_cases hi : i < es.length
  rotate_left
  · have ht : es.take i.toNat = es := take_all (by omega)
    rw [ht] at m7 m68
    unfold qP qA
    by_cases hz : es = []
    · subst hz
      have m7' : m 7 = some (.box 0 [I n, .i .emp]) := m7
      have hfg' : KP 8 [.agg [I n, .i (.lst [])]] [] = some (S T, [], []) := hfg
      repeat' (first
        | refine xw_seq ?_
        | refine xw_block ?_
        | (refine ite_two ?_ ?_ <;> intro _ <;> first | (exfalso; omega) | skip)
        | refine ord_split (by kernel_rfl) ?_
        | (refine xw_ret ?_ <;> try simp only [sq, bl, LQ])
        | ((first | refine xw_reg ?_ | refine xw_regd ?_ | refine xw_if ?_ | refine xw_skip ?_ | refine xw_exit ?_ | refine xw_label ?_ | refine post_ret ?_ | refine post_normal ?_ | refine postE_ret ?_ | refine postE_normal ?_ | (((first | refine at_region ?_ | refine at_out ?_ | refine at_cond ?_); split) <;> first | (exfalso; omega; done) | skip)) <;> try simp (config := { maxSteps := 3000000 }) (disch := first | assumption | omega | exact VG.okg (by assumption) | (simp only [List.length_set, List.length_append, List.length_cons, List.length_nil, List.length_replicate]; omega)) only [go_sem, ↓reduceIte, Int.reduceLE, Int.reduceLT, Int.reduceToNat, Int.reduceNeg, Int.reduceAdd, Int.reduceSub, Int.reduceMul, Int.reduceEq, Int.reduceNe, Nat.reduceEqDiff, Nat.reduceAdd, Nat.reduceSub, Nat.reduceMul, Nat.reduceLT, Nat.reduceLeDiff, Nat.reduceBEq, Nat.reduceBNe, UInt8.reduceToNat, Tryd.results9, e29, e30, e31, e5, e6, e0, e2, m2, e7, m7', hne, hfg']))
    · have m7' : m 7 = some (.box 0 [I n, .ref 68 w 0 es.length]) := by rw [m7, fP, if_neg hz]
      have m68' := m68 hz
      rw [if_neg hz, if_neg hz]
      repeat' (first
        | refine xw_seq ?_
        | refine xw_block ?_
        | (refine ite_two ?_ ?_ <;> intro _ <;> first | (exfalso; omega) | skip)
        | refine ord_split (by kernel_rfl) ?_
        | (refine xw_ret ?_ <;> try simp only [sq, bl, LQ])
        | ((first | refine xw_reg ?_ | refine xw_regd ?_ | refine xw_if ?_ | refine xw_skip ?_ | refine xw_exit ?_ | refine xw_label ?_ | refine post_ret ?_ | refine post_normal ?_ | refine postE_ret ?_ | refine postE_normal ?_ | (((first | refine at_region ?_ | refine at_out ?_ | refine at_cond ?_); split) <;> first | (exfalso; omega; done) | skip)) <;> try simp (config := { maxSteps := 3000000 }) (disch := first | assumption | omega | exact VG.okg (by assumption) | (simp only [List.length_set, List.length_append, List.length_cons, List.length_nil, List.length_replicate]; omega)) only [go_sem, ↓reduceIte, Int.reduceLE, Int.reduceLT, Int.reduceToNat, Int.reduceNeg, Int.reduceAdd, Int.reduceSub, Int.reduceMul, Int.reduceEq, Int.reduceNe, Nat.reduceEqDiff, Nat.reduceAdd, Nat.reduceSub, Nat.reduceMul, Nat.reduceLT, Nat.reduceLeDiff, Nat.reduceBEq, Nat.reduceBNe, UInt8.reduceToNat, Tryd.results9, e29, e30, e31, e5, e6, e0, e2, m2, e7, m7', m68', hne, hfg]))
  have hgi := hWg i.toNat (by omega)
  have hsm := hs _ (getD_mem (d := (0, 0)) (show i.toNat < es.length by omega))
  have htk := take_int (l := es) (0, 0) g0 hi
  have hcu := edT_cut (es.getD i.toNat (0, 0)) hsm
  generalize es.getD i.toNat (0, 0) = e at hgi hsm htk hcu
  obtain ⟨a, b⟩ := e
  simp only at hgi hsm hcu
  have ha := c_atoi a hsm.1.1 hsm.1.2
  have hb := c_atoi b hsm.2.1 hsm.2.2
  have htl : (es.take i.toNat).length = i.toNat := by rw [List.length_take]; omega
  generalize es.take i.toNat = xs at m7 m68 htk htl
  by_cases hz : xs = []
  · subst hz
    have m7' : m 7 = some (.box 0 [I n, .i .emp]) := m7
    repeat' (first
      | refine xw_seq ?_
      | refine xw_block ?_
      | (refine ite_two ?_ ?_ <;> intro _ <;> first | (exfalso; omega) | skip)
      | refine ord_split (by kernel_rfl) ?_
      | (refine xw_ret ?_ <;> try simp only [sq, bl, LQ])
      | ((first | refine xw_reg ?_ | refine xw_regd ?_ | refine xw_if ?_ | refine xw_skip ?_ | refine xw_exit ?_ | refine xw_label ?_ | refine post_ret ?_ | refine post_normal ?_ | refine postE_ret ?_ | refine postE_normal ?_ | (((first | refine at_region ?_ | refine at_out ?_ | refine at_cond ?_); split) <;> first | (exfalso; omega; done) | skip)) <;> try simp (config := { maxSteps := 3000000 }) (disch := first | assumption | omega | exact VG.okg (by assumption) | (simp only [List.length_set, List.length_append, List.length_cons, List.length_nil, List.length_replicate]; omega)) only [go_sem, ↓reduceIte, Int.reduceLE, Int.reduceLT, Int.reduceToNat, Int.reduceNeg, Int.reduceAdd, Int.reduceSub, Int.reduceMul, Int.reduceEq, Int.reduceNe, Nat.reduceEqDiff, Nat.reduceAdd, Nat.reduceSub, Nat.reduceMul, Nat.reduceLT, Nat.reduceLeDiff, Nat.reduceBEq, Nat.reduceBNe, UInt8.reduceToNat, Tryd.results9, e29, e30, e31, e5, e6, e0, e2, m2, e7, m7', hgi, hcu, ha, hb]))
    exact ⟨nv (m 68), by rw [htk]; simp [fP], fun _ => ⟨rfl, by rw [htk]; rfl⟩, by omega, by omega, by omega⟩
  · have m7' : m 7 = some (.box 0 [I n, .ref 68 w 0 xs.length]) := by rw [m7, fP, if_neg hz]
    have m68' := m68 hz
    repeat' (first
      | refine xw_seq ?_
      | refine xw_block ?_
      | (refine ite_two ?_ ?_ <;> intro _ <;> first | (exfalso; omega) | skip)
      | refine ord_split (by kernel_rfl) ?_
      | (refine xw_ret ?_ <;> try simp only [sq, bl, LQ])
      | ((first | refine xw_reg ?_ | refine xw_regd ?_ | refine xw_if ?_ | refine xw_skip ?_ | refine xw_exit ?_ | refine xw_label ?_ | refine post_ret ?_ | refine post_normal ?_ | refine postE_ret ?_ | refine postE_normal ?_ | (((first | refine at_region ?_ | refine at_out ?_ | refine at_cond ?_); split) <;> first | (exfalso; omega; done) | skip)) <;> try simp (config := { maxSteps := 3000000 }) (disch := first | assumption | omega | exact VG.okg (by assumption) | (simp only [List.length_set, List.length_append, List.length_cons, List.length_nil, List.length_replicate]; omega)) only [go_sem, ↓reduceIte, Int.reduceLE, Int.reduceLT, Int.reduceToNat, Int.reduceNeg, Int.reduceAdd, Int.reduceSub, Int.reduceMul, Int.reduceEq, Int.reduceNe, Nat.reduceEqDiff, Nat.reduceAdd, Nat.reduceSub, Nat.reduceMul, Nat.reduceLT, Nat.reduceLeDiff, Nat.reduceBEq, Nat.reduceBNe, UInt8.reduceToNat, Tryd.results9, e29, e30, e31, e5, e6, e0, e2, m2, e7, m7', m68', hgi, hcu, ha, hb]))
    exact ⟨w + 1, by rw [htk, fP, if_neg (by simp)]; simp, fun _ => ⟨rfl, by rw [htk]⟩, by omega, by omega, by omega⟩
end Go.Proofs.YtdjdgnabcecdlaaDoor.X
