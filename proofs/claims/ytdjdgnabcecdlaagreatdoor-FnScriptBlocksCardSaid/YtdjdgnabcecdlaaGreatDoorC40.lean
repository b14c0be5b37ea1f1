/- What functions compute: labels of blocks, as the reference has them. -/
import Derived.Test.YtdjdgnabcecdlaaGreatDoorC39
set_option linter.unusedSimpArgs false
set_option linter.unusedVariables false
set_option maxHeartbeats 8000000
namespace Go.Proofs.YtdjdgnabcecdlaaGreatDoor.X
open Go Go.Proofs
theorem c_l5Labels (n : Int) (es : List (Int × Int)) (h : OKG n es) (hnd : es.Nodup) : KP 168 [GL n es] [] = some (.ref 2000 0 0 (blkL es).length, [], [.arr 0 1 ((blkL es).map encI)]) := by
  have hl := h.len
  have ho := h.ok
  refine xw_call (fn := Tryz.f168) rfl Tryz.func168 rfl ⟨Nat.le_of_ble_eq_true rfl, rfl, rfl⟩ ?_
  repeat' (first
    | refine xw_seq ?_
    | refine xw_block ?_
    | (refine ite_two ?_ ?_ <;> intro _ <;> first | (exfalso; omega) | skip)
    | refine ord_split (by kernel_rfl) ?_
    | (refine xw_ret ?_ <;> try simp only [sq, bl, LQ])
    | ((first | refine xw_reg ?_ | refine xw_regd ?_ | refine xw_if ?_ | refine xw_skip ?_ | refine xw_exit ?_ | refine xw_label ?_ | refine post_ret ?_ | refine post_normal ?_ | refine postE_ret ?_ | refine postE_normal ?_ | (((first | refine at_region ?_ | refine at_out ?_ | refine at_cond ?_); split) <;> first | (exfalso; omega; done) | skip)) <;> try simp (config := { maxSteps := 3000000 }) (disch := first | assumption | omega | exact VG.okg (by assumption) | (simp only [List.length_set, List.length_append, List.length_cons, List.length_nil, List.length_replicate]; omega)) only [go_sem, ↓reduceIte, Int.reduceLE, Int.reduceLT, Int.reduceToNat, Int.reduceNeg, Int.reduceAdd, Int.reduceSub, Int.reduceMul, Int.reduceEq, Int.reduceNe, Nat.reduceEqDiff, Nat.reduceAdd, Nat.reduceSub, Nat.reduceMul, Nat.reduceLT, Nat.reduceLeDiff, Nat.reduceBEq, Nat.reduceBNe, UInt8.reduceToNat, Tryz.results168]))
  refine xw_loopR (fun (x : Int × Nat × List Int) s => s.m 8 = some (.arr x.2.1 1 (x.2.2.map encI)) ∧ s.ρ 3 = .ref 8 x.2.1 0 x.2.2.length ∧ s.ρ 4 = I x.1 ∧ s.ρ 1 = .ptr 1 0 0 0 ∧ s.m 1 = some (.box 0 [I n, LE es]) ∧
    0 ≤ x.1 ∧ x.1 ≤ es.length ∧ x.2.2.length = x.1.toNat ∧ x.2.2 = iota x.1) (fun x => (es.length - x.1).toNat) (0, 0, []) (by refine ⟨?_, ?_, ?_, ?_, ?_, by omega, by simp, by simp, by simp [iota]⟩ <;> simp [upd]) ?_
  rintro ⟨i, w, xs⟩ ⟨ρ, m⟩ ⟨m8, h3, h4, h1, m1, g0, g1, g2, g3⟩
  simp only at m8 h3 h4 h1 m1 g0 g1 g2 g3
  by_cases hi : i < es.length
  · repeat' (first
      | refine xw_seq ?_
      | refine xw_block ?_
      | (refine ite_two ?_ ?_ <;> intro _ <;> first | (exfalso; omega) | skip)
      | refine ord_split (by kernel_rfl) ?_
      | (refine xw_ret ?_ <;> try simp only [sq, bl, LQ])
      | ((first | refine xw_reg ?_ | refine xw_regd ?_ | refine xw_if ?_ | refine xw_skip ?_ | refine xw_exit ?_ | refine xw_label ?_ | refine post_ret ?_ | refine post_normal ?_ | refine postE_ret ?_ | refine postE_normal ?_ | (((first | refine at_region ?_ | refine at_out ?_ | refine at_cond ?_); split) <;> first | (exfalso; omega; done) | skip)) <;> try simp (config := { maxSteps := 3000000 }) (disch := first | assumption | omega | exact VG.okg (by assumption) | (simp only [List.length_set, List.length_append, List.length_cons, List.length_nil, List.length_replicate]; omega)) only [go_sem, ↓reduceIte, Int.reduceLE, Int.reduceLT, Int.reduceToNat, Int.reduceNeg, Int.reduceAdd, Int.reduceSub, Int.reduceMul, Int.reduceEq, Int.reduceNe, Nat.reduceEqDiff, Nat.reduceAdd, Nat.reduceSub, Nat.reduceMul, Nat.reduceLT, Nat.reduceLeDiff, Nat.reduceBEq, Nat.reduceBNe, UInt8.reduceToNat, Tryz.results168, m8, h3, h4, h1, m1]))
    refine ⟨by omega, by omega, by omega, ?_, by omega⟩
    rw [iota_snoc g0, g3]
  have hin : i = es.length := by omega
  subst hin
  have hsn : Snd es.length (relL es) xs := by rw [g3]; exact iota_snd _ _
  have hxl : xs.length = es.length := by omega
  clear g3 g2
  repeat' (first
    | refine xw_seq ?_
    | refine xw_block ?_
    | (refine ite_two ?_ ?_ <;> intro _ <;> first | (exfalso; omega) | skip)
    | refine ord_split (by kernel_rfl) ?_
    | (refine xw_ret ?_ <;> try simp only [sq, bl, LQ])
    | ((first | refine xw_reg ?_ | refine xw_regd ?_ | refine xw_if ?_ | refine xw_skip ?_ | refine xw_exit ?_ | refine xw_label ?_ | refine post_ret ?_ | refine post_normal ?_ | refine postE_ret ?_ | refine postE_normal ?_ | (((first | refine at_region ?_ | refine at_out ?_ | refine at_cond ?_); split) <;> first | (exfalso; omega; done) | skip)) <;> try simp (config := { maxSteps := 3000000 }) (disch := first | assumption | omega | exact VG.okg (by assumption) | (simp only [List.length_set, List.length_append, List.length_cons, List.length_nil, List.length_replicate]; omega)) only [go_sem, ↓reduceIte, Int.reduceLE, Int.reduceLT, Int.reduceToNat, Int.reduceNeg, Int.reduceAdd, Int.reduceSub, Int.reduceMul, Int.reduceEq, Int.reduceNe, Nat.reduceEqDiff, Nat.reduceAdd, Nat.reduceSub, Nat.reduceMul, Nat.reduceLT, Nat.reduceLeDiff, Nat.reduceBEq, Nat.reduceBNe, UInt8.reduceToNat, Tryz.results168, m8, h3, h4, h1, m1]))
  refine xw_loopR (fun (x : Bool × List Int) s => s.m 8 = some (.arr w 1 (x.2.map encI)) ∧ s.ρ 3 = .ref 8 w 0 es.length ∧ s.ρ 5 = B x.1 ∧ s.ρ 1 = .ptr 1 0 0 0 ∧ s.m 1 = some (.box 0 [I n, LE es]) ∧
    x.2.length = es.length ∧ Snd es.length (relL es) x.2 ∧ (x.1 = false → x.2 = blkL es)) (fun x => (2 * x.2.sum).toNat + x.1.toNat) (true, xs) (by refine ⟨?_, ?_, ?_, ?_, ?_, hxl, hsn, by simp⟩ <;> simp [upd, m8, h3, h1, m1, hxl]) ?_
  rintro ⟨b, out⟩ ⟨ρ, m⟩ ⟨m8, h3, h5, h1, m1, f0, f1, f2⟩
  simp only at m8 h3 h5 h1 m1 f0 f1 f2
  cases b with
  | false =>
    have hbo := f2 rfl
    rw [← hbo, f0]
    repeat' (first
      | refine xw_seq ?_
      | refine xw_block ?_
      | (refine ite_two ?_ ?_ <;> intro _ <;> first | (exfalso; omega) | skip)
      | refine ord_split (by kernel_rfl) ?_
      | (refine xw_ret ?_ <;> try simp only [sq, bl, LQ])
      | ((first | refine xw_reg ?_ | refine xw_regd ?_ | refine xw_if ?_ | refine xw_skip ?_ | refine xw_exit ?_ | refine xw_label ?_ | refine post_ret ?_ | refine post_normal ?_ | refine postE_ret ?_ | refine postE_normal ?_ | (((first | refine at_region ?_ | refine at_out ?_ | refine at_cond ?_); split) <;> first | (exfalso; omega; done) | skip)) <;> try simp (config := { maxSteps := 3000000 }) (disch := first | assumption | omega | exact VG.okg (by assumption) | (simp only [List.length_set, List.length_append, List.length_cons, List.length_nil, List.length_replicate]; omega)) only [go_sem, ↓reduceIte, Int.reduceLE, Int.reduceLT, Int.reduceToNat, Int.reduceNeg, Int.reduceAdd, Int.reduceSub, Int.reduceMul, Int.reduceEq, Int.reduceNe, Nat.reduceEqDiff, Nat.reduceAdd, Nat.reduceSub, Nat.reduceMul, Nat.reduceLT, Nat.reduceLeDiff, Nat.reduceBEq, Nat.reduceBNe, UInt8.reduceToNat, Tryz.results168, m8, h3, h5, h1, m1]))
  | true =>
  repeat' (first
    | refine xw_seq ?_
    | refine xw_block ?_
    | (refine ite_two ?_ ?_ <;> intro _ <;> first | (exfalso; omega) | skip)
    | refine ord_split (by kernel_rfl) ?_
    | (refine xw_ret ?_ <;> try simp only [sq, bl, LQ])
    | ((first | refine xw_reg ?_ | refine xw_regd ?_ | refine xw_if ?_ | refine xw_skip ?_ | refine xw_exit ?_ | refine xw_label ?_ | refine post_ret ?_ | refine post_normal ?_ | refine postE_ret ?_ | refine postE_normal ?_ | (((first | refine at_region ?_ | refine at_out ?_ | refine at_cond ?_); split) <;> first | (exfalso; omega; done) | skip)) <;> try simp (config := { maxSteps := 3000000 }) (disch := first | assumption | omega | exact VG.okg (by assumption) | (simp only [List.length_set, List.length_append, List.length_cons, List.length_nil, List.length_replicate]; omega)) only [go_sem, ↓reduceIte, Int.reduceLE, Int.reduceLT, Int.reduceToNat, Int.reduceNeg, Int.reduceAdd, Int.reduceSub, Int.reduceMul, Int.reduceEq, Int.reduceNe, Nat.reduceEqDiff, Nat.reduceAdd, Nat.reduceSub, Nat.reduceMul, Nat.reduceLT, Nat.reduceLeDiff, Nat.reduceBEq, Nat.reduceBNe, UInt8.reduceToNat, Tryz.results168, m8, h3, h5, h1, m1]))
  refine xw_loopR (fun (x : Int × Bool × List Int) s => s.m 8 = some (.arr w 1 (x.2.2.map encI)) ∧ s.ρ 3 = .ref 8 w 0 es.length ∧ s.ρ 5 = B x.2.1 ∧ s.ρ 6 = I x.1 ∧ s.ρ 1 = .ptr 1 0 0 0 ∧ s.m 1 = some (.box 0 [I n, LE es]) ∧
    0 ≤ x.1 ∧ x.1 ≤ es.length ∧ x.2.2.length = es.length ∧ Snd es.length (relL es) x.2.2 ∧ (x.2.1 = false → x.2.2 = out ∧ ∀ q ∈ relK es x.1 0, out.getD q.1.toNat 0 = out.getD q.2.toNat 0) ∧ (x.2.1 = true → x.2.2.sum < out.sum))
    (fun x => (es.length - x.1).toNat) (0, false, out) ?_ ?_
  · refine ⟨by simp [upd, m8], by simp [upd, h3], by simp [upd], by simp [upd], by simp [upd, h1], by simp [upd, m1], by simp, by simp, f0, f1, fun _ => ⟨rfl, fun q hq => ?_⟩, by simp⟩
    have h1 := mem_relK.1 hq
    have h2 := rel_ok q h1.1
    unfold okE at h2
    omega
  rintro ⟨i, a, ou⟩ ⟨ρ, m⟩ ⟨m8, h3, h5, h6, h1, m1, e0, e1, e2, e3, e4, e5⟩
  simp only at m8 h3 h5 h6 h1 m1 e0 e1 e2 e3 e4 e5
  by_cases hi : i < es.length
  rotate_left
  · have hie : i = es.length := by omega
    rw [hie, relK_all] at e4
    repeat' (first
      | refine xw_seq ?_
      | refine xw_block ?_
      | (refine ite_two ?_ ?_ <;> intro _ <;> first | (exfalso; omega) | skip)
      | refine ord_split (by kernel_rfl) ?_
      | (refine xw_ret ?_ <;> try simp only [sq, bl, LQ])
      | ((first | refine xw_reg ?_ | refine xw_regd ?_ | refine xw_if ?_ | refine xw_skip ?_ | refine xw_exit ?_ | refine xw_label ?_ | refine post_ret ?_ | refine post_normal ?_ | refine postE_ret ?_ | refine postE_normal ?_ | (((first | refine at_region ?_ | refine at_out ?_ | refine at_cond ?_); split) <;> first | (exfalso; omega; done) | skip)) <;> try simp (config := { maxSteps := 3000000 }) (disch := first | assumption | omega | exact VG.okg (by assumption) | (simp only [List.length_set, List.length_append, List.length_cons, List.length_nil, List.length_replicate]; omega)) only [go_sem, ↓reduceIte, Int.reduceLE, Int.reduceLT, Int.reduceToNat, Int.reduceNeg, Int.reduceAdd, Int.reduceSub, Int.reduceMul, Int.reduceEq, Int.reduceNe, Nat.reduceEqDiff, Nat.reduceAdd, Nat.reduceSub, Nat.reduceMul, Nat.reduceLT, Nat.reduceLeDiff, Nat.reduceBEq, Nat.reduceBNe, UInt8.reduceToNat, Tryz.results168, m8, h3, h5, h6, h1, m1]))
    have hs1 := e3.sum
    have hs2 := f1.sum
    refine ⟨e2, e3, fun ha => ?_, ?_⟩
    · obtain ⟨rfl, hq⟩ := e4 ha
      exact lab_of rel_ok e3 hq
    · cases a with
      | false => rw [(e4 rfl).1]; simp
      | true => have := e5 rfl; simp; omega
  have hoe := ho _ (getD_mem (d := (0, 0)) (show i.toNat < es.length by omega))
  repeat' (first
    | refine xw_seq ?_
    | refine xw_block ?_
    | (refine ite_two ?_ ?_ <;> intro _ <;> first | (exfalso; omega) | skip)
    | refine ord_split (by kernel_rfl) ?_
    | (refine xw_ret ?_ <;> try simp only [sq, bl, LQ])
    | ((first | refine xw_reg ?_ | refine xw_regd ?_ | refine xw_if ?_ | refine xw_skip ?_ | refine xw_exit ?_ | refine xw_label ?_ | refine post_ret ?_ | refine post_normal ?_ | refine postE_ret ?_ | refine postE_normal ?_ | (((first | refine at_region ?_ | refine at_out ?_ | refine at_cond ?_); split) <;> first | (exfalso; omega; done) | skip)) <;> try simp (config := { maxSteps := 3000000 }) (disch := first | assumption | omega | exact VG.okg (by assumption) | (simp only [List.length_set, List.length_append, List.length_cons, List.length_nil, List.length_replicate]; omega)) only [go_sem, ↓reduceIte, Int.reduceLE, Int.reduceLT, Int.reduceToNat, Int.reduceNeg, Int.reduceAdd, Int.reduceSub, Int.reduceMul, Int.reduceEq, Int.reduceNe, Nat.reduceEqDiff, Nat.reduceAdd, Nat.reduceSub, Nat.reduceMul, Nat.reduceLT, Nat.reduceLeDiff, Nat.reduceBEq, Nat.reduceBNe, UInt8.reduceToNat, Tryz.results168, m8, h3, h5, h6, h1, m1]))
  refine xw_loopR (fun (x : Int × Bool × List Int) s => s.m 8 = some (.arr w 1 (x.2.2.map encI)) ∧ s.ρ 3 = .ref 8 w 0 es.length ∧ s.ρ 5 = B x.2.1 ∧ s.ρ 6 = I i ∧ s.ρ 7 = I x.1 ∧ s.ρ 1 = .ptr 1 0 0 0 ∧ s.m 1 = some (.box 0 [I n, LE es]) ∧
    0 ≤ x.1 ∧ x.1 ≤ i ∧ x.2.2.length = es.length ∧ Snd es.length (relL es) x.2.2 ∧ (x.2.1 = false → x.2.2 = out ∧ ∀ q ∈ relK es i x.1, out.getD q.1.toNat 0 = out.getD q.2.toNat 0) ∧ (x.2.1 = true → x.2.2.sum < out.sum))
    (fun x => (i - x.1).toNat) (0, a, ou) ?_ ?_
  · refine ⟨by simp [upd, m8], by simp [upd, h3], by simp [upd, h5], by simp [upd, h6], by simp [upd], by simp [upd, h1], by simp [upd, m1], by simp, by simp only; omega, e2, e3, e4, e5⟩
  clear e2 e3 e4 e5 m8 h3 h5 h6 h1 m1
  rintro ⟨k, b, ou⟩ ⟨ρ, m⟩ ⟨m8, h3, h5, h6, h7, h1, m1, d0, d1, d2, d3, d4, d5⟩
  simp only at m8 h3 h5 h6 h7 h1 m1 d0 d1 d2 d3 d4 d5
  by_cases hk : k < i
  rotate_left
  · have hki : k = i := by omega
    rw [hki, relK_next] at d4
    repeat' (first
      | refine xw_seq ?_
      | refine xw_block ?_
      | (refine ite_two ?_ ?_ <;> intro _ <;> first | (exfalso; omega) | skip)
      | refine ord_split (by kernel_rfl) ?_
      | (refine xw_ret ?_ <;> try simp only [sq, bl, LQ])
      | ((first | refine xw_reg ?_ | refine xw_regd ?_ | refine xw_if ?_ | refine xw_skip ?_ | refine xw_exit ?_ | refine xw_label ?_ | refine post_ret ?_ | refine post_normal ?_ | refine postE_ret ?_ | refine postE_normal ?_ | (((first | refine at_region ?_ | refine at_out ?_ | refine at_cond ?_); split) <;> first | (exfalso; omega; done) | skip)) <;> try simp (config := { maxSteps := 3000000 }) (disch := first | assumption | omega | exact VG.okg (by assumption) | (simp only [List.length_set, List.length_append, List.length_cons, List.length_nil, List.length_replicate]; omega)) only [go_sem, ↓reduceIte, Int.reduceLE, Int.reduceLT, Int.reduceToNat, Int.reduceNeg, Int.reduceAdd, Int.reduceSub, Int.reduceMul, Int.reduceEq, Int.reduceNe, Nat.reduceEqDiff, Nat.reduceAdd, Nat.reduceSub, Nat.reduceMul, Nat.reduceLT, Nat.reduceLeDiff, Nat.reduceBEq, Nat.reduceBNe, UInt8.reduceToNat, Tryz.results168, m8, h3, h5, h6, h7, h1, m1]))
    exact ⟨by omega, by omega, d2, d3, d4, d5, by omega⟩
  have hke := ho _ (getD_mem (d := (0, 0)) (show k.toNat < es.length by omega))
  have hcy := c_l5Cycle n es h (eAt es i) (eAt es k) hoe hke
  have hmem : Near es (eAt es i) (eAt es k) → (k, i) ∈ relL es := fun hN => mem_relL.2 ⟨d0, hk, hi, hN.symm⟩
  have hok : okE es.length (k, i) := ⟨d0, hk, hi⟩
  by_cases hle : ou.getD i.toNat 0 = ou.getD k.toNat 0
  · have d4' : b = false → ou = out ∧ ∀ q ∈ relK es i (k + 1), out.getD q.1.toNat 0 = out.getD q.2.toNat 0 := fun hb => by
      obtain ⟨q1, q2⟩ := d4 hb
      refine ⟨q1, fun q hq => ?_⟩
      rcases relK_succ hq with hq | ⟨rfl, -⟩
      · exact q2 q hq
      · rw [← q1]; exact hle.symm
    clear hcy
    repeat' (first
      | refine xw_seq ?_
      | refine xw_block ?_
      | (refine ite_two ?_ ?_ <;> intro _ <;> first | (exfalso; omega) | skip)
      | refine ord_split (by kernel_rfl) ?_
      | (refine xw_ret ?_ <;> try simp only [sq, bl, LQ])
      | ((first | refine xw_reg ?_ | refine xw_regd ?_ | refine xw_if ?_ | refine xw_skip ?_ | refine xw_exit ?_ | refine xw_label ?_ | refine post_ret ?_ | refine post_normal ?_ | refine postE_ret ?_ | refine postE_normal ?_ | (((first | refine at_region ?_ | refine at_out ?_ | refine at_cond ?_); split) <;> first | (exfalso; omega; done) | skip)) <;> try simp (config := { maxSteps := 3000000 }) (disch := first | assumption | omega | exact VG.okg (by assumption) | (simp only [List.length_set, List.length_append, List.length_cons, List.length_nil, List.length_replicate]; omega)) only [go_sem, ↓reduceIte, Int.reduceLE, Int.reduceLT, Int.reduceToNat, Int.reduceNeg, Int.reduceAdd, Int.reduceSub, Int.reduceMul, Int.reduceEq, Int.reduceNe, Nat.reduceEqDiff, Nat.reduceAdd, Nat.reduceSub, Nat.reduceMul, Nat.reduceLT, Nat.reduceLeDiff, Nat.reduceBEq, Nat.reduceBNe, UInt8.reduceToNat, Tryz.results168, m8, h3, h5, h6, h7, h1, m1, hle]))
    exact ⟨by omega, by omega, d2, d3, d4', d5, by omega⟩
  by_cases hN : Near es (eAt es i) (eAt es k)
  rotate_left
  · have d4' : b = false → ou = out ∧ ∀ q ∈ relK es i (k + 1), out.getD q.1.toNat 0 = out.getD q.2.toNat 0 := fun hb => by
      obtain ⟨q1, q2⟩ := d4 hb
      refine ⟨q1, fun q hq => ?_⟩
      rcases relK_succ hq with hq | ⟨rfl, hz⟩
      · exact q2 q hq
      · exact absurd hz hN
    rw [decide_eq_false hN] at hcy
    repeat' (first
      | refine xw_seq ?_
      | refine xw_block ?_
      | (refine ite_two ?_ ?_ <;> intro _ <;> first | (exfalso; omega) | skip)
      | refine ord_split (by kernel_rfl) ?_
      | (refine xw_ret ?_ <;> try simp only [sq, bl, LQ])
      | ((first | refine xw_reg ?_ | refine xw_regd ?_ | refine xw_if ?_ | refine xw_skip ?_ | refine xw_exit ?_ | refine xw_label ?_ | refine post_ret ?_ | refine post_normal ?_ | refine postE_ret ?_ | refine postE_normal ?_ | (((first | refine at_region ?_ | refine at_out ?_ | refine at_cond ?_); split) <;> first | (exfalso; omega; done) | skip)) <;> try simp (config := { maxSteps := 3000000 }) (disch := first | assumption | omega | exact VG.okg (by assumption) | (simp only [List.length_set, List.length_append, List.length_cons, List.length_nil, List.length_replicate]; omega)) only [go_sem, ↓reduceIte, Int.reduceLE, Int.reduceLT, Int.reduceToNat, Int.reduceNeg, Int.reduceAdd, Int.reduceSub, Int.reduceMul, Int.reduceEq, Int.reduceNe, Nat.reduceEqDiff, Nat.reduceAdd, Nat.reduceSub, Nat.reduceMul, Nat.reduceLT, Nat.reduceLeDiff, Nat.reduceBEq, Nat.reduceBNe, UInt8.reduceToNat, Tryz.results168, m8, h3, h5, h6, h7, h1, m1, hcy]))
    exact ⟨by omega, by omega, d2, d3, d4', d5, by omega⟩
  have hm := hmem hN
  rw [decide_eq_true hN] at hcy
  have hsum : b = false → ou.sum = out.sum := fun hb => by rw [(d4 hb).1]
  by_cases hlt : ou.getD i.toNat 0 < ou.getD k.toNat 0
  · have hs : Snd es.length (relL es) (ou.set k.toNat (ou.getD i.toNat 0)) := d3.set2 hok hm hlt
    have hs2 : (ou.set k.toNat (ou.getD i.toNat 0)).sum < out.sum := by
      rw [sum_set (by omega)]
      cases b with
      | false => have := hsum rfl; omega
      | true => have := d5 rfl; omega
    repeat' (first
      | refine xw_seq ?_
      | refine xw_block ?_
      | (refine ite_two ?_ ?_ <;> intro _ <;> first | (exfalso; omega) | skip)
      | refine ord_split (by kernel_rfl) ?_
      | (refine xw_ret ?_ <;> try simp only [sq, bl, LQ])
      | ((first | refine xw_reg ?_ | refine xw_regd ?_ | refine xw_if ?_ | refine xw_skip ?_ | refine xw_exit ?_ | refine xw_label ?_ | refine post_ret ?_ | refine post_normal ?_ | refine postE_ret ?_ | refine postE_normal ?_ | (((first | refine at_region ?_ | refine at_out ?_ | refine at_cond ?_); split) <;> first | (exfalso; omega; done) | skip)) <;> try simp (config := { maxSteps := 3000000 }) (disch := first | assumption | omega | exact VG.okg (by assumption) | (simp only [List.length_set, List.length_append, List.length_cons, List.length_nil, List.length_replicate]; omega)) only [go_sem, ↓reduceIte, Int.reduceLE, Int.reduceLT, Int.reduceToNat, Int.reduceNeg, Int.reduceAdd, Int.reduceSub, Int.reduceMul, Int.reduceEq, Int.reduceNe, Nat.reduceEqDiff, Nat.reduceAdd, Nat.reduceSub, Nat.reduceMul, Nat.reduceLT, Nat.reduceLeDiff, Nat.reduceBEq, Nat.reduceBNe, UInt8.reduceToNat, Tryz.results168, m8, h3, h5, h6, h7, h1, m1, hcy]))
    exact ⟨by omega, by omega, d2, hs, by simp, fun _ => hs2, by omega⟩
  · have hs : Snd es.length (relL es) (ou.set i.toNat (ou.getD k.toNat 0)) := d3.set1 hok hm
    have hs2 : (ou.set i.toNat (ou.getD k.toNat 0)).sum < out.sum := by
      rw [sum_set (by omega)]
      cases b with
      | false => have := hsum rfl; omega
      | true => have := d5 rfl; omega
    repeat' (first
      | refine xw_seq ?_
      | refine xw_block ?_
      | (refine ite_two ?_ ?_ <;> intro _ <;> first | (exfalso; omega) | skip)
      | refine ord_split (by kernel_rfl) ?_
      | (refine xw_ret ?_ <;> try simp only [sq, bl, LQ])
      | ((first | refine xw_reg ?_ | refine xw_regd ?_ | refine xw_if ?_ | refine xw_skip ?_ | refine xw_exit ?_ | refine xw_label ?_ | refine post_ret ?_ | refine post_normal ?_ | refine postE_ret ?_ | refine postE_normal ?_ | (((first | refine at_region ?_ | refine at_out ?_ | refine at_cond ?_); split) <;> first | (exfalso; omega; done) | skip)) <;> try simp (config := { maxSteps := 3000000 }) (disch := first | assumption | omega | exact VG.okg (by assumption) | (simp only [List.length_set, List.length_append, List.length_cons, List.length_nil, List.length_replicate]; omega)) only [go_sem, ↓reduceIte, Int.reduceLE, Int.reduceLT, Int.reduceToNat, Int.reduceNeg, Int.reduceAdd, Int.reduceSub, Int.reduceMul, Int.reduceEq, Int.reduceNe, Nat.reduceEqDiff, Nat.reduceAdd, Nat.reduceSub, Nat.reduceMul, Nat.reduceLT, Nat.reduceLeDiff, Nat.reduceBEq, Nat.reduceBNe, UInt8.reduceToNat, Tryz.results168, m8, h3, h5, h6, h7, h1, m1, hcy]))
    exact ⟨by omega, by omega, d2, hs, by simp, fun _ => hs2, by omega⟩
end Go.Proofs.YtdjdgnabcecdlaaGreatDoor.X
