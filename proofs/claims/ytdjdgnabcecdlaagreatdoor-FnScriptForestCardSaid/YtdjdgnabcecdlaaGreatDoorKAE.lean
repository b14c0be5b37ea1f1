/- What functions answer, and the plain laws behind it. -/
import Derived.Test.YtdjdgnabcecdlaaGreatDoorKAC
import Derived.Test.YtdjdgnabcecdlaaGreatDoorM1
/- What functions compute: labels of parts. -/
set_option linter.unusedSimpArgs false
set_option linter.unusedVariables false
set_option maxHeartbeats 2000000
namespace Go.Proofs.YtdjdgnabcecdlaaGreatDoor.X
open Go Go.Proofs
theorem iota_length (n : Int) : (iota n).length = n.toNat := by simp [iota]
theorem iota_snoc {i : Int} (h : 0 ≤ i) : iota (i + 1) = iota i ++ [i] := by
  have e : (i + 1).toNat = i.toNat + 1 := by omega
  unfold iota
  rw [e, List.range_succ, List.map_append]
  simp; omega
@[go_sem] theorem c_parts (n : Int) (es : List (Int × Int)) (h : OKG n es) : KP 150 [GL n es] [] = some (.ref 2000 0 0 (lab n es).length, [], [.arr 0 1 ((lab n es).map encI)]) := by
  obtain ⟨n0, n1, hl, ho⟩ := h
  rw [← rounds_lab ho]
  refine xw_call (fn := Tryz.f150) rfl Tryz.func150 rfl ⟨Nat.le_of_ble_eq_true rfl, rfl, rfl⟩ ?_
  repeat' (first
    | refine xw_seq ?_
    | refine xw_block ?_
    | (refine ite_two ?_ ?_ <;> intro _ <;> first | (exfalso; omega) | skip)
    | refine ord_split (by kernel_rfl) ?_
    | (refine xw_ret ?_ <;> try simp only [sq, bl, LQ])
    | ((first | refine xw_reg ?_ | refine xw_regd ?_ | refine xw_if ?_ | refine xw_skip ?_ | refine xw_exit ?_ | refine xw_label ?_ | refine post_ret ?_ | refine post_normal ?_ | refine postE_ret ?_ | refine postE_normal ?_ | (((first | refine at_region ?_ | refine at_out ?_ | refine at_cond ?_); split) <;> first | (exfalso; omega; done) | skip)) <;> try simp (config := { maxSteps := 3000000 }) (disch := first | assumption | omega | exact VG.okg (by assumption) | (simp only [List.length_set, List.length_append, List.length_cons, List.length_nil, List.length_replicate]; omega)) only [go_sem, ↓reduceIte, Int.reduceLE, Int.reduceLT, Int.reduceToNat, Int.reduceNeg, Int.reduceAdd, Int.reduceSub, Int.reduceMul, Int.reduceEq, Int.reduceNe, Nat.reduceEqDiff, Nat.reduceAdd, Nat.reduceSub, Nat.reduceMul, Nat.reduceLT, Nat.reduceLeDiff, Nat.reduceBEq, Nat.reduceBNe, UInt8.reduceToNat, Tryz.results150]))
  refine xw_loopR (fun (x : Int × Nat × List Int) s => s.m 8 = some (.arr x.2.1 1 (x.2.2.map encI)) ∧ s.ρ 3 = .ref 8 x.2.1 0 x.2.2.length ∧ s.ρ 11 = I x.1 ∧ s.ρ 10 = I n ∧ s.ρ 1 = .ptr 1 0 0 0 ∧ s.m 1 = some (.box 0 [I n, LE es]) ∧
    0 ≤ x.1 ∧ x.1 ≤ n ∧ x.2.2.length = x.1.toNat ∧ x.2.2 = iota x.1) (fun x => (n - x.1).toNat) (0, 0, []) (by simp [upd, iota, n0]) ?_
  rintro ⟨i, w, xs⟩ ⟨ρ, m⟩ ⟨m8, h3, h11, h10, h1, m1, g0, g1, g2, g3⟩
  simp only at m8 h3 h11 h10 h1 m1 g0 g1 g2 g3
  repeat' (first
    | refine xw_seq ?_
    | refine xw_block ?_
    | (refine ite_two ?_ ?_ <;> intro _ <;> first | (exfalso; omega) | skip)
    | refine ord_split (by kernel_rfl) ?_
    | (refine xw_ret ?_ <;> try simp only [sq, bl, LQ])
    | ((first | refine xw_reg ?_ | refine xw_regd ?_ | refine xw_if ?_ | refine xw_skip ?_ | refine xw_exit ?_ | refine xw_label ?_ | refine post_ret ?_ | refine post_normal ?_ | refine postE_ret ?_ | refine postE_normal ?_ | (((first | refine at_region ?_ | refine at_out ?_ | refine at_cond ?_); split) <;> first | (exfalso; omega; done) | skip)) <;> try simp (config := { maxSteps := 3000000 }) (disch := first | assumption | omega | exact VG.okg (by assumption) | (simp only [List.length_set, List.length_append, List.length_cons, List.length_nil, List.length_replicate]; omega)) only [go_sem, ↓reduceIte, Int.reduceLE, Int.reduceLT, Int.reduceToNat, Int.reduceNeg, Int.reduceAdd, Int.reduceSub, Int.reduceMul, Int.reduceEq, Int.reduceNe, Nat.reduceEqDiff, Nat.reduceAdd, Nat.reduceSub, Nat.reduceMul, Nat.reduceLT, Nat.reduceLeDiff, Nat.reduceBEq, Nat.reduceBNe, UInt8.reduceToNat, Tryz.results150, m8, h3, h11, h10, h1, m1]))
  · refine ⟨by omega, by omega, by omega, ?_, by omega⟩
    rw [iota_snoc g0, g3]
  · have hin : i = n := by omega
    subst hin
    refine xw_loopR (fun (x : Int × List Int) s => s.m 8 = some (.arr w 1 (x.2.map encI)) ∧ s.ρ 3 = .ref 8 w 0 x.2.length ∧ s.ρ 21 = I x.1 ∧ s.ρ 20 = I i ∧ s.ρ 1 = .ptr 1 0 0 0 ∧ s.m 1 = some (.box 0 [I i, LE es]) ∧
      0 ≤ x.1 ∧ x.1 ≤ i ∧ x.2.length = i.toNat ∧ x.2 = rounds es x.1.toNat (iota i)) (fun x => (i - x.1).toNat) (0, xs) (by simp [upd, rounds, m8, h3, h1, m1, g0, g2, ← g3]) ?_
    rintro ⟨k, out⟩ ⟨ρ, m⟩ ⟨m8, h3, h21, h20, h1, m1, f0, f1, f2, f3⟩
    simp only at m8 h3 h21 h20 h1 m1 f0 f1 f2 f3
    repeat' (first
      | refine xw_seq ?_
      | refine xw_block ?_
      | (refine ite_two ?_ ?_ <;> intro _ <;> first | (exfalso; omega) | skip)
      | refine ord_split (by kernel_rfl) ?_
      | (refine xw_ret ?_ <;> try simp only [sq, bl, LQ])
      | ((first | refine xw_reg ?_ | refine xw_regd ?_ | refine xw_if ?_ | refine xw_skip ?_ | refine xw_exit ?_ | refine xw_label ?_ | refine post_ret ?_ | refine post_normal ?_ | refine postE_ret ?_ | refine postE_normal ?_ | (((first | refine at_region ?_ | refine at_out ?_ | refine at_cond ?_); split) <;> first | (exfalso; omega; done) | skip)) <;> try simp (config := { maxSteps := 3000000 }) (disch := first | assumption | omega | exact VG.okg (by assumption) | (simp only [List.length_set, List.length_append, List.length_cons, List.length_nil, List.length_replicate]; omega)) only [go_sem, ↓reduceIte, Int.reduceLE, Int.reduceLT, Int.reduceToNat, Int.reduceNeg, Int.reduceAdd, Int.reduceSub, Int.reduceMul, Int.reduceEq, Int.reduceNe, Nat.reduceEqDiff, Nat.reduceAdd, Nat.reduceSub, Nat.reduceMul, Nat.reduceLT, Nat.reduceLeDiff, Nat.reduceBEq, Nat.reduceBNe, UInt8.reduceToNat, Tryz.results150, m8, h3, h21, h20, h1, m1]))
    · refine xw_loopR (fun (x : Int × List Int) s => s.m 8 = some (.arr w 1 (x.2.map encI)) ∧ s.ρ 3 = .ref 8 w 0 x.2.length ∧ s.ρ 21 = I k ∧ s.ρ 20 = I i ∧ s.ρ 1 = .ptr 1 0 0 0 ∧ s.m 1 = some (.box 0 [I i, LE es]) ∧ s.ρ 24 = LE es ∧ s.ρ 25 = I es.length ∧ s.ρ 26 = I x.1 ∧
        0 ≤ x.1 ∧ x.1 ≤ es.length ∧ x.2.length = i.toNat ∧ x.2 = (es.take x.1.toNat).foldl stepE out) (fun x => (es.length - x.1).toNat) (0, out) (by simp [upd, m8, h3, h1, m1, h21, h20, f2]) ?_
      rintro ⟨j, ou⟩ ⟨ρ, m⟩ ⟨m8, h3, h21, h20, h1, m1, h24, h25, h26, e0, e1, e2, e3⟩
      simp only at m8 h3 h21 h20 h1 m1 h24 h25 h26 e0 e1 e2 e3
      by_cases hj : j < es.length
      · have he := ho _ (getD_mem (d := (0, 0)) (show j.toNat < es.length by omega))
        unfold okE at he
        repeat' (first
          | refine xw_seq ?_
          | refine xw_block ?_
          | (refine ite_two ?_ ?_ <;> intro _ <;> first | (exfalso; omega) | skip)
          | refine ord_split (by kernel_rfl) ?_
          | (refine xw_ret ?_ <;> try simp only [sq, bl, LQ])
          | ((first | refine xw_reg ?_ | refine xw_regd ?_ | refine xw_if ?_ | refine xw_skip ?_ | refine xw_exit ?_ | refine xw_label ?_ | refine post_ret ?_ | refine post_normal ?_ | refine postE_ret ?_ | refine postE_normal ?_ | (((first | refine at_region ?_ | refine at_out ?_ | refine at_cond ?_); split) <;> first | (exfalso; omega; done) | skip)) <;> try simp (config := { maxSteps := 3000000 }) (disch := first | assumption | omega | exact VG.okg (by assumption) | (simp only [List.length_set, List.length_append, List.length_cons, List.length_nil, List.length_replicate]; omega)) only [go_sem, ↓reduceIte, Int.reduceLE, Int.reduceLT, Int.reduceToNat, Int.reduceNeg, Int.reduceAdd, Int.reduceSub, Int.reduceMul, Int.reduceEq, Int.reduceNe, Nat.reduceEqDiff, Nat.reduceAdd, Nat.reduceSub, Nat.reduceMul, Nat.reduceLT, Nat.reduceLeDiff, Nat.reduceBEq, Nat.reduceBNe, UInt8.reduceToNat, Tryz.results150, m8, h3, h21, h20, h1, m1, h24, h25, h26]))
        refine ⟨by omega, by omega, e2, ?_, by omega⟩
        rw [take_int (0, 0) e0 hj, List.foldl_append, ← e3]
        rfl
      · repeat' (first
          | refine xw_seq ?_
          | refine xw_block ?_
          | (refine ite_two ?_ ?_ <;> intro _ <;> first | (exfalso; omega) | skip)
          | refine ord_split (by kernel_rfl) ?_
          | (refine xw_ret ?_ <;> try simp only [sq, bl, LQ])
          | ((first | refine xw_reg ?_ | refine xw_regd ?_ | refine xw_if ?_ | refine xw_skip ?_ | refine xw_exit ?_ | refine xw_label ?_ | refine post_ret ?_ | refine post_normal ?_ | refine postE_ret ?_ | refine postE_normal ?_ | (((first | refine at_region ?_ | refine at_out ?_ | refine at_cond ?_); split) <;> first | (exfalso; omega; done) | skip)) <;> try simp (config := { maxSteps := 3000000 }) (disch := first | assumption | omega | exact VG.okg (by assumption) | (simp only [List.length_set, List.length_append, List.length_cons, List.length_nil, List.length_replicate]; omega)) only [go_sem, ↓reduceIte, Int.reduceLE, Int.reduceLT, Int.reduceToNat, Int.reduceNeg, Int.reduceAdd, Int.reduceSub, Int.reduceMul, Int.reduceEq, Int.reduceNe, Nat.reduceEqDiff, Nat.reduceAdd, Nat.reduceSub, Nat.reduceMul, Nat.reduceLT, Nat.reduceLeDiff, Nat.reduceBEq, Nat.reduceBNe, UInt8.reduceToNat, Tryz.results150, m8, h3, h21, h20, h1, m1, h24, h25, h26]))
        refine ⟨by omega, by omega, e2, ?_, by omega⟩
        rw [take_all (by omega)] at e3
        rw [e3, f3, show (k + 1).toNat = k.toNat + 1 by omega]
        rfl
    · have hk : k = i := by omega
      subst hk
      rw [← f3]
      exact ⟨rfl, rfl⟩
@[go_sem] theorem c_connected (n x y : Int) (es : List (Int × Int)) (h : OKG n es) (hx : 0 ≤ x ∧ x < n) (hy : 0 ≤ y ∧ y < n) : KP 105 [GL n es, I x, I y] [] = some (B (decide (Conn es x y)), [], []) := by
  have hp := c_parts n es h
  have hl := lab_length n es
  refine xw_call (fn := Tryz.f105) rfl Tryz.func105 rfl ⟨Nat.le_of_ble_eq_true rfl, rfl, rfl⟩ ?_
  repeat' (first
    | refine xw_seq ?_
    | refine xw_block ?_
    | (refine ite_two ?_ ?_ <;> intro _ <;> first | (exfalso; omega) | skip)
    | refine ord_split (by kernel_rfl) ?_
    | (refine xw_ret ?_ <;> try simp only [sq, bl, LQ])
    | ((first | refine xw_reg ?_ | refine xw_regd ?_ | refine xw_if ?_ | refine xw_skip ?_ | refine xw_exit ?_ | refine xw_label ?_ | refine post_ret ?_ | refine post_normal ?_ | refine postE_ret ?_ | refine postE_normal ?_ | (((first | refine at_region ?_ | refine at_out ?_ | refine at_cond ?_); split) <;> first | (exfalso; omega; done) | skip)) <;> try simp (config := { maxSteps := 3000000 }) (disch := first | assumption | omega | exact VG.okg (by assumption) | (simp only [List.length_set, List.length_append, List.length_cons, List.length_nil, List.length_replicate]; omega)) only [go_sem, ↓reduceIte, Int.reduceLE, Int.reduceLT, Int.reduceToNat, Int.reduceNeg, Int.reduceAdd, Int.reduceSub, Int.reduceMul, Int.reduceEq, Int.reduceNe, Nat.reduceEqDiff, Nat.reduceAdd, Nat.reduceSub, Nat.reduceMul, Nat.reduceLT, Nat.reduceLeDiff, Nat.reduceBEq, Nat.reduceBNe, UInt8.reduceToNat, Tryz.results105, hp]))
  exact lab_beq hx hy
@[go_sem] theorem c_l2Labels (n : Int) (es : List (Int × Int)) (h : OKG n es) : KP 154 [GL n es] [] = some (.ref 2000 0 0 (lab n es).length, [], [.arr 0 1 ((lab n es).map encI)]) := by
  obtain ⟨n0, n1, hl, ho⟩ := h
  refine xw_call (fn := Tryz.f154) rfl Tryz.func154 rfl ⟨Nat.le_of_ble_eq_true rfl, rfl, rfl⟩ ?_
  repeat' (first
    | refine xw_seq ?_
    | refine xw_block ?_
    | (refine ite_two ?_ ?_ <;> intro _ <;> first | (exfalso; omega) | skip)
    | refine ord_split (by kernel_rfl) ?_
    | (refine xw_ret ?_ <;> try simp only [sq, bl, LQ])
    | ((first | refine xw_reg ?_ | refine xw_regd ?_ | refine xw_if ?_ | refine xw_skip ?_ | refine xw_exit ?_ | refine xw_label ?_ | refine post_ret ?_ | refine post_normal ?_ | refine postE_ret ?_ | refine postE_normal ?_ | (((first | refine at_region ?_ | refine at_out ?_ | refine at_cond ?_); split) <;> first | (exfalso; omega; done) | skip)) <;> try simp (config := { maxSteps := 3000000 }) (disch := first | assumption | omega | exact VG.okg (by assumption) | (simp only [List.length_set, List.length_append, List.length_cons, List.length_nil, List.length_replicate]; omega)) only [go_sem, ↓reduceIte, Int.reduceLE, Int.reduceLT, Int.reduceToNat, Int.reduceNeg, Int.reduceAdd, Int.reduceSub, Int.reduceMul, Int.reduceEq, Int.reduceNe, Nat.reduceEqDiff, Nat.reduceAdd, Nat.reduceSub, Nat.reduceMul, Nat.reduceLT, Nat.reduceLeDiff, Nat.reduceBEq, Nat.reduceBNe, UInt8.reduceToNat, Tryz.results154]))
  refine xw_loopR (fun (x : Int × Nat × List Int) s => s.m 9 = some (.arr x.2.1 1 (x.2.2.map encI)) ∧ s.ρ 3 = .ref 9 x.2.1 0 x.2.2.length ∧ s.ρ 4 = I x.1 ∧ s.ρ 1 = .ptr 1 0 0 0 ∧ s.m 1 = some (.box 0 [I n, LE es]) ∧
    0 ≤ x.1 ∧ x.1 ≤ n ∧ x.2.2.length = x.1.toNat ∧ x.2.2 = iota x.1) (fun x => (n - x.1).toNat) (0, 0, []) (by simp [upd, iota, n0]) ?_
  rintro ⟨i, w, xs⟩ ⟨ρ, m⟩ ⟨m9, h3, h4, h1, m1, g0, g1, g2, g3⟩
  simp only at m9 h3 h4 h1 m1 g0 g1 g2 g3
  repeat' (first
    | refine xw_seq ?_
    | refine xw_block ?_
    | (refine ite_two ?_ ?_ <;> intro _ <;> first | (exfalso; omega) | skip)
    | refine ord_split (by kernel_rfl) ?_
    | (refine xw_ret ?_ <;> try simp only [sq, bl, LQ])
    | ((first | refine xw_reg ?_ | refine xw_regd ?_ | refine xw_if ?_ | refine xw_skip ?_ | refine xw_exit ?_ | refine xw_label ?_ | refine post_ret ?_ | refine post_normal ?_ | refine postE_ret ?_ | refine postE_normal ?_ | (((first | refine at_region ?_ | refine at_out ?_ | refine at_cond ?_); split) <;> first | (exfalso; omega; done) | skip)) <;> try simp (config := { maxSteps := 3000000 }) (disch := first | assumption | omega | exact VG.okg (by assumption) | (simp only [List.length_set, List.length_append, List.length_cons, List.length_nil, List.length_replicate]; omega)) only [go_sem, ↓reduceIte, Int.reduceLE, Int.reduceLT, Int.reduceToNat, Int.reduceNeg, Int.reduceAdd, Int.reduceSub, Int.reduceMul, Int.reduceEq, Int.reduceNe, Nat.reduceEqDiff, Nat.reduceAdd, Nat.reduceSub, Nat.reduceMul, Nat.reduceLT, Nat.reduceLeDiff, Nat.reduceBEq, Nat.reduceBNe, UInt8.reduceToNat, Tryz.results154, m9, h3, h4, h1, m1]))
  · refine ⟨by omega, by omega, by omega, ?_, by omega⟩
    rw [iota_snoc g0, g3]
  · have hin : i = n := by omega
    subst hin
    have hsn : Snd i es xs := by rw [g3]; exact iota_snd i es
    refine xw_loopR (fun (x : Bool × List Int) s => s.m 9 = some (.arr w 1 (x.2.map encI)) ∧ s.ρ 3 = .ref 9 w 0 x.2.length ∧ s.ρ 5 = B x.1 ∧ s.ρ 1 = .ptr 1 0 0 0 ∧ s.m 1 = some (.box 0 [I i, LE es]) ∧
      x.2.length = i.toNat ∧ Snd i es x.2 ∧ (x.1 = false → x.2 = lab i es)) (fun x => (2 * x.2.sum).toNat + x.1.toNat) (true, xs) (by simp [upd, m9, h3, h1, m1, g0, g2, ← g3, hsn]) ?_
    rintro ⟨b, out⟩ ⟨ρ, m⟩ ⟨m9, h3, h5, h1, m1, f0, f1, f2⟩
    simp only at m9 h3 h5 h1 m1 f0 f1 f2
    repeat' (first
      | refine xw_seq ?_
      | refine xw_block ?_
      | (refine ite_two ?_ ?_ <;> intro _ <;> first | (exfalso; omega) | skip)
      | refine ord_split (by kernel_rfl) ?_
      | (refine xw_ret ?_ <;> try simp only [sq, bl, LQ])
      | ((first | refine xw_reg ?_ | refine xw_regd ?_ | refine xw_if ?_ | refine xw_skip ?_ | refine xw_exit ?_ | refine xw_label ?_ | refine post_ret ?_ | refine post_normal ?_ | refine postE_ret ?_ | refine postE_normal ?_ | (((first | refine at_region ?_ | refine at_out ?_ | refine at_cond ?_); split) <;> first | (exfalso; omega; done) | skip)) <;> try simp (config := { maxSteps := 3000000 }) (disch := first | assumption | omega | exact VG.okg (by assumption) | (simp only [List.length_set, List.length_append, List.length_cons, List.length_nil, List.length_replicate]; omega)) only [go_sem, ↓reduceIte, Int.reduceLE, Int.reduceLT, Int.reduceToNat, Int.reduceNeg, Int.reduceAdd, Int.reduceSub, Int.reduceMul, Int.reduceEq, Int.reduceNe, Nat.reduceEqDiff, Nat.reduceAdd, Nat.reduceSub, Nat.reduceMul, Nat.reduceLT, Nat.reduceLeDiff, Nat.reduceBEq, Nat.reduceBNe, UInt8.reduceToNat, Tryz.results154, m9, h3, h5, h1, m1]))
    · have hb : b = true := by assumption
      subst hb
      refine xw_loopR (fun (x : Int × Bool × List Int) s => s.m 9 = some (.arr w 1 (x.2.2.map encI)) ∧ s.ρ 3 = .ref 9 w 0 x.2.2.length ∧ s.ρ 5 = B x.2.1 ∧ s.ρ 6 = I x.1 ∧ s.ρ 1 = .ptr 1 0 0 0 ∧ s.m 1 = some (.box 0 [I i, LE es]) ∧
        0 ≤ x.1 ∧ x.1 ≤ es.length ∧ x.2.2.length = i.toNat ∧ Snd i es x.2.2 ∧ (x.2.1 = false → x.2.2 = out ∧ ∀ e ∈ es.take x.1.toNat, out.getD e.1.toNat 0 = out.getD e.2.toNat 0) ∧ (x.2.1 = true → x.2.2.sum < out.sum))
        (fun x => (es.length - x.1).toNat) (0, false, out) (by simp [upd, m9, h3, h1, m1, f0, f1]) ?_
      rintro ⟨j, a, ou⟩ ⟨ρ, m⟩ ⟨m9, h3, h5, h6, h1, m1, e0, e1, e2, e3, e4, e5⟩
      simp only at m9 h3 h5 h6 h1 m1 e0 e1 e2 e3 e4 e5
      by_cases hj : j < es.length
      · have hmem := getD_mem (d := (0, 0)) (show j.toNat < es.length by omega)
        have he := ho _ hmem
        have he' := he
        unfold okE at he
        repeat' (first
          | refine xw_seq ?_
          | refine xw_block ?_
          | (refine ite_two ?_ ?_ <;> intro _ <;> first | (exfalso; omega) | skip)
          | refine ord_split (by kernel_rfl) ?_
          | (refine xw_ret ?_ <;> try simp only [sq, bl, LQ])
          | ((first | refine xw_reg ?_ | refine xw_regd ?_ | refine xw_if ?_ | refine xw_skip ?_ | refine xw_exit ?_ | refine xw_label ?_ | refine post_ret ?_ | refine post_normal ?_ | refine postE_ret ?_ | refine postE_normal ?_ | (((first | refine at_region ?_ | refine at_out ?_ | refine at_cond ?_); split) <;> first | (exfalso; omega; done) | skip)) <;> try simp (config := { maxSteps := 3000000 }) (disch := first | assumption | omega | exact VG.okg (by assumption) | (simp only [List.length_set, List.length_append, List.length_cons, List.length_nil, List.length_replicate]; omega)) only [go_sem, ↓reduceIte, Int.reduceLE, Int.reduceLT, Int.reduceToNat, Int.reduceNeg, Int.reduceAdd, Int.reduceSub, Int.reduceMul, Int.reduceEq, Int.reduceNe, Nat.reduceEqDiff, Nat.reduceAdd, Nat.reduceSub, Nat.reduceMul, Nat.reduceLT, Nat.reduceLeDiff, Nat.reduceBEq, Nat.reduceBNe, UInt8.reduceToNat, Tryz.results154, m9, h3, h5, h6, h1, m1]))
        · refine ⟨by omega, by omega, e2, e3.set1 he' hmem, by simp, fun _ => ?_, by omega⟩
          rw [sum_set (by omega)]
          cases a with
          | false => have e := (e4 rfl).1; subst e; omega
          | true => have := e5 rfl; omega
        · refine ⟨by omega, by omega, e2, e3.set2 he' hmem (by omega), by simp, fun _ => ?_, by omega⟩
          rw [sum_set (by omega)]
          cases a with
          | false => have e := (e4 rfl).1; subst e; omega
          | true => have := e5 rfl; omega
        · refine ⟨by omega, by omega, e2, e3, fun ha => ⟨(e4 ha).1, fun e hm => ?_⟩, e5, by omega⟩
          rw [take_int (0, 0) e0 hj] at hm
          rcases List.mem_append.1 hm with hm | hm
          · exact (e4 ha).2 e hm
          · rw [List.mem_singleton.1 hm, ← (e4 ha).1]; omega
      · repeat' (first
          | refine xw_seq ?_
          | refine xw_block ?_
          | (refine ite_two ?_ ?_ <;> intro _ <;> first | (exfalso; omega) | skip)
          | refine ord_split (by kernel_rfl) ?_
          | (refine xw_ret ?_ <;> try simp only [sq, bl, LQ])
          | ((first | refine xw_reg ?_ | refine xw_regd ?_ | refine xw_if ?_ | refine xw_skip ?_ | refine xw_exit ?_ | refine xw_label ?_ | refine post_ret ?_ | refine post_normal ?_ | refine postE_ret ?_ | refine postE_normal ?_ | (((first | refine at_region ?_ | refine at_out ?_ | refine at_cond ?_); split) <;> first | (exfalso; omega; done) | skip)) <;> try simp (config := { maxSteps := 3000000 }) (disch := first | assumption | omega | exact VG.okg (by assumption) | (simp only [List.length_set, List.length_append, List.length_cons, List.length_nil, List.length_replicate]; omega)) only [go_sem, ↓reduceIte, Int.reduceLE, Int.reduceLT, Int.reduceToNat, Int.reduceNeg, Int.reduceAdd, Int.reduceSub, Int.reduceMul, Int.reduceEq, Int.reduceNe, Nat.reduceEqDiff, Nat.reduceAdd, Nat.reduceSub, Nat.reduceMul, Nat.reduceLT, Nat.reduceLeDiff, Nat.reduceBEq, Nat.reduceBNe, UInt8.reduceToNat, Tryz.results154, m9, h3, h5, h6, h1, m1]))
        rw [take_all (by omega)] at e4
        have hs1 := e3.sum
        have hs2 := f1.sum
        refine ⟨e2, e3, fun ha => ?_, ?_⟩
        · obtain ⟨rfl, h⟩ := e4 ha
          exact lab_of ho e3 h
        · cases a with
          | false => rw [(e4 rfl).1]; simp
          | true => have := e5 rfl; simp; omega
    · have hb : b = false := by simpa using ‹¬b = true›
      have := f2 hb
      subst this
      exact ⟨rfl, rfl⟩
@[go_sem] theorem c_l2Joined (n x y : Int) (es : List (Int × Int)) (h : OKG n es) (hx : 0 ≤ x ∧ x < n) (hy : 0 ≤ y ∧ y < n) : KP 107 [GL n es, I x, I y] [] = some (B (decide (Conn es x y)), [], []) := by
  have hp := c_l2Labels n es h
  have hl := lab_length n es
  refine xw_call (fn := Tryz.f107) rfl Tryz.func107 rfl ⟨Nat.le_of_ble_eq_true rfl, rfl, rfl⟩ ?_
  repeat' (first
    | refine xw_seq ?_
    | refine xw_block ?_
    | (refine ite_two ?_ ?_ <;> intro _ <;> first | (exfalso; omega) | skip)
    | refine ord_split (by kernel_rfl) ?_
    | (refine xw_ret ?_ <;> try simp only [sq, bl, LQ])
    | ((first | refine xw_reg ?_ | refine xw_regd ?_ | refine xw_if ?_ | refine xw_skip ?_ | refine xw_exit ?_ | refine xw_label ?_ | refine post_ret ?_ | refine post_normal ?_ | refine postE_ret ?_ | refine postE_normal ?_ | (((first | refine at_region ?_ | refine at_out ?_ | refine at_cond ?_); split) <;> first | (exfalso; omega; done) | skip)) <;> try simp (config := { maxSteps := 3000000 }) (disch := first | assumption | omega | exact VG.okg (by assumption) | (simp only [List.length_set, List.length_append, List.length_cons, List.length_nil, List.length_replicate]; omega)) only [go_sem, ↓reduceIte, Int.reduceLE, Int.reduceLT, Int.reduceToNat, Int.reduceNeg, Int.reduceAdd, Int.reduceSub, Int.reduceMul, Int.reduceEq, Int.reduceNe, Nat.reduceEqDiff, Nat.reduceAdd, Nat.reduceSub, Nat.reduceMul, Nat.reduceLT, Nat.reduceLeDiff, Nat.reduceBEq, Nat.reduceBNe, UInt8.reduceToNat, Tryz.results107, hp]))
  exact lab_beq hx hy
end Go.Proofs.YtdjdgnabcecdlaaGreatDoor.X

/- Neighbors: plain law. -/
set_option linter.unusedVariables false
namespace Go.Proofs.YtdjdgnabcecdlaaGreatDoor.X
open Go
theorem VG.alone {n v : Int} {es : List (Int × Int)} (h : VG n es) : VG n (alone v es) := by
  obtain ⟨h1, h2, h3, h4, h5⟩ := h
  have hl : (X.alone v es).length ≤ es.length := List.length_filter_le _ _
  exact ⟨h1, h2, by omega, fun e he => h4 e (List.mem_filter.1 he).1, h5.filter _⟩
theorem alone_cons (v : Int) (e : Int × Int) (es : List (Int × Int)) : alone v (e :: es) = if v = e.1 ∨ v = e.2 then alone v es else e :: alone v es := by
  unfold alone
  by_cases h1 : v = e.1
  · have : ¬ (e.1 ≠ v ∧ e.2 ≠ v) := fun h => h.1 h1.symm
    rw [List.filter_cons_of_neg (by simpa using fun h => absurd h1.symm h), if_pos (.inl h1)]
  · by_cases h2 : v = e.2
    · rw [List.filter_cons_of_neg (by simpa using fun _ => h2.symm), if_pos (.inr h2)]
    · rw [List.filter_cons_of_pos (by simpa using ⟨fun h => h1 h.symm, fun h => h2 h.symm⟩), if_neg (by simp [h1, h2])]
theorem nbL_cons (v : Int) (e : Int × Int) (es : List (Int × Int)) : nbL v (e :: es) = if v = e.1 then e.2 :: nbL v es else if v = e.2 then e.1 :: nbL v es else nbL v es := by
  unfold nbL
  by_cases h1 : v = e.1
  · rw [List.filterMap_cons, if_pos h1, if_pos h1]
  · by_cases h2 : v = e.2
    · rw [List.filterMap_cons, if_neg h1, if_neg h1, if_pos h2, if_pos h2]
    · rw [List.filterMap_cons, if_neg h1, if_neg h1, if_neg h2, if_neg h2]
theorem nbS_length (v : Int) (es : List (Int × Int)) : (nbS v es).length = (nbL v es).length := sortI_length _
theorem alone_length (v : Int) (es : List (Int × Int)) : (alone v es).length + (nbS v es).length = es.length := by
  rw [nbS_length]
  induction es with
  | nil => rfl
  | cons e es ih =>
    rw [alone_cons, nbL_cons]
    by_cases h1 : v = e.1
    · rw [if_pos (.inl h1), if_pos h1]; simp only [List.length_cons]; omega
    · by_cases h2 : v = e.2
      · rw [if_pos (.inr h2), if_neg h1, if_pos h2]; simp only [List.length_cons]; omega
      · rw [if_neg (by simp [h1, h2]), if_neg h1, if_neg h2]; simp only [List.length_cons]; omega
theorem sorted_ext : ∀ {l r : List Int}, l.Pairwise (· < ·) → r.Pairwise (· < ·) → (∀ x, x ∈ l ↔ x ∈ r) → l = r
  | [], [], _, _, _ => rfl
  | [], y :: r, _, _, h => by have := (h y).2 (by simp); simp at this
  | x :: l, [], _, _, h => by have := (h x).1 (by simp); simp at this
  | x :: l, y :: r, hl, hr, h => by
    rw [List.pairwise_cons] at hl hr
    have hxy : x = y := by
      rcases List.mem_cons.1 ((h x).1 (by simp)) with e | e
      · exact e
      · rcases List.mem_cons.1 ((h y).2 (by simp)) with e' | e'
        · exact e'.symm
        · have := hl.1 y e'; have := hr.1 x e; omega
    subst hxy
    rw [sorted_ext hl.2 hr.2 fun z => ?_]
    constructor
    · intro hz
      rcases List.mem_cons.1 ((h z).1 (by simp [hz])) with e | e
      · have := hl.1 z hz; omega
      · exact e
    · intro hz
      rcases List.mem_cons.1 ((h z).2 (by simp [hz])) with e | e
      · have := hr.1 z hz; omega
      · exact e
theorem Ord.nodup {es : List (Int × Int)} (h : Ord es) : es.Nodup := by
  refine List.Pairwise.imp (fun {a b} hab e => ?_) h
  subst e
  rw [lessE_iff] at hab; omega
theorem mem_nbL {n : Int} {es : List (Int × Int)} (ho : ∀ e ∈ es, okE n e) {v x : Int} : x ∈ nbL v es ↔ Adj es v x := by
  unfold nbL Adj
  rw [List.mem_filterMap]
  constructor
  · rintro ⟨e, he, h⟩
    split at h
    · rename_i h1; cases h; subst h1; exact .inl he
    · split at h
      · rename_i h2; cases h; subst h2; exact .inr he
      · cases h
  · rintro (h | h)
    · exact ⟨_, h, by simp⟩
    · have := ho _ h
      unfold okE at this
      exact ⟨_, h, by rw [if_neg (by simp only; omega), if_pos rfl]⟩
theorem mem_nbS {n : Int} {es : List (Int × Int)} (ho : ∀ e ∈ es, okE n e) {v x : Int} : x ∈ nbS v es ↔ Adj es v x := by
  unfold nbS sortI
  rw [List.mem_mergeSort]
  exact mem_nbL ho
theorem nodup_nbL {n : Int} {es : List (Int × Int)} (ho : ∀ e ∈ es, okE n e) (hn : es.Nodup) (v : Int) : (nbL v es).Nodup := by
  induction es with
  | nil => simp [nbL]
  | cons e es ih =>
    rw [List.nodup_cons] at hn
    have ho' := fun f hf => ho f (List.mem_cons_of_mem _ hf)
    have ih := ih ho' hn.2
    have he := ho e (by simp)
    unfold okE at he
    rw [nbL_cons]
    split
    · rename_i h1
      rw [List.nodup_cons, mem_nbL ho']
      refine ⟨fun h => ?_, ih⟩
      rcases h with h | h
      · exact hn.1 (by rw [h1] at h; exact h)
      · have := ho' _ h; unfold okE at this; simp only at this; omega
    · split
      · rename_i h1 h2
        rw [List.nodup_cons, mem_nbL ho']
        refine ⟨fun h => ?_, ih⟩
        rcases h with h | h
        · have := ho' _ h; unfold okE at this; simp only at this; omega
        · exact hn.1 (by rw [h2] at h; exact h)
      · exact ih
theorem sorted_nbS {n : Int} {es : List (Int × Int)} (ho : ∀ e ∈ es, okE n e) (hn : es.Nodup) (v : Int) : (nbS v es).Pairwise (· < ·) := by
  have h1 : (nbS v es).Pairwise fun a b => decide (a ≤ b) = true := List.pairwise_mergeSort (by intro a b c; simp; omega) (by intro a b; simp; omega) _
  have h2 : (nbS v es).Nodup := (List.mergeSort_perm _ _).nodup_iff.2 (nodup_nbL ho hn v)
  have h3 := h1.and h2
  refine List.Pairwise.imp (fun {a b} h => ?_) h3
  have := h.1
  simp only [decide_eq_true_eq] at this
  have := h.2
  omega
theorem sorted_iota (n : Int) : (iota n).Pairwise (· < ·) := by
  unfold iota
  rw [List.pairwise_map]
  refine List.Pairwise.imp (fun {a b} h => ?_) (List.pairwise_lt_range)
  omega
theorem mem_iota {n x : Int} : x ∈ iota n ↔ 0 ≤ x ∧ x < n := by
  unfold iota
  rw [List.mem_map]
  constructor
  · rintro ⟨y, hy, rfl⟩
    have := List.mem_range.1 hy
    omega
  · rintro ⟨h1, h2⟩
    exact ⟨x.toNat, List.mem_range.2 (by omega), by omega⟩
theorem mem_edgeOf {n : Int} {es : List (Int × Int)} (ho : ∀ e ∈ es, okE n e) {x v : Int} : (x ≠ v ∧ edgeOf x v ∈ es) ↔ Adj es v x := by
  unfold edgeOf Adj
  constructor
  · rintro ⟨h1, h2⟩
    split at h2
    · exact .inr h2
    · exact .inl h2
  · rintro (h | h)
    · have := ho _ h; unfold okE at this; simp only at this
      rw [if_neg (by omega)]; exact ⟨by omega, h⟩
    · have := ho _ h; unfold okE at this; simp only at this
      rw [if_pos (by omega)]; exact ⟨by omega, h⟩
end Go.Proofs.YtdjdgnabcecdlaaGreatDoor.X
