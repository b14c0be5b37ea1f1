/- What functions compute: flows. -/
import Derived.Test.YtbaholclcfpknaaC22
import Derived.Test.YtbaholclcfpknaaM12
set_option linter.unusedSimpArgs false
set_option linter.unusedVariables false
set_option maxHeartbeats 8000000
namespace Go.Proofs.Ytbaholclcfpknaa.X
open Go Go.Proofs

theorem c_flow (n x y : Int) (es : List (Int × Int)) (hV : VG n es) (hx : 0 ≤ x ∧ x < n) (hy : 0 ≤ y ∧ y < n) (hxy : x ≠ y) :
    ∃ us, UR us (flU n es x y) ∧ KP 81 [GL n es, I x, I y] [] = some (.tup [.agg (us.map bP), I (flN n es x y)], [], []) := by
  have ho := hV.okg.ok
  have hn16 := hV.2.1
  have hnd := hV.nodup
  have hle := hV.okg.len
  suffices h : ∃ res, (∃ us, UR us (flU n es x y) ∧ res = (PV.tup [.agg (us.map bP), I (flN n es x y)], ([] : List Arr), ([] : List Arr))) ∧ KP 81 [GL n es, I x, I y] [] = some res by
    obtain ⟨res, ⟨us, h1, rfl⟩, h2⟩ := h
    exact ⟨us, h1, h2⟩
  refine xw_callE (fn := Try.f81) rfl Try.func81 rfl ⟨Nat.le_of_ble_eq_true rfl, rfl, rfl⟩ ?_
  repeat' (first
    | refine xw_seq ?_
    | refine xw_block ?_
    | (refine ite_two ?_ ?_ <;> intro _ <;> first | (exfalso; omega) | skip)
    | refine ord_split (by kernel_rfl) ?_
    | (refine xw_ret ?_ <;> try simp only [sq, bl, LQ])
    | ((first | refine xw_reg ?_ | refine xw_regd ?_ | refine xw_if ?_ | refine xw_skip ?_ | refine xw_exit ?_ | refine xw_label ?_ | refine post_ret ?_ | refine post_normal ?_ | refine postE_ret ?_ | refine postE_normal ?_) <;> simp (config := { maxSteps := 3000000 }) (disch := first | assumption | omega | exact VG.okg (by assumption) | (simp only [List.length_set, List.length_append, List.length_cons, List.length_nil, List.length_replicate]; omega)) only [go_sem, ↓reduceIte, Int.reduceLE, Int.reduceLT, Int.reduceToNat, Int.reduceNeg, Int.reduceAdd, Int.reduceSub, Int.reduceMul, Int.reduceEq, Int.reduceNe, Nat.reduceEqDiff, Nat.reduceAdd, Nat.reduceSub, Nat.reduceMul, Nat.reduceLT, Nat.reduceLeDiff, Nat.reduceBEq, Nat.reduceBNe, Try.results81])
    | (((first | refine at_region ?_ | refine at_out ?_ | refine at_cond ?_); split) <;> first | (exfalso; omega; done) | simp (config := { maxSteps := 3000000 }) (disch := first | assumption | omega | exact VG.okg (by assumption) | (simp only [List.length_set, List.length_append, List.length_cons, List.length_nil, List.length_replicate]; omega)) only [go_sem, ↓reduceIte, Int.reduceLE, Int.reduceLT, Int.reduceToNat, Int.reduceNeg, Int.reduceAdd, Int.reduceSub, Int.reduceMul, Int.reduceEq, Int.reduceNe, Nat.reduceEqDiff, Nat.reduceAdd, Nat.reduceSub, Nat.reduceMul, Nat.reduceLT, Nat.reduceLeDiff, Nat.reduceBEq, Nat.reduceBNe, Try.results81] | skip))
  refine xw_loopR (fun (u : Nat × List Bool) s => s.m 8 = some (.box 0 (u.2.map bP)) ∧ s.ρ 8 = .ptr 8 0 0 0 ∧ s.ρ 9 = I (u.1 : Int) ∧ s.ρ 1 = I x ∧ s.ρ 2 = I y ∧ s.ρ 3 = .ptr 3 0 0 0 ∧ s.m 3 = some (.box 0 [I n, LE es]) ∧ s.ρ 6 = .ptr 6 0 0 0 ∧ s.m 6 = some (.box 0 ((fB 256).map bP)) ∧
    UR u.2 (flS n es x y u.1) ∧ ∀ j, j < u.1 → more n es x y j) (fun u => 50 - u.1) (0, fB 256) ?_ ?_
  · refine ⟨by simp [upd], by simp [upd], by simp [upd], by simp [upd], by simp [upd], by simp [upd], by simp [upd], by simp [upd], by simp [upd], UR.none, fun j h => by simp at h⟩
  rintro ⟨k, us⟩ ⟨ρ, m⟩ ⟨m8, h8, h9, h1, h2, h3, m3, h6, m6, g0, g1⟩
  simp only at m8 h8 h9 h1 h2 h3 m3 h6 m6 g0 g1
  have hk40 : k ≤ 40 := by
    have := more_stops ho hnd hx hxy g1
    have := alone_length x es
    omega
  have hr := c_reach (clo_flow us _ g0) n x es hV hx fun v h0 h1 => ⟨h0, by omega⟩
  have hB := bfs_inv (goes := goesF (flS n es x y k)) ho hx
  have hlen := hB.len
  have hul := g0.1
  obtain ⟨c1, c2, c3⟩ := clo_flow us _ g0
  by_cases hm : more n es x y k
  rotate_left
  · have hk := flN_eq ho hnd hx hxy g1 hm
    have hfy : (bfs n es (goesF (flS n es x y k)) x).1.getD y.toNat 0 < 0 := by
      have := (hB.mem y hy.1 hy.2).1
      exact Int.not_le.1 fun h => hm (this h)
    have hw := c_way_none (bfs n es (goesF (flS n es x y k)) x).1 x y ⟨hy.1, by omega⟩ hfy (by omega)
    repeat' (first
      | refine xw_seq ?_
      | refine xw_block ?_
      | (refine ite_two ?_ ?_ <;> intro _ <;> first | (exfalso; omega) | skip)
      | refine ord_split (by kernel_rfl) ?_
      | (refine xw_ret ?_ <;> try simp only [sq, bl, LQ])
      | ((first | refine xw_reg ?_ | refine xw_regd ?_ | refine xw_if ?_ | refine xw_skip ?_ | refine xw_exit ?_ | refine xw_label ?_ | refine post_ret ?_ | refine post_normal ?_ | refine postE_ret ?_ | refine postE_normal ?_) <;> simp (config := { maxSteps := 3000000 }) (disch := first | assumption | omega | exact VG.okg (by assumption) | (simp only [List.length_set, List.length_append, List.length_cons, List.length_nil, List.length_replicate]; omega)) only [go_sem, ↓reduceIte, Int.reduceLE, Int.reduceLT, Int.reduceToNat, Int.reduceNeg, Int.reduceAdd, Int.reduceSub, Int.reduceMul, Int.reduceEq, Int.reduceNe, Nat.reduceEqDiff, Nat.reduceAdd, Nat.reduceSub, Nat.reduceMul, Nat.reduceLT, Nat.reduceLeDiff, Nat.reduceBEq, Nat.reduceBNe, Try.results81, m8, h8, h9, h1, h2, h3, m3, h6, m6, hr, hw, c1, c2, hul])
      | (((first | refine at_region ?_ | refine at_out ?_ | refine at_cond ?_); split) <;> first | (exfalso; omega; done) | simp (config := { maxSteps := 3000000 }) (disch := first | assumption | omega | exact VG.okg (by assumption) | (simp only [List.length_set, List.length_append, List.length_cons, List.length_nil, List.length_replicate]; omega)) only [go_sem, ↓reduceIte, Int.reduceLE, Int.reduceLT, Int.reduceToNat, Int.reduceNeg, Int.reduceAdd, Int.reduceSub, Int.reduceMul, Int.reduceEq, Int.reduceNe, Nat.reduceEqDiff, Nat.reduceAdd, Nat.reduceSub, Nat.reduceMul, Nat.reduceLT, Nat.reduceLeDiff, Nat.reduceBEq, Nat.reduceBNe, Try.results81, m8, h8, h9, h1, h2, h3, m3, h6, m6, hr, hw, c1, c2, hul] | skip))
    subst hk
    exact ⟨us, g0, rfl⟩
  have hw := c_way (fr := (bfs n es (goesF (flS n es x y k)) x).1) (ord := (bfs n es (goesF (flS n es x y k)) x).2) hB hn16 hm
  have hway := bfs_way ho hx hm
  have hS : flS n es x y (k + 1) = augF (flS n es x y k) (wayL n (bfs n es (goesF (flS n es x y k)) x).1 x y) := rfl
  generalize wayL n (bfs n es (goesF (flS n es x y k)) x).1 x y = p at hw hway hS
  have hin : ∀ i, i < p.length → 0 ≤ p.getD i 0 ∧ p.getD i 0 < n := fun i hi => by
    by_cases h0 : i + 1 < p.length
    · have := (hway.st i h0).1.ok ho; omega
    · have e : i = p.length - 1 := by omega
      rw [e, hway.la]; exact hy
  have hpl : p.length ≤ 16 := by
    have := len_le_of_sub (l := p) (m := iota n) hway.nd fun v hv => by
      obtain ⟨i, hi, he⟩ := List.mem_iff_getElem.1 hv
      have := hin i hi
      simp only [List.getD, List.getElem?_eq_getElem hi, Option.getD_some, he] at this
      exact mem_iota.2 this
    rw [iota_length] at this
    omega
  have hpp := hway.pos
  repeat' (first
    | refine xw_seq ?_
    | refine xw_block ?_
    | (refine ite_two ?_ ?_ <;> intro _ <;> first | (exfalso; omega) | skip)
    | refine ord_split (by kernel_rfl) ?_
    | (refine xw_ret ?_ <;> try simp only [sq, bl, LQ])
    | ((first | refine xw_reg ?_ | refine xw_regd ?_ | refine xw_if ?_ | refine xw_skip ?_ | refine xw_exit ?_ | refine xw_label ?_ | refine post_ret ?_ | refine post_normal ?_ | refine postE_ret ?_ | refine postE_normal ?_) <;> simp (config := { maxSteps := 3000000 }) (disch := first | assumption | omega | exact VG.okg (by assumption) | (simp only [List.length_set, List.length_append, List.length_cons, List.length_nil, List.length_replicate]; omega)) only [go_sem, ↓reduceIte, Int.reduceLE, Int.reduceLT, Int.reduceToNat, Int.reduceNeg, Int.reduceAdd, Int.reduceSub, Int.reduceMul, Int.reduceEq, Int.reduceNe, Nat.reduceEqDiff, Nat.reduceAdd, Nat.reduceSub, Nat.reduceMul, Nat.reduceLT, Nat.reduceLeDiff, Nat.reduceBEq, Nat.reduceBNe, Try.results81, m8, h8, h9, h1, h2, h3, m3, h6, m6, hr, hw, c1, c2, hul])
    | (((first | refine at_region ?_ | refine at_out ?_ | refine at_cond ?_); split) <;> first | (exfalso; omega; done) | simp (config := { maxSteps := 3000000 }) (disch := first | assumption | omega | exact VG.okg (by assumption) | (simp only [List.length_set, List.length_append, List.length_cons, List.length_nil, List.length_replicate]; omega)) only [go_sem, ↓reduceIte, Int.reduceLE, Int.reduceLT, Int.reduceToNat, Int.reduceNeg, Int.reduceAdd, Int.reduceSub, Int.reduceMul, Int.reduceEq, Int.reduceNe, Nat.reduceEqDiff, Nat.reduceAdd, Nat.reduceSub, Nat.reduceMul, Nat.reduceLT, Nat.reduceLeDiff, Nat.reduceBEq, Nat.reduceBNe, Try.results81, m8, h8, h9, h1, h2, h3, m3, h6, m6, hr, hw, c1, c2, hul] | skip))
  refine xw_loopR (fun (v : Int × List Bool) s => s.m 8 = some (.box 0 (v.2.map bP)) ∧ s.ρ 8 = .ptr 8 0 0 0 ∧ s.ρ 9 = I ((k : Int) + 1) ∧ s.ρ 1 = I x ∧ s.ρ 2 = I y ∧ s.ρ 3 = .ptr 3 0 0 0 ∧ s.m 3 = some (.box 0 [I n, LE es]) ∧ s.ρ 6 = .ptr 6 0 0 0 ∧ s.m 6 = some (.box 0 ((fB 256).map bP)) ∧
    s.ρ 12 = LI p ∧ s.ρ 14 = I v.1 ∧ 1 ≤ v.1 ∧ v.1 ≤ p.length ∧ UR v.2 (augF (flS n es x y k) (p.take v.1.toNat))) (fun v => (p.length - v.1).toNat) (1, us) ?_ ?_
  · have e1 : augF (flS n es x y k) (p.take 1) = flS n es x y k := by
      cases p with
      | nil => rfl
      | cons a r => rfl
    refine ⟨by simp [upd, m8], by simp [upd, h8], by simp [upd], by simp [upd, h1], by simp [upd, h2], by simp [upd, h3], by simp [upd, m3], by simp [upd, h6], by simp [upd, m6], by simp [upd], by simp [upd], by simp, by simp only; omega, ?_⟩
    show UR us (augF (flS n es x y k) (p.take 1))
    rw [e1]; exact g0
  rintro ⟨i, vs⟩ ⟨ρ, m⟩ ⟨m8, h8, h9, h1, h2, h3, m3, h6, m6, h12, h14, f0, f1, f2⟩
  simp only at m8 h8 h9 h1 h2 h3 m3 h6 m6 h12 h14 f0 f1 f2
  have hvl := f2.1
  by_cases hi : i < p.length
  rotate_left
  · rw [take_all (by omega), ← hS] at f2
    repeat' (first
      | refine xw_seq ?_
      | refine xw_block ?_
      | (refine ite_two ?_ ?_ <;> intro _ <;> first | (exfalso; omega) | skip)
      | refine ord_split (by kernel_rfl) ?_
      | (refine xw_ret ?_ <;> try simp only [sq, bl, LQ])
      | ((first | refine xw_reg ?_ | refine xw_regd ?_ | refine xw_if ?_ | refine xw_skip ?_ | refine xw_exit ?_ | refine xw_label ?_ | refine post_ret ?_ | refine post_normal ?_ | refine postE_ret ?_ | refine postE_normal ?_) <;> simp (config := { maxSteps := 3000000 }) (disch := first | assumption | omega | exact VG.okg (by assumption) | (simp only [List.length_set, List.length_append, List.length_cons, List.length_nil, List.length_replicate]; omega)) only [go_sem, ↓reduceIte, Int.reduceLE, Int.reduceLT, Int.reduceToNat, Int.reduceNeg, Int.reduceAdd, Int.reduceSub, Int.reduceMul, Int.reduceEq, Int.reduceNe, Nat.reduceEqDiff, Nat.reduceAdd, Nat.reduceSub, Nat.reduceMul, Nat.reduceLT, Nat.reduceLeDiff, Nat.reduceBEq, Nat.reduceBNe, Try.results81, m8, h8, h9, h1, h2, h3, m3, h6, m6, h12, h14, hvl])
      | (((first | refine at_region ?_ | refine at_out ?_ | refine at_cond ?_); split) <;> first | (exfalso; omega; done) | simp (config := { maxSteps := 3000000 }) (disch := first | assumption | omega | exact VG.okg (by assumption) | (simp only [List.length_set, List.length_append, List.length_cons, List.length_nil, List.length_replicate]; omega)) only [go_sem, ↓reduceIte, Int.reduceLE, Int.reduceLT, Int.reduceToNat, Int.reduceNeg, Int.reduceAdd, Int.reduceSub, Int.reduceMul, Int.reduceEq, Int.reduceNe, Nat.reduceEqDiff, Nat.reduceAdd, Nat.reduceSub, Nat.reduceMul, Nat.reduceLT, Nat.reduceLeDiff, Nat.reduceBEq, Nat.reduceBNe, Try.results81, m8, h8, h9, h1, h2, h3, m3, h6, m6, h12, h14, hvl] | skip))
    refine ⟨k + 1, vs, rfl, rfl, f2, fun j hj => ?_, by omega⟩
    by_cases hjk : j = k
    · subst hjk; exact hm
    · exact g1 j (by omega)
  have ha := hin (i - 1).toNat (by omega)
  have hb := hin i.toNat (by omega)
  have hat := augF_take (F := flS n es x y k) (p := p) (i := i.toNat) (by omega) (by omega)
  rw [show i.toNat + 1 = (i + 1).toNat by omega, show i.toNat - 1 = (i - 1).toNat by omega] at hat
  have hst := f2.step (a := p.getD (i - 1).toNat 0) (b := p.getD i.toNat 0) ⟨ha.1, by omega⟩ ⟨hb.1, by omega⟩
  rw [← hat] at hst
  have hrd := f2.2 (p.getD i.toNat 0) (p.getD (i - 1).toNat 0) hb.1 (by omega) ha.1 (by omega)
  generalize hae : p.getD (i - 1).toNat 0 = a at ha hat hst hrd
  generalize hbe : p.getD i.toNat 0 = b at hb hat hst hrd
  by_cases hF : augF (flS n es x y k) (p.take i.toNat) b a = true
  · rw [if_pos hF] at hst
    rw [hF] at hrd
    repeat' (first
      | refine xw_seq ?_
      | refine xw_block ?_
      | (refine ite_two ?_ ?_ <;> intro _ <;> first | (exfalso; omega) | skip)
      | refine ord_split (by kernel_rfl) ?_
      | (refine xw_ret ?_ <;> try simp only [sq, bl, LQ])
      | ((first | refine xw_reg ?_ | refine xw_regd ?_ | refine xw_if ?_ | refine xw_skip ?_ | refine xw_exit ?_ | refine xw_label ?_ | refine post_ret ?_ | refine post_normal ?_ | refine postE_ret ?_ | refine postE_normal ?_) <;> simp (config := { maxSteps := 3000000 }) (disch := first | assumption | omega | exact VG.okg (by assumption) | (simp only [List.length_set, List.length_append, List.length_cons, List.length_nil, List.length_replicate]; omega)) only [go_sem, ↓reduceIte, Int.reduceLE, Int.reduceLT, Int.reduceToNat, Int.reduceNeg, Int.reduceAdd, Int.reduceSub, Int.reduceMul, Int.reduceEq, Int.reduceNe, Nat.reduceEqDiff, Nat.reduceAdd, Nat.reduceSub, Nat.reduceMul, Nat.reduceLT, Nat.reduceLeDiff, Nat.reduceBEq, Nat.reduceBNe, Try.results81, m8, h8, h9, h1, h2, h3, m3, h6, m6, h12, h14, hvl, Nat.mul_one, hae, hbe, hrd])
      | (((first | refine at_region ?_ | refine at_out ?_ | refine at_cond ?_); split) <;> first | (exfalso; omega; done) | simp (config := { maxSteps := 3000000 }) (disch := first | assumption | omega | exact VG.okg (by assumption) | (simp only [List.length_set, List.length_append, List.length_cons, List.length_nil, List.length_replicate]; omega)) only [go_sem, ↓reduceIte, Int.reduceLE, Int.reduceLT, Int.reduceToNat, Int.reduceNeg, Int.reduceAdd, Int.reduceSub, Int.reduceMul, Int.reduceEq, Int.reduceNe, Nat.reduceEqDiff, Nat.reduceAdd, Nat.reduceSub, Nat.reduceMul, Nat.reduceLT, Nat.reduceLeDiff, Nat.reduceBEq, Nat.reduceBNe, Try.results81, m8, h8, h9, h1, h2, h3, m3, h6, m6, h12, h14, hvl, Nat.mul_one, hae, hbe, hrd] | skip))
    refine ⟨i + 1, _, ?_, rfl, by omega, by omega, hst, by omega⟩
    rw [List.append_assoc]
    exact congrArg (Arr.box 0) (bP_put vs _ _ (by omega))
  · rw [if_neg hF] at hst
    rw [Bool.not_eq_true] at hF
    rw [hF] at hrd
    repeat' (first
      | refine xw_seq ?_
      | refine xw_block ?_
      | (refine ite_two ?_ ?_ <;> intro _ <;> first | (exfalso; omega) | skip)
      | refine ord_split (by kernel_rfl) ?_
      | (refine xw_ret ?_ <;> try simp only [sq, bl, LQ])
      | ((first | refine xw_reg ?_ | refine xw_regd ?_ | refine xw_if ?_ | refine xw_skip ?_ | refine xw_exit ?_ | refine xw_label ?_ | refine post_ret ?_ | refine post_normal ?_ | refine postE_ret ?_ | refine postE_normal ?_) <;> simp (config := { maxSteps := 3000000 }) (disch := first | assumption | omega | exact VG.okg (by assumption) | (simp only [List.length_set, List.length_append, List.length_cons, List.length_nil, List.length_replicate]; omega)) only [go_sem, ↓reduceIte, Int.reduceLE, Int.reduceLT, Int.reduceToNat, Int.reduceNeg, Int.reduceAdd, Int.reduceSub, Int.reduceMul, Int.reduceEq, Int.reduceNe, Nat.reduceEqDiff, Nat.reduceAdd, Nat.reduceSub, Nat.reduceMul, Nat.reduceLT, Nat.reduceLeDiff, Nat.reduceBEq, Nat.reduceBNe, Try.results81, m8, h8, h9, h1, h2, h3, m3, h6, m6, h12, h14, hvl, Nat.mul_one, hae, hbe, hrd])
      | (((first | refine at_region ?_ | refine at_out ?_ | refine at_cond ?_); split) <;> first | (exfalso; omega; done) | simp (config := { maxSteps := 3000000 }) (disch := first | assumption | omega | exact VG.okg (by assumption) | (simp only [List.length_set, List.length_append, List.length_cons, List.length_nil, List.length_replicate]; omega)) only [go_sem, ↓reduceIte, Int.reduceLE, Int.reduceLT, Int.reduceToNat, Int.reduceNeg, Int.reduceAdd, Int.reduceSub, Int.reduceMul, Int.reduceEq, Int.reduceNe, Nat.reduceEqDiff, Nat.reduceAdd, Nat.reduceSub, Nat.reduceMul, Nat.reduceLT, Nat.reduceLeDiff, Nat.reduceBEq, Nat.reduceBNe, Try.results81, m8, h8, h9, h1, h2, h3, m3, h6, m6, h12, h14, hvl, Nat.mul_one, hae, hbe, hrd] | skip))
    refine ⟨i + 1, _, ?_, rfl, by omega, by omega, hst, by omega⟩
    rw [List.append_assoc]
    exact congrArg (Arr.box 0) (bP_put vs _ _ (by omega))
end Go.Proofs.Ytbaholclcfpknaa.X


