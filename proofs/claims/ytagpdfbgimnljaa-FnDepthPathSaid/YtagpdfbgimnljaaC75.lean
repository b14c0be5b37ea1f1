/- What functions compute: draws of forests and of lists. -/
import Derived.Test.YtagpdfbgimnljaaC71
set_option linter.unusedSimpArgs false
set_option linter.unusedVariables false
set_option maxHeartbeats 8000000
set_option maxRecDepth 100000
namespace Go.Proofs.Ytagpdfbgimnljaa.X
open Go Go.Proofs
theorem c_l6Draw (bs : List Int) (p : Int) (hb : bytes bs) (hp : 0 ≤ p ∧ p ≤ 100000) :
    ∃ n es p', VG n es ∧ Tree n es ∧ p ≤ p' ∧ p' ≤ p + 100 ∧ KP 133 [.ptr 1000 0 0 0] [Rd bs p] = some (.agg [I n, LE es], [Rd bs p'], []) := by
  obtain ⟨n, es, p', hn1, hn2, ho, hes, hel, hp1, hp2, hdraw⟩ := c_l1Draw bs p hb hp
  have hV : VG n es := ⟨hn1, hn2, by omega, hes, ho⟩
  have hf := c_l2Forest n es hV.okg
  have hTf : Tree n (forestL es) := forest_cnt hV.okg.ok
  refine ⟨n, forestL es, p', hV.sub (forest_sub hV.okg.ok), hTf, hp1, hp2, xw_call (fn := Try.f133) rfl Try.func133 rfl ⟨Nat.le_of_ble_eq_true rfl, rfl, rfl⟩ ?_⟩
  repeat' (first
    | refine xw_seq ?_
    | refine xw_block ?_
    | (refine ite_two ?_ ?_ <;> intro _ <;> first | (exfalso; omega) | skip)
    | refine ord_split (by kernel_rfl) ?_
    | (refine xw_ret ?_ <;> try simp only [sq, bl, LQ])
    | ((first | refine xw_reg ?_ | refine xw_regd ?_ | refine xw_if ?_ | refine xw_skip ?_ | refine xw_exit ?_ | refine xw_label ?_ | refine post_ret ?_ | refine post_normal ?_ | refine postE_ret ?_ | refine postE_normal ?_) <;> simp (config := { maxSteps := 3000000 }) (disch := first | assumption | omega | exact VG.okg (by assumption) | (simp only [List.length_set, List.length_append, List.length_cons, List.length_nil, List.length_replicate]; omega)) only [go_sem, ↓reduceIte, Int.reduceLE, Int.reduceLT, Int.reduceToNat, Int.reduceNeg, Int.reduceAdd, Int.reduceSub, Int.reduceMul, Int.reduceEq, Int.reduceNe, Nat.reduceEqDiff, Nat.reduceAdd, Nat.reduceSub, Nat.reduceMul, Nat.reduceLT, Nat.reduceLeDiff, Nat.reduceBEq, Nat.reduceBNe, Try.results133, hdraw, hf])
    | (((first | refine at_region ?_ | refine at_out ?_ | refine at_cond ?_); split) <;> first | (exfalso; omega; done) | simp (config := { maxSteps := 3000000 }) (disch := first | assumption | omega | exact VG.okg (by assumption) | (simp only [List.length_set, List.length_append, List.length_cons, List.length_nil, List.length_replicate]; omega)) only [go_sem, ↓reduceIte, Int.reduceLE, Int.reduceLT, Int.reduceToNat, Int.reduceNeg, Int.reduceAdd, Int.reduceSub, Int.reduceMul, Int.reduceEq, Int.reduceNe, Nat.reduceEqDiff, Nat.reduceAdd, Nat.reduceSub, Nat.reduceMul, Nat.reduceLT, Nat.reduceLeDiff, Nat.reduceBEq, Nat.reduceBNe, Try.results133, hdraw, hf] | skip))
theorem c_DrawTourOf (bs : List Int) (hb : ∀ b ∈ bs, 0 ≤ b ∧ b < 256) (hl : bs.length ≤ 1000000000) :
    ∃ (n : Int) (es : List (Int × Int)) (v : Int), es.length ≤ 40 ∧ -1 ≤ v ∧ v ≤ 16 ∧ KP 55 [LB bs] [] = some (.tup [GL n es, I v], [], []) := by
  obtain ⟨cs, hcs, hopen⟩ := c_l14Open bs hb hl
  obtain ⟨n, es, p, hV, hT, hp1, hp2, hdraw⟩ := c_l6Draw cs 0 hcs (by omega)
  obtain ⟨w, hw, _, hpw⟩ := c_pick cs p 8 hcs (by omega) (by omega)
  have hn1 := hV.1
  have hn2 := hV.2.1
  have hel := hV.2.2.1
  by_cases hw0 : w = 0
  · obtain ⟨n', es', v, h1, h2, h3, h4, h5, hn⟩ := c_l1Node bs hb hl
    refine ⟨n', es', v, h3, h4, h5, xw_call (fn := Try.f55) rfl Try.func55 rfl ⟨Nat.le_of_ble_eq_true rfl, rfl, rfl⟩ ?_⟩
    repeat' (first
      | refine xw_seq ?_
      | refine xw_block ?_
      | (refine ite_two ?_ ?_ <;> intro _ <;> first | (exfalso; omega) | skip)
      | refine ord_split (by kernel_rfl) ?_
      | (refine xw_ret ?_ <;> try simp only [sq, bl, LQ])
      | ((first | refine xw_reg ?_ | refine xw_regd ?_ | refine xw_if ?_ | refine xw_skip ?_ | refine xw_exit ?_ | refine xw_label ?_ | refine post_ret ?_ | refine post_normal ?_ | refine postE_ret ?_ | refine postE_normal ?_) <;> simp (config := { maxSteps := 3000000 }) (disch := first | assumption | omega | exact VG.okg (by assumption) | (simp only [List.length_set, List.length_append, List.length_cons, List.length_nil, List.length_replicate]; omega)) only [go_sem, ↓reduceIte, Int.reduceLE, Int.reduceLT, Int.reduceToNat, Int.reduceNeg, Int.reduceAdd, Int.reduceSub, Int.reduceMul, Int.reduceEq, Int.reduceNe, Nat.reduceEqDiff, Nat.reduceAdd, Nat.reduceSub, Nat.reduceMul, Nat.reduceLT, Nat.reduceLeDiff, Nat.reduceBEq, Nat.reduceBNe, Try.results55, hopen, hdraw, hpw, hw0, hn])
      | (((first | refine at_region ?_ | refine at_out ?_ | refine at_cond ?_); split) <;> first | (exfalso; omega; done) | simp (config := { maxSteps := 3000000 }) (disch := first | assumption | omega | exact VG.okg (by assumption) | (simp only [List.length_set, List.length_append, List.length_cons, List.length_nil, List.length_replicate]; omega)) only [go_sem, ↓reduceIte, Int.reduceLE, Int.reduceLT, Int.reduceToNat, Int.reduceNeg, Int.reduceAdd, Int.reduceSub, Int.reduceMul, Int.reduceEq, Int.reduceNe, Nat.reduceEqDiff, Nat.reduceAdd, Nat.reduceSub, Nat.reduceMul, Nat.reduceLT, Nat.reduceLeDiff, Nat.reduceBEq, Nat.reduceBNe, Try.results55, hopen, hdraw, hpw, hw0, hn] | skip))
  · obtain ⟨v, hv, _, hpv⟩ := c_pick cs (p + 1) n hcs (by omega) (by omega)
    have hv' := hv hn1
    refine ⟨n, es, v, hel, by omega, by omega, xw_call (fn := Try.f55) rfl Try.func55 rfl ⟨Nat.le_of_ble_eq_true rfl, rfl, rfl⟩ ?_⟩
    repeat' (first
      | refine xw_seq ?_
      | refine xw_block ?_
      | (refine ite_two ?_ ?_ <;> intro _ <;> first | (exfalso; omega) | skip)
      | refine ord_split (by kernel_rfl) ?_
      | (refine xw_ret ?_ <;> try simp only [sq, bl, LQ])
      | ((first | refine xw_reg ?_ | refine xw_regd ?_ | refine xw_if ?_ | refine xw_skip ?_ | refine xw_exit ?_ | refine xw_label ?_ | refine post_ret ?_ | refine post_normal ?_ | refine postE_ret ?_ | refine postE_normal ?_) <;> simp (config := { maxSteps := 3000000 }) (disch := first | assumption | omega | exact VG.okg (by assumption) | (simp only [List.length_set, List.length_append, List.length_cons, List.length_nil, List.length_replicate]; omega)) only [go_sem, ↓reduceIte, Int.reduceLE, Int.reduceLT, Int.reduceToNat, Int.reduceNeg, Int.reduceAdd, Int.reduceSub, Int.reduceMul, Int.reduceEq, Int.reduceNe, Nat.reduceEqDiff, Nat.reduceAdd, Nat.reduceSub, Nat.reduceMul, Nat.reduceLT, Nat.reduceLeDiff, Nat.reduceBEq, Nat.reduceBNe, Try.results55, hopen, hdraw, hpw, hw0, hpv])
      | (((first | refine at_region ?_ | refine at_out ?_ | refine at_cond ?_); split) <;> first | (exfalso; omega; done) | simp (config := { maxSteps := 3000000 }) (disch := first | assumption | omega | exact VG.okg (by assumption) | (simp only [List.length_set, List.length_append, List.length_cons, List.length_nil, List.length_replicate]; omega)) only [go_sem, ↓reduceIte, Int.reduceLE, Int.reduceLT, Int.reduceToNat, Int.reduceNeg, Int.reduceAdd, Int.reduceSub, Int.reduceMul, Int.reduceEq, Int.reduceNe, Nat.reduceEqDiff, Nat.reduceAdd, Nat.reduceSub, Nat.reduceMul, Nat.reduceLT, Nat.reduceLeDiff, Nat.reduceBEq, Nat.reduceBNe, Try.results55, hopen, hdraw, hpw, hw0, hpv] | skip))
def l5T : List Int := [0, 1, 0, 2, 0]
theorem c_l6Tour (bs : List Int) (hb : ∀ b ∈ bs, 0 ≤ b ∧ b < 256) (hl : bs.length ≤ 1000000000) :
    ∃ (l : List Int), 1 ≤ l.length ∧ l.length ≤ 31 ∧ KP 129 [LB bs] [] = some (.ref 2000 0 0 l.length, [], [.arr 0 1 (l.map encI)]) := by
  obtain ⟨cs, hcs, hopen⟩ := c_l14Open bs hb hl
  obtain ⟨n, es, p, hV, hT, hp1, hp2, hdraw⟩ := c_l6Draw cs 0 hcs (by omega)
  have hn1 := hV.1
  have hn2 := hV.2.1
  have hel := hV.2.2.1
  obtain ⟨v, hv, _, hpv⟩ := c_pick cs p n hcs (by omega) (by omega)
  have hv' := hv hn1
  have hat : At n es v v (-1) := ⟨.refl _, hv', .inl ⟨rfl, rfl⟩⟩
  have hd0 := dst_self (n := n) (t := v) hV.okg.ok (by omega)
  have hw := c_l6Walk hV.okg hV.nodup hT n.toNat v (-1) [] hat (by rw [hd0]; omega) (by have := tour_le hV.okg hV.nodup hT hat (f := n.toNat) (by rw [hd0]; omega); simp; omega)
  have htl := tour_le hV.okg hV.nodup hT hat (f := n.toNat) (by rw [hd0]; omega)
  obtain ⟨q, hq⟩ := tour_head (es := es) n.toNat (x := v) (p := -1)
  have hpos : 1 ≤ (tourL es n.toNat v (-1)).length := by rw [hq]; simp
  generalize tourL es n.toNat v (-1) = T at *
  clear hq
  rw [List.nil_append] at hw
  simp only [List.length_nil, List.map_nil] at hw
  obtain ⟨c, hc, _, hpc⟩ := c_pick cs (p + 1) 2 hcs (by omega) (by omega)
  obtain ⟨d1, hd1, _, hpd1⟩ := c_pick cs (p + 1) 10 hcs (by omega) (by omega)
  obtain ⟨d2, hd2, _, hpd2⟩ := c_pick cs (p + 1 + 1) 10 hcs (by omega) (by omega)
  obtain ⟨k1, hk1, _, hpk1⟩ := c_pick cs (p + 1 + 1) T.length hcs (by omega) (by omega)
  obtain ⟨k2, hk2, _, hpk2⟩ := c_pick cs (p + 1 + 1 + 1) T.length hcs (by omega) (by omega)
  obtain ⟨k3, hk3, _, hpk3⟩ := c_pick cs (p + 1 + 1 + 1) 5 hcs (by omega) (by omega)
  obtain ⟨y1, hy1, hnum1⟩ := c_num cs (p + 1 + 1 + 1) [0, 1, 15, 16, -1] hcs (by omega) (by simp) (by simp)
  obtain ⟨y2, hy2, hnum2⟩ := c_num cs (p + 1 + 1 + 1 + 1) [0, 1, 15, 16, -1] hcs (by omega) (by simp) (by simp)
  simp only [List.map_cons, List.map_nil, encI, List.length_cons, List.length_nil, Nat.reduceAdd] at hnum1 hnum2
  have hk1' := hk1 (by omega)
  have hk2' := hk2 (by omega)
  have hk3' := hk3 (by omega)
  suffices h : ∃ res, (∃ l : List Int, 1 ≤ l.length ∧ l.length ≤ 31 ∧ res = (PV.ref 2000 0 0 l.length, [], [Arr.arr 0 1 (l.map encI)])) ∧ KP 129 [LB bs] [] = some res by
    obtain ⟨res, ⟨l, h1, h2, rfl⟩, h3⟩ := h
    exact ⟨l, h1, h2, h3⟩
  have nc5 : ((5 : Nat) : Int) = 5 := rfl
  have hL5 : ([[.v (.int .i64 0)], [.v (.int .i64 1)], [.v (.int .i64 0)], [.v (.int .i64 2)], [.v (.int .i64 0)]] : List (List IV)) = l5T.map encI := rfl
  have hl5 : l5T.length = 5 := rfl
  refine xw_callE (fn := Try.f129) rfl Try.func129 rfl ⟨Nat.le_of_ble_eq_true rfl, rfl, rfl⟩ ?_
  repeat' (first
    | refine xw_seq ?_
    | refine xw_block ?_
    | (refine ite_two ?_ ?_ <;> intro _ <;> first | (exfalso; omega) | skip)
    | refine ord_split (by kernel_rfl) ?_
    | (refine xw_ret ?_ <;> try simp only [sq, bl, LQ])
    | ((first | refine xw_reg ?_ | refine xw_regd ?_ | refine xw_if ?_ | refine xw_skip ?_ | refine xw_exit ?_ | refine xw_label ?_ | refine post_ret ?_ | refine post_normal ?_ | refine postE_ret ?_ | refine postE_normal ?_) <;> simp (config := { maxSteps := 3000000 }) (disch := first | assumption | omega | exact VG.okg (by assumption) | (simp only [List.length_set, List.length_append, List.length_cons, List.length_nil, List.length_replicate]; omega)) only [go_sem, ↓reduceIte, Int.reduceLE, Int.reduceLT, Int.reduceToNat, Int.reduceNeg, Int.reduceAdd, Int.reduceSub, Int.reduceMul, Int.reduceEq, Int.reduceNe, Nat.reduceEqDiff, Nat.reduceAdd, Nat.reduceSub, Nat.reduceMul, Nat.reduceLT, Nat.reduceLeDiff, Nat.reduceBEq, Nat.reduceBNe, Try.results129, hopen, hdraw, hpv, hw, hpc, hpd1, hpd2, hpk1, hpk2, hpk3, hnum1, hnum2, nc5, hL5, hl5])
    | (((first | refine at_region ?_ | refine at_out ?_ | refine at_cond ?_); split) <;> first | (exfalso; omega; done) | simp (config := { maxSteps := 3000000 }) (disch := first | assumption | omega | exact VG.okg (by assumption) | (simp only [List.length_set, List.length_append, List.length_cons, List.length_nil, List.length_replicate]; omega)) only [go_sem, ↓reduceIte, Int.reduceLE, Int.reduceLT, Int.reduceToNat, Int.reduceNeg, Int.reduceAdd, Int.reduceSub, Int.reduceMul, Int.reduceEq, Int.reduceNe, Nat.reduceEqDiff, Nat.reduceAdd, Nat.reduceSub, Nat.reduceMul, Nat.reduceLT, Nat.reduceLeDiff, Nat.reduceBEq, Nat.reduceBNe, Try.results129, hopen, hdraw, hpv, hw, hpc, hpd1, hpd2, hpk1, hpk2, hpk3, hnum1, hnum2, nc5, hL5, hl5] | skip))
  · exact ⟨l5T.set k3.toNat y2, by simp [hl5], by simp [hl5], by simp [hl5], rfl⟩
  · exact ⟨l5T, by simp [hl5], by simp [hl5], by simp [hl5], rfl⟩
  · exact ⟨T.set k2.toNat y2, by simpa using hpos, by simpa using htl, by simp, rfl⟩
  · exact ⟨T, hpos, htl, rfl, rfl⟩
  · exact ⟨T.set k1.toNat y1, by simpa using hpos, by simpa using htl, by simp, rfl⟩
  · exact ⟨T, hpos, htl, rfl, rfl⟩
theorem c_DrawTourEdges (bs : List Int) (hb : ∀ b ∈ bs, 0 ≤ b ∧ b < 256) (hl : bs.length ≤ 1000000000) : ∃ (l : List Int), 1 ≤ l.length ∧ l.length ≤ 31 ∧ KP 50 [LB bs] [] = some (LI l, [], []) := by
  obtain ⟨l, h1, h2, h3⟩ := c_l6Tour bs hb hl
  refine ⟨l, h1, h2, xw_call (fn := Try.f50) rfl Try.func50 rfl ⟨Nat.le_of_ble_eq_true rfl, rfl, rfl⟩ ?_⟩
  repeat' (first
    | refine xw_seq ?_
    | refine xw_block ?_
    | (refine ite_two ?_ ?_ <;> intro _ <;> first | (exfalso; omega) | skip)
    | refine ord_split (by kernel_rfl) ?_
    | (refine xw_ret ?_ <;> try simp only [sq, bl, LQ])
    | ((first | refine xw_reg ?_ | refine xw_regd ?_ | refine xw_if ?_ | refine xw_skip ?_ | refine xw_exit ?_ | refine xw_label ?_ | refine post_ret ?_ | refine post_normal ?_ | refine postE_ret ?_ | refine postE_normal ?_) <;> simp (config := { maxSteps := 3000000 }) (disch := first | assumption | omega | exact VG.okg (by assumption) | (simp only [List.length_set, List.length_append, List.length_cons, List.length_nil, List.length_replicate]; omega)) only [go_sem, ↓reduceIte, Int.reduceLE, Int.reduceLT, Int.reduceToNat, Int.reduceNeg, Int.reduceAdd, Int.reduceSub, Int.reduceMul, Int.reduceEq, Int.reduceNe, Nat.reduceEqDiff, Nat.reduceAdd, Nat.reduceSub, Nat.reduceMul, Nat.reduceLT, Nat.reduceLeDiff, Nat.reduceBEq, Nat.reduceBNe, Try.results50, h3])
    | (((first | refine at_region ?_ | refine at_out ?_ | refine at_cond ?_); split) <;> first | (exfalso; omega; done) | simp (config := { maxSteps := 3000000 }) (disch := first | assumption | omega | exact VG.okg (by assumption) | (simp only [List.length_set, List.length_append, List.length_cons, List.length_nil, List.length_replicate]; omega)) only [go_sem, ↓reduceIte, Int.reduceLE, Int.reduceLT, Int.reduceToNat, Int.reduceNeg, Int.reduceAdd, Int.reduceSub, Int.reduceMul, Int.reduceEq, Int.reduceNe, Nat.reduceEqDiff, Nat.reduceAdd, Nat.reduceSub, Nat.reduceMul, Nat.reduceLT, Nat.reduceLeDiff, Nat.reduceBEq, Nat.reduceBNe, Try.results50, h3] | skip))
theorem c_DrawTourDepths (bs : List Int) (hb : ∀ b ∈ bs, 0 ≤ b ∧ b < 256) (hl : bs.length ≤ 1000000000) : ∃ (l : List Int), 1 ≤ l.length ∧ l.length ≤ 31 ∧ KP 60 [LB bs] [] = some (LI l, [], []) := by
  obtain ⟨l, h1, h2, h3⟩ := c_l6Tour bs hb hl
  refine ⟨l, h1, h2, xw_call (fn := Try.f60) rfl Try.func60 rfl ⟨Nat.le_of_ble_eq_true rfl, rfl, rfl⟩ ?_⟩
  repeat' (first
    | refine xw_seq ?_
    | refine xw_block ?_
    | (refine ite_two ?_ ?_ <;> intro _ <;> first | (exfalso; omega) | skip)
    | refine ord_split (by kernel_rfl) ?_
    | (refine xw_ret ?_ <;> try simp only [sq, bl, LQ])
    | ((first | refine xw_reg ?_ | refine xw_regd ?_ | refine xw_if ?_ | refine xw_skip ?_ | refine xw_exit ?_ | refine xw_label ?_ | refine post_ret ?_ | refine post_normal ?_ | refine postE_ret ?_ | refine postE_normal ?_) <;> simp (config := { maxSteps := 3000000 }) (disch := first | assumption | omega | exact VG.okg (by assumption) | (simp only [List.length_set, List.length_append, List.length_cons, List.length_nil, List.length_replicate]; omega)) only [go_sem, ↓reduceIte, Int.reduceLE, Int.reduceLT, Int.reduceToNat, Int.reduceNeg, Int.reduceAdd, Int.reduceSub, Int.reduceMul, Int.reduceEq, Int.reduceNe, Nat.reduceEqDiff, Nat.reduceAdd, Nat.reduceSub, Nat.reduceMul, Nat.reduceLT, Nat.reduceLeDiff, Nat.reduceBEq, Nat.reduceBNe, Try.results60, h3])
    | (((first | refine at_region ?_ | refine at_out ?_ | refine at_cond ?_); split) <;> first | (exfalso; omega; done) | simp (config := { maxSteps := 3000000 }) (disch := first | assumption | omega | exact VG.okg (by assumption) | (simp only [List.length_set, List.length_append, List.length_cons, List.length_nil, List.length_replicate]; omega)) only [go_sem, ↓reduceIte, Int.reduceLE, Int.reduceLT, Int.reduceToNat, Int.reduceNeg, Int.reduceAdd, Int.reduceSub, Int.reduceMul, Int.reduceEq, Int.reduceNe, Nat.reduceEqDiff, Nat.reduceAdd, Nat.reduceSub, Nat.reduceMul, Nat.reduceLT, Nat.reduceLeDiff, Nat.reduceBEq, Nat.reduceBNe, Try.results60, h3] | skip))
end Go.Proofs.Ytagpdfbgimnljaa.X
