/- What functions compute: searches in depth, as the reference has them. -/
import Derived.Test.YtbaholclcfpknaaC36
set_option linter.unusedSimpArgs false
set_option linter.unusedVariables false
set_option maxHeartbeats 8000000
namespace Go.Proofs.Ytbaholclcfpknaa.X
open Go Go.Proofs

theorem c_l4Search (n : Int) (es : List (Int × Int)) (hV : VG n es) : ∀ (f : Nat) (v p : Int) (st : Sr × Int), OkS n es st → inR n v → gI st.1.num v = 0 → (p = -1 ∨ (inR n p ∧ gI st.1.num p ≠ 0)) → zeros st.1.num ≤ f → st.2 + zeros st.1.num = n →
    KP 207 [GL n es, I v, I p, .agg [.ref 1000 0 0 n.toNat, .ref 1001 0 0 n.toNat, .ref 1002 0 0 n.toNat], I st.2] [arrS st.1.num, arrS st.1.par, arrS st.1.low] =
      some (.tup [.agg [.ref 1000 0 0 n.toNat, .ref 1001 0 0 n.toNat, .ref 1002 0 0 n.toNat], I (visit es f v p st).2], [arrS (visit es f v p st).1.num, arrS (visit es f v p st).1.par, arrS (visit es f v p st).1.low], []) := by
  have ho := hV.okg.ok
  have hn16 := hV.2.1
  have hnd := hV.nodup
  have hle := hV.okg.len
  intro f
  induction f with
  | zero =>
    intro v p st hs hv hv0 hp hz hc
    have := zeros_set (l := st.1.num) (i := v.toNat) (v := 1) (by rw [hs.ln]; obtain ⟨h0, h1⟩ := hv; omega) hv0 (by omega)
    omega
  | succ f ih =>
    intro v p st hs hv hv0 hp hz hc
    have hzs := zeros_set (l := st.1.num) (i := v.toNat) (v := st.2 + 1) (by rw [hs.ln]; obtain ⟨h0, h1⟩ := hv; omega) hv0 (by have := hs.c0; omega)
    have hln := hs.ln
    have hlp := hs.lp
    have hll := hs.ll
    have hc0 := hs.c0
    have hE := enter_loop ho hs hv hv0 hp
    have hpost := visit_post ho hnd f
    have hnbn : (nbS v es).Nodup := (List.mergeSort_perm _ _).nodup_iff.2 (nodup_nbL ho hnd v)
    have hnb := c_l1Next n v es hV.okg hnd
    have hnbl : (nbS v es).length ≤ 40 := by have := alone_length v es; omega
    have hvr : 0 ≤ v ∧ v < n := hv
    have hfin : visit es (f + 1) v p st = (nbS v es).foldl (vstep (visit es f) v p) (enterS st v p) := rfl
    refine xw_call (fn := Try.f207) rfl Try.func207 rfl ⟨Nat.le_of_ble_eq_true rfl, rfl, rfl⟩ ?_
    repeat' (first
      | refine xw_seq ?_
      | refine xw_block ?_
      | (refine ite_two ?_ ?_ <;> intro _ <;> first | (exfalso; omega) | skip)
      | refine ord_split (by kernel_rfl) ?_
      | (refine xw_ret ?_ <;> try simp only [sq, bl, LQ])
      | ((first | refine xw_reg ?_ | refine xw_regd ?_ | refine xw_if ?_ | refine xw_skip ?_ | refine xw_exit ?_ | refine xw_label ?_ | refine post_ret ?_ | refine post_normal ?_ | refine postE_ret ?_ | refine postE_normal ?_) <;> simp (config := { maxSteps := 3000000 }) (disch := first | assumption | omega | exact VG.okg (by assumption) | (simp only [List.length_set, List.length_append, List.length_cons, List.length_nil, List.length_replicate]; omega)) only [go_sem, ↓reduceIte, Int.reduceLE, Int.reduceLT, Int.reduceToNat, Int.reduceNeg, Int.reduceAdd, Int.reduceSub, Int.reduceMul, Int.reduceEq, Int.reduceNe, Nat.reduceEqDiff, Nat.reduceAdd, Nat.reduceSub, Nat.reduceMul, Nat.reduceLT, Nat.reduceLeDiff, Nat.reduceBEq, Nat.reduceBNe, Try.results207, hnb])
      | (((first | refine at_region ?_ | refine at_out ?_ | refine at_cond ?_); split) <;> first | (exfalso; omega; done) | simp (config := { maxSteps := 3000000 }) (disch := first | assumption | omega | exact VG.okg (by assumption) | (simp only [List.length_set, List.length_append, List.length_cons, List.length_nil, List.length_replicate]; omega)) only [go_sem, ↓reduceIte, Int.reduceLE, Int.reduceLT, Int.reduceToNat, Int.reduceNeg, Int.reduceAdd, Int.reduceSub, Int.reduceMul, Int.reduceEq, Int.reduceNe, Nat.reduceEqDiff, Nat.reduceAdd, Nat.reduceSub, Nat.reduceMul, Nat.reduceLT, Nat.reduceLeDiff, Nat.reduceBEq, Nat.reduceBNe, Try.results207, hnb] | skip))
    refine xw_loopR (fun (u : Int × (Sr × Int)) s => L4F n es v p u.1 u.2 s ∧ 0 ≤ u.1 ∧ u.1 ≤ (nbS v es).length ∧ u.2 = ((nbS v es).take u.1.toNat).foldl (vstep (visit es f) v p) (enterS st v p) ∧ LoopS n es v p st u.2 ((nbS v es).take u.1.toNat) ∧ u.2.2 + zeros u.2.1.num = n) (fun u => ((nbS v es).length - u.1).toNat) (0, enterS st v p) ?_ ?_
    · refine ⟨⟨by simp [upd, initP, enterS], by simp [upd, initP, enterS], by simp [upd, initP, enterS], by simp [upd], by simp [upd], by simp [upd], by simp [upd], by simp [upd], by simp [upd], by simp [upd, initP], by simp [upd, initP], by simp [upd, enterS], by simp [upd], by simp [upd]⟩, by simp, by simp, by simp, hE, ?_⟩
      simp only [enterS]
      omega
    rintro ⟨j, s⟩ st0 ⟨hst, g0, g1, g2, gL, gc⟩
    simp only at hst g0 g1 g2 gL gc
    have sln := gL.ok.ln
    have slp := gL.ok.lp
    have sll := gL.ok.ll
    have sc0 := gL.ok.c0
    by_cases hj : j < (nbS v es).length
    rotate_left
    · rw [take_all (by omega), ← hfin] at g2
      rw [← g2]
      obtain ⟨ρ, m⟩ := st0
      obtain ⟨m1, m2, m3, h8, m8, h5, m5, h10, m10, h1', h2, h4, h12, h13⟩ := hst
      simp only at m1 m2 m3 h8 m8 h5 m5 h10 m10 h1' h2 h4 h12 h13
      repeat' (first
        | refine xw_seq ?_
        | refine xw_block ?_
        | (refine ite_two ?_ ?_ <;> intro _ <;> first | (exfalso; omega) | skip)
        | refine ord_split (by kernel_rfl) ?_
        | (refine xw_ret ?_ <;> try simp only [sq, bl, LQ])
        | ((first | refine xw_reg ?_ | refine xw_regd ?_ | refine xw_if ?_ | refine xw_skip ?_ | refine xw_exit ?_ | refine xw_label ?_ | refine post_ret ?_ | refine post_normal ?_ | refine postE_ret ?_ | refine postE_normal ?_) <;> simp (config := { maxSteps := 3000000 }) (disch := first | assumption | omega | exact VG.okg (by assumption) | (simp only [List.length_set, List.length_append, List.length_cons, List.length_nil, List.length_replicate]; omega)) only [go_sem, ↓reduceIte, Int.reduceLE, Int.reduceLT, Int.reduceToNat, Int.reduceNeg, Int.reduceAdd, Int.reduceSub, Int.reduceMul, Int.reduceEq, Int.reduceNe, Nat.reduceEqDiff, Nat.reduceAdd, Nat.reduceSub, Nat.reduceMul, Nat.reduceLT, Nat.reduceLeDiff, Nat.reduceBEq, Nat.reduceBNe, Try.results207, m1, m2, m3, h8, m8, h5, m5, h10, m10, h1', h2, h4, h12, h13])
        | (((first | refine at_region ?_ | refine at_out ?_ | refine at_cond ?_); split) <;> first | (exfalso; omega; done) | simp (config := { maxSteps := 3000000 }) (disch := first | assumption | omega | exact VG.okg (by assumption) | (simp only [List.length_set, List.length_append, List.length_cons, List.length_nil, List.length_replicate]; omega)) only [go_sem, ↓reduceIte, Int.reduceLE, Int.reduceLT, Int.reduceToNat, Int.reduceNeg, Int.reduceAdd, Int.reduceSub, Int.reduceMul, Int.reduceEq, Int.reduceNe, Nat.reduceEqDiff, Nat.reduceAdd, Nat.reduceSub, Nat.reduceMul, Nat.reduceLT, Nat.reduceLeDiff, Nat.reduceBEq, Nat.reduceBNe, Try.results207, m1, m2, m3, h8, m8, h5, m5, h10, m10, h1', h2, h4, h12, h13] | skip))
    have hum := getD_mem (d := 0) (show j.toNat < (nbS v es).length by omega)
    have hfs := fold_vstep (rec := visit es f) (v := v) (p := p) (st := enterS st v p) g0 hj
    rw [← g2] at hfs
    have hsp : nbS v es = (nbS v es).take j.toNat ++ (nbS v es).getD j.toNat 0 :: (nbS v es).drop (j.toNat + 1) := by
      have hjl : j.toNat < (nbS v es).length := by omega
      have : (nbS v es).getD j.toNat 0 = (nbS v es)[j.toNat] := by simp [hjl]
      rw [this, ← List.drop_eq_getElem_cons hjl, List.take_append_drop]
    have hstep := step_loop ho hpost hnbn hsp hs.c0 hv hv0 hp hz gL
    have htk := take_int 0 g0 hj
    have hur := nb_in ho hum
    generalize hue : (nbS v es).getD j.toNat 0 = u at hum hfs hsp hstep htk hur
    rw [← htk] at hstep
    have hu := hur.1
    have hur' : 0 ≤ u ∧ u < n := hur.1
    have hpn : u = p → gI s.1.num u ≠ 0 := fun e => by
      rcases hp with hp | ⟨hp1, hp2⟩
      · omega
      · have := (gL.old p hp1 hp2).1
        rw [e, this]; exact hp2
    have hvl : v.toNat < s.1.low.length := by omega
    have fin : ∀ s' : Sr × Int, vstep (visit es f) v p s u = s' → s'.2 + (zeros s'.1.num : Int) = n → ∀ b, XW Try.prog cfg 207 b st0 (LQ (fun (_ : Unit) t => L4F n es v p (j + 1) s' t) (fun _ => 0) 1 (fun _ _ => False)) → ∀ Q, XW Try.prog cfg 207 b st0 (LQ (fun (u : Int × (Sr × Int)) s => L4F n es v p u.1 u.2 s ∧ 0 ≤ u.1 ∧ u.1 ≤ (nbS v es).length ∧ u.2 = ((nbS v es).take u.1.toNat).foldl (vstep (visit es f) v p) (enterS st v p) ∧ LoopS n es v p st u.2 ((nbS v es).take u.1.toNat) ∧ u.2.2 + zeros u.2.1.num = n) (fun u => ((nbS v es).length - u.1).toNat) ((nbS v es).length - j).toNat Q) := by
      intro s' e hz b hx Q
      refine hx.mono fun e' t ht => ?_
      cases e' with
      | normal =>
        obtain ⟨_, hF, _⟩ := ht
        exact ⟨(j + 1, s'), ⟨hF, by omega, by omega, by rw [← e]; exact hfs.symm, by rw [← e]; exact hstep, hz⟩, by show ((nbS v es).length - (j + 1)).toNat < _; omega⟩
      | exit i => exact ht.elim
      | ret => exact ht.elim
    by_cases hup : u = p
    · have h1 := hpn hup
      have hvs : vstep (visit es f) v p s u = s := by unfold vstep; rw [if_neg h1, if_pos hup]
      exact fin s hvs gc _ (l4_skip n es v p j u s ⟨by omega, by omega⟩ ⟨g0, hj⟩ hnbl sln slp sll hvr hur' hue hup h1 st0 hst _ rfl) _
    by_cases h1 : gI s.1.num u = 0
    · have hvn : gI s.1.num v ≠ 0 := by rw [gL.vn]; omega
      have hzf : zeros s.1.num ≤ f := by have := gL.zz; omega
      have hrec := ih u v s gL.ok hu h1 (.inr ⟨hv, hvn⟩) hzf gc
      have hP := hpost u v s gL.ok hu h1 (.inr ⟨hv, hvn⟩) hzf
      have hC := (visit_cnt ho f u v s sln sc0 hu h1 hzf).2.2
      have hvs : vstep (visit es f) v p s u = lowerS (visit es f u v s) v (gI (visit es f u v s).1.low u) := by unfold vstep; rw [if_pos h1]
      have rln := hP.ok.ln
      have rlp := hP.ok.lp
      have rll := hP.ok.ll
      generalize visit es f u v s = r at hrec hC hvs rln rlp rll
      unfold gI at h1
      by_cases hlt : r.1.low.getD u.toNat 0 < r.1.low.getD v.toNat 0
      · have hmin : min (r.1.low.getD v.toNat 0) (r.1.low.getD u.toNat 0) = r.1.low.getD u.toNat 0 := by omega
        unfold lowerS gI at hvs
        rw [hmin] at hvs
        exact fin _ hvs (by show r.2 + (zeros r.1.num : Int) = n; omega) _ (l4_rec1 n es v p j u s ⟨by omega, by omega⟩ ⟨g0, hj⟩ hnbl sln slp sll hvr hur' hue hup h1 r rln rlp rll hrec hlt st0 hst _ rfl) _
      · unfold lowerS gI at hvs
        rw [set_min (by omega) hlt] at hvs
        exact fin _ hvs (by show r.2 + (zeros r.1.num : Int) = n; omega) _ (l4_rec2 n es v p j u s ⟨by omega, by omega⟩ ⟨g0, hj⟩ hnbl sln slp sll hvr hur' hue hup h1 r rln rlp rll hrec hlt st0 hst _ rfl) _
    · have hvs : vstep (visit es f) v p s u = lowerS s v (gI s.1.num u) := by unfold vstep; rw [if_neg h1, if_neg hup]
      unfold gI at h1
      by_cases hlt : s.1.num.getD u.toNat 0 < s.1.low.getD v.toNat 0
      · have hmin : min (s.1.low.getD v.toNat 0) (s.1.num.getD u.toNat 0) = s.1.num.getD u.toNat 0 := by omega
        unfold lowerS gI at hvs
        rw [hmin] at hvs
        exact fin _ hvs gc _ (l4_low1 n es v p j u s ⟨by omega, by omega⟩ ⟨g0, hj⟩ hnbl sln slp sll hvr hur' hue hup h1 hlt st0 hst _ rfl) _
      · unfold lowerS gI at hvs
        rw [set_min (by omega) hlt] at hvs
        exact fin _ hvs gc _ (l4_low2 n es v p j u s ⟨by omega, by omega⟩ ⟨g0, hj⟩ hnbl sln slp sll hvr hur' hue hup h1 hlt st0 hst _ rfl) _

end Go.Proofs.Ytbaholclcfpknaa.X


