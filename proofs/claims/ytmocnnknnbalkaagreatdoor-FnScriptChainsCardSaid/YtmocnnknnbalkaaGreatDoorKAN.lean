/- What functions answer, and the plain laws behind it. -/
import Derived.Test.YtmocnnknnbalkaaGreatDoorKAG
import Derived.Test.YtmocnnknnbalkaaGreatDoorKAM
/- What functions compute: searches in depth. -/
set_option linter.unusedSimpArgs false
set_option linter.unusedVariables false
set_option maxHeartbeats 8000000
namespace Go.Proofs.YtmocnnknnbalkaaGreatDoor.X
open Go Go.Proofs
/-- The arrays of a search. -/
abbrev boxS (n : Int) : Arr := .box 0 [.ref 1001 0 0 n.toNat, .ref 1002 0 0 n.toNat, .ref 1003 0 0 n.toNat]
abbrev arrS (l : List Int) : Arr := .arr 0 1 (l.map encI)
theorem fold_vstep {rec : Int → Int → Sr × Int → Sr × Int} {v p : Int} {vs : List Int} {st : Sr × Int} {j : Int} (h0 : 0 ≤ j) (h1 : j < vs.length) : (vs.take (j + 1).toNat).foldl (vstep rec v p) st = vstep rec v p ((vs.take j.toNat).foldl (vstep rec v p) st) (vs.getD j.toNat 0) := by
  rw [take_int 0 h0 h1, List.foldl_append]; rfl
theorem c_find (n : Int) (es : List (Int × Int)) (hV : VG n es) : ∀ (f : Nat) (v p : Int) (st : Sr × Int), OkS n es st → inR n v → gI st.1.num v = 0 → (p = -1 ∨ (inR n p ∧ gI st.1.num p ≠ 0)) → zeros st.1.num ≤ f → st.2 + zeros st.1.num = n →
    KP 29 [.ptr 1000 0 0 0, GL n es, I v, I p, I st.2] [boxS n, arrS st.1.num, arrS st.1.par, arrS st.1.low] =
      some (I (visit es f v p st).2, [boxS n, arrS (visit es f v p st).1.num, arrS (visit es f v p st).1.par, arrS (visit es f v p st).1.low], []) := by
  have ho := hV.okg.ok
  have hn16 := hV.2.1
  have hnd := hV.nodup
  have hle := hV.okg.len
  intro f
  induction f with
  | zero =>
    intro v p st hs hv hv0 hp hz hc
    have := zeros_set (l := st.1.num) (i := v.toNat) (v := 1) (by rw [hs.ln]; obtain ⟨h0, h1⟩ := hv; omega) hv0 (by omega)
    omega
  | succ f ih =>
    intro v p st hs hv hv0 hp hz hc
    have hzs := zeros_set (l := st.1.num) (i := v.toNat) (v := st.2 + 1) (by rw [hs.ln]; obtain ⟨h0, h1⟩ := hv; omega) hv0 (by have := hs.c0; omega)
    have hln := hs.ln
    have hlp := hs.lp
    have hll := hs.ll
    have hc0 := hs.c0
    have hE := enter_loop ho hs hv hv0 hp
    have hpost := visit_post ho hnd f
    have hnbn : (nbS v es).Nodup := (List.mergeSort_perm _ _).nodup_iff.2 (nodup_nbL ho hnd v)
    have hnb := c_neighbors n v es (by omega)
    have hnbl : (nbS v es).length ≤ 40 := by have := alone_length v es; omega
    have hvr : 0 ≤ v ∧ v < n := hv
    have hfin : visit es (f + 1) v p st = (nbS v es).foldl (vstep (visit es f) v p) (enterS st v p) := rfl
    refine xw_call (fn := Tryz.f29) rfl Tryz.func29 rfl ⟨Nat.le_of_ble_eq_true rfl, rfl, rfl⟩ ?_
    repeat'(first|(refine na ?_;constructor)|(refine ite_two ?_ ?_<;>intro _<;>first|(exfalso;omega)|skip)|refine ord_split (by kernel_rfl) ?_|((first|(refine nb ?_;constructor)|refine pn rfl ?_|refine pe rfl ?_|((first|refine at2 ?_|refine at_cond ?_);split<;>first|(exfalso;omega;done)|skip))<;>try simp(config:={maxSteps:=3000000})(disch:=first|assumption|omega|exact VG.okg (by assumption)|(simp only[List.length_set,List.length_append,List.length_cons,List.length_nil,List.length_replicate];omega))only[go_sem,simprocAttr,Tryz.results29, hnb]))
    refine xw_loopR (fun (u : Int × (Sr × Int)) s => s.m 1000 = some (boxS n) ∧ s.m 1001 = some (arrS u.2.1.num) ∧ s.m 1002 = some (arrS u.2.1.par) ∧ s.m 1003 = some (arrS u.2.1.low) ∧ s.ρ 0 = .ptr 1000 0 0 0 ∧ s.ρ 6 = .ptr 6 0 0 0 ∧ s.m 6 = some (.box 0 [I n, LE es]) ∧ s.ρ 2 = I v ∧ s.ρ 3 = I p ∧ s.ρ 4 = I u.2.2 ∧ s.ρ 38 = LI (nbS v es) ∧ s.ρ 39 = I ((nbS v es).length : Int) ∧ s.ρ 40 = I u.1 ∧
      0 ≤ u.1 ∧ u.1 ≤ (nbS v es).length ∧ u.2 = ((nbS v es).take u.1.toNat).foldl (vstep (visit es f) v p) (enterS st v p) ∧ LoopS n es v p st u.2 ((nbS v es).take u.1.toNat) ∧ u.2.2 + zeros u.2.1.num = n) (fun u => ((nbS v es).length - u.1).toNat) (0, enterS st v p) ?_ ?_
    · refine ⟨by simp [upd, initP, enterS], by simp [upd, initP, enterS], by simp [upd, initP, enterS], by simp [upd, initP, enterS], by simp [upd, initP], by simp [upd], by simp [upd], by simp [upd, initP], by simp [upd, initP], by simp [upd, enterS], by simp [upd], by simp [upd], by simp [upd], by simp, by simp, by simp, hE, ?_⟩
      simp only [enterS]
      omega
    rintro ⟨j, s⟩ ⟨ρ, m⟩ ⟨m0, m1, m2, m3, h0, h6, m6, h2, h3, h4, h38, h39, h40, g0, g1, g2, gL, gc⟩
    simp only at m0 m1 m2 m3 h0 h6 m6 h2 h3 h4 h38 h39 h40 g0 g1 g2 gL gc
    have sln := gL.ok.ln
    have slp := gL.ok.lp
    have sll := gL.ok.ll
    have sc0 := gL.ok.c0
    by_cases hj : j < (nbS v es).length
    rotate_left
    · rw [take_all (by omega), ← hfin] at g2
      rw [← g2]
      repeat'(first|(refine na ?_;constructor)|(refine ite_two ?_ ?_<;>intro _<;>first|(exfalso;omega)|skip)|refine ord_split (by kernel_rfl) ?_|((first|(refine nb ?_;constructor)|refine pn rfl ?_|refine pe rfl ?_|((first|refine at2 ?_|refine at_cond ?_);split<;>first|(exfalso;omega;done)|skip))<;>try simp(config:={maxSteps:=3000000})(disch:=first|assumption|omega|exact VG.okg (by assumption)|(simp only[List.length_set,List.length_append,List.length_cons,List.length_nil,List.length_replicate];omega))only[go_sem,simprocAttr,Tryz.results29, m0, m1, m2, m3, h0, h6, m6, h2, h3, h4, h38, h39, h40]))
    have hum := getD_mem (d := 0) (show j.toNat < (nbS v es).length by omega)
    have hfs := fold_vstep (rec := visit es f) (v := v) (p := p) (st := enterS st v p) g0 hj
    rw [← g2] at hfs
    have hsp : nbS v es = (nbS v es).take j.toNat ++ (nbS v es).getD j.toNat 0 :: (nbS v es).drop (j.toNat + 1) := by
      have hjl : j.toNat < (nbS v es).length := by omega
      have : (nbS v es).getD j.toNat 0 = (nbS v es)[j.toNat] := by simp [hjl]
      rw [this, ← List.drop_eq_getElem_cons hjl, List.take_append_drop]
    have hstep := step_loop ho hpost hnbn hsp hs.c0 hv hv0 hp hz gL
    have htk := take_int 0 g0 hj
    have hur := nb_in ho hum
    generalize hue : (nbS v es).getD j.toNat 0 = u at hum hfs hsp hstep htk hur
    rw [← htk] at hstep
    have hu := hur.1
    have hur' : 0 ≤ u ∧ u < n := hur.1
    by_cases h1 : gI s.1.num u = 0
    · have hvn : gI s.1.num v ≠ 0 := by rw [gL.vn]; omega
      have hzf : zeros s.1.num ≤ f := by have := gL.zz; omega
      have hrec := ih u v s gL.ok hu h1 (.inr ⟨hv, hvn⟩) hzf gc
      have hP := hpost u v s gL.ok hu h1 (.inr ⟨hv, hvn⟩) hzf
      have hC := (visit_cnt ho f u v s sln sc0 hu h1 hzf).2.2
      have hvs : vstep (visit es f) v p s u = lowerS (visit es f u v s) v (gI (visit es f u v s).1.low u) := by unfold vstep; rw [if_pos h1]
      rw [hvs] at hfs hstep
      have rln := hP.ok.ln
      have rlp := hP.ok.lp
      have rll := hP.ok.ll
      generalize visit es f u v s = r at *
      unfold gI at h1
      repeat'(first|(refine na ?_;constructor)|(refine ite_two ?_ ?_<;>intro _<;>first|(exfalso;omega)|skip)|refine ord_split (by kernel_rfl) ?_|((first|(refine nb ?_;constructor)|refine pn rfl ?_|refine pe rfl ?_|((first|refine at2 ?_|refine at_cond ?_);split<;>first|(exfalso;omega;done)|skip))<;>try simp(config:={maxSteps:=3000000})(disch:=first|assumption|omega|exact VG.okg (by assumption)|(simp only[List.length_set,List.length_append,List.length_cons,List.length_nil,List.length_replicate];omega))only[go_sem,simprocAttr,Tryz.results29, m0, m1, m2, m3, h0, h6, m6, h2, h3, h4, h38, h39, h40, hue, hrec, h1]))
      exact ⟨j + 1, ⟨r.1.num, r.1.par, r.1.low.set v.toNat (min (r.1.low.getD v.toNat 0) (r.1.low.getD u.toNat 0))⟩, rfl, rfl, rfl, rfl, by omega, by omega, hfs.symm, hstep, by show r.2 + (zeros r.1.num : Int) = n; omega, by omega⟩
    · have hvs : vstep (visit es f) v p s u = if u = p then s else lowerS s v (gI s.1.num u) := by unfold vstep; rw [if_neg h1]
      unfold gI at h1
      by_cases hup : u = p
      · rw [if_pos hup] at hvs
        rw [hvs] at hfs hstep
        repeat'(first|(refine na ?_;constructor)|(refine ite_two ?_ ?_<;>intro _<;>first|(exfalso;omega)|skip)|refine ord_split (by kernel_rfl) ?_|((first|(refine nb ?_;constructor)|refine pn rfl ?_|refine pe rfl ?_|((first|refine at2 ?_|refine at_cond ?_);split<;>first|(exfalso;omega;done)|skip))<;>try simp(config:={maxSteps:=3000000})(disch:=first|assumption|omega|exact VG.okg (by assumption)|(simp only[List.length_set,List.length_append,List.length_cons,List.length_nil,List.length_replicate];omega))only[go_sem,simprocAttr,Tryz.results29, m0, m1, m2, m3, h0, h6, m6, h2, h3, h4, h38, h39, h40, hue]))
        exact ⟨j + 1, s.1, rfl, rfl, rfl, rfl, by omega, by omega, hfs.symm, hstep, gc, by omega⟩
      · rw [if_neg hup] at hvs
        rw [hvs] at hfs hstep
        repeat'(first|(refine na ?_;constructor)|(refine ite_two ?_ ?_<;>intro _<;>first|(exfalso;omega)|skip)|refine ord_split (by kernel_rfl) ?_|((first|(refine nb ?_;constructor)|refine pn rfl ?_|refine pe rfl ?_|((first|refine at2 ?_|refine at_cond ?_);split<;>first|(exfalso;omega;done)|skip))<;>try simp(config:={maxSteps:=3000000})(disch:=first|assumption|omega|exact VG.okg (by assumption)|(simp only[List.length_set,List.length_append,List.length_cons,List.length_nil,List.length_replicate];omega))only[go_sem,simprocAttr,Tryz.results29, m0, m1, m2, m3, h0, h6, m6, h2, h3, h4, h38, h39, h40, hue]))
        exact ⟨j + 1, ⟨s.1.num, s.1.par, s.1.low.set v.toNat (min (s.1.low.getD v.toNat 0) (s.1.num.getD u.toNat 0))⟩, rfl, rfl, rfl, rfl, by omega, by omega, hfs.symm, hstep, gc, by omega⟩
theorem c_search (n : Int) (es : List (Int × Int)) (hV : VG n es) : KP 14 [GL n es] [] = some (.agg [.ref 2000 0 0 (seek n es).num.length, .ref 2001 0 0 (seek n es).par.length, .ref 2002 0 0 (seek n es).low.length], [], [arrS (seek n es).num, arrS (seek n es).par, arrS (seek n es).low]) := by
  have ho := hV.okg.ok
  have hn16 := hV.2.1
  have hn1 := hV.1
  have hnd := hV.nodup
  refine xw_call (fn := Tryz.f14) rfl Tryz.func14 rfl ⟨Nat.le_of_ble_eq_true rfl, rfl, rfl⟩ ?_
  repeat'(first|(refine na ?_;constructor)|(refine ite_two ?_ ?_<;>intro _<;>first|(exfalso;omega)|skip)|refine ord_split (by kernel_rfl) ?_|((first|(refine nb ?_;constructor)|refine pn rfl ?_|refine pe rfl ?_|((first|refine at2 ?_|refine at_cond ?_);split<;>first|(exfalso;omega;done)|skip))<;>try simp(config:={maxSteps:=3000000})(disch:=first|assumption|omega|exact VG.okg (by assumption)|(simp only[List.length_set,List.length_append,List.length_cons,List.length_nil,List.length_replicate];omega))only[go_sem,simprocAttr,Tryz.results14]))
  refine xw_loopR (fun (k : Nat) s => s.m 3 = some (.box 0 [.ref 8 0 0 n.toNat, .ref 11 0 0 n.toNat, .ref 14 0 0 n.toNat]) ∧ s.ρ 3 = .ptr 3 0 0 0 ∧ s.m 8 = some (arrS (seekS n es k).1.num) ∧ s.m 11 = some (arrS (seekS n es k).1.par) ∧ s.m 14 = some (arrS (seekS n es k).1.low) ∧ s.ρ 4 = I (seekS n es k).2 ∧ s.ρ 17 = I n ∧ s.ρ 18 = I (k : Int) ∧ s.ρ 1 = .ptr 1 0 0 0 ∧ s.m 1 = some (.box 0 [I n, LE es]) ∧ s.ρ 2 = .ptr 2 0 0 0 ∧ s.m 2 = some (.box 0 [.i .emp, .i .emp, .i .emp]) ∧ (k : Int) ≤ n) (fun k => n.toNat - k) 0 ?_ ?_
  · refine ⟨?_, ?_, ?_, ?_, ?_, ?_, ?_, ?_, ?_, ?_, ?_, ?_, ?_⟩
    all_goals first | rfl | omega | (simp [upd, seekS, zI]; done) | (simp only; omega) | trace_state
  rintro k ⟨ρ, m⟩ ⟨m3, h3, m8, m11, m14, h4, h17, h18, h1, m1, h2, m2, g0⟩
  simp only at m3 h3 m8 m11 m14 h4 h17 h18 h1 m1 h2 m2 g0
  obtain ⟨hs, -, -⟩ := seek_inv ho hnd k g0
  have hln := hs.ln
  have hlp := hs.lp
  have hll := hs.ll
  have hcn := seek_cnt ho hnd (by omega) k g0
  by_cases hk : (k : Int) < n
  rotate_left
  · have hkn : k = n.toNat := by omega
    have hse : seek n es = (seekS n es k).1 := by rw [seek, hkn]
    rw [hse, hln, hlp, hll]
    repeat'(first|(refine na ?_;constructor)|(refine ite_two ?_ ?_<;>intro _<;>first|(exfalso;omega)|skip)|refine ord_split (by kernel_rfl) ?_|((first|(refine nb ?_;constructor)|refine pn rfl ?_|refine pe rfl ?_|((first|refine at2 ?_|refine at_cond ?_);split<;>first|(exfalso;omega;done)|skip))<;>try simp(config:={maxSteps:=3000000})(disch:=first|assumption|omega|exact VG.okg (by assumption)|(simp only[List.length_set,List.length_append,List.length_cons,List.length_nil,List.length_replicate];omega))only[go_sem,simprocAttr,Tryz.results14, m3, h3, m8, m11, m14, h4, h17, h18, h1, m1, h2, m2]))
  have hnext : seekS n es (k + 1) = if gI (seekS n es k).1.num (k : Int) = 0 then visit es n.toNat (k : Int) (-1) (seekS n es k) else seekS n es k := rfl
  have e0 : ((k : Int)).toNat = k := by omega
  by_cases h0 : gI (seekS n es k).1.num (k : Int) = 0
  · rw [if_pos h0] at hnext
    have hz : zeros (seekS n es k).1.num ≤ n.toNat := by have := zeros_le (seekS n es k).1.num; omega
    have hf := c_find n es hV n.toNat (k : Int) (-1) (seekS n es k) hs ⟨by omega, hk⟩ h0 (.inl rfl) hz hcn
    rw [← hnext] at hf
    unfold gI at h0
    rw [e0] at h0
    repeat'(first|(refine na ?_;constructor)|(refine ite_two ?_ ?_<;>intro _<;>first|(exfalso;omega)|skip)|refine ord_split (by kernel_rfl) ?_|((first|(refine nb ?_;constructor)|refine pn rfl ?_|refine pe rfl ?_|((first|refine at2 ?_|refine at_cond ?_);split<;>first|(exfalso;omega;done)|skip))<;>try simp(config:={maxSteps:=3000000})(disch:=first|assumption|omega|exact VG.okg (by assumption)|(simp only[List.length_set,List.length_append,List.length_cons,List.length_nil,List.length_replicate];omega))only[go_sem,simprocAttr,Tryz.results14, m3, h3, m8, m11, m14, h4, h17, h18, h1, m1, h2, m2, h0, hf]))
    exact ⟨k + 1, rfl, rfl, rfl, rfl, by omega, by omega, by omega⟩
  · rw [if_neg h0] at hnext
    unfold gI at h0
    rw [e0] at h0
    repeat'(first|(refine na ?_;constructor)|(refine ite_two ?_ ?_<;>intro _<;>first|(exfalso;omega)|skip)|refine ord_split (by kernel_rfl) ?_|((first|(refine nb ?_;constructor)|refine pn rfl ?_|refine pe rfl ?_|((first|refine at2 ?_|refine at_cond ?_);split<;>first|(exfalso;omega;done)|skip))<;>try simp(config:={maxSteps:=3000000})(disch:=first|assumption|omega|exact VG.okg (by assumption)|(simp only[List.length_set,List.length_append,List.length_cons,List.length_nil,List.length_replicate];omega))only[go_sem,simprocAttr,Tryz.results14, m3, h3, m8, m11, m14, h4, h17, h18, h1, m1, h2, m2, h0]))
    exact ⟨k + 1, by rw [hnext], by rw [hnext], by rw [hnext], by rw [hnext], by omega, by omega, by omega⟩
end Go.Proofs.YtmocnnknnbalkaaGreatDoor.X

/- What functions compute: searches in depth, as the reference has them: the loop's step. -/
set_option linter.unusedSimpArgs false
set_option linter.unusedVariables false
set_option maxHeartbeats 8000000
namespace Go.Proofs.YtmocnnknnbalkaaGreatDoor.X
open Go Go.Proofs
/-- The first loop's body. -/
def loopOf : Code → Option Code
  | .seq a b => match loopOf a with
    | some x => some x
    | none => loopOf b
  | .block _ b => loopOf b
  | .loop b => some b
  | .cond _ a b => match loopOf a with
    | some x => some x
    | none => loopOf b
  | _ => none
/-- What stands at the loop. -/
def L4F (n : Int) (es : List (Int × Int)) (v p j : Int) (u : Sr × Int) (s : St) : Prop :=
  s.m 1000 = some (arrS u.1.num) ∧ s.m 1001 = some (arrS u.1.par) ∧ s.m 1002 = some (arrS u.1.low) ∧ s.ρ 8 = .ptr 8 0 0 0 ∧ s.m 8 = some (.box 0 [.ref 1000 0 0 n.toNat, .ref 1001 0 0 n.toNat, .ref 1002 0 0 n.toNat]) ∧ s.ρ 5 = .ptr 5 0 0 0 ∧ s.m 5 = some (.box 0 [I n, LE es]) ∧ s.ρ 10 = .ptr 10 0 0 0 ∧ s.m 10 = some (.box 0 [.i .emp, .i .emp, .i .emp]) ∧ s.ρ 1 = I v ∧ s.ρ 2 = I p ∧ s.ρ 4 = I u.2 ∧ s.ρ 12 = LI (nbS v es) ∧ s.ρ 13 = I j
theorem set_min {l : List Int} {v x : Int} (hv : v.toNat < l.length) (hx : ¬ x < l.getD v.toNat 0) : l.set v.toNat (min (l.getD v.toNat 0) x) = l := by
  rw [Int.min_eq_left (by omega)]
  refine List.ext_getElem (by simp) fun i h1 h2 => ?_
  rw [List.getElem_set]
  split
  · rename_i e; subst e; simp [h2]
  · rfl
theorem l4_skip (n : Int) (es : List (Int × Int)) (v p j u : Int) (s : Sr × Int) (hn : 0 ≤ n ∧ n ≤ 17) (hj : 0 ≤ j ∧ j < (nbS v es).length) (hjl : (nbS v es).length ≤ 40) (sln : s.1.num.length = n.toNat) (slp : s.1.par.length = n.toNat) (sll : s.1.low.length = n.toNat) (hvr : 0 ≤ v ∧ v < n) (hur : 0 ≤ u ∧ u < n) (hue : (nbS v es).getD j.toNat 0 = u) (hup : u = p) (h1 : s.1.num.getD u.toNat 0 ≠ 0) (st : St) (hst : L4F n es v p j s st) (b : Code) (hb : (Tryz.f54.body).bind loopOf = some b) :
    XW Tryz.prog cfg 54 b st (LQ (fun (_ : Unit) t => L4F n es v p (j + 1) s t) (fun _ => 0) 1 (fun _ _ => False)) := by
  obtain ⟨ρ, m⟩ := st
  obtain ⟨m1, m2, m3, h8, m8, h5, m5, h10, m10, h1', h2, h4, h12, h13⟩ := hst
  simp only at m1 m2 m3 h8 m8 h5 m5 h10 m10 h1' h2 h4 h12 h13
  simp only [Tryz.f54, Option.bind_some, loopOf, Option.some.injEq] at hb
  subst hb
  repeat'(first|(refine na ?_;constructor)|(refine ite_two ?_ ?_<;>intro _<;>first|(exfalso;omega)|skip)|refine ord_split (by kernel_rfl) ?_|((first|(refine nb ?_;constructor)|refine pn rfl ?_|refine pe rfl ?_|((first|refine at2 ?_|refine at_cond ?_);split<;>first|(exfalso;omega;done)|skip))<;>try simp(config:={maxSteps:=3000000})(disch:=first|assumption|omega|exact VG.okg (by assumption)|(simp only[List.length_set,List.length_append,List.length_cons,List.length_nil,List.length_replicate];omega))only[go_sem,simprocAttr,Tryz.results54, m1, m2, m3, h8, m8, h5, m5, h10, m10, h1', h2, h4, h12, h13, hue, L4F]))
  exact ⟨(), trivial⟩
theorem l4_low1 (n : Int) (es : List (Int × Int)) (v p j u : Int) (s : Sr × Int) (hn : 0 ≤ n ∧ n ≤ 17) (hj : 0 ≤ j ∧ j < (nbS v es).length) (hjl : (nbS v es).length ≤ 40) (sln : s.1.num.length = n.toNat) (slp : s.1.par.length = n.toNat) (sll : s.1.low.length = n.toNat) (hvr : 0 ≤ v ∧ v < n) (hur : 0 ≤ u ∧ u < n) (hue : (nbS v es).getD j.toNat 0 = u) (hup : u ≠ p) (h1 : s.1.num.getD u.toNat 0 ≠ 0) (hlt : s.1.num.getD u.toNat 0 < s.1.low.getD v.toNat 0) (st : St) (hst : L4F n es v p j s st) (b : Code) (hb : (Tryz.f54.body).bind loopOf = some b) :
    XW Tryz.prog cfg 54 b st (LQ (fun (_ : Unit) t => L4F n es v p (j + 1) (⟨s.1.num, s.1.par, s.1.low.set v.toNat (s.1.num.getD u.toNat 0)⟩, s.2) t) (fun _ => 0) 1 (fun _ _ => False)) := by
  obtain ⟨ρ, m⟩ := st
  obtain ⟨m1, m2, m3, h8, m8, h5, m5, h10, m10, h1', h2, h4, h12, h13⟩ := hst
  simp only at m1 m2 m3 h8 m8 h5 m5 h10 m10 h1' h2 h4 h12 h13
  simp only [Tryz.f54, Option.bind_some, loopOf, Option.some.injEq] at hb
  subst hb
  repeat'(first|(refine na ?_;constructor)|(refine ite_two ?_ ?_<;>intro _<;>first|(exfalso;omega)|skip)|refine ord_split (by kernel_rfl) ?_|((first|(refine nb ?_;constructor)|refine pn rfl ?_|refine pe rfl ?_|((first|refine at2 ?_|refine at_cond ?_);split<;>first|(exfalso;omega;done)|skip))<;>try simp(config:={maxSteps:=3000000})(disch:=first|assumption|omega|exact VG.okg (by assumption)|(simp only[List.length_set,List.length_append,List.length_cons,List.length_nil,List.length_replicate];omega))only[go_sem,simprocAttr,Tryz.results54, m1, m2, m3, h8, m8, h5, m5, h10, m10, h1', h2, h4, h12, h13, hue, L4F, h1]))
  exact ⟨(), trivial⟩
theorem l4_low2 (n : Int) (es : List (Int × Int)) (v p j u : Int) (s : Sr × Int) (hn : 0 ≤ n ∧ n ≤ 17) (hj : 0 ≤ j ∧ j < (nbS v es).length) (hjl : (nbS v es).length ≤ 40) (sln : s.1.num.length = n.toNat) (slp : s.1.par.length = n.toNat) (sll : s.1.low.length = n.toNat) (hvr : 0 ≤ v ∧ v < n) (hur : 0 ≤ u ∧ u < n) (hue : (nbS v es).getD j.toNat 0 = u) (hup : u ≠ p) (h1 : s.1.num.getD u.toNat 0 ≠ 0) (hlt : ¬ s.1.num.getD u.toNat 0 < s.1.low.getD v.toNat 0) (st : St) (hst : L4F n es v p j s st) (b : Code) (hb : (Tryz.f54.body).bind loopOf = some b) :
    XW Tryz.prog cfg 54 b st (LQ (fun (_ : Unit) t => L4F n es v p (j + 1) s t) (fun _ => 0) 1 (fun _ _ => False)) := by
  obtain ⟨ρ, m⟩ := st
  obtain ⟨m1, m2, m3, h8, m8, h5, m5, h10, m10, h1', h2, h4, h12, h13⟩ := hst
  simp only at m1 m2 m3 h8 m8 h5 m5 h10 m10 h1' h2 h4 h12 h13
  simp only [Tryz.f54, Option.bind_some, loopOf, Option.some.injEq] at hb
  subst hb
  repeat'(first|(refine na ?_;constructor)|(refine ite_two ?_ ?_<;>intro _<;>first|(exfalso;omega)|skip)|refine ord_split (by kernel_rfl) ?_|((first|(refine nb ?_;constructor)|refine pn rfl ?_|refine pe rfl ?_|((first|refine at2 ?_|refine at_cond ?_);split<;>first|(exfalso;omega;done)|skip))<;>try simp(config:={maxSteps:=3000000})(disch:=first|assumption|omega|exact VG.okg (by assumption)|(simp only[List.length_set,List.length_append,List.length_cons,List.length_nil,List.length_replicate];omega))only[go_sem,simprocAttr,Tryz.results54, m1, m2, m3, h8, m8, h5, m5, h10, m10, h1', h2, h4, h12, h13, hue, L4F, h1]))
  exact ⟨(), trivial⟩
end Go.Proofs.YtmocnnknnbalkaaGreatDoor.X

/- The step of the search in depth that goes on. -/
set_option linter.unusedSimpArgs false
set_option linter.unusedVariables false
set_option maxHeartbeats 8000000
namespace Go.Proofs.YtmocnnknnbalkaaGreatDoor.X
open Go Go.Proofs
theorem l4_rec1 (n : Int) (es : List (Int × Int)) (v p j u : Int) (s : Sr × Int) (hn : 0 ≤ n ∧ n ≤ 17) (hj : 0 ≤ j ∧ j < (nbS v es).length) (hjl : (nbS v es).length ≤ 40) (sln : s.1.num.length = n.toNat) (slp : s.1.par.length = n.toNat) (sll : s.1.low.length = n.toNat) (hvr : 0 ≤ v ∧ v < n) (hur : 0 ≤ u ∧ u < n) (hue : (nbS v es).getD j.toNat 0 = u) (hup : u ≠ p) (h1 : s.1.num.getD u.toNat 0 = 0) (r : Sr × Int) (rln : r.1.num.length = n.toNat) (rlp : r.1.par.length = n.toNat) (rll : r.1.low.length = n.toNat) (hrec : KP 54 [GL n es, I u, I v, .agg [.ref 1000 0 0 n.toNat, .ref 1001 0 0 n.toNat, .ref 1002 0 0 n.toNat], I s.2] [arrS s.1.num, arrS s.1.par, arrS s.1.low] =
      some (.tup [.agg [.ref 1000 0 0 n.toNat, .ref 1001 0 0 n.toNat, .ref 1002 0 0 n.toNat], I r.2], [arrS r.1.num, arrS r.1.par, arrS r.1.low], [])) (hlt : r.1.low.getD u.toNat 0 < r.1.low.getD v.toNat 0) (st : St) (hst : L4F n es v p j s st) (b : Code) (hb : (Tryz.f54.body).bind loopOf = some b) :
    XW Tryz.prog cfg 54 b st (LQ (fun (_ : Unit) t => L4F n es v p (j + 1) (⟨r.1.num, r.1.par, r.1.low.set v.toNat (r.1.low.getD u.toNat 0)⟩, r.2) t) (fun _ => 0) 1 (fun _ _ => False)) := by
  obtain ⟨ρ, m⟩ := st
  obtain ⟨m1, m2, m3, h8, m8, h5, m5, h10, m10, h1', h2, h4, h12, h13⟩ := hst
  simp only at m1 m2 m3 h8 m8 h5 m5 h10 m10 h1' h2 h4 h12 h13
  simp only [Tryz.f54, Option.bind_some, loopOf, Option.some.injEq] at hb
  subst hb
  repeat'(first|(refine na ?_;constructor)|(refine ite_two ?_ ?_<;>intro _<;>first|(exfalso;omega)|skip)|refine ord_split (by kernel_rfl) ?_|((first|(refine nb ?_;constructor)|refine pn rfl ?_|refine pe rfl ?_|((first|refine at2 ?_|refine at_cond ?_);split<;>first|(exfalso;omega;done)|skip))<;>try simp(config:={maxSteps:=3000000})(disch:=first|assumption|omega|exact VG.okg (by assumption)|(simp only[List.length_set,List.length_append,List.length_cons,List.length_nil,List.length_replicate];omega))only[go_sem,simprocAttr,Tryz.results54, m1, m2, m3, h8, m8, h5, m5, h10, m10, h1', h2, h4, h12, h13, hue, L4F, hrec, h1]))
  exact ⟨(), trivial⟩
theorem l4_rec2 (n : Int) (es : List (Int × Int)) (v p j u : Int) (s : Sr × Int) (hn : 0 ≤ n ∧ n ≤ 17) (hj : 0 ≤ j ∧ j < (nbS v es).length) (hjl : (nbS v es).length ≤ 40) (sln : s.1.num.length = n.toNat) (slp : s.1.par.length = n.toNat) (sll : s.1.low.length = n.toNat) (hvr : 0 ≤ v ∧ v < n) (hur : 0 ≤ u ∧ u < n) (hue : (nbS v es).getD j.toNat 0 = u) (hup : u ≠ p) (h1 : s.1.num.getD u.toNat 0 = 0) (r : Sr × Int) (rln : r.1.num.length = n.toNat) (rlp : r.1.par.length = n.toNat) (rll : r.1.low.length = n.toNat) (hrec : KP 54 [GL n es, I u, I v, .agg [.ref 1000 0 0 n.toNat, .ref 1001 0 0 n.toNat, .ref 1002 0 0 n.toNat], I s.2] [arrS s.1.num, arrS s.1.par, arrS s.1.low] =
      some (.tup [.agg [.ref 1000 0 0 n.toNat, .ref 1001 0 0 n.toNat, .ref 1002 0 0 n.toNat], I r.2], [arrS r.1.num, arrS r.1.par, arrS r.1.low], [])) (hlt : ¬ r.1.low.getD u.toNat 0 < r.1.low.getD v.toNat 0) (st : St) (hst : L4F n es v p j s st) (b : Code) (hb : (Tryz.f54.body).bind loopOf = some b) :
    XW Tryz.prog cfg 54 b st (LQ (fun (_ : Unit) t => L4F n es v p (j + 1) r t) (fun _ => 0) 1 (fun _ _ => False)) := by
  obtain ⟨ρ, m⟩ := st
  obtain ⟨m1, m2, m3, h8, m8, h5, m5, h10, m10, h1', h2, h4, h12, h13⟩ := hst
  simp only at m1 m2 m3 h8 m8 h5 m5 h10 m10 h1' h2 h4 h12 h13
  simp only [Tryz.f54, Option.bind_some, loopOf, Option.some.injEq] at hb
  subst hb
  repeat'(first|(refine na ?_;constructor)|(refine ite_two ?_ ?_<;>intro _<;>first|(exfalso;omega)|skip)|refine ord_split (by kernel_rfl) ?_|((first|(refine nb ?_;constructor)|refine pn rfl ?_|refine pe rfl ?_|((first|refine at2 ?_|refine at_cond ?_);split<;>first|(exfalso;omega;done)|skip))<;>try simp(config:={maxSteps:=3000000})(disch:=first|assumption|omega|exact VG.okg (by assumption)|(simp only[List.length_set,List.length_append,List.length_cons,List.length_nil,List.length_replicate];omega))only[go_sem,simprocAttr,Tryz.results54, m1, m2, m3, h8, m8, h5, m5, h10, m10, h1', h2, h4, h12, h13, hue, L4F, hrec, h1]))
  exact ⟨(), trivial⟩
end Go.Proofs.YtmocnnknnbalkaaGreatDoor.X
