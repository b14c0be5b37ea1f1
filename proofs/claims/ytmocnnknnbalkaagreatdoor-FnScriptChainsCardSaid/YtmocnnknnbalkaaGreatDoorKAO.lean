/- What functions answer, and the plain laws behind it. -/
import Derived.Test.YtmocnnknnbalkaaGreatDoorKAN
import Derived.Test.YtmocnnknnbalkaaGreatDoorKAG
import Derived.Test.YtmocnnknnbalkaaGreatDoorKAF
/- What functions compute: searches in depth, as the reference has them. -/
set_option linter.unusedSimpArgs false
set_option linter.unusedVariables false
set_option maxHeartbeats 8000000
namespace Go.Proofs.YtmocnnknnbalkaaGreatDoor.X
open Go Go.Proofs
theorem c_l4Search (n : Int) (es : List (Int × Int)) (hV : VG n es) : ∀ (f : Nat) (v p : Int) (st : Sr × Int), OkS n es st → inR n v → gI st.1.num v = 0 → (p = -1 ∨ (inR n p ∧ gI st.1.num p ≠ 0)) → zeros st.1.num ≤ f → st.2 + zeros st.1.num = n →
    KP 54 [GL n es, I v, I p, .agg [.ref 1000 0 0 n.toNat, .ref 1001 0 0 n.toNat, .ref 1002 0 0 n.toNat], I st.2] [arrS st.1.num, arrS st.1.par, arrS st.1.low] =
      some (.tup [.agg [.ref 1000 0 0 n.toNat, .ref 1001 0 0 n.toNat, .ref 1002 0 0 n.toNat], I (visit es f v p st).2], [arrS (visit es f v p st).1.num, arrS (visit es f v p st).1.par, arrS (visit es f v p st).1.low], []) := by
  have ho := hV.okg.ok
  have hn16 := hV.2.1
  have hnd := hV.nodup
  have hle := hV.okg.len
  intro f
  induction f with
  | zero =>
    intro v p st hs hv hv0 hp hz hc
    have := zeros_set (l := st.1.num) (i := v.toNat) (v := 1) (by rw [hs.ln]; obtain ⟨h0, h1⟩ := hv; omega) hv0 (by omega)
    omega
  | succ f ih =>
    intro v p st hs hv hv0 hp hz hc
    have hzs := zeros_set (l := st.1.num) (i := v.toNat) (v := st.2 + 1) (by rw [hs.ln]; obtain ⟨h0, h1⟩ := hv; omega) hv0 (by have := hs.c0; omega)
    have hln := hs.ln
    have hlp := hs.lp
    have hll := hs.ll
    have hc0 := hs.c0
    have hE := enter_loop ho hs hv hv0 hp
    have hpost := visit_post ho hnd f
    have hnbn : (nbS v es).Nodup := (List.mergeSort_perm _ _).nodup_iff.2 (nodup_nbL ho hnd v)
    have hnb := c_l1Next n v es hV.okg hnd
    have hnbl : (nbS v es).length ≤ 40 := by have := alone_length v es; omega
    have hvr : 0 ≤ v ∧ v < n := hv
    have hfin : visit es (f + 1) v p st = (nbS v es).foldl (vstep (visit es f) v p) (enterS st v p) := rfl
    refine xw_call (fn := Tryz.f54) rfl Tryz.func54 rfl ⟨Nat.le_of_ble_eq_true rfl, rfl, rfl⟩ ?_
    repeat'(first|(refine na ?_;constructor)|(refine ite_two ?_ ?_<;>intro _<;>first|(exfalso;omega)|skip)|refine ord_split (by kernel_rfl) ?_|((first|(refine nb ?_;constructor)|refine pn rfl ?_|refine pe rfl ?_|((first|refine at2 ?_|refine at_cond ?_);split<;>first|(exfalso;omega;done)|skip))<;>try simp(config:={maxSteps:=3000000})(disch:=first|assumption|omega|exact VG.okg (by assumption)|(simp only[List.length_set,List.length_append,List.length_cons,List.length_nil,List.length_replicate];omega))only[go_sem,simprocAttr,Tryz.results54, hnb]))
    refine xw_loopR (fun (u : Int × (Sr × Int)) s => L4F n es v p u.1 u.2 s ∧ 0 ≤ u.1 ∧ u.1 ≤ (nbS v es).length ∧ u.2 = ((nbS v es).take u.1.toNat).foldl (vstep (visit es f) v p) (enterS st v p) ∧ LoopS n es v p st u.2 ((nbS v es).take u.1.toNat) ∧ u.2.2 + zeros u.2.1.num = n) (fun u => ((nbS v es).length - u.1).toNat) (0, enterS st v p) ?_ ?_
    · refine ⟨⟨by simp [upd, initP, enterS], by simp [upd, initP, enterS], by simp [upd, initP, enterS], by simp [upd], by simp [upd], by simp [upd], by simp [upd], by simp [upd], by simp [upd], by simp [upd, initP], by simp [upd, initP], by simp [upd, enterS], by simp [upd], by simp [upd]⟩, by simp, by simp, by simp, hE, ?_⟩
      simp only [enterS]
      omega
    rintro ⟨j, s⟩ st0 ⟨hst, g0, g1, g2, gL, gc⟩
    simp only at hst g0 g1 g2 gL gc
    have sln := gL.ok.ln
    have slp := gL.ok.lp
    have sll := gL.ok.ll
    have sc0 := gL.ok.c0
    by_cases hj : j < (nbS v es).length
    rotate_left
    · rw [take_all (by omega), ← hfin] at g2
      rw [← g2]
      obtain ⟨ρ, m⟩ := st0
      obtain ⟨m1, m2, m3, h8, m8, h5, m5, h10, m10, h1', h2, h4, h12, h13⟩ := hst
      simp only at m1 m2 m3 h8 m8 h5 m5 h10 m10 h1' h2 h4 h12 h13
      repeat'(first|(refine na ?_;constructor)|(refine ite_two ?_ ?_<;>intro _<;>first|(exfalso;omega)|skip)|refine ord_split (by kernel_rfl) ?_|((first|(refine nb ?_;constructor)|refine pn rfl ?_|refine pe rfl ?_|((first|refine at2 ?_|refine at_cond ?_);split<;>first|(exfalso;omega;done)|skip))<;>try simp(config:={maxSteps:=3000000})(disch:=first|assumption|omega|exact VG.okg (by assumption)|(simp only[List.length_set,List.length_append,List.length_cons,List.length_nil,List.length_replicate];omega))only[go_sem,simprocAttr,Tryz.results54, m1, m2, m3, h8, m8, h5, m5, h10, m10, h1', h2, h4, h12, h13]))
    have hum := getD_mem (d := 0) (show j.toNat < (nbS v es).length by omega)
    have hfs := fold_vstep (rec := visit es f) (v := v) (p := p) (st := enterS st v p) g0 hj
    rw [← g2] at hfs
    have hsp : nbS v es = (nbS v es).take j.toNat ++ (nbS v es).getD j.toNat 0 :: (nbS v es).drop (j.toNat + 1) := by
      have hjl : j.toNat < (nbS v es).length := by omega
      have : (nbS v es).getD j.toNat 0 = (nbS v es)[j.toNat] := by simp [hjl]
      rw [this, ← List.drop_eq_getElem_cons hjl, List.take_append_drop]
    have hstep := step_loop ho hpost hnbn hsp hs.c0 hv hv0 hp hz gL
    have htk := take_int 0 g0 hj
    have hur := nb_in ho hum
    generalize hue : (nbS v es).getD j.toNat 0 = u at hum hfs hsp hstep htk hur
    rw [← htk] at hstep
    have hu := hur.1
    have hur' : 0 ≤ u ∧ u < n := hur.1
    have hpn : u = p → gI s.1.num u ≠ 0 := fun e => by
      rcases hp with hp | ⟨hp1, hp2⟩
      · omega
      · have := (gL.old p hp1 hp2).1
        rw [e, this]; exact hp2
    have hvl : v.toNat < s.1.low.length := by omega
    have fin : ∀ s' : Sr × Int, vstep (visit es f) v p s u = s' → s'.2 + (zeros s'.1.num : Int) = n → ∀ b, XW Tryz.prog cfg 54 b st0 (LQ (fun (_ : Unit) t => L4F n es v p (j + 1) s' t) (fun _ => 0) 1 (fun _ _ => False)) → ∀ Q, XW Tryz.prog cfg 54 b st0 (LQ (fun (u : Int × (Sr × Int)) s => L4F n es v p u.1 u.2 s ∧ 0 ≤ u.1 ∧ u.1 ≤ (nbS v es).length ∧ u.2 = ((nbS v es).take u.1.toNat).foldl (vstep (visit es f) v p) (enterS st v p) ∧ LoopS n es v p st u.2 ((nbS v es).take u.1.toNat) ∧ u.2.2 + zeros u.2.1.num = n) (fun u => ((nbS v es).length - u.1).toNat) ((nbS v es).length - j).toNat Q) := by
      intro s' e hz b hx Q
      refine hx.mono fun e' t ht => ?_
      cases e' with
      | normal =>
        obtain ⟨_, hF, _⟩ := ht
        exact ⟨(j + 1, s'), ⟨hF, by omega, by omega, by rw [← e]; exact hfs.symm, by rw [← e]; exact hstep, hz⟩, by show ((nbS v es).length - (j + 1)).toNat < _; omega⟩
      | exit i => exact ht.elim
      | ret => exact ht.elim
    by_cases hup : u = p
    · have h1 := hpn hup
      have hvs : vstep (visit es f) v p s u = s := by unfold vstep; rw [if_neg h1, if_pos hup]
      exact fin s hvs gc _ (l4_skip n es v p j u s ⟨by omega, by omega⟩ ⟨g0, hj⟩ hnbl sln slp sll hvr hur' hue hup h1 st0 hst _ rfl) _
    by_cases h1 : gI s.1.num u = 0
    · have hvn : gI s.1.num v ≠ 0 := by rw [gL.vn]; omega
      have hzf : zeros s.1.num ≤ f := by have := gL.zz; omega
      have hrec := ih u v s gL.ok hu h1 (.inr ⟨hv, hvn⟩) hzf gc
      have hP := hpost u v s gL.ok hu h1 (.inr ⟨hv, hvn⟩) hzf
      have hC := (visit_cnt ho f u v s sln sc0 hu h1 hzf).2.2
      have hvs : vstep (visit es f) v p s u = lowerS (visit es f u v s) v (gI (visit es f u v s).1.low u) := by unfold vstep; rw [if_pos h1]
      have rln := hP.ok.ln
      have rlp := hP.ok.lp
      have rll := hP.ok.ll
      generalize visit es f u v s = r at hrec hC hvs rln rlp rll
      unfold gI at h1
      by_cases hlt : r.1.low.getD u.toNat 0 < r.1.low.getD v.toNat 0
      · have hmin : min (r.1.low.getD v.toNat 0) (r.1.low.getD u.toNat 0) = r.1.low.getD u.toNat 0 := by omega
        unfold lowerS gI at hvs
        rw [hmin] at hvs
        exact fin _ hvs (by show r.2 + (zeros r.1.num : Int) = n; omega) _ (l4_rec1 n es v p j u s ⟨by omega, by omega⟩ ⟨g0, hj⟩ hnbl sln slp sll hvr hur' hue hup h1 r rln rlp rll hrec hlt st0 hst _ rfl) _
      · unfold lowerS gI at hvs
        rw [set_min (by omega) hlt] at hvs
        exact fin _ hvs (by show r.2 + (zeros r.1.num : Int) = n; omega) _ (l4_rec2 n es v p j u s ⟨by omega, by omega⟩ ⟨g0, hj⟩ hnbl sln slp sll hvr hur' hue hup h1 r rln rlp rll hrec hlt st0 hst _ rfl) _
    · have hvs : vstep (visit es f) v p s u = lowerS s v (gI s.1.num u) := by unfold vstep; rw [if_neg h1, if_neg hup]
      unfold gI at h1
      by_cases hlt : s.1.num.getD u.toNat 0 < s.1.low.getD v.toNat 0
      · have hmin : min (s.1.low.getD v.toNat 0) (s.1.num.getD u.toNat 0) = s.1.num.getD u.toNat 0 := by omega
        unfold lowerS gI at hvs
        rw [hmin] at hvs
        exact fin _ hvs gc _ (l4_low1 n es v p j u s ⟨by omega, by omega⟩ ⟨g0, hj⟩ hnbl sln slp sll hvr hur' hue hup h1 hlt st0 hst _ rfl) _
      · unfold lowerS gI at hvs
        rw [set_min (by omega) hlt] at hvs
        exact fin _ hvs gc _ (l4_low2 n es v p j u s ⟨by omega, by omega⟩ ⟨g0, hj⟩ hnbl sln slp sll hvr hur' hue hup h1 hlt st0 hst _ rfl) _
end Go.Proofs.YtmocnnknnbalkaaGreatDoor.X

/- What functions compute: the search in depth over the whole graph, as the reference has it. -/
set_option linter.unusedSimpArgs false
set_option linter.unusedVariables false
set_option maxHeartbeats 8000000
namespace Go.Proofs.YtmocnnknnbalkaaGreatDoor.X
open Go Go.Proofs
theorem c_l4Run (n : Int) (es : List (Int × Int)) (hV : VG n es) : KP 32 [GL n es] [] = some (.agg [.ref 2000 0 0 (seek n es).num.length, .ref 2001 0 0 (seek n es).par.length, .ref 2002 0 0 (seek n es).low.length], [], [arrS (seek n es).num, arrS (seek n es).par, arrS (seek n es).low]) := by
  have ho := hV.okg.ok
  have hn16 := hV.2.1
  have hn1 := hV.1
  have hnd := hV.nodup
  refine xw_call (fn := Tryz.f32) rfl Tryz.func32 rfl ⟨Nat.le_of_ble_eq_true rfl, rfl, rfl⟩ ?_
  repeat'(first|(refine na ?_;constructor)|(refine ite_two ?_ ?_<;>intro _<;>first|(exfalso;omega)|skip)|refine ord_split (by kernel_rfl) ?_|((first|(refine nb ?_;constructor)|refine pn rfl ?_|refine pe rfl ?_|((first|refine at2 ?_|refine at_cond ?_);split<;>first|(exfalso;omega;done)|skip))<;>try simp(config:={maxSteps:=3000000})(disch:=first|assumption|omega|exact VG.okg (by assumption)|(simp only[List.length_set,List.length_append,List.length_cons,List.length_nil,List.length_replicate];omega))only[go_sem,simprocAttr,Tryz.results32]))
  refine xw_loopR (fun (k : Nat) s => s.m 3 = some (.box 0 [.ref 8 0 0 n.toNat, .ref 11 0 0 n.toNat, .ref 14 0 0 n.toNat]) ∧ s.ρ 3 = .ptr 3 0 0 0 ∧ s.m 8 = some (arrS (seekS n es k).1.num) ∧ s.m 11 = some (arrS (seekS n es k).1.par) ∧ s.m 14 = some (arrS (seekS n es k).1.low) ∧ s.ρ 4 = I (seekS n es k).2 ∧ s.ρ 5 = I (k : Int) ∧ s.ρ 1 = .ptr 1 0 0 0 ∧ s.m 1 = some (.box 0 [I n, LE es]) ∧ s.ρ 2 = .ptr 2 0 0 0 ∧ s.m 2 = some (.box 0 [.i .emp, .i .emp, .i .emp]) ∧ (k : Int) ≤ n) (fun k => n.toNat - k) 0 ?_ ?_
  · refine ⟨?_, ?_, ?_, ?_, ?_, ?_, ?_, ?_, ?_, ?_, ?_, ?_⟩
    all_goals first | rfl | omega | (simp [upd, seekS, zI]; done) | (simp only; omega) | trace_state
  rintro k ⟨ρ, m⟩ ⟨m3, h3, m8, m11, m14, h4, h18, h1, m1, h2, m2, g0⟩
  simp only at m3 h3 m8 m11 m14 h4 h18 h1 m1 h2 m2 g0
  obtain ⟨hs, -, -⟩ := seek_inv ho hnd k g0
  have hln := hs.ln
  have hlp := hs.lp
  have hll := hs.ll
  have hcn := seek_cnt ho hnd (by omega) k g0
  by_cases hk : (k : Int) < n
  rotate_left
  · have hkn : k = n.toNat := by omega
    have hse : seek n es = (seekS n es k).1 := by rw [seek, hkn]
    rw [hse, hln, hlp, hll]
    repeat'(first|(refine na ?_;constructor)|(refine ite_two ?_ ?_<;>intro _<;>first|(exfalso;omega)|skip)|refine ord_split (by kernel_rfl) ?_|((first|(refine nb ?_;constructor)|refine pn rfl ?_|refine pe rfl ?_|((first|refine at2 ?_|refine at_cond ?_);split<;>first|(exfalso;omega;done)|skip))<;>try simp(config:={maxSteps:=3000000})(disch:=first|assumption|omega|exact VG.okg (by assumption)|(simp only[List.length_set,List.length_append,List.length_cons,List.length_nil,List.length_replicate];omega))only[go_sem,simprocAttr,Tryz.results32, m3, h3, m8, m11, m14, h4, h18, h1, m1, h2, m2]))
  have hnext : seekS n es (k + 1) = if gI (seekS n es k).1.num (k : Int) = 0 then visit es n.toNat (k : Int) (-1) (seekS n es k) else seekS n es k := rfl
  have e0 : ((k : Int)).toNat = k := by omega
  by_cases h0 : gI (seekS n es k).1.num (k : Int) = 0
  · rw [if_pos h0] at hnext
    have hz : zeros (seekS n es k).1.num ≤ n.toNat := by have := zeros_le (seekS n es k).1.num; omega
    have hf := c_l4Search n es hV n.toNat (k : Int) (-1) (seekS n es k) hs ⟨by omega, hk⟩ h0 (.inl rfl) hz hcn
    rw [← hnext] at hf
    unfold gI at h0
    rw [e0] at h0
    repeat'(first|(refine na ?_;constructor)|(refine ite_two ?_ ?_<;>intro _<;>first|(exfalso;omega)|skip)|refine ord_split (by kernel_rfl) ?_|((first|(refine nb ?_;constructor)|refine pn rfl ?_|refine pe rfl ?_|((first|refine at2 ?_|refine at_cond ?_);split<;>first|(exfalso;omega;done)|skip))<;>try simp(config:={maxSteps:=3000000})(disch:=first|assumption|omega|exact VG.okg (by assumption)|(simp only[List.length_set,List.length_append,List.length_cons,List.length_nil,List.length_replicate];omega))only[go_sem,simprocAttr,Tryz.results32, m3, h3, m8, m11, m14, h4, h18, h1, m1, h2, m2, h0, hf]))
    exact ⟨k + 1, rfl, rfl, rfl, rfl, by omega, by omega, by omega⟩
  · rw [if_neg h0] at hnext
    unfold gI at h0
    rw [e0] at h0
    repeat'(first|(refine na ?_;constructor)|(refine ite_two ?_ ?_<;>intro _<;>first|(exfalso;omega)|skip)|refine ord_split (by kernel_rfl) ?_|((first|(refine nb ?_;constructor)|refine pn rfl ?_|refine pe rfl ?_|((first|refine at2 ?_|refine at_cond ?_);split<;>first|(exfalso;omega;done)|skip))<;>try simp(config:={maxSteps:=3000000})(disch:=first|assumption|omega|exact VG.okg (by assumption)|(simp only[List.length_set,List.length_append,List.length_cons,List.length_nil,List.length_replicate];omega))only[go_sem,simprocAttr,Tryz.results32, m3, h3, m8, m11, m14, h4, h18, h1, m1, h2, m2, h0]))
    exact ⟨k + 1, by rw [hnext], by rw [hnext], by rw [hnext], by rw [hnext], by omega, by omega, by omega⟩
end Go.Proofs.YtmocnnknnbalkaaGreatDoor.X

/- What functions compute: draws of graphs, and of a graph and an edge. -/
set_option linter.unusedSimpArgs false
set_option linter.unusedVariables false
set_option maxHeartbeats 8000000
namespace Go.Proofs.YtmocnnknnbalkaaGreatDoor.X
open Go Go.Proofs
theorem c_DrawGraphValid (bs : List Int) (hb : ∀ b ∈ bs, 0 ≤ b ∧ b < 256) (hl : bs.length ≤ 1000000000) :
    ∃ (n : Int) (es : List (Int × Int)), 0 ≤ n ∧ n ≤ 17 ∧ es.length ≤ 40 ∧ KP 13 [LB bs] [] = some (GL n es, [], []) := by
  obtain ⟨cs, hcs, hopen⟩ := c_l14Open bs hb hl
  obtain ⟨n, es, p, hn1, hn2, ho, hes, hel, hp1, hp2, hdraw⟩ := c_l1Draw cs 0 hcs (by omega)
  obtain ⟨n1, es1, p1, a1, a2, a3, a4, a5, hw1⟩ := c_l1Wrong cs p n (qe es) es hcs (by omega) (EL.qe es) (by omega) (by omega)
  obtain ⟨n2, es2, p2, b1, b2, b3, b4, b5, hw2⟩ := c_l1Wrong cs p1 n1 (.lst (es1.map encE)) es1 hcs (by omega) (EL.lst es1) (by omega) (by omega)
  obtain ⟨n3, es3, p3, d1, d2, d3, d4, d5, hw3⟩ := c_l1Wrong cs p2 n2 (.lst (es2.map encE)) es2 hcs (by omega) (EL.lst es2) (by omega) (by omega)
  refine ⟨n3, es3, d1, d2, by omega, xw_call (fn := Tryz.f13) rfl Tryz.func13 rfl ⟨Nat.le_of_ble_eq_true rfl, rfl, rfl⟩ ?_⟩
  repeat'(first|(refine na ?_;constructor)|(refine ite_two ?_ ?_<;>intro _<;>first|(exfalso;omega)|skip)|refine ord_split (by kernel_rfl) ?_|((first|(refine nb ?_;constructor)|refine pn rfl ?_|refine pe rfl ?_|((first|refine at2 ?_|refine at_cond ?_);split<;>first|(exfalso;omega;done)|skip))<;>try simp(config:={maxSteps:=3000000})(disch:=first|assumption|omega|exact VG.okg (by assumption)|(simp only[List.length_set,List.length_append,List.length_cons,List.length_nil,List.length_replicate];omega))only[go_sem,simprocAttr,Tryz.results13, hopen, hdraw, hw1, hw2, hw3]))
end Go.Proofs.YtmocnnknnbalkaaGreatDoor.X

/- What functions compute: searches in depth, handed out. -/
set_option linter.unusedSimpArgs false
set_option linter.unusedVariables false
set_option maxHeartbeats 8000000
namespace Go.Proofs.YtmocnnknnbalkaaGreatDoor.X
open Go Go.Proofs
/-- A search as it is handed out. -/
abbrev SR (s : Sr) : PV := .agg [LI s.num, LI s.par, LI s.low]
end Go.Proofs.YtmocnnknnbalkaaGreatDoor.X

/- Blocks: plain law. -/
set_option linter.unusedVariables false
namespace Go.Proofs.YtmocnnknnbalkaaGreatDoor.X
open Go
/-- Two edges with a node in common whose other nodes are connected without it. -/
def Near (es : List (Int × Int)) (e f : Int × Int) : Prop := ∃ v x y, ((e.1 = v ∧ e.2 = x) ∨ (e.2 = v ∧ e.1 = x)) ∧ ((f.1 = v ∧ f.2 = y) ∨ (f.2 = v ∧ f.1 = y)) ∧ x ≠ y ∧ Conn (alone v es) x y
noncomputable instance decNear (es : List (Int × Int)) (e f : Int × Int) : Decidable (Near es e f) := Classical.propDecidable _
theorem Near.symm {es : List (Int × Int)} {e f : Int × Int} : Near es e f → Near es f e := fun ⟨v, x, y, h1, h2, h3, h4⟩ => ⟨v, y, x, h2, h1, fun h => h3 h.symm, h4.symm⟩
abbrev eAt (es : List (Int × Int)) (i : Int) : Int × Int := es.getD i.toNat (0, 0)
/-- Places of edges that are near each other. -/
noncomputable def relL (es : List (Int × Int)) : List (Int × Int) := ((iota es.length).flatMap fun i => (iota i).map fun k => (k, i)).filter fun q => decide (Near es (eAt es q.1) (eAt es q.2))
theorem mem_relL {es : List (Int × Int)} {k i : Int} : (k, i) ∈ relL es ↔ 0 ≤ k ∧ k < i ∧ i < es.length ∧ Near es (eAt es k) (eAt es i) := by
  simp only [relL, List.mem_filter, List.mem_flatMap, List.mem_map, decide_eq_true_eq, Prod.mk.injEq, mem_iota]
  constructor
  · rintro ⟨⟨i', h1, k', h2, rfl, rfl⟩, h3⟩; exact ⟨by omega, by omega, by omega, h3⟩
  · rintro ⟨h1, h2, h3, h4⟩; exact ⟨⟨i, by omega, k, by omega, rfl, rfl⟩, h4⟩
/-- For each edge the place of the first edge of its block. -/
noncomputable def blkL (es : List (Int × Int)) : List Int := lab es.length (relL es)
/-- Edges of one block. -/
def Blk (es : List (Int × Int)) (e f : Int × Int) : Prop := ∃ i k : Int, (0 ≤ i ∧ i < es.length) ∧ (0 ≤ k ∧ k < es.length) ∧ eAt es i = e ∧ eAt es k = f ∧ Conn (relL es) i k
theorem eAt_inj {es : List (Int × Int)} (hn : es.Nodup) {i k : Int} (hi : 0 ≤ i ∧ i < es.length) (hk : 0 ≤ k ∧ k < es.length) (h : eAt es i = eAt es k) : i = k := by
  have h1 : i.toNat < es.length := by omega
  have h2 : k.toNat < es.length := by omega
  simp only [eAt, List.getD, List.getElem?_eq_getElem h1, List.getElem?_eq_getElem h2, Option.getD_some] at h
  have := (List.getElem_inj hn).1 h
  omega
theorem eAt_mem {es : List (Int × Int)} {i : Int} (hi : 0 ≤ i ∧ i < es.length) : eAt es i ∈ es := getD_mem (by omega)
theorem eAt_of {es : List (Int × Int)} {e : Int × Int} (h : e ∈ es) : ∃ i : Int, (0 ≤ i ∧ i < es.length) ∧ eAt es i = e := by
  obtain ⟨i, hi, he⟩ := List.mem_iff_getElem.1 h
  exact ⟨i, by omega, by simp [eAt, hi, he]⟩
section
variable {n : Int} {es : List (Int × Int)}
theorem Blk.refl {e : Int × Int} (h : e ∈ es) : Blk es e e := by
  obtain ⟨i, hi, he⟩ := eAt_of h
  exact ⟨i, i, hi, hi, he, he, .refl i⟩
theorem Blk.symm {e f : Int × Int} : Blk es e f → Blk es f e := fun ⟨i, k, h1, h2, h3, h4, h5⟩ => ⟨k, i, h2, h1, h4, h3, h5.symm⟩
theorem Blk.trans (hn : es.Nodup) {e f g : Int × Int} : Blk es e f → Blk es f g → Blk es e g := fun ⟨i, k, h1, h2, h3, h4, h5⟩ ⟨i', k', g1, g2, g3, g4, g5⟩ => by
  have := eAt_inj hn h2 g1 (h4.trans g3.symm)
  subst this
  exact ⟨i, k', h1, g2, h3, g4, h5.trans g5⟩
theorem Blk.near {e f : Int × Int} (he : e ∈ es) (hf : f ∈ es) (h : Near es e f) : Blk es e f := by
  obtain ⟨i, hi, rfl⟩ := eAt_of he
  obtain ⟨k, hk, rfl⟩ := eAt_of hf
  refine ⟨i, k, hi, hk, rfl, rfl, ?_⟩
  by_cases h1 : i < k
  · exact .of (.inl (mem_relL.2 ⟨hi.1, h1, hk.2, h⟩))
  · by_cases h2 : k < i
    · exact .of (.inr (mem_relL.2 ⟨hk.1, h2, hi.2, h.symm⟩))
    · have : i = k := by omega
      subst this; exact .refl i
theorem Blk.mem {e f : Int × Int} : Blk es e f → e ∈ es ∧ f ∈ es := fun ⟨i, k, h1, h2, h3, h4, _⟩ => ⟨h3 ▸ eAt_mem h1, h4 ▸ eAt_mem h2⟩
/-- A node of an edge. -/
def On (v : Int) (e : Int × Int) : Prop := e.1 = v ∨ e.2 = v
instance (v : Int) (e : Int × Int) : Decidable (On v e) := by unfold On; infer_instance
theorem On.conn {e : Int × Int} (he : e ∈ es) {v a b : Int} (ha : On a e) (hb : On b e) (hav : a ≠ v) (hbv : b ≠ v) : Conn (alone v es) a b := by
  by_cases hab : a = b
  · subst hab; exact .refl a
  · have hm : ∀ x y, e.1 = x → e.2 = y → x ≠ v → y ≠ v → e ∈ alone v es := fun x y h1 h2 h3 h4 => by
      unfold alone
      rw [List.mem_filter]
      refine ⟨he, decide_eq_true ⟨?_, ?_⟩⟩ <;> simp_all
    rcases ha with ha | ha <;> rcases hb with hb | hb
    · exact absurd (ha.symm.trans hb) hab
    · exact .of (.inl (by rw [← ha, ← hb]; exact hm a b ha hb hav hbv))
    · exact .of (.inr (by rw [← ha, ← hb]; exact hm b a hb ha hbv hav))
    · exact absurd (ha.symm.trans hb) hab
theorem On.other (ho : ∀ e ∈ es, okE n e) {e : Int × Int} (he : e ∈ es) (v : Int) : ∃ a, On a e ∧ a ≠ v := by
  have := ho e he
  unfold okE at this
  by_cases h : e.1 = v
  · exact ⟨e.2, .inr rfl, by omega⟩
  · exact ⟨e.1, .inl rfl, h⟩
theorem On.ends {e : Int × Int} {v : Int} (h : On v e) : ∃ x, (e.1 = v ∧ e.2 = x) ∨ (e.2 = v ∧ e.1 = x) := h.elim (fun h => ⟨e.2, .inl ⟨h, rfl⟩⟩) fun h => ⟨e.1, .inr ⟨h, rfl⟩⟩
theorem On.adj {e : Int × Int} (he : e ∈ es) {v x : Int} (h : (e.1 = v ∧ e.2 = x) ∨ (e.2 = v ∧ e.1 = x)) : Adj es v x := by
  rcases h with ⟨rfl, rfl⟩ | ⟨rfl, rfl⟩
  · exact .inl he
  · exact .inr he
end
/-- Two labels made one. -/
def joinL (out : List Int) (a b : Int) : List Int := out.map fun x => if x = max (out.getD a.toNat 0) (out.getD b.toNat 0) then min (out.getD a.toNat 0) (out.getD b.toNat 0) else x
def comV (e f : Int × Int) : Option (Int × Int × Int) :=
  if e.1 = f.1 then some (e.1, e.2, f.2) else if e.1 = f.2 then some (e.1, e.2, f.1) else if e.2 = f.1 then some (e.2, e.1, f.2) else if e.2 = f.2 then some (e.2, e.1, f.1) else none
noncomputable def relK (es : List (Int × Int)) (i k : Int) : List (Int × Int) := (relL es).filter fun q => decide (q.2 < i ∨ (q.2 = i ∧ q.1 < k))
end Go.Proofs.YtmocnnknnbalkaaGreatDoor.X
