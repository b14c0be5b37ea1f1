/- What functions answer, and the plain laws behind it. -/
import Derived.Test.YtdlfdoicheakoaaKAN
import Derived.Test.YtdlfdoicheakoaaKAO
/- What functions compute: graphs with levels are drawn: what stands at the loop. -/
set_option linter.unusedSimpArgs false
set_option linter.unusedVariables false
set_option maxHeartbeats 16000000
set_option maxRecDepth 100000
namespace Go.Proofs.Ytdlfdoicheakoaa.X
open Go Go.Proofs
def DrB (cs : List Int) (p i : Int) (s : St) : Prop := s.ρ 2 = .ptr 2 0 0 0 ∧ s.m 2 = some (.box 0 [I 0, .i .emp, .i .emp, .i .emp]) ∧ s.ρ 3 = .ptr 3120 0 0 0 ∧ s.m 3120 = some (Rd cs p) ∧ s.ρ 4 = .ptr 4 0 0 0 ∧ s.ρ 5 = I i
def DrA (n : Int) (ts : List Tl) (S v0 v1 v2 : Nat) (s : St) : Prop := s.m 4 = some (.box 0 [I n, .ref S v0 0 ts.length, .ref (S + 1) v1 0 ts.length, .ref (S + 2) v2 0 ts.length]) ∧ s.m S = some (.arr v0 2 ((esT ts).map encE)) ∧ s.m (S + 1) = some (.arr v1 1 ((lvT ts).map encI)) ∧ s.m (S + 2) = some (.arr v2 1 ((trT ts).map encT))
def Dr1 (n : Int) (v0 : Nat) (s : St) : Prop := s.m 4 = some (.box 0 [I n, .ref 3360 v0 0 0, .i .emp, .i .emp]) ∧ s.m 3360 = some (.arr v0 2 [])
def Dr0 (n : Int) (s : St) : Prop := s.m 4 = some (.box 0 [I n, .i .emp, .i .emp, .i .emp])
def DrI (n : Int) (cs : List Int) (i : Int) (w : Int × List Tl × Nat × Nat × Nat) (s : St) : Prop :=
  DrB cs w.1 i s ∧ LV n w.2.1 ∧ ((w.2.1 = [] ∧ Dr0 n s) ∨ (w.2.1 = [] ∧ Dr1 n w.2.2.1 s) ∨ DrA n w.2.1 3144 w.2.2.1 w.2.2.2.1 w.2.2.2.2 s ∨ DrA n w.2.1 3360 w.2.2.1 w.2.2.2.1 w.2.2.2.2 s ∨ DrA n w.2.1 3600 w.2.2.1 w.2.2.2.1 w.2.2.2.2 s)
end Go.Proofs.Ytdlfdoicheakoaa.X

/- What functions compute: graphs with levels are drawn: the loop's step. -/
set_option linter.unusedSimpArgs false
set_option linter.unusedVariables false
set_option maxHeartbeats 16000000
set_option maxRecDepth 100000
namespace Go.Proofs.Ytdlfdoicheakoaa.X
open Go Go.Proofs
theorem dr_step3144 {n : Int} {cs : List Int} {p i : Int} {ts : List Tl} {v0 v1 v2 : Nat} (hcs : bytes cs) (hp : 0 ≤ p ∧ p ≤ 100000) (hL : LV n ts) (hne : 0 < ts.length) (hi : 0 < i) (hi4 : i ≤ 4) (st : St) (hB : DrB cs p i st) (hA : DrA n ts 3144 v0 v1 v2 st) (b : Code) (hb : (Try.f22.body).bind loopOf = some b) :
    XW Try.prog cfg 22 b st (LQ (fun (w : Int × List Tl × Nat × Nat × Nat) t => DrI n cs (i - 1) w t ∧ p ≤ w.1 ∧ w.1 ≤ p + 4) (fun _ => 0) 1 (fun _ _ => False)) := by
  obtain ⟨ρ, m⟩ := st
  obtain ⟨e2, m2, e3, mR, e4, e5⟩ := hB
  obtain ⟨m4, q0, q1, q2⟩ := hA
  simp only [Nat.reduceAdd] at e2 m2 e3 mR e4 e5 m4 q0 q1 q2
  simp only [Try.f22, Option.bind_some, loopOf, Option.some.injEq] at hb
  subst hb
  have hV := hL.vg
  have hn1 := hV.1
  have hn2 := hV.2.1
  have hel := hV.2.2.1
  rw [esT_len'] at hel
  have u1 := rkE ts
  have u2 := rkL ts
  have u3 := rkT ts
  have l1 := esT_len' ts
  obtain ⟨k, hk, -, hpk⟩ := c_pick cs p ts.length hcs (by omega) (by omega)
  have hk' := hk (by omega)
  have hge := getTe ts k.toNat (by omega)
  have hm : (ts.getD k.toNat dT).1 ∈ esT ts := List.mem_map.2 ⟨_, getD_mem (by omega), rfl⟩
  generalize ts.getD k.toNat dT = t at *
  obtain ⟨⟨a, b⟩, l, q⟩ := t
  simp only at hge hm
  obtain ⟨c1, c2, c3, c4, c5⟩ := ct_spec hL hm
  obtain ⟨pv, own, hsh, hct⟩ := c_sCutLevel n a b ts hL hm
  generalize ctR n ts (a, b) = R at *
  obtain ⟨us, rs, fd⟩ := R
  simp only at c1 c2 c3 hsh hct
  have w1 := rkE us
  have w2 := rkL us
  have w3 := rkT us
  obtain ⟨x, hx, -, hpx⟩ := c_pick cs (p + 1) n hcs (by omega) (by omega)
  obtain ⟨y, hy, -, hpy⟩ := c_pick cs (p + 1 + 1) n hcs (by omega) (by omega)
  obtain ⟨z, hz, -, hpz⟩ := c_pick cs (p + 1 + 1 + 1) 2 hcs (by omega) (by omega)
  have hx' := hx (by omega)
  have hy' := hy (by omega)
  have hz' := hz (by omega)
  have hpn := c_sPutLevel_no n (edgeOf x y).1 (edgeOf x y).2 us c2.vg
  have hpy' := c_sPutLevel n (edgeOf x y).1 (edgeOf x y).2 us
  have hLV : PlOK n us ((edgeOf x y).1, (edgeOf x y).2) → LV n (plL us ((edgeOf x y).1, (edgeOf x y).2)) := fun h => h.1.putT h.2
  have hce := c_l1Edge x y
  generalize hU : plL us ((edgeOf x y).1, (edgeOf x y).2) = U at *
  have hcase : (us = [] ∧ KP 71 [LvP n ts, PE a b] [] = some (.tup [.agg [I n, .ref 2000 0 0 0, .i .emp, .i .emp], I rs, B fd, B true], [], [.arr 0 2 []])) ∨ KP 71 [LvP n ts, PE a b] [] = some (.tup [refsP n us, I rs, B fd, B true], [], refsA us) := by
    rcases hsh with ⟨rfl, rfl⟩ | ⟨rfl, rfl⟩
    · by_cases h : us = []
      · refine .inl ⟨h, ?_⟩
        unfold cutP cutA at hct
        rw [if_pos h, if_pos h] at hct
        exact hct
      · refine .inr ?_
        unfold cutP cutA at hct
        rw [if_neg h, if_neg h] at hct
        exact hct
    · exact .inr hct
  clear hct hsh hk hx hy hz hL hU hV
  rcases hcase with ⟨hus, hc⟩ | hc
  · subst hus
    by_cases hxy : x = y
    · repeat'(first|(refine na ?_;constructor)|(refine ite_two ?_ ?_<;>intro _<;>first|(exfalso;omega)|skip)|refine ord_split (by kernel_rfl) ?_|((first|(refine nb ?_;constructor)|refine pn rfl ?_|refine pe rfl ?_|((first|refine at2 ?_|refine at_cond ?_);split<;>first|(exfalso;omega;done)|skip))<;>try simp(config:={maxSteps:=3000000})(disch:=first|assumption|omega|exact VG.okg (by assumption)|(simp only[List.length_set,List.length_append,List.length_cons,List.length_nil,List.length_replicate];omega))only[go_sem,simprocAttr,Try.results22, e2, m2, e3, mR, e4, e5, m4, q0, q1, q2, u1, u2, u3, l1, hi, hpk, hge, hc, hpx, hpy, hxy]))
      refine ⟨p + 1 + 1 + 1, [], _, 0, 0, ⟨⟨?_, ?_, ?_, ?_, ?_, ?_⟩, c2, .inr (.inl ⟨rfl, rfl, rfl⟩)⟩, by omega, by omega⟩
      all_goals first | rfl | assumption | trace_state
    by_cases hz0 : z = 0
    · by_cases hP : PlOK n [] ((edgeOf x y).1, (edgeOf x y).2)
      · have hput : KP 7 [.agg [I n, .i (.lst []), .i (.lst []), .i (.lst [])], PE (edgeOf x y).1 (edgeOf x y).2] [] = some (.tup [refsP n U, B true], [], refsA U) := hpy' hP
        have hLu := hLV hP
        repeat'(first|(refine na ?_;constructor)|(refine ite_two ?_ ?_<;>intro _<;>first|(exfalso;omega)|skip)|refine ord_split (by kernel_rfl) ?_|((first|(refine nb ?_;constructor)|refine pn rfl ?_|refine pe rfl ?_|((first|refine at2 ?_|refine at_cond ?_);split<;>first|(exfalso;omega;done)|skip))<;>try simp(config:={maxSteps:=3000000})(disch:=first|assumption|omega|exact VG.okg (by assumption)|(simp only[List.length_set,List.length_append,List.length_cons,List.length_nil,List.length_replicate];omega))only[go_sem,simprocAttr,Try.results22, e2, m2, e3, mR, e4, e5, m4, q0, q1, q2, u1, u2, u3, l1, hi, hpk, hge, hc, hpx, hpy, hxy, hpz, hz0, hput]))
        refine ⟨p + 1 + 1 + 1 + 1, U, _, _, _, ⟨⟨?_, ?_, ?_, ?_, ?_, ?_⟩, hLu, .inr (.inr (.inr (.inr ⟨rfl, rfl, rfl, rfl⟩)))⟩, by omega, by omega⟩
        all_goals first | rfl | assumption | trace_state
      · have hput : KP 7 [.agg [I n, .i (.lst []), .i (.lst []), .i (.lst [])], PE (edgeOf x y).1 (edgeOf x y).2] [] = some (.tup [.agg [I 0, .i .emp, .i .emp, .i .emp], B false], [], []) := hpn hP
        repeat'(first|(refine na ?_;constructor)|(refine ite_two ?_ ?_<;>intro _<;>first|(exfalso;omega)|skip)|refine ord_split (by kernel_rfl) ?_|((first|(refine nb ?_;constructor)|refine pn rfl ?_|refine pe rfl ?_|((first|refine at2 ?_|refine at_cond ?_);split<;>first|(exfalso;omega;done)|skip))<;>try simp(config:={maxSteps:=3000000})(disch:=first|assumption|omega|exact VG.okg (by assumption)|(simp only[List.length_set,List.length_append,List.length_cons,List.length_nil,List.length_replicate];omega))only[go_sem,simprocAttr,Try.results22, e2, m2, e3, mR, e4, e5, m4, q0, q1, q2, u1, u2, u3, l1, hi, hpk, hge, hc, hpx, hpy, hxy, hpz, hz0, hput]))
        refine ⟨p + 1 + 1 + 1 + 1, [], _, 0, 0, ⟨⟨?_, ?_, ?_, ?_, ?_, ?_⟩, c2, .inr (.inl ⟨rfl, rfl, rfl⟩)⟩, by omega, by omega⟩
        all_goals first | rfl | assumption | trace_state
    · repeat'(first|(refine na ?_;constructor)|(refine ite_two ?_ ?_<;>intro _<;>first|(exfalso;omega)|skip)|refine ord_split (by kernel_rfl) ?_|((first|(refine nb ?_;constructor)|refine pn rfl ?_|refine pe rfl ?_|((first|refine at2 ?_|refine at_cond ?_);split<;>first|(exfalso;omega;done)|skip))<;>try simp(config:={maxSteps:=3000000})(disch:=first|assumption|omega|exact VG.okg (by assumption)|(simp only[List.length_set,List.length_append,List.length_cons,List.length_nil,List.length_replicate];omega))only[go_sem,simprocAttr,Try.results22, e2, m2, e3, mR, e4, e5, m4, q0, q1, q2, u1, u2, u3, l1, hi, hpk, hge, hc, hpx, hpy, hxy, hpz, hz0]))
      refine ⟨p + 1 + 1 + 1 + 1, [], _, 0, 0, ⟨⟨?_, ?_, ?_, ?_, ?_, ?_⟩, c2, .inr (.inl ⟨rfl, rfl, rfl⟩)⟩, by omega, by omega⟩
      all_goals first | rfl | assumption | trace_state
  · by_cases hxy : x = y
    · repeat'(first|(refine na ?_;constructor)|(refine ite_two ?_ ?_<;>intro _<;>first|(exfalso;omega)|skip)|refine ord_split (by kernel_rfl) ?_|((first|(refine nb ?_;constructor)|refine pn rfl ?_|refine pe rfl ?_|((first|refine at2 ?_|refine at_cond ?_);split<;>first|(exfalso;omega;done)|skip))<;>try simp(config:={maxSteps:=3000000})(disch:=first|assumption|omega|exact VG.okg (by assumption)|(simp only[List.length_set,List.length_append,List.length_cons,List.length_nil,List.length_replicate];omega))only[go_sem,simprocAttr,Try.results22, e2, m2, e3, mR, e4, e5, m4, q0, q1, q2, u1, u2, u3, l1, hi, hpk, hge, hc, hpx, hpy, hxy]))
      refine ⟨p + 1 + 1 + 1, us, _, _, _, ⟨⟨?_, ?_, ?_, ?_, ?_, ?_⟩, c2, .inr (.inr (.inr (.inl ⟨rfl, rfl, rfl, rfl⟩)))⟩, by omega, by omega⟩
      all_goals first | rfl | assumption | trace_state
    by_cases hz0 : z = 0
    · by_cases hP : PlOK n us ((edgeOf x y).1, (edgeOf x y).2)
      · have hput := hpy' hP
        have hLu := hLV hP
        repeat'(first|(refine na ?_;constructor)|(refine ite_two ?_ ?_<;>intro _<;>first|(exfalso;omega)|skip)|refine ord_split (by kernel_rfl) ?_|((first|(refine nb ?_;constructor)|refine pn rfl ?_|refine pe rfl ?_|((first|refine at2 ?_|refine at_cond ?_);split<;>first|(exfalso;omega;done)|skip))<;>try simp(config:={maxSteps:=3000000})(disch:=first|assumption|omega|exact VG.okg (by assumption)|(simp only[List.length_set,List.length_append,List.length_cons,List.length_nil,List.length_replicate];omega))only[go_sem,simprocAttr,Try.results22, e2, m2, e3, mR, e4, e5, m4, q0, q1, q2, u1, u2, u3, l1, hi, hpk, hge, hc, hpx, hpy, hxy, hpz, hz0, hput, w1, w2, w3]))
        refine ⟨p + 1 + 1 + 1 + 1, U, _, _, _, ⟨⟨?_, ?_, ?_, ?_, ?_, ?_⟩, hLu, .inr (.inr (.inr (.inr ⟨rfl, rfl, rfl, rfl⟩)))⟩, by omega, by omega⟩
        all_goals first | rfl | assumption | trace_state
      · have hput := hpn hP
        repeat'(first|(refine na ?_;constructor)|(refine ite_two ?_ ?_<;>intro _<;>first|(exfalso;omega)|skip)|refine ord_split (by kernel_rfl) ?_|((first|(refine nb ?_;constructor)|refine pn rfl ?_|refine pe rfl ?_|((first|refine at2 ?_|refine at_cond ?_);split<;>first|(exfalso;omega;done)|skip))<;>try simp(config:={maxSteps:=3000000})(disch:=first|assumption|omega|exact VG.okg (by assumption)|(simp only[List.length_set,List.length_append,List.length_cons,List.length_nil,List.length_replicate];omega))only[go_sem,simprocAttr,Try.results22, e2, m2, e3, mR, e4, e5, m4, q0, q1, q2, u1, u2, u3, l1, hi, hpk, hge, hc, hpx, hpy, hxy, hpz, hz0, hput, w1, w2, w3]))
        refine ⟨p + 1 + 1 + 1 + 1, us, _, _, _, ⟨⟨?_, ?_, ?_, ?_, ?_, ?_⟩, c2, .inr (.inr (.inr (.inl ⟨rfl, rfl, rfl, rfl⟩)))⟩, by omega, by omega⟩
        all_goals first | rfl | assumption | trace_state
    · repeat'(first|(refine na ?_;constructor)|(refine ite_two ?_ ?_<;>intro _<;>first|(exfalso;omega)|skip)|refine ord_split (by kernel_rfl) ?_|((first|(refine nb ?_;constructor)|refine pn rfl ?_|refine pe rfl ?_|((first|refine at2 ?_|refine at_cond ?_);split<;>first|(exfalso;omega;done)|skip))<;>try simp(config:={maxSteps:=3000000})(disch:=first|assumption|omega|exact VG.okg (by assumption)|(simp only[List.length_set,List.length_append,List.length_cons,List.length_nil,List.length_replicate];omega))only[go_sem,simprocAttr,Try.results22, e2, m2, e3, mR, e4, e5, m4, q0, q1, q2, u1, u2, u3, l1, hi, hpk, hge, hc, hpx, hpy, hxy, hpz, hz0]))
      refine ⟨p + 1 + 1 + 1 + 1, us, _, _, _, ⟨⟨?_, ?_, ?_, ?_, ?_, ?_⟩, c2, .inr (.inr (.inr (.inl ⟨rfl, rfl, rfl, rfl⟩)))⟩, by omega, by omega⟩
      all_goals first | rfl | assumption | trace_state
end Go.Proofs.Ytdlfdoicheakoaa.X

/- What functions compute: graphs with levels are drawn: the loop's step. -/
set_option linter.unusedSimpArgs false
set_option linter.unusedVariables false
set_option maxHeartbeats 16000000
set_option maxRecDepth 100000
namespace Go.Proofs.Ytdlfdoicheakoaa.X
open Go Go.Proofs
theorem dr_step3360 {n : Int} {cs : List Int} {p i : Int} {ts : List Tl} {v0 v1 v2 : Nat} (hcs : bytes cs) (hp : 0 ≤ p ∧ p ≤ 100000) (hL : LV n ts) (hne : 0 < ts.length) (hi : 0 < i) (hi4 : i ≤ 4) (st : St) (hB : DrB cs p i st) (hA : DrA n ts 3360 v0 v1 v2 st) (b : Code) (hb : (Try.f22.body).bind loopOf = some b) :
    XW Try.prog cfg 22 b st (LQ (fun (w : Int × List Tl × Nat × Nat × Nat) t => DrI n cs (i - 1) w t ∧ p ≤ w.1 ∧ w.1 ≤ p + 4) (fun _ => 0) 1 (fun _ _ => False)) := by
  obtain ⟨ρ, m⟩ := st
  obtain ⟨e2, m2, e3, mR, e4, e5⟩ := hB
  obtain ⟨m4, q0, q1, q2⟩ := hA
  simp only [Nat.reduceAdd] at e2 m2 e3 mR e4 e5 m4 q0 q1 q2
  simp only [Try.f22, Option.bind_some, loopOf, Option.some.injEq] at hb
  subst hb
  have hV := hL.vg
  have hn1 := hV.1
  have hn2 := hV.2.1
  have hel := hV.2.2.1
  rw [esT_len'] at hel
  have u1 := rkE ts
  have u2 := rkL ts
  have u3 := rkT ts
  have l1 := esT_len' ts
  obtain ⟨k, hk, -, hpk⟩ := c_pick cs p ts.length hcs (by omega) (by omega)
  have hk' := hk (by omega)
  have hge := getTe ts k.toNat (by omega)
  have hm : (ts.getD k.toNat dT).1 ∈ esT ts := List.mem_map.2 ⟨_, getD_mem (by omega), rfl⟩
  generalize ts.getD k.toNat dT = t at *
  obtain ⟨⟨a, b⟩, l, q⟩ := t
  simp only at hge hm
  obtain ⟨c1, c2, c3, c4, c5⟩ := ct_spec hL hm
  obtain ⟨pv, own, hsh, hct⟩ := c_sCutLevel n a b ts hL hm
  generalize ctR n ts (a, b) = R at *
  obtain ⟨us, rs, fd⟩ := R
  simp only at c1 c2 c3 hsh hct
  have w1 := rkE us
  have w2 := rkL us
  have w3 := rkT us
  obtain ⟨x, hx, -, hpx⟩ := c_pick cs (p + 1) n hcs (by omega) (by omega)
  obtain ⟨y, hy, -, hpy⟩ := c_pick cs (p + 1 + 1) n hcs (by omega) (by omega)
  obtain ⟨z, hz, -, hpz⟩ := c_pick cs (p + 1 + 1 + 1) 2 hcs (by omega) (by omega)
  have hx' := hx (by omega)
  have hy' := hy (by omega)
  have hz' := hz (by omega)
  have hpn := c_sPutLevel_no n (edgeOf x y).1 (edgeOf x y).2 us c2.vg
  have hpy' := c_sPutLevel n (edgeOf x y).1 (edgeOf x y).2 us
  have hLV : PlOK n us ((edgeOf x y).1, (edgeOf x y).2) → LV n (plL us ((edgeOf x y).1, (edgeOf x y).2)) := fun h => h.1.putT h.2
  have hce := c_l1Edge x y
  generalize hU : plL us ((edgeOf x y).1, (edgeOf x y).2) = U at *
  have hcase : (us = [] ∧ KP 71 [LvP n ts, PE a b] [] = some (.tup [.agg [I n, .ref 2000 0 0 0, .i .emp, .i .emp], I rs, B fd, B true], [], [.arr 0 2 []])) ∨ KP 71 [LvP n ts, PE a b] [] = some (.tup [refsP n us, I rs, B fd, B true], [], refsA us) := by
    rcases hsh with ⟨rfl, rfl⟩ | ⟨rfl, rfl⟩
    · by_cases h : us = []
      · refine .inl ⟨h, ?_⟩
        unfold cutP cutA at hct
        rw [if_pos h, if_pos h] at hct
        exact hct
      · refine .inr ?_
        unfold cutP cutA at hct
        rw [if_neg h, if_neg h] at hct
        exact hct
    · exact .inr hct
  clear hct hsh hk hx hy hz hL hU hV
  rcases hcase with ⟨hus, hc⟩ | hc
  · subst hus
    by_cases hxy : x = y
    · repeat'(first|(refine na ?_;constructor)|(refine ite_two ?_ ?_<;>intro _<;>first|(exfalso;omega)|skip)|refine ord_split (by kernel_rfl) ?_|((first|(refine nb ?_;constructor)|refine pn rfl ?_|refine pe rfl ?_|((first|refine at2 ?_|refine at_cond ?_);split<;>first|(exfalso;omega;done)|skip))<;>try simp(config:={maxSteps:=3000000})(disch:=first|assumption|omega|exact VG.okg (by assumption)|(simp only[List.length_set,List.length_append,List.length_cons,List.length_nil,List.length_replicate];omega))only[go_sem,simprocAttr,Try.results22, e2, m2, e3, mR, e4, e5, m4, q0, q1, q2, u1, u2, u3, l1, hi, hpk, hge, hc, hpx, hpy, hxy]))
      refine ⟨p + 1 + 1 + 1, [], _, 0, 0, ⟨⟨?_, ?_, ?_, ?_, ?_, ?_⟩, c2, .inr (.inl ⟨rfl, rfl, rfl⟩)⟩, by omega, by omega⟩
      all_goals first | rfl | assumption | trace_state
    by_cases hz0 : z = 0
    · by_cases hP : PlOK n [] ((edgeOf x y).1, (edgeOf x y).2)
      · have hput : KP 7 [.agg [I n, .i (.lst []), .i (.lst []), .i (.lst [])], PE (edgeOf x y).1 (edgeOf x y).2] [] = some (.tup [refsP n U, B true], [], refsA U) := hpy' hP
        have hLu := hLV hP
        repeat'(first|(refine na ?_;constructor)|(refine ite_two ?_ ?_<;>intro _<;>first|(exfalso;omega)|skip)|refine ord_split (by kernel_rfl) ?_|((first|(refine nb ?_;constructor)|refine pn rfl ?_|refine pe rfl ?_|((first|refine at2 ?_|refine at_cond ?_);split<;>first|(exfalso;omega;done)|skip))<;>try simp(config:={maxSteps:=3000000})(disch:=first|assumption|omega|exact VG.okg (by assumption)|(simp only[List.length_set,List.length_append,List.length_cons,List.length_nil,List.length_replicate];omega))only[go_sem,simprocAttr,Try.results22, e2, m2, e3, mR, e4, e5, m4, q0, q1, q2, u1, u2, u3, l1, hi, hpk, hge, hc, hpx, hpy, hxy, hpz, hz0, hput]))
        refine ⟨p + 1 + 1 + 1 + 1, U, _, _, _, ⟨⟨?_, ?_, ?_, ?_, ?_, ?_⟩, hLu, .inr (.inr (.inr (.inr ⟨rfl, rfl, rfl, rfl⟩)))⟩, by omega, by omega⟩
        all_goals first | rfl | assumption | trace_state
      · have hput : KP 7 [.agg [I n, .i (.lst []), .i (.lst []), .i (.lst [])], PE (edgeOf x y).1 (edgeOf x y).2] [] = some (.tup [.agg [I 0, .i .emp, .i .emp, .i .emp], B false], [], []) := hpn hP
        repeat'(first|(refine na ?_;constructor)|(refine ite_two ?_ ?_<;>intro _<;>first|(exfalso;omega)|skip)|refine ord_split (by kernel_rfl) ?_|((first|(refine nb ?_;constructor)|refine pn rfl ?_|refine pe rfl ?_|((first|refine at2 ?_|refine at_cond ?_);split<;>first|(exfalso;omega;done)|skip))<;>try simp(config:={maxSteps:=3000000})(disch:=first|assumption|omega|exact VG.okg (by assumption)|(simp only[List.length_set,List.length_append,List.length_cons,List.length_nil,List.length_replicate];omega))only[go_sem,simprocAttr,Try.results22, e2, m2, e3, mR, e4, e5, m4, q0, q1, q2, u1, u2, u3, l1, hi, hpk, hge, hc, hpx, hpy, hxy, hpz, hz0, hput]))
        refine ⟨p + 1 + 1 + 1 + 1, [], _, 0, 0, ⟨⟨?_, ?_, ?_, ?_, ?_, ?_⟩, c2, .inr (.inl ⟨rfl, rfl, rfl⟩)⟩, by omega, by omega⟩
        all_goals first | rfl | assumption | trace_state
    · repeat'(first|(refine na ?_;constructor)|(refine ite_two ?_ ?_<;>intro _<;>first|(exfalso;omega)|skip)|refine ord_split (by kernel_rfl) ?_|((first|(refine nb ?_;constructor)|refine pn rfl ?_|refine pe rfl ?_|((first|refine at2 ?_|refine at_cond ?_);split<;>first|(exfalso;omega;done)|skip))<;>try simp(config:={maxSteps:=3000000})(disch:=first|assumption|omega|exact VG.okg (by assumption)|(simp only[List.length_set,List.length_append,List.length_cons,List.length_nil,List.length_replicate];omega))only[go_sem,simprocAttr,Try.results22, e2, m2, e3, mR, e4, e5, m4, q0, q1, q2, u1, u2, u3, l1, hi, hpk, hge, hc, hpx, hpy, hxy, hpz, hz0]))
      refine ⟨p + 1 + 1 + 1 + 1, [], _, 0, 0, ⟨⟨?_, ?_, ?_, ?_, ?_, ?_⟩, c2, .inr (.inl ⟨rfl, rfl, rfl⟩)⟩, by omega, by omega⟩
      all_goals first | rfl | assumption | trace_state
  · by_cases hxy : x = y
    · repeat'(first|(refine na ?_;constructor)|(refine ite_two ?_ ?_<;>intro _<;>first|(exfalso;omega)|skip)|refine ord_split (by kernel_rfl) ?_|((first|(refine nb ?_;constructor)|refine pn rfl ?_|refine pe rfl ?_|((first|refine at2 ?_|refine at_cond ?_);split<;>first|(exfalso;omega;done)|skip))<;>try simp(config:={maxSteps:=3000000})(disch:=first|assumption|omega|exact VG.okg (by assumption)|(simp only[List.length_set,List.length_append,List.length_cons,List.length_nil,List.length_replicate];omega))only[go_sem,simprocAttr,Try.results22, e2, m2, e3, mR, e4, e5, m4, q0, q1, q2, u1, u2, u3, l1, hi, hpk, hge, hc, hpx, hpy, hxy]))
      refine ⟨p + 1 + 1 + 1, us, _, _, _, ⟨⟨?_, ?_, ?_, ?_, ?_, ?_⟩, c2, .inr (.inr (.inr (.inl ⟨rfl, rfl, rfl, rfl⟩)))⟩, by omega, by omega⟩
      all_goals first | rfl | assumption | trace_state
    by_cases hz0 : z = 0
    · by_cases hP : PlOK n us ((edgeOf x y).1, (edgeOf x y).2)
      · have hput := hpy' hP
        have hLu := hLV hP
        repeat'(first|(refine na ?_;constructor)|(refine ite_two ?_ ?_<;>intro _<;>first|(exfalso;omega)|skip)|refine ord_split (by kernel_rfl) ?_|((first|(refine nb ?_;constructor)|refine pn rfl ?_|refine pe rfl ?_|((first|refine at2 ?_|refine at_cond ?_);split<;>first|(exfalso;omega;done)|skip))<;>try simp(config:={maxSteps:=3000000})(disch:=first|assumption|omega|exact VG.okg (by assumption)|(simp only[List.length_set,List.length_append,List.length_cons,List.length_nil,List.length_replicate];omega))only[go_sem,simprocAttr,Try.results22, e2, m2, e3, mR, e4, e5, m4, q0, q1, q2, u1, u2, u3, l1, hi, hpk, hge, hc, hpx, hpy, hxy, hpz, hz0, hput, w1, w2, w3]))
        refine ⟨p + 1 + 1 + 1 + 1, U, _, _, _, ⟨⟨?_, ?_, ?_, ?_, ?_, ?_⟩, hLu, .inr (.inr (.inr (.inr ⟨rfl, rfl, rfl, rfl⟩)))⟩, by omega, by omega⟩
        all_goals first | rfl | assumption | trace_state
      · have hput := hpn hP
        repeat'(first|(refine na ?_;constructor)|(refine ite_two ?_ ?_<;>intro _<;>first|(exfalso;omega)|skip)|refine ord_split (by kernel_rfl) ?_|((first|(refine nb ?_;constructor)|refine pn rfl ?_|refine pe rfl ?_|((first|refine at2 ?_|refine at_cond ?_);split<;>first|(exfalso;omega;done)|skip))<;>try simp(config:={maxSteps:=3000000})(disch:=first|assumption|omega|exact VG.okg (by assumption)|(simp only[List.length_set,List.length_append,List.length_cons,List.length_nil,List.length_replicate];omega))only[go_sem,simprocAttr,Try.results22, e2, m2, e3, mR, e4, e5, m4, q0, q1, q2, u1, u2, u3, l1, hi, hpk, hge, hc, hpx, hpy, hxy, hpz, hz0, hput, w1, w2, w3]))
        refine ⟨p + 1 + 1 + 1 + 1, us, _, _, _, ⟨⟨?_, ?_, ?_, ?_, ?_, ?_⟩, c2, .inr (.inr (.inr (.inl ⟨rfl, rfl, rfl, rfl⟩)))⟩, by omega, by omega⟩
        all_goals first | rfl | assumption | trace_state
    · repeat'(first|(refine na ?_;constructor)|(refine ite_two ?_ ?_<;>intro _<;>first|(exfalso;omega)|skip)|refine ord_split (by kernel_rfl) ?_|((first|(refine nb ?_;constructor)|refine pn rfl ?_|refine pe rfl ?_|((first|refine at2 ?_|refine at_cond ?_);split<;>first|(exfalso;omega;done)|skip))<;>try simp(config:={maxSteps:=3000000})(disch:=first|assumption|omega|exact VG.okg (by assumption)|(simp only[List.length_set,List.length_append,List.length_cons,List.length_nil,List.length_replicate];omega))only[go_sem,simprocAttr,Try.results22, e2, m2, e3, mR, e4, e5, m4, q0, q1, q2, u1, u2, u3, l1, hi, hpk, hge, hc, hpx, hpy, hxy, hpz, hz0]))
      refine ⟨p + 1 + 1 + 1 + 1, us, _, _, _, ⟨⟨?_, ?_, ?_, ?_, ?_, ?_⟩, c2, .inr (.inr (.inr (.inl ⟨rfl, rfl, rfl, rfl⟩)))⟩, by omega, by omega⟩
      all_goals first | rfl | assumption | trace_state
end Go.Proofs.Ytdlfdoicheakoaa.X
