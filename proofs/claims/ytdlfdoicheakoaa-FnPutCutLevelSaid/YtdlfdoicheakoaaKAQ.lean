/- What functions answer, and the plain laws behind it. -/
import Derived.Test.YtdlfdoicheakoaaKAP
/- What functions compute: graphs with levels are drawn: the loop's step. -/
set_option linter.unusedSimpArgs false
set_option linter.unusedVariables false
set_option maxHeartbeats 16000000
set_option maxRecDepth 100000
namespace Go.Proofs.Ytdlfdoicheakoaa.X
open Go Go.Proofs
theorem dr_step3600 {n : Int} {cs : List Int} {p i : Int} {ts : List Tl} {v0 v1 v2 : Nat} (hcs : bytes cs) (hp : 0 ≤ p ∧ p ≤ 100000) (hL : LV n ts) (hne : 0 < ts.length) (hi : 0 < i) (hi4 : i ≤ 4) (st : St) (hB : DrB cs p i st) (hA : DrA n ts 3600 v0 v1 v2 st) (b : Code) (hb : (Try.f22.body).bind loopOf = some b) :
    XW Try.prog cfg 22 b st (LQ (fun (w : Int × List Tl × Nat × Nat × Nat) t => DrI n cs (i - 1) w t ∧ p ≤ w.1 ∧ w.1 ≤ p + 4) (fun _ => 0) 1 (fun _ _ => False)) := by
  obtain ⟨ρ, m⟩ := st
  obtain ⟨e2, m2, e3, mR, e4, e5⟩ := hB
  obtain ⟨m4, q0, q1, q2⟩ := hA
  simp only [Nat.reduceAdd] at e2 m2 e3 mR e4 e5 m4 q0 q1 q2
  simp only [Try.f22, Option.bind_some, loopOf, Option.some.injEq] at hb
  subst hb
  have hV := hL.vg
  have hn1 := hV.1
  have hn2 := hV.2.1
  have hel := hV.2.2.1
  rw [esT_len'] at hel
  have u1 := rkE ts
  have u2 := rkL ts
  have u3 := rkT ts
  have l1 := esT_len' ts
  obtain ⟨k, hk, -, hpk⟩ := c_pick cs p ts.length hcs (by omega) (by omega)
  have hk' := hk (by omega)
  have hge := getTe ts k.toNat (by omega)
  have hm : (ts.getD k.toNat dT).1 ∈ esT ts := List.mem_map.2 ⟨_, getD_mem (by omega), rfl⟩
  generalize ts.getD k.toNat dT = t at *
  obtain ⟨⟨a, b⟩, l, q⟩ := t
  simp only at hge hm
  obtain ⟨c1, c2, c3, c4, c5⟩ := ct_spec hL hm
  obtain ⟨pv, own, hsh, hct⟩ := c_sCutLevel n a b ts hL hm
  generalize ctR n ts (a, b) = R at *
  obtain ⟨us, rs, fd⟩ := R
  simp only at c1 c2 c3 hsh hct
  have w1 := rkE us
  have w2 := rkL us
  have w3 := rkT us
  obtain ⟨x, hx, -, hpx⟩ := c_pick cs (p + 1) n hcs (by omega) (by omega)
  obtain ⟨y, hy, -, hpy⟩ := c_pick cs (p + 1 + 1) n hcs (by omega) (by omega)
  obtain ⟨z, hz, -, hpz⟩ := c_pick cs (p + 1 + 1 + 1) 2 hcs (by omega) (by omega)
  have hx' := hx (by omega)
  have hy' := hy (by omega)
  have hz' := hz (by omega)
  have hpn := c_sPutLevel_no n (edgeOf x y).1 (edgeOf x y).2 us c2.vg
  have hpy' := c_sPutLevel n (edgeOf x y).1 (edgeOf x y).2 us
  have hLV : PlOK n us ((edgeOf x y).1, (edgeOf x y).2) → LV n (plL us ((edgeOf x y).1, (edgeOf x y).2)) := fun h => h.1.putT h.2
  have hce := c_l1Edge x y
  generalize hU : plL us ((edgeOf x y).1, (edgeOf x y).2) = U at *
  have hcase : (us = [] ∧ KP 71 [LvP n ts, PE a b] [] = some (.tup [.agg [I n, .ref 2000 0 0 0, .i .emp, .i .emp], I rs, B fd, B true], [], [.arr 0 2 []])) ∨ KP 71 [LvP n ts, PE a b] [] = some (.tup [refsP n us, I rs, B fd, B true], [], refsA us) := by
    rcases hsh with ⟨rfl, rfl⟩ | ⟨rfl, rfl⟩
    · by_cases h : us = []
      · refine .inl ⟨h, ?_⟩
        unfold cutP cutA at hct
        rw [if_pos h, if_pos h] at hct
        exact hct
      · refine .inr ?_
        unfold cutP cutA at hct
        rw [if_neg h, if_neg h] at hct
        exact hct
    · exact .inr hct
  clear hct hsh hk hx hy hz hL hU hV
  rcases hcase with ⟨hus, hc⟩ | hc
  · subst hus
    by_cases hxy : x = y
    · repeat'(first|(refine na ?_;constructor)|(refine ite_two ?_ ?_<;>intro _<;>first|(exfalso;omega)|skip)|refine ord_split (by kernel_rfl) ?_|((first|(refine nb ?_;constructor)|refine pn rfl ?_|refine pe rfl ?_|((first|refine at2 ?_|refine at_cond ?_);split<;>first|(exfalso;omega;done)|skip))<;>try simp(config:={maxSteps:=3000000})(disch:=first|assumption|omega|exact VG.okg (by assumption)|(simp only[List.length_set,List.length_append,List.length_cons,List.length_nil,List.length_replicate];omega))only[go_sem,simprocAttr,Try.results22, e2, m2, e3, mR, e4, e5, m4, q0, q1, q2, u1, u2, u3, l1, hi, hpk, hge, hc, hpx, hpy, hxy]))
      refine ⟨p + 1 + 1 + 1, [], _, 0, 0, ⟨⟨?_, ?_, ?_, ?_, ?_, ?_⟩, c2, .inr (.inl ⟨rfl, rfl, rfl⟩)⟩, by omega, by omega⟩
      all_goals first | rfl | assumption | trace_state
    by_cases hz0 : z = 0
    · by_cases hP : PlOK n [] ((edgeOf x y).1, (edgeOf x y).2)
      · have hput : KP 7 [.agg [I n, .i (.lst []), .i (.lst []), .i (.lst [])], PE (edgeOf x y).1 (edgeOf x y).2] [] = some (.tup [refsP n U, B true], [], refsA U) := hpy' hP
        have hLu := hLV hP
        repeat'(first|(refine na ?_;constructor)|(refine ite_two ?_ ?_<;>intro _<;>first|(exfalso;omega)|skip)|refine ord_split (by kernel_rfl) ?_|((first|(refine nb ?_;constructor)|refine pn rfl ?_|refine pe rfl ?_|((first|refine at2 ?_|refine at_cond ?_);split<;>first|(exfalso;omega;done)|skip))<;>try simp(config:={maxSteps:=3000000})(disch:=first|assumption|omega|exact VG.okg (by assumption)|(simp only[List.length_set,List.length_append,List.length_cons,List.length_nil,List.length_replicate];omega))only[go_sem,simprocAttr,Try.results22, e2, m2, e3, mR, e4, e5, m4, q0, q1, q2, u1, u2, u3, l1, hi, hpk, hge, hc, hpx, hpy, hxy, hpz, hz0, hput]))
        refine ⟨p + 1 + 1 + 1 + 1, U, _, _, _, ⟨⟨?_, ?_, ?_, ?_, ?_, ?_⟩, hLu, .inr (.inr (.inr (.inr ⟨rfl, rfl, rfl, rfl⟩)))⟩, by omega, by omega⟩
        all_goals first | rfl | assumption | trace_state
      · have hput : KP 7 [.agg [I n, .i (.lst []), .i (.lst []), .i (.lst [])], PE (edgeOf x y).1 (edgeOf x y).2] [] = some (.tup [.agg [I 0, .i .emp, .i .emp, .i .emp], B false], [], []) := hpn hP
        repeat'(first|(refine na ?_;constructor)|(refine ite_two ?_ ?_<;>intro _<;>first|(exfalso;omega)|skip)|refine ord_split (by kernel_rfl) ?_|((first|(refine nb ?_;constructor)|refine pn rfl ?_|refine pe rfl ?_|((first|refine at2 ?_|refine at_cond ?_);split<;>first|(exfalso;omega;done)|skip))<;>try simp(config:={maxSteps:=3000000})(disch:=first|assumption|omega|exact VG.okg (by assumption)|(simp only[List.length_set,List.length_append,List.length_cons,List.length_nil,List.length_replicate];omega))only[go_sem,simprocAttr,Try.results22, e2, m2, e3, mR, e4, e5, m4, q0, q1, q2, u1, u2, u3, l1, hi, hpk, hge, hc, hpx, hpy, hxy, hpz, hz0, hput]))
        refine ⟨p + 1 + 1 + 1 + 1, [], _, 0, 0, ⟨⟨?_, ?_, ?_, ?_, ?_, ?_⟩, c2, .inr (.inl ⟨rfl, rfl, rfl⟩)⟩, by omega, by omega⟩
        all_goals first | rfl | assumption | trace_state
    · repeat'(first|(refine na ?_;constructor)|(refine ite_two ?_ ?_<;>intro _<;>first|(exfalso;omega)|skip)|refine ord_split (by kernel_rfl) ?_|((first|(refine nb ?_;constructor)|refine pn rfl ?_|refine pe rfl ?_|((first|refine at2 ?_|refine at_cond ?_);split<;>first|(exfalso;omega;done)|skip))<;>try simp(config:={maxSteps:=3000000})(disch:=first|assumption|omega|exact VG.okg (by assumption)|(simp only[List.length_set,List.length_append,List.length_cons,List.length_nil,List.length_replicate];omega))only[go_sem,simprocAttr,Try.results22, e2, m2, e3, mR, e4, e5, m4, q0, q1, q2, u1, u2, u3, l1, hi, hpk, hge, hc, hpx, hpy, hxy, hpz, hz0]))
      refine ⟨p + 1 + 1 + 1 + 1, [], _, 0, 0, ⟨⟨?_, ?_, ?_, ?_, ?_, ?_⟩, c2, .inr (.inl ⟨rfl, rfl, rfl⟩)⟩, by omega, by omega⟩
      all_goals first | rfl | assumption | trace_state
  · by_cases hxy : x = y
    · repeat'(first|(refine na ?_;constructor)|(refine ite_two ?_ ?_<;>intro _<;>first|(exfalso;omega)|skip)|refine ord_split (by kernel_rfl) ?_|((first|(refine nb ?_;constructor)|refine pn rfl ?_|refine pe rfl ?_|((first|refine at2 ?_|refine at_cond ?_);split<;>first|(exfalso;omega;done)|skip))<;>try simp(config:={maxSteps:=3000000})(disch:=first|assumption|omega|exact VG.okg (by assumption)|(simp only[List.length_set,List.length_append,List.length_cons,List.length_nil,List.length_replicate];omega))only[go_sem,simprocAttr,Try.results22, e2, m2, e3, mR, e4, e5, m4, q0, q1, q2, u1, u2, u3, l1, hi, hpk, hge, hc, hpx, hpy, hxy]))
      refine ⟨p + 1 + 1 + 1, us, _, _, _, ⟨⟨?_, ?_, ?_, ?_, ?_, ?_⟩, c2, .inr (.inr (.inr (.inl ⟨rfl, rfl, rfl, rfl⟩)))⟩, by omega, by omega⟩
      all_goals first | rfl | assumption | trace_state
    by_cases hz0 : z = 0
    · by_cases hP : PlOK n us ((edgeOf x y).1, (edgeOf x y).2)
      · have hput := hpy' hP
        have hLu := hLV hP
        repeat'(first|(refine na ?_;constructor)|(refine ite_two ?_ ?_<;>intro _<;>first|(exfalso;omega)|skip)|refine ord_split (by kernel_rfl) ?_|((first|(refine nb ?_;constructor)|refine pn rfl ?_|refine pe rfl ?_|((first|refine at2 ?_|refine at_cond ?_);split<;>first|(exfalso;omega;done)|skip))<;>try simp(config:={maxSteps:=3000000})(disch:=first|assumption|omega|exact VG.okg (by assumption)|(simp only[List.length_set,List.length_append,List.length_cons,List.length_nil,List.length_replicate];omega))only[go_sem,simprocAttr,Try.results22, e2, m2, e3, mR, e4, e5, m4, q0, q1, q2, u1, u2, u3, l1, hi, hpk, hge, hc, hpx, hpy, hxy, hpz, hz0, hput, w1, w2, w3]))
        refine ⟨p + 1 + 1 + 1 + 1, U, _, _, _, ⟨⟨?_, ?_, ?_, ?_, ?_, ?_⟩, hLu, .inr (.inr (.inr (.inr ⟨rfl, rfl, rfl, rfl⟩)))⟩, by omega, by omega⟩
        all_goals first | rfl | assumption | trace_state
      · have hput := hpn hP
        repeat'(first|(refine na ?_;constructor)|(refine ite_two ?_ ?_<;>intro _<;>first|(exfalso;omega)|skip)|refine ord_split (by kernel_rfl) ?_|((first|(refine nb ?_;constructor)|refine pn rfl ?_|refine pe rfl ?_|((first|refine at2 ?_|refine at_cond ?_);split<;>first|(exfalso;omega;done)|skip))<;>try simp(config:={maxSteps:=3000000})(disch:=first|assumption|omega|exact VG.okg (by assumption)|(simp only[List.length_set,List.length_append,List.length_cons,List.length_nil,List.length_replicate];omega))only[go_sem,simprocAttr,Try.results22, e2, m2, e3, mR, e4, e5, m4, q0, q1, q2, u1, u2, u3, l1, hi, hpk, hge, hc, hpx, hpy, hxy, hpz, hz0, hput, w1, w2, w3]))
        refine ⟨p + 1 + 1 + 1 + 1, us, _, _, _, ⟨⟨?_, ?_, ?_, ?_, ?_, ?_⟩, c2, .inr (.inr (.inr (.inl ⟨rfl, rfl, rfl, rfl⟩)))⟩, by omega, by omega⟩
        all_goals first | rfl | assumption | trace_state
    · repeat'(first|(refine na ?_;constructor)|(refine ite_two ?_ ?_<;>intro _<;>first|(exfalso;omega)|skip)|refine ord_split (by kernel_rfl) ?_|((first|(refine nb ?_;constructor)|refine pn rfl ?_|refine pe rfl ?_|((first|refine at2 ?_|refine at_cond ?_);split<;>first|(exfalso;omega;done)|skip))<;>try simp(config:={maxSteps:=3000000})(disch:=first|assumption|omega|exact VG.okg (by assumption)|(simp only[List.length_set,List.length_append,List.length_cons,List.length_nil,List.length_replicate];omega))only[go_sem,simprocAttr,Try.results22, e2, m2, e3, mR, e4, e5, m4, q0, q1, q2, u1, u2, u3, l1, hi, hpk, hge, hc, hpx, hpy, hxy, hpz, hz0]))
      refine ⟨p + 1 + 1 + 1 + 1, us, _, _, _, ⟨⟨?_, ?_, ?_, ?_, ?_, ?_⟩, c2, .inr (.inr (.inr (.inl ⟨rfl, rfl, rfl, rfl⟩)))⟩, by omega, by omega⟩
      all_goals first | rfl | assumption | trace_state
end Go.Proofs.Ytdlfdoicheakoaa.X

/- What functions compute: graphs with levels are drawn. -/
set_option linter.unusedSimpArgs false
set_option linter.unusedVariables false
set_option maxHeartbeats 16000000
set_option maxRecDepth 100000
namespace Go.Proofs.Ytdlfdoicheakoaa.X
open Go Go.Proofs
/-- A list that is a value in closed form. -/
structure FV (x : IV) (l : List (List IV)) : Prop where
  f : ∀ n, frz n (.i x) = .ret (.lst l)
  fl : x.flat = true
theorem FV.emp : FV .emp [] := ⟨fun n => by cases n <;> rfl, rfl⟩
theorem FV.lstE (l : List (Int × Int)) : FV (.lst (l.map encE)) (l.map encE) := ⟨fun n => by cases n <;> rfl, by simp [IV.flat]⟩
theorem FV.lstI (l : List Int) : FV (.lst (l.map encI)) (l.map encI) := ⟨fun n => by cases n <;> rfl, by simp [IV.flat]⟩
theorem FV.lstT (l : List Bool) : FV (.lst (l.map encT)) (l.map encT) := ⟨fun n => by cases n <;> rfl, by simp [IV.flat]⟩
/-- What is drawn. -/
def DrR (n : Int) (r : PV × List Arr × List Arr) : Prop := ∃ (es : List (Int × Int)) (lv : List Int) (tr : List Bool) (x y z : IV), VG n es ∧ tr.length = es.length ∧ (lv.length = es.length ∨ lv.length + 1 = es.length) ∧ (∀ v ∈ lv, -1 ≤ v ∧ v ≤ 5) ∧
  FV x (es.map encE) ∧ FV y (lv.map encI) ∧ FV z (tr.map encT) ∧ r.2.1 = [] ∧ imm 2 r.2.2 r.1 = some (.agg [I n, .i x, .i y, .i z])
theorem DrR.of {n : Int} {es : List (Int × Int)} {lv : List Int} {tr : List Bool} {N j : Nat} (hV : VG n es) (hN : es.length = N) (ht : tr.length = N) (hl : lv.length = N) (hj : j = N ∨ j + 1 = N) (hv : ∀ v ∈ lv, -1 ≤ v ∧ v ≤ 5) :
    DrR n (.agg [I n, .ref 2000 0 0 N, .ref 2001 0 0 j, .ref 2002 0 0 N], [], [.arr 0 2 (es.map encE), .arr 0 1 (lv.map encI), .arr 0 1 (tr.map encT)]) := by
  refine ⟨es, lv.take j, tr, _, _, _, hV, by omega, ?_, fun v h => hv v (List.mem_of_mem_take h), FV.lstE _, FV.lstI _, FV.lstT _, rfl, ?_⟩
  · rw [List.length_take]; omega
  · have h1 : (es.map encE).take N = es.map encE := List.take_of_length_le (by simp [hN])
    have h2 : (tr.map encT).take N = tr.map encT := List.take_of_length_le (by simp [ht])
    simp [imm, imm1, mapO, h1, h2]
theorem DrR.emp {n : Int} (h1 : 1 ≤ n) (h2 : n ≤ 16) : DrR n (.agg [I n, .i .emp, .i .emp, .i .emp], [], []) :=
  ⟨[], [], [], .emp, .emp, .emp, (LV.nil h1 h2).vg, rfl, .inl rfl, by simp, FV.emp, FV.emp, FV.emp, rfl, rfl⟩
theorem DrR.one {n : Int} (h1 : 1 ≤ n) (h2 : n ≤ 16) : DrR n (.agg [I n, .ref 2000 0 0 0, .i .emp, .i .emp], [], [.arr 0 2 []]) :=
  ⟨[], [], [], .lst [], .emp, .emp, (LV.nil h1 h2).vg, rfl, .inl rfl, by simp, FV.lstE [], FV.emp, FV.emp, rfl, rfl⟩
theorem lv_in {n : Int} {ts : List Tl} (h : LV n ts) : ∀ v ∈ lvT ts, -1 ≤ v ∧ v ≤ 5 := fun v hv => by
  obtain ⟨t, ht, rfl⟩ := List.mem_map.1 hv
  have := h.lv t ht
  omega
theorem set_in {l : List Int} {k : Nat} {x : Int} (h : ∀ v ∈ l, -1 ≤ v ∧ v ≤ 5) (hx : -1 ≤ x ∧ x ≤ 5) : ∀ v ∈ l.set k x, -1 ≤ v ∧ v ≤ 5 := fun v hv => by
  rcases List.mem_or_eq_of_mem_set hv with h1 | h1
  · exact h v h1
  · rw [h1]; exact hx
/-- What follows the first loop. -/
def tailOf : Code → Option Code
  | .seq a b => match loopOf a with
    | some _ => (match tailOf a with
      | some x => some (.seq x b)
      | none => some b)
    | none => tailOf b
  | _ => none
theorem dr_exit0 {σ : Type} {R : σ → St → Prop} {μ : σ → Nat} {k0 : Nat} {n : Int} {cs : List Int} {p i : Int} (hn1 : 1 ≤ n) (hn2 : n ≤ 16) (st : St) (hB : DrB cs p i st) (hA : Dr0 n st) (b tl : Code) (hb : (Try.f22.body).bind loopOf = some b) (ht : (Try.f22.body).bind tailOf = some tl) :
    XW Try.prog cfg 22 b st (LQ R μ k0 (bl 0 (sq Try.prog cfg 22 tl (PostE Try.prog Try.f22 0 (DrR n))))) := by
  obtain ⟨ρ, m⟩ := st
  obtain ⟨e2, m2, e3, mR, e4, e5⟩ := hB
  simp only [Dr0] at e2 m2 e3 mR e4 e5 hA
  simp only [Try.f22, Option.bind_some, loopOf, Option.some.injEq] at hb
  simp only [Try.f22, Option.bind_some, tailOf, loopOf, Option.some.injEq] at ht
  subst hb
  subst ht
  repeat'(first|(refine na ?_;constructor)|(refine ite_two ?_ ?_<;>intro _<;>first|(exfalso;omega)|skip)|refine ord_split (by kernel_rfl) ?_|((first|(refine nb ?_;constructor)|refine pn rfl ?_|refine pe rfl ?_|((first|refine at2 ?_|refine at_cond ?_);split<;>first|(exfalso;omega;done)|skip))<;>try simp(config:={maxSteps:=3000000})(disch:=first|assumption|omega|exact VG.okg (by assumption)|(simp only[List.length_set,List.length_append,List.length_cons,List.length_nil,List.length_replicate];omega))only[go_sem,simprocAttr,Try.results22, e2, m2, e3, mR, e4, e5, hA]))
  all_goals exact DrR.emp hn1 hn2
theorem dr_exit1 {σ : Type} {R : σ → St → Prop} {μ : σ → Nat} {k0 : Nat} {n : Int} {cs : List Int} {p i : Int} {v0 : Nat} (hn1 : 1 ≤ n) (hn2 : n ≤ 16) (st : St) (hB : DrB cs p i st) (hA : Dr1 n v0 st) (b tl : Code) (hb : (Try.f22.body).bind loopOf = some b) (ht : (Try.f22.body).bind tailOf = some tl) :
    XW Try.prog cfg 22 b st (LQ R μ k0 (bl 0 (sq Try.prog cfg 22 tl (PostE Try.prog Try.f22 0 (DrR n))))) := by
  obtain ⟨ρ, m⟩ := st
  obtain ⟨e2, m2, e3, mR, e4, e5⟩ := hB
  obtain ⟨m4, q0⟩ := hA
  simp only at e2 m2 e3 mR e4 e5 m4 q0
  simp only [Try.f22, Option.bind_some, loopOf, Option.some.injEq] at hb
  simp only [Try.f22, Option.bind_some, tailOf, loopOf, Option.some.injEq] at ht
  subst hb
  subst ht
  repeat'(first|(refine na ?_;constructor)|(refine ite_two ?_ ?_<;>intro _<;>first|(exfalso;omega)|skip)|refine ord_split (by kernel_rfl) ?_|((first|(refine nb ?_;constructor)|refine pn rfl ?_|refine pe rfl ?_|((first|refine at2 ?_|refine at_cond ?_);split<;>first|(exfalso;omega;done)|skip))<;>try simp(config:={maxSteps:=3000000})(disch:=first|assumption|omega|exact VG.okg (by assumption)|(simp only[List.length_set,List.length_append,List.length_cons,List.length_nil,List.length_replicate];omega))only[go_sem,simprocAttr,Try.results22, e2, m2, e3, mR, e4, e5, m4, q0]))
  all_goals exact DrR.one hn1 hn2
end Go.Proofs.Ytdlfdoicheakoaa.X

/- What functions compute: graphs with levels are drawn. -/
set_option linter.unusedSimpArgs false
set_option linter.unusedVariables false
set_option maxHeartbeats 16000000
set_option maxRecDepth 100000
namespace Go.Proofs.Ytdlfdoicheakoaa.X
open Go Go.Proofs
theorem dr_exit3144 {σ : Type} {R : σ → St → Prop} {μ : σ → Nat} {k0 : Nat} {n : Int} {cs : List Int} {p i : Int} {ts : List Tl} {v0 v1 v2 : Nat} (hcs : bytes cs) (hp : 0 ≤ p ∧ p ≤ 100000) (hL : LV n ts) (hgo : ¬ (0 < i ∧ 0 < ts.length)) (st : St) (hB : DrB cs p i st) (hA : DrA n ts 3144 v0 v1 v2 st) (b tl : Code) (hb : (Try.f22.body).bind loopOf = some b) (ht : (Try.f22.body).bind tailOf = some tl) :
    XW Try.prog cfg 22 b st (LQ R μ k0 (bl 0 (sq Try.prog cfg 22 tl (PostE Try.prog Try.f22 0 (DrR n))))) := by
  have hVt := hL.vg
  have hll := lv_in hL
  have hel := hVt.2.2.1
  have l1 := esT_len' ts
  have l2 := lvT_len ts
  have l3 := trT_len ts
  obtain ⟨ρ, m⟩ := st
  obtain ⟨e2, m2, e3, mR, e4, e5⟩ := hB
  obtain ⟨m4, q0, q1, q2⟩ := hA
  simp only [Nat.reduceAdd] at e2 m2 e3 mR e4 e5 m4 q0 q1 q2
  simp only [Try.f22, Option.bind_some, loopOf, Option.some.injEq] at hb
  simp only [Try.f22, Option.bind_some, tailOf, loopOf, Option.some.injEq] at ht
  subst hb
  subst ht
  obtain ⟨w, hw, -, hpw⟩ := c_pick cs p 24 hcs (by omega) (by omega)
  have hw' := hw (by omega)
  obtain ⟨k, hk, -, hpk⟩ := c_pick cs (p + 1) ts.length hcs (by omega) (by omega)
  obtain ⟨v, hv, hnum⟩ := c_num cs (p + 1 + 1) [5, -1, 4, 1] hcs (by omega) (by simp) (by simp)
  have hv' : -1 ≤ v ∧ v ≤ 5 := by
    have : ∀ x ∈ [5, -1, 4, (1 : Int)], -1 ≤ x ∧ x ≤ 5 := by decide
    exact this v hv
  simp only [List.map_cons, List.map_nil, encI, List.length_cons, List.length_nil, Nat.reduceAdd] at hnum
  obtain ⟨y, -, -, hpy⟩ := c_pick cs (p + 1 + 1) 2 hcs (by omega) (by omega)
  have ht0 : ∀ N : Nat, ts.length = N → DrR n (.agg [I n, .ref 2000 0 0 N, .ref 2001 0 0 N, .ref 2002 0 0 N], [], [.arr 0 2 ((esT ts).map encE), .arr 0 1 ((lvT ts).map encI), .arr 0 1 ((trT ts).map encT)]) := fun N hN => DrR.of hVt (by omega) (by omega) (by omega) (.inl rfl) hll
  by_cases hz : ts.length = 0
  · rw [hz] at m4 ht0
    have hD := ht0 0 rfl
    repeat'(first|(refine na ?_;constructor)|(refine ite_two ?_ ?_<;>intro _<;>first|(exfalso;omega)|skip)|refine ord_split (by kernel_rfl) ?_|((first|(refine nb ?_;constructor)|refine pn rfl ?_|refine pe rfl ?_|((first|refine at2 ?_|refine at_cond ?_);split<;>first|(exfalso;omega;done)|skip))<;>try simp(config:={maxSteps:=3000000})(disch:=first|assumption|omega|exact VG.okg (by assumption)|(simp only[List.length_set,List.length_append,List.length_cons,List.length_nil,List.length_replicate];omega))only[go_sem,simprocAttr,Try.results22, e2, m2, e3, mR, e4, e5, m4, q0, q1, q2]))
    all_goals exact hD
  have hi0 : ¬ 0 < i := fun h => hgo ⟨h, by omega⟩
  have hk' := hk (by omega)
  by_cases hw0 : w = 0
  · repeat'(first|(refine na ?_;constructor)|(refine ite_two ?_ ?_<;>intro _<;>first|(exfalso;omega)|skip)|refine ord_split (by kernel_rfl) ?_|((first|(refine nb ?_;constructor)|refine pn rfl ?_|refine pe rfl ?_|((first|refine at2 ?_|refine at_cond ?_);split<;>first|(exfalso;omega;done)|skip))<;>try simp(config:={maxSteps:=3000000})(disch:=first|assumption|omega|exact VG.okg (by assumption)|(simp only[List.length_set,List.length_append,List.length_cons,List.length_nil,List.length_replicate];omega))only[go_sem,simprocAttr,Try.results22, e2, m2, e3, mR, e4, e5, m4, q0, q1, q2, hi0, hpw, hw0, hpk, hnum, l1, l2, l3]))
    all_goals exact DrR.of hVt (by omega) (by omega) (by rw [List.length_set]; omega) (.inl rfl) (set_in hll hv')
  by_cases hw1 : w = 1
  · repeat'(first|(refine na ?_;constructor)|(refine ite_two ?_ ?_<;>intro _<;>first|(exfalso;omega)|skip)|refine ord_split (by kernel_rfl) ?_|((first|(refine nb ?_;constructor)|refine pn rfl ?_|refine pe rfl ?_|((first|refine at2 ?_|refine at_cond ?_);split<;>first|(exfalso;omega;done)|skip))<;>try simp(config:={maxSteps:=3000000})(disch:=first|assumption|omega|exact VG.okg (by assumption)|(simp only[List.length_set,List.length_append,List.length_cons,List.length_nil,List.length_replicate];omega))only[go_sem,simprocAttr,Try.results22, e2, m2, e3, mR, e4, e5, m4, q0, q1, q2, hi0, hpw, hw1, hpk, hpy, l1, l2, l3]))
    all_goals exact DrR.of hVt (by omega) (by rw [List.length_set]; omega) (by omega) (.inl rfl) hll
  by_cases hw2 : w = 2
  · repeat'(first|(refine na ?_;constructor)|(refine ite_two ?_ ?_<;>intro _<;>first|(exfalso;omega)|skip)|refine ord_split (by kernel_rfl) ?_|((first|(refine nb ?_;constructor)|refine pn rfl ?_|refine pe rfl ?_|((first|refine at2 ?_|refine at_cond ?_);split<;>first|(exfalso;omega;done)|skip))<;>try simp(config:={maxSteps:=3000000})(disch:=first|assumption|omega|exact VG.okg (by assumption)|(simp only[List.length_set,List.length_append,List.length_cons,List.length_nil,List.length_replicate];omega))only[go_sem,simprocAttr,Try.results22, e2, m2, e3, mR, e4, e5, m4, q0, q1, q2, hi0, hpw, hw2, l1, l2, l3]))
    all_goals exact DrR.of hVt (by omega) (by omega) (by omega) (.inr (by omega)) hll
  · repeat'(first|(refine na ?_;constructor)|(refine ite_two ?_ ?_<;>intro _<;>first|(exfalso;omega)|skip)|refine ord_split (by kernel_rfl) ?_|((first|(refine nb ?_;constructor)|refine pn rfl ?_|refine pe rfl ?_|((first|refine at2 ?_|refine at_cond ?_);split<;>first|(exfalso;omega;done)|skip))<;>try simp(config:={maxSteps:=3000000})(disch:=first|assumption|omega|exact VG.okg (by assumption)|(simp only[List.length_set,List.length_append,List.length_cons,List.length_nil,List.length_replicate];omega))only[go_sem,simprocAttr,Try.results22, e2, m2, e3, mR, e4, e5, m4, q0, q1, q2, hi0, hpw, hw0, hw1, hw2, l1, l2, l3]))
    all_goals exact ht0 _ rfl
end Go.Proofs.Ytdlfdoicheakoaa.X

/- What functions compute: graphs with levels are drawn. -/
set_option linter.unusedSimpArgs false
set_option linter.unusedVariables false
set_option maxHeartbeats 16000000
set_option maxRecDepth 100000
namespace Go.Proofs.Ytdlfdoicheakoaa.X
open Go Go.Proofs
theorem dr_exit3360 {σ : Type} {R : σ → St → Prop} {μ : σ → Nat} {k0 : Nat} {n : Int} {cs : List Int} {p i : Int} {ts : List Tl} {v0 v1 v2 : Nat} (hcs : bytes cs) (hp : 0 ≤ p ∧ p ≤ 100000) (hL : LV n ts) (hgo : ¬ (0 < i ∧ 0 < ts.length)) (st : St) (hB : DrB cs p i st) (hA : DrA n ts 3360 v0 v1 v2 st) (b tl : Code) (hb : (Try.f22.body).bind loopOf = some b) (ht : (Try.f22.body).bind tailOf = some tl) :
    XW Try.prog cfg 22 b st (LQ R μ k0 (bl 0 (sq Try.prog cfg 22 tl (PostE Try.prog Try.f22 0 (DrR n))))) := by
  have hVt := hL.vg
  have hll := lv_in hL
  have hel := hVt.2.2.1
  have l1 := esT_len' ts
  have l2 := lvT_len ts
  have l3 := trT_len ts
  obtain ⟨ρ, m⟩ := st
  obtain ⟨e2, m2, e3, mR, e4, e5⟩ := hB
  obtain ⟨m4, q0, q1, q2⟩ := hA
  simp only [Nat.reduceAdd] at e2 m2 e3 mR e4 e5 m4 q0 q1 q2
  simp only [Try.f22, Option.bind_some, loopOf, Option.some.injEq] at hb
  simp only [Try.f22, Option.bind_some, tailOf, loopOf, Option.some.injEq] at ht
  subst hb
  subst ht
  obtain ⟨w, hw, -, hpw⟩ := c_pick cs p 24 hcs (by omega) (by omega)
  have hw' := hw (by omega)
  obtain ⟨k, hk, -, hpk⟩ := c_pick cs (p + 1) ts.length hcs (by omega) (by omega)
  obtain ⟨v, hv, hnum⟩ := c_num cs (p + 1 + 1) [5, -1, 4, 1] hcs (by omega) (by simp) (by simp)
  have hv' : -1 ≤ v ∧ v ≤ 5 := by
    have : ∀ x ∈ [5, -1, 4, (1 : Int)], -1 ≤ x ∧ x ≤ 5 := by decide
    exact this v hv
  simp only [List.map_cons, List.map_nil, encI, List.length_cons, List.length_nil, Nat.reduceAdd] at hnum
  obtain ⟨y, -, -, hpy⟩ := c_pick cs (p + 1 + 1) 2 hcs (by omega) (by omega)
  have ht0 : ∀ N : Nat, ts.length = N → DrR n (.agg [I n, .ref 2000 0 0 N, .ref 2001 0 0 N, .ref 2002 0 0 N], [], [.arr 0 2 ((esT ts).map encE), .arr 0 1 ((lvT ts).map encI), .arr 0 1 ((trT ts).map encT)]) := fun N hN => DrR.of hVt (by omega) (by omega) (by omega) (.inl rfl) hll
  by_cases hz : ts.length = 0
  · rw [hz] at m4 ht0
    have hD := ht0 0 rfl
    repeat'(first|(refine na ?_;constructor)|(refine ite_two ?_ ?_<;>intro _<;>first|(exfalso;omega)|skip)|refine ord_split (by kernel_rfl) ?_|((first|(refine nb ?_;constructor)|refine pn rfl ?_|refine pe rfl ?_|((first|refine at2 ?_|refine at_cond ?_);split<;>first|(exfalso;omega;done)|skip))<;>try simp(config:={maxSteps:=3000000})(disch:=first|assumption|omega|exact VG.okg (by assumption)|(simp only[List.length_set,List.length_append,List.length_cons,List.length_nil,List.length_replicate];omega))only[go_sem,simprocAttr,Try.results22, e2, m2, e3, mR, e4, e5, m4, q0, q1, q2]))
    all_goals exact hD
  have hi0 : ¬ 0 < i := fun h => hgo ⟨h, by omega⟩
  have hk' := hk (by omega)
  by_cases hw0 : w = 0
  · repeat'(first|(refine na ?_;constructor)|(refine ite_two ?_ ?_<;>intro _<;>first|(exfalso;omega)|skip)|refine ord_split (by kernel_rfl) ?_|((first|(refine nb ?_;constructor)|refine pn rfl ?_|refine pe rfl ?_|((first|refine at2 ?_|refine at_cond ?_);split<;>first|(exfalso;omega;done)|skip))<;>try simp(config:={maxSteps:=3000000})(disch:=first|assumption|omega|exact VG.okg (by assumption)|(simp only[List.length_set,List.length_append,List.length_cons,List.length_nil,List.length_replicate];omega))only[go_sem,simprocAttr,Try.results22, e2, m2, e3, mR, e4, e5, m4, q0, q1, q2, hi0, hpw, hw0, hpk, hnum, l1, l2, l3]))
    all_goals exact DrR.of hVt (by omega) (by omega) (by rw [List.length_set]; omega) (.inl rfl) (set_in hll hv')
  by_cases hw1 : w = 1
  · repeat'(first|(refine na ?_;constructor)|(refine ite_two ?_ ?_<;>intro _<;>first|(exfalso;omega)|skip)|refine ord_split (by kernel_rfl) ?_|((first|(refine nb ?_;constructor)|refine pn rfl ?_|refine pe rfl ?_|((first|refine at2 ?_|refine at_cond ?_);split<;>first|(exfalso;omega;done)|skip))<;>try simp(config:={maxSteps:=3000000})(disch:=first|assumption|omega|exact VG.okg (by assumption)|(simp only[List.length_set,List.length_append,List.length_cons,List.length_nil,List.length_replicate];omega))only[go_sem,simprocAttr,Try.results22, e2, m2, e3, mR, e4, e5, m4, q0, q1, q2, hi0, hpw, hw1, hpk, hpy, l1, l2, l3]))
    all_goals exact DrR.of hVt (by omega) (by rw [List.length_set]; omega) (by omega) (.inl rfl) hll
  by_cases hw2 : w = 2
  · repeat'(first|(refine na ?_;constructor)|(refine ite_two ?_ ?_<;>intro _<;>first|(exfalso;omega)|skip)|refine ord_split (by kernel_rfl) ?_|((first|(refine nb ?_;constructor)|refine pn rfl ?_|refine pe rfl ?_|((first|refine at2 ?_|refine at_cond ?_);split<;>first|(exfalso;omega;done)|skip))<;>try simp(config:={maxSteps:=3000000})(disch:=first|assumption|omega|exact VG.okg (by assumption)|(simp only[List.length_set,List.length_append,List.length_cons,List.length_nil,List.length_replicate];omega))only[go_sem,simprocAttr,Try.results22, e2, m2, e3, mR, e4, e5, m4, q0, q1, q2, hi0, hpw, hw2, l1, l2, l3]))
    all_goals exact DrR.of hVt (by omega) (by omega) (by omega) (.inr (by omega)) hll
  · repeat'(first|(refine na ?_;constructor)|(refine ite_two ?_ ?_<;>intro _<;>first|(exfalso;omega)|skip)|refine ord_split (by kernel_rfl) ?_|((first|(refine nb ?_;constructor)|refine pn rfl ?_|refine pe rfl ?_|((first|refine at2 ?_|refine at_cond ?_);split<;>first|(exfalso;omega;done)|skip))<;>try simp(config:={maxSteps:=3000000})(disch:=first|assumption|omega|exact VG.okg (by assumption)|(simp only[List.length_set,List.length_append,List.length_cons,List.length_nil,List.length_replicate];omega))only[go_sem,simprocAttr,Try.results22, e2, m2, e3, mR, e4, e5, m4, q0, q1, q2, hi0, hpw, hw0, hw1, hw2, l1, l2, l3]))
    all_goals exact ht0 _ rfl
end Go.Proofs.Ytdlfdoicheakoaa.X
