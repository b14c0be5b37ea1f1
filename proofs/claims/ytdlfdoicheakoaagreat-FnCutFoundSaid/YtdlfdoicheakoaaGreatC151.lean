/- What functions compute: graphs with levels are drawn: the loop's step. -/
import Derived.Test.YtdlfdoicheakoaaGreatKAO
set_option linter.unusedSimpArgs false
set_option linter.unusedVariables false
set_option maxHeartbeats 16000000
set_option maxRecDepth 100000
namespace Go.Proofs.YtdlfdoicheakoaaGreat.X
open Go Go.Proofs
theorem dr_step3144 {n : Int} {cs : List Int} {p i : Int} {ts : List Tl} {v0 v1 v2 : Nat} (hcs : bytes cs) (hp : 0 ≤ p ∧ p ≤ 100000) (hL : LV n ts) (hne : 0 < ts.length) (hi : 0 < i) (hi4 : i ≤ 4) (st : St) (hB : DrB cs p i st) (hA : DrA n ts 3144 v0 v1 v2 st) (b : Code) (hb : (Tryz.f10.body).bind loopOf = some b) :
    XW Tryz.prog cfg 10 b st (LQ (fun (w : Int × List Tl × Nat × Nat × Nat) t => DrI n cs (i - 1) w t ∧ p ≤ w.1 ∧ w.1 ≤ p + 4) (fun _ => 0) 1 (fun _ _ => False)) := by
  obtain ⟨ρ, m⟩ := st
  obtain ⟨e2, m2, e3, mR, e4, e5⟩ := hB
  obtain ⟨m4, q0, q1, q2⟩ := hA
  simp only [Nat.reduceAdd] at e2 m2 e3 mR e4 e5 m4 q0 q1 q2
  simp only [Tryz.f10, Option.bind_some, loopOf, Option.some.injEq] at hb
  subst hb
  have hV := hL.vg
  have hn1 := hV.1
  have hn2 := hV.2.1
  have hel := hV.2.2.1
  rw [esT_len'] at hel
  have u1 := rkE ts
  have u2 := rkL ts
  have u3 := rkT ts
  have l1 := esT_len' ts
  obtain ⟨k, hk, -, hpk⟩ := c_pick cs p ts.length hcs (by omega) (by omega)
  have hk' := hk (by omega)
  have hge := getTe ts k.toNat (by omega)
  have hm : (ts.getD k.toNat dT).1 ∈ esT ts := List.mem_map.2 ⟨_, getD_mem (by omega), rfl⟩
  generalize ts.getD k.toNat dT = t at *
  obtain ⟨⟨a, b⟩, l, q⟩ := t
  simp only at hge hm
  obtain ⟨c1, c2, c3, c4, c5⟩ := ct_spec hL hm
  obtain ⟨pv, own, hsh, hct⟩ := c_sCutLevel n a b ts hL hm
  generalize ctR n ts (a, b) = R at *
  obtain ⟨us, rs, fd⟩ := R
  simp only at c1 c2 c3 hsh hct
  have w1 := rkE us
  have w2 := rkL us
  have w3 := rkT us
  obtain ⟨x, hx, -, hpx⟩ := c_pick cs (p + 1) n hcs (by omega) (by omega)
  obtain ⟨y, hy, -, hpy⟩ := c_pick cs (p + 1 + 1) n hcs (by omega) (by omega)
  obtain ⟨z, hz, -, hpz⟩ := c_pick cs (p + 1 + 1 + 1) 2 hcs (by omega) (by omega)
  have hx' := hx (by omega)
  have hy' := hy (by omega)
  have hz' := hz (by omega)
  have hpn := c_sPutLevel_no n (edgeOf x y).1 (edgeOf x y).2 us c2.vg
  have hpy' := c_sPutLevel n (edgeOf x y).1 (edgeOf x y).2 us
  have hLV : PlOK n us ((edgeOf x y).1, (edgeOf x y).2) → LV n (plL us ((edgeOf x y).1, (edgeOf x y).2)) := fun h => h.1.putT h.2
  have hce := c_l1Edge x y
  generalize hU : plL us ((edgeOf x y).1, (edgeOf x y).2) = U at *
  have hcase : (us = [] ∧ KP 6 [LvP n ts, PE a b] [] = some (.tup [.agg [I n, .ref 2000 0 0 0, .i .emp, .i .emp], I rs, B fd, B true], [], [.arr 0 2 []])) ∨ KP 6 [LvP n ts, PE a b] [] = some (.tup [refsP n us, I rs, B fd, B true], [], refsA us) := by
    rcases hsh with ⟨rfl, rfl⟩ | ⟨rfl, rfl⟩
    · by_cases h : us = []
      · refine .inl ⟨h, ?_⟩
        unfold cutP cutA at hct
        rw [if_pos h, if_pos h] at hct
        exact hct
      · refine .inr ?_
        unfold cutP cutA at hct
        rw [if_neg h, if_neg h] at hct
        exact hct
    · exact .inr hct
  clear hct hsh hk hx hy hz hL hU hV
  rcases hcase with ⟨hus, hc⟩ | hc
  · subst hus
    by_cases hxy : x = y
    · have Fz:=fz22 Tryz.results10 e2 m2 e3 mR e4 e5 m4 q0 q1 q2 u1 u2 u3 l1 hi hpk hge hc hpx hpy hxy
      repeat'(first|exact trivial|refine go1 ?_|(refine go2 ?_ ?_<;>intro _<;>try(exfalso;omega))|(refine go4 ?_;split<;>((try(exfalso;omega));try refine go3 ?_)))
      refine ⟨p + 1 + 1 + 1, [], _, 0, 0, ⟨⟨?_, ?_, ?_, ?_, ?_, ?_⟩, c2, .inr (.inl ⟨rfl, rfl, rfl⟩)⟩, by omega, by omega⟩
      all_goals first | rfl | assumption | trace_state
    by_cases hz0 : z = 0
    · by_cases hP : PlOK n [] ((edgeOf x y).1, (edgeOf x y).2)
      · have hput : KP 34 [.agg [I n, .i (.lst []), .i (.lst []), .i (.lst [])], PE (edgeOf x y).1 (edgeOf x y).2] [] = some (.tup [refsP n U, B true], [], refsA U) := hpy' hP
        have hLu := hLV hP
        have Fz:=fz25 Tryz.results10 e2 m2 e3 mR e4 e5 m4 q0 q1 q2 u1 u2 u3 l1 hi hpk hge hc hpx hpy hxy hpz hz0 hput
        repeat'(first|exact trivial|refine go1 ?_|(refine go2 ?_ ?_<;>intro _<;>try(exfalso;omega))|(refine go4 ?_;split<;>((try(exfalso;omega));try refine go3 ?_)))
        refine ⟨p + 1 + 1 + 1 + 1, U, _, _, _, ⟨⟨?_, ?_, ?_, ?_, ?_, ?_⟩, hLu, .inr (.inr (.inr (.inr ⟨rfl, rfl, rfl, rfl⟩)))⟩, by omega, by omega⟩
        all_goals first | rfl | assumption | trace_state
      · have hput : KP 34 [.agg [I n, .i (.lst []), .i (.lst []), .i (.lst [])], PE (edgeOf x y).1 (edgeOf x y).2] [] = some (.tup [.agg [I 0, .i .emp, .i .emp, .i .emp], B false], [], []) := hpn hP
        have Fz:=fz25 Tryz.results10 e2 m2 e3 mR e4 e5 m4 q0 q1 q2 u1 u2 u3 l1 hi hpk hge hc hpx hpy hxy hpz hz0 hput
        repeat'(first|exact trivial|refine go1 ?_|(refine go2 ?_ ?_<;>intro _<;>try(exfalso;omega))|(refine go4 ?_;split<;>((try(exfalso;omega));try refine go3 ?_)))
        refine ⟨p + 1 + 1 + 1 + 1, [], _, 0, 0, ⟨⟨?_, ?_, ?_, ?_, ?_, ?_⟩, c2, .inr (.inl ⟨rfl, rfl, rfl⟩)⟩, by omega, by omega⟩
        all_goals first | rfl | assumption | trace_state
    · have Fz:=fz24 Tryz.results10 e2 m2 e3 mR e4 e5 m4 q0 q1 q2 u1 u2 u3 l1 hi hpk hge hc hpx hpy hxy hpz hz0
      repeat'(first|exact trivial|refine go1 ?_|(refine go2 ?_ ?_<;>intro _<;>try(exfalso;omega))|(refine go4 ?_;split<;>((try(exfalso;omega));try refine go3 ?_)))
      refine ⟨p + 1 + 1 + 1 + 1, [], _, 0, 0, ⟨⟨?_, ?_, ?_, ?_, ?_, ?_⟩, c2, .inr (.inl ⟨rfl, rfl, rfl⟩)⟩, by omega, by omega⟩
      all_goals first | rfl | assumption | trace_state
  · by_cases hxy : x = y
    · have Fz:=fz22 Tryz.results10 e2 m2 e3 mR e4 e5 m4 q0 q1 q2 u1 u2 u3 l1 hi hpk hge hc hpx hpy hxy
      repeat'(first|exact trivial|refine go1 ?_|(refine go2 ?_ ?_<;>intro _<;>try(exfalso;omega))|(refine go4 ?_;split<;>((try(exfalso;omega));try refine go3 ?_)))
      refine ⟨p + 1 + 1 + 1, us, _, _, _, ⟨⟨?_, ?_, ?_, ?_, ?_, ?_⟩, c2, .inr (.inr (.inr (.inl ⟨rfl, rfl, rfl, rfl⟩)))⟩, by omega, by omega⟩
      all_goals first | rfl | assumption | trace_state
    by_cases hz0 : z = 0
    · by_cases hP : PlOK n us ((edgeOf x y).1, (edgeOf x y).2)
      · have hput := hpy' hP
        have hLu := hLV hP
        have Fz:=fz28 Tryz.results10 e2 m2 e3 mR e4 e5 m4 q0 q1 q2 u1 u2 u3 l1 hi hpk hge hc hpx hpy hxy hpz hz0 hput w1 w2 w3
        repeat'(first|exact trivial|refine go1 ?_|(refine go2 ?_ ?_<;>intro _<;>try(exfalso;omega))|(refine go4 ?_;split<;>((try(exfalso;omega));try refine go3 ?_)))
        refine ⟨p + 1 + 1 + 1 + 1, U, _, _, _, ⟨⟨?_, ?_, ?_, ?_, ?_, ?_⟩, hLu, .inr (.inr (.inr (.inr ⟨rfl, rfl, rfl, rfl⟩)))⟩, by omega, by omega⟩
        all_goals first | rfl | assumption | trace_state
      · have hput := hpn hP
        have Fz:=fz28 Tryz.results10 e2 m2 e3 mR e4 e5 m4 q0 q1 q2 u1 u2 u3 l1 hi hpk hge hc hpx hpy hxy hpz hz0 hput w1 w2 w3
        repeat'(first|exact trivial|refine go1 ?_|(refine go2 ?_ ?_<;>intro _<;>try(exfalso;omega))|(refine go4 ?_;split<;>((try(exfalso;omega));try refine go3 ?_)))
        refine ⟨p + 1 + 1 + 1 + 1, us, _, _, _, ⟨⟨?_, ?_, ?_, ?_, ?_, ?_⟩, c2, .inr (.inr (.inr (.inl ⟨rfl, rfl, rfl, rfl⟩)))⟩, by omega, by omega⟩
        all_goals first | rfl | assumption | trace_state
    · have Fz:=fz24 Tryz.results10 e2 m2 e3 mR e4 e5 m4 q0 q1 q2 u1 u2 u3 l1 hi hpk hge hc hpx hpy hxy hpz hz0
      repeat'(first|exact trivial|refine go1 ?_|(refine go2 ?_ ?_<;>intro _<;>try(exfalso;omega))|(refine go4 ?_;split<;>((try(exfalso;omega));try refine go3 ?_)))
      refine ⟨p + 1 + 1 + 1 + 1, us, _, _, _, ⟨⟨?_, ?_, ?_, ?_, ?_, ?_⟩, c2, .inr (.inr (.inr (.inl ⟨rfl, rfl, rfl, rfl⟩)))⟩, by omega, by omega⟩
      all_goals first | rfl | assumption | trace_state
end Go.Proofs.YtdlfdoicheakoaaGreat.X
