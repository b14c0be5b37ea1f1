/- What functions compute: graphs with levels are drawn. -/
import Derived.Test.YtdlfdoicheakoaaGreatC152
set_option linter.unusedSimpArgs false
set_option linter.unusedVariables false
set_option maxHeartbeats 16000000
set_option maxRecDepth 100000
namespace Go.Proofs.YtdlfdoicheakoaaGreat.X
open Go Go.Proofs
theorem dr_exit3600 {σ : Type} {R : σ → St → Prop} {μ : σ → Nat} {k0 : Nat} {n : Int} {cs : List Int} {p i : Int} {ts : List Tl} {v0 v1 v2 : Nat} (hcs : bytes cs) (hp : 0 ≤ p ∧ p ≤ 100000) (hL : LV n ts) (hgo : ¬ (0 < i ∧ 0 < ts.length)) (st : St) (hB : DrB cs p i st) (hA : DrA n ts 3600 v0 v1 v2 st) (b tl : Code) (hb : (Tryz.f10.body).bind loopOf = some b) (ht : (Tryz.f10.body).bind tailOf = some tl) :
    XW Tryz.prog cfg 10 b st (LQ R μ k0 (bl 0 (sq Tryz.prog cfg 10 tl (PostE Tryz.prog Tryz.f10 0 (DrR n))))) := by
  have hVt := hL.vg
  have hll := lv_in hL
  have hel := hVt.2.2.1
  have l1 := esT_len' ts
  have l2 := lvT_len ts
  have l3 := trT_len ts
  obtain ⟨ρ, m⟩ := st
  obtain ⟨e2, m2, e3, mR, e4, e5⟩ := hB
  obtain ⟨m4, q0, q1, q2⟩ := hA
  simp only [Nat.reduceAdd] at e2 m2 e3 mR e4 e5 m4 q0 q1 q2
  simp only [Tryz.f10, Option.bind_some, loopOf, Option.some.injEq] at hb
  simp only [Tryz.f10, Option.bind_some, tailOf, loopOf, Option.some.injEq] at ht
  subst hb
  subst ht
  obtain ⟨w, hw, -, hpw⟩ := c_pick cs p 24 hcs (by omega) (by omega)
  have hw' := hw (by omega)
  obtain ⟨k, hk, -, hpk⟩ := c_pick cs (p + 1) ts.length hcs (by omega) (by omega)
  obtain ⟨v, hv, hnum⟩ := c_num cs (p + 1 + 1) [5, -1, 4, 1] hcs (by omega) (by simp) (by simp)
  have hv' : -1 ≤ v ∧ v ≤ 5 := by
    have : ∀ x ∈ [5, -1, 4, (1 : Int)], -1 ≤ x ∧ x ≤ 5 := by decide
    exact this v hv
  simp only [List.map_cons, List.map_nil, encI, List.length_cons, List.length_nil, Nat.reduceAdd] at hnum
  obtain ⟨y, -, -, hpy⟩ := c_pick cs (p + 1 + 1) 2 hcs (by omega) (by omega)
  have ht0 : ∀ N : Nat, ts.length = N → DrR n (.agg [I n, .ref 2000 0 0 N, .ref 2001 0 0 N, .ref 2002 0 0 N], [], [.arr 0 2 ((esT ts).map encE), .arr 0 1 ((lvT ts).map encI), .arr 0 1 ((trT ts).map encT)]) := fun N hN => DrR.of hVt (by omega) (by omega) (by omega) (.inl rfl) hll
  by_cases hz : ts.length = 0
  · rw [hz] at m4 ht0
    have hD := ht0 0 rfl
    have Fz:=fz11 Tryz.results10 e2 m2 e3 mR e4 e5 m4 q0 q1 q2
    repeat'(first|exact trivial|refine go1 ?_|(refine go2 ?_ ?_<;>intro _<;>try(exfalso;omega))|(refine go4 ?_;split<;>((try(exfalso;omega));try refine go3 ?_)))
    all_goals exact hD
  have hi0 : ¬ 0 < i := fun h => hgo ⟨h, by omega⟩
  have hk' := hk (by omega)
  by_cases hw0 : w = 0
  · have Fz:=fz19 Tryz.results10 e2 m2 e3 mR e4 e5 m4 q0 q1 q2 hi0 hpw hw0 hpk hnum l1 l2 l3
    repeat'(first|exact trivial|refine go1 ?_|(refine go2 ?_ ?_<;>intro _<;>try(exfalso;omega))|(refine go4 ?_;split<;>((try(exfalso;omega));try refine go3 ?_)))
    all_goals exact DrR.of hVt (by omega) (by omega) (by rw [List.length_set]; omega) (.inl rfl) (set_in hll hv')
  by_cases hw1 : w = 1
  · have Fz:=fz19 Tryz.results10 e2 m2 e3 mR e4 e5 m4 q0 q1 q2 hi0 hpw hw1 hpk hpy l1 l2 l3
    repeat'(first|exact trivial|refine go1 ?_|(refine go2 ?_ ?_<;>intro _<;>try(exfalso;omega))|(refine go4 ?_;split<;>((try(exfalso;omega));try refine go3 ?_)))
    all_goals exact DrR.of hVt (by omega) (by rw [List.length_set]; omega) (by omega) (.inl rfl) hll
  by_cases hw2 : w = 2
  · have Fz:=fz17 Tryz.results10 e2 m2 e3 mR e4 e5 m4 q0 q1 q2 hi0 hpw hw2 l1 l2 l3
    repeat'(first|exact trivial|refine go1 ?_|(refine go2 ?_ ?_<;>intro _<;>try(exfalso;omega))|(refine go4 ?_;split<;>((try(exfalso;omega));try refine go3 ?_)))
    all_goals exact DrR.of hVt (by omega) (by omega) (by omega) (.inr (by omega)) hll
  · have Fz:=fz19 Tryz.results10 e2 m2 e3 mR e4 e5 m4 q0 q1 q2 hi0 hpw hw0 hw1 hw2 l1 l2 l3
    repeat'(first|exact trivial|refine go1 ?_|(refine go2 ?_ ?_<;>intro _<;>try(exfalso;omega))|(refine go4 ?_;split<;>((try(exfalso;omega));try refine go3 ?_)))
    all_goals exact ht0 _ rfl
end Go.Proofs.YtdlfdoicheakoaaGreat.X
