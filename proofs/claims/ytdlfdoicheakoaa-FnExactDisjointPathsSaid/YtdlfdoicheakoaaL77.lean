/- The law: DisjointPaths as the reference has it, with places of its own. -/
import Derived.Test.YtdlfdoicheakoaaC176
set_option linter.unusedSimpArgs false
set_option linter.unusedVariables false
set_option maxHeartbeats 8000000
set_option maxRecDepth 100000
namespace Go.Proofs.Ytdlfdoicheakoaa.X
open Go Go.Proofs
theorem law_ExactDisjointPaths (n : Int) (es : List (Int × Int)) (okn : okI n) (okes : ∀ q ∈ es, okI q.1 ∧ okI q.2) (okl : es.length ≤ 9223372036854775807) (x : Int) (okx : okI x) (y : Int) (oky : okI y) : KP 4 [GL n es, I x, I y] [] = some (B true, [], []) := by
  have hsz := c_szGraph n es okl
  by_cases hbig : 1048576 < (es.length : Int)
  · rw [if_pos hbig] at hsz
    refine gc Try.func4 ?_
    have Fz:=fz2 Try.results4 hsz
    repeat'(first|exact trivial|refine go1 ?_|(refine go2 ?_ ?_<;>intro _<;>try(exfalso;omega))|(refine go4 ?_;split<;>((try(exfalso;omega));try refine go3 ?_)))
  rw [if_neg hbig] at hsz
  have hs := c_sDisjointPaths n x y es (by omega)
  have htg := c_toGraph n es (by omega)
  obtain ⟨us, hul, hmg⟩ := c_markGraph n es (by omega)
  by_cases h : Pr n x y es
  · rw [if_pos h] at hs
    have hp := c_DisjointPathsR n x y es (by omega) h
    obtain ⟨hk, hk'⟩ := dp_small h
    generalize dpPs n es x y (flN n es x y) = ps at hp hs hk hk'
    have hu : ∀ (m : Mem) (s : Nat) (ls : List (List Int)), (s < 3297 ∨ 3304 ≤ s) → s < 1000000 → updL m (wrs (rF 37) ls) s = m s := fun m s ls h0 h1 => updL_at h0 h1
    have hw : ∀ (m : Mem) (s : Nat) (ls : List (List Int)), (s < 3689 ∨ 3696 ≤ s) → s < 1000000 → updL m (wrs (rF 86) ls) s = m s := fun m s ls h0 h1 => updL_at h0 h1
    have he := c_eqIntSS ps ps (by omega) fun p hq => by have := hk' p hq; omega
    rw [decide_eq_true rfl] at he
    have hmk := c_markIntSS ps (by omega) fun p hq => by have := hk' p hq; omega
    have hhd := c_heldIntSS ps (by omega) fun p hq => by have := hk' p hq; omega
    have ht0 := totLL_nn ps
    have hml : (mkLL 1 ps).length = ps.length := mkLL_len
    have hj : ∀ i j, rF 37 i = rF 37 j → i = j := rF_inj (by omega)
    have hj' : ∀ i j, rF 86 i = rF 86 j → i = j := rF_inj (by omega)
    refine gc Try.func4 ?_
    have Fz:=fz7 Try.results4 hsz hs htg hu hw hmg
    repeat'(first|exact trivial|refine go1 ?_|(refine go2 ?_ ?_<;>intro _<;>try(exfalso;omega))|(refine go4 ?_;split<;>((try(exfalso;omega));try refine go3 ?_)))
    rw [run_of (call_rows (me := 4) (fid := 16) (d := 37) (ls := ps) (args' := [GL n es, I x, I y]) rfl rfl ?_ hp (by omega) ?_)]
    rotate_left
    · exact frz_graph (by simp [upd])
    · intro j _
      have f1 := @site0 37 j
      simp [upd, f1]
    refine go3 ?_
    have Fz:=fz7 Try.results4 hsz hs htg hu hw hmg
    repeat'(first|exact trivial|refine go1 ?_|(refine go2 ?_ ?_<;>intro _<;>try(exfalso;omega))|(refine go4 ?_;split<;>((try(exfalso;omega));try refine go3 ?_)))
    rw [run_of (call_look (me := 4) (d := 42) (fid := 17) (f := rF 37) (ls := ps) (v := .bool true) rfl rfl ?_ ?_ (by simp) he)]
    rotate_left
    · simp [upd, hu]
    · exact HR_wrs hj
    refine go3 ?_
    have Fz:=fz7 Try.results4 hsz hs htg hu hw hmg
    repeat'(first|exact trivial|refine go1 ?_|(refine go2 ?_ ?_<;>intro _<;>try(exfalso;omega))|(refine go4 ?_;split<;>((try(exfalso;omega));try refine go3 ?_)))
    rw [run_of (call_look (me := 4) (d := 62) (fid := 17) (f := rF 37) (ls := ps) (v := .bool true) rfl rfl ?_ ?_ (by simp) he)]
    rotate_left
    · simp [upd, hu]
    · exact HR_upd (HR_wrs hj) (fun i => rF_at (by omega) (by omega))
    refine go3 ?_
    have Fz:=fz7 Try.results4 hsz hs htg hu hw hmg
    repeat'(first|exact trivial|refine go1 ?_|(refine go2 ?_ ?_<;>intro _<;>try(exfalso;omega))|(refine go4 ?_;split<;>((try(exfalso;omega));try refine go3 ?_)))
    rw [run_of (call_mark (me := 4) (d := 72) (fid := 20) (f := rF 37) (ls := ps) (qs := mkLL 1 ps) (v := .int .i64 (1 + totLL ps)) rfl rfl hj (fun i => rF_at (by omega) (by omega)) (by omega) hml ?_ ?_ hmk)]
    rotate_left
    · simp [upd, hu]
    · exact HR_upd (HR_wrs hj) (fun i => rF_at (by omega) (by omega))
    refine go3 ?_
    have Fz:=fz7 Try.results4 hsz hs htg hu hw hmg
    repeat'(first|exact trivial|refine go1 ?_|(refine go2 ?_ ?_<;>intro _<;>try(exfalso;omega))|(refine go4 ?_;split<;>((try(exfalso;omega));try refine go3 ?_)))
    rw [run_of (call_look' (me := 4) (d := 75) (fid := 21) (f := rF 37) (ls := (mkLL 1 ps)) (v := .int .i64 (1 + totLL ps)) hml rfl rfl ?_ ?_ (by simp) hhd)]
    rotate_left
    · rw [rowsF_mk]; simp [upd, hu]
    · exact HR_wrs hj
    refine go3 ?_
    have Fz:=fz7 Try.results4 hsz hs htg hu hw hmg
    repeat'(first|exact trivial|refine go1 ?_|(refine go2 ?_ ?_<;>intro _<;>try(exfalso;omega))|(refine go4 ?_;split<;>((try(exfalso;omega));try refine go3 ?_)))
    rw [run_of (call_rows (me := 4) (fid := 16) (d := 86) (ls := ps) (args' := [GL n es, I x, I y]) rfl rfl ?_ hp (by omega) ?_)]
    rotate_left
    · simp [Mm.gives, Mm.mapL, frzA, frz, Mm.bind, Mm.run]
    · intro j hjl
      have f1 := @site0 86 j
      have f2 : ∀ (m : Mem) (ls : List (List Int)), ls.length ≤ 16 → updL m (wrs (rF 37) ls) (siteOf 86 j) = m (siteOf 86 j) := fun m ls hl => updL_wrs_ne fun i hi => rF_free (by omega) (by omega) (by omega) (by omega) (by omega)
      simp [upd, f1, f2, hml, hk]
    refine go3 ?_
    have Fz:=fz7 Try.results4 hsz hs htg hu hw hmg
    repeat'(first|exact trivial|refine go1 ?_|(refine go2 ?_ ?_<;>intro _<;>try(exfalso;omega))|(refine go4 ?_;split<;>((try(exfalso;omega));try refine go3 ?_)))
    rw [run_of (call_look (me := 4) (d := 91) (fid := 17) (f := rF 86) (ls := ps) (v := .bool true) rfl rfl ?_ ?_ (by simp) he)]
    rotate_left
    · simp [upd, hu, hw]
    · exact HR_wrs hj'
    refine go3 ?_
    have Fz:=fz7 Try.results4 hsz hs htg hu hw hmg
    repeat'(first|exact trivial|refine go1 ?_|(refine go2 ?_ ?_<;>intro _<;>try(exfalso;omega))|(refine go4 ?_;split<;>((try(exfalso;omega));try refine go3 ?_)))
    rw [run_of (call_look' (me := 4) (d := 100) (fid := 21) (f := rF 37) (ls := (mkLL 1 ps)) (v := .int .i64 (1 + totLL ps)) hml rfl rfl ?_ ?_ (by simp) hhd)]
    rotate_left
    · rw [rowsF_mk]; simp [upd, hu, hw]
    · exact HR_updL (HR_upd (HR_wrs hj) (fun i => rF_at (by omega) (by omega))) fun i j hi _ => rF_rF (by omega) (by omega) (by omega)
    refine go3 ?_
    have Fz:=fz7 Try.results4 hsz hs htg hu hw hmg
    repeat'(first|exact trivial|refine go1 ?_|(refine go2 ?_ ?_<;>intro _<;>try(exfalso;omega))|(refine go4 ?_;split<;>((try(exfalso;omega));try refine go3 ?_)))
  · rw [if_neg h] at hs
    have hp := c_DisjointPaths_no n x y es (by omega) h
    have he := c_eqIntSS_nil
    have hmk := c_markIntSS_nil
    have hhd := c_heldIntSS_nil
    refine gc Try.func4 ?_
    have Fz:=fz11 Try.results4 hsz hp hs htg hmg he hmk hhd decide_true @lmn
    repeat'(first|exact trivial|refine go1 ?_|(refine go2 ?_ ?_<;>intro _<;>try(exfalso;omega))|(refine go4 ?_;split<;>((try(exfalso;omega));try refine go3 ?_)))
    unfold callQ
    refine go3 ?_
    have Fz:=fz11 Try.results4 hsz hp hs htg hmg he hmk hhd decide_true @lmn
    repeat'(first|exact trivial|refine go1 ?_|(refine go2 ?_ ?_<;>intro _<;>try(exfalso;omega))|(refine go4 ?_;split<;>((try(exfalso;omega));try refine go3 ?_)))
    unfold callQ
    refine go3 ?_
    have Fz:=fz11 Try.results4 hsz hp hs htg hmg he hmk hhd decide_true @lmn
    repeat'(first|exact trivial|refine go1 ?_|(refine go2 ?_ ?_<;>intro _<;>try(exfalso;omega))|(refine go4 ?_;split<;>((try(exfalso;omega));try refine go3 ?_)))
    unfold callQ
    refine go3 ?_
    have Fz:=fz11 Try.results4 hsz hp hs htg hmg he hmk hhd decide_true @lmn
    repeat'(first|exact trivial|refine go1 ?_|(refine go2 ?_ ?_<;>intro _<;>try(exfalso;omega))|(refine go4 ?_;split<;>((try(exfalso;omega));try refine go3 ?_)))
    unfold callQ
    refine go3 ?_
    have Fz:=fz11 Try.results4 hsz hp hs htg hmg he hmk hhd decide_true @lmn
    repeat'(first|exact trivial|refine go1 ?_|(refine go2 ?_ ?_<;>intro _<;>try(exfalso;omega))|(refine go4 ?_;split<;>((try(exfalso;omega));try refine go3 ?_)))
    unfold callQ
    refine go3 ?_
    have Fz:=fz11 Try.results4 hsz hp hs htg hmg he hmk hhd decide_true @lmn
    repeat'(first|exact trivial|refine go1 ?_|(refine go2 ?_ ?_<;>intro _<;>try(exfalso;omega))|(refine go4 ?_;split<;>((try(exfalso;omega));try refine go3 ?_)))
    unfold callQ
    refine go3 ?_
    have Fz:=fz11 Try.results4 hsz hp hs htg hmg he hmk hhd decide_true @lmn
    repeat'(first|exact trivial|refine go1 ?_|(refine go2 ?_ ?_<;>intro _<;>try(exfalso;omega))|(refine go4 ?_;split<;>((try(exfalso;omega));try refine go3 ?_)))
    unfold callQ
    refine go3 ?_
    have Fz:=fz11 Try.results4 hsz hp hs htg hmg he hmk hhd decide_true @lmn
    repeat'(first|exact trivial|refine go1 ?_|(refine go2 ?_ ?_<;>intro _<;>try(exfalso;omega))|(refine go4 ?_;split<;>((try(exfalso;omega));try refine go3 ?_)))
    unfold callQ
    refine go3 ?_
    have Fz:=fz11 Try.results4 hsz hp hs htg hmg he hmk hhd decide_true @lmn
    repeat'(first|exact trivial|refine go1 ?_|(refine go2 ?_ ?_<;>intro _<;>try(exfalso;omega))|(refine go4 ?_;split<;>((try(exfalso;omega));try refine go3 ?_)))
end Go.Proofs.Ytdlfdoicheakoaa.X
