/- What functions compute: marks of lists of lists, at places. -/
import Derived.Test.YtdlfdoicheakoaaC173
set_option linter.unusedSimpArgs false
set_option linter.unusedVariables false
set_option maxHeartbeats 8000000
set_option maxRecDepth 100000
namespace Go.Proofs.Ytdlfdoicheakoaa.X
open Go Go.Proofs
theorem xw_fin' {P : Program} {fn : Func} {np : Nat} {res : PV × List Arr × List Arr} {e : Ex} {s : St} (he : e.fin = true) (h : (outP P fn np s).gives s.m res) : Post P fn np res e s := by
  obtain ⟨rd, h⟩ := h
  exact pn he ⟨res, rd, h, rfl⟩
/-- Places that are not one's own. -/
theorem coll_not {keep : Nat → Bool} {f : Nat → Nat} {m : Mem} : ∀ (ls : List (List Int)) (k n : Nat) (acc : List Nat), ls.length ≤ n → (∀ i, i < ls.length → keep (f (k + i)) = false) → (coll n keep (rowsF f k ls) acc).gives m acc
  | [], k, n, acc, _, _ => by rw [rowsF]; exact coll_nil
  | a :: r, k, n, acc, hn, hk => by
    obtain ⟨n, rfl⟩ : ∃ n', n = n' + 1 := ⟨n - 1, by simp at hn; omega⟩
    have h0 := hk 0 (by simp)
    rw [Nat.add_zero] at h0
    have ih := coll_not (keep := keep) (m := m) r (k + 1) n acc (by simpa using hn) fun i hi => by
      rw [show k + 1 + i = k + (i + 1) by omega]; exact hk (i + 1) (by simp; omega)
    rw [rowsF, coll]
    simp only [h0, Bool.false_and, Bool.false_eq_true, if_false]
    exact ih
abbrev pF (j : Nat) : Nat := 1000 + j
/-- A number is handed back, and lists at places. -/
theorem outP_mk {P : Program} {fn : Func} {st : St} {x : Int} {ls : List (List Int)} (hres : fn.results = #[.tmp 4]) (h4 : st.ρ 4 = I x) (hm : st.m 1000 = some (.rows 0 (rowsF pF 1 ls)))
    (hR : HR st.m pF 1 ls) (hl : ls.length ≤ 30) : (outP P fn (ls.length + 1) st).gives st.m (I x, .rows 0 (rowsF pF 1 ls) :: ls.map aI, []) := by
  have hcoll := coll_not (keep := ownSite) (f := pF) (m := st.m) ls 1 39 [] (by omega) fun i hi => by
    have h1 : ¬ (pF (1 + i) < 1000) := by unfold pF; omega
    have h2 : ¬ (3000 ≤ pF (1 + i)) := by unfold pF; omega
    unfold ownSite
    rw [decide_eq_false h1, decide_eq_false h2]; rfl
  unfold outP
  rw [hres]
  simp only [Mm.gives_bind, Mm.gives_ret, Mm.gives_chk]
  refine ⟨[I x], ?_, .rows 0 (rowsF pF 1 ls) :: ls.map aI, ?_, [], ?_, I x, ?_, .rows 0 (rowsF pF 1 ls) :: ls.map aI, ?_, [], by simp [Mm.gives_mapL_nil], rfl, rfl⟩
  · simp only [Mm.gives_mapL_cons, Mm.gives_mapL_nil, resP, Mm.gives_ret, h4]
    exact ⟨_, _, rfl, rfl, rfl⟩
  · refine mapL_gives (by simp) fun j a b ha hb => ?_
    have hj : j < ls.length + 1 := by have := (List.getElem?_eq_some_iff.1 ha).1; simpa using this
    rw [List.getElem?_range hj] at ha
    cases ha
    cases j with
    | zero => simp only [List.getElem?_cons_zero, Option.some.injEq] at hb; subst hb; simp only [Mm.gives_get, Nat.add_zero, hm, Mm.gives_ret]
    | succ q =>
      have hq : q < ls.length := by omega
      have e : ls[q]? = some (ls.getD q []) := by simp [hq]
      rw [List.getElem?_cons_succ, List.getElem?_map, e, Option.map_some, Option.some.injEq] at hb
      subst hb
      have := hR q hq
      rw [show pF (1 + q) = 1000 + (q + 1) by unfold pF; omega] at this
      simp only [Mm.gives_get, this, Mm.gives_ret]
  · show (coll 40 ownSite (I x :: (rowsF pF 1 ls ++ (ls.map aI).flatMap _)) []).gives st.m []
    rw [List.flatMap_eq_nil_iff.2, List.append_nil, coll]
    · exact hcoll
    · intro A hA
      obtain ⟨l, _, rfl⟩ := List.mem_map.1 hA
      rfl
  · exact ren_i
  · rw [Mm.gives_mapL_cons]
    refine ⟨_, _, ?_, ?_, rfl⟩
    · simp only [renArr, Mm.gives_bind, Mm.gives_ret, Arr.ver]
      refine ⟨_, ren_rows fun i hi => ?_, rfl⟩
      have := hR i hi
      simp only [lookBack, Mm.gives_get, this, Arr.ver, beq_self_eq_true, Mm.gives_chk, true_and]
      rw [if_pos (by unfold pF; omega), Mm.gives_ret]
    · refine mapL_gives (by simp) fun i a b ha hb => ?_
      rw [ha] at hb
      cases hb
      rw [List.getElem?_map] at ha
      cases h : ls[i]? with
      | none => rw [h] at ha; cases ha
      | some l =>
        rw [h, Option.map_some, Option.some.injEq] at ha
        subst ha
        simp only [renArr, Mm.gives_ret, Arr.ver]
theorem c_markIntSS (ls : List (List Int)) (hl : ls.length ≤ 30) (hp : ∀ p ∈ ls, p.length ≤ 1000) : KP 20 [.ref 1000 0 0 ls.length, I 1] (.rows 0 (rowsF pF 1 ls) :: ls.map aI) = some (I (1 + totLL ls), .rows 0 (rowsF pF 1 ls) :: (mkLL 1 ls).map aI, []) := by
  have hml : (mkLL 1 ls).length = ls.length := mkLL_len
  refine gc Try.func20 ?_
  have Fz:=fz1 Try.results20
  repeat'(first|exact trivial|refine go1 ?_|(refine go2 ?_ ?_<;>intro _<;>try(exfalso;omega))|(refine go4 ?_;split<;>((try(exfalso;omega));try refine go3 ?_)))
  refine xw_loopR (fun (i : Int) s => s.m 1000 = some (.rows 0 (rowsF pF 1 ls)) ∧ s.ρ 0 = .ref 1000 0 0 ls.length ∧ s.ρ 5 = I i ∧ s.ρ 1 = I (1 + totLL (ls.take i.toNat)) ∧ 0 ≤ i ∧ i ≤ ls.length ∧
    ∀ q, q < ls.length → s.m (1001 + q) = some (aI (if q < i.toNat then (mkLL 1 ls).getD q [] else ls.getD q []))) (fun i => (ls.length - i).toNat) 0 ?_ ?_
  · refine ⟨by simp [upd, initP], by simp [upd, initP], by simp [upd, initP], by simp [upd, initP, totLL], by simp, by simp, fun q hq => ?_⟩
    have e : ls[q]? = some (ls.getD q []) := by simp [hq]
    simp [initP, show 1001 + q - 1000 = q + 1 by omega, show 1000 ≤ 1001 + q by omega, hq]
  rintro i ⟨ρ, m⟩ ⟨m1, h0, h5, h1, g0, g1, g2⟩
  simp only at m1 h0 h5 h1 g0 g1 g2
  have hb := totLL_le (ls := ls.take i.toNat) (B := 1000) fun p hq => hp p (List.mem_of_mem_take hq)
  have hb2 : (ls.take i.toNat).length ≤ 30 := by rw [List.length_take]; omega
  have hb0 := totLL_nn (ls.take i.toNat)
  by_cases hi : i < ls.length
  · have hil : i.toNat < ls.length := by omega
    have hg := rowsF_get (f := pF) (k := 1) hil
    rw [show pF (1 + i.toNat) = 1001 + i.toNat by unfold pF; omega] at hg
    have hv := g2 i.toNat hil
    rw [if_neg (by omega)] at hv
    have hm := hp _ (getD_mem (d := []) hil)
    have hc := c_markIntS_at (ls.getD i.toNat []) (1 + totLL (ls.take i.toNat)) (by omega) (by omega)
    rw [← mkLL_get hil] at hc
    have ht := totLL_take hil
    rw [show i.toNat + 1 = (i + 1).toNat by omega] at ht
    have hrl := rowsF_len (f := pF) (ls := ls) (k := 1)
    generalize hle : ls.getD i.toNat [] = l at *
    generalize hme : (mkLL 1 ls).getD i.toNat [] = l' at *
    have Fz:=fz9 Try.results20 m1 h0 h5 h1 hg hv hc hrl
    repeat'(first|exact trivial|refine go1 ?_|(refine go2 ?_ ?_<;>intro _<;>try(exfalso;omega))|(refine go4 ?_;split<;>((try(exfalso;omega));try refine go3 ?_)))
    refine ⟨by omega, by omega, by omega, fun q hq => ?_, by omega⟩
    by_cases hqi : q = i.toNat
    · subst hqi
      rw [if_pos (by omega), hme]
      simp [upd]
    · have := g2 q hq
      by_cases hlt : q < i.toNat
      · rw [if_pos hlt] at this
        rw [if_pos (by omega), ← this]
        simp [upd, hqi]
      · rw [if_neg hlt] at this
        rw [if_neg (by omega), ← this]
        simp [upd, hqi]
  · rw [take_all (by omega)] at h1
    have Fz:=fz5 Try.results20 m1 h0 h5 h1
    repeat'(first|exact trivial|refine goP ?_|(refine go2 ?_ ?_<;>intro _<;>try(exfalso;omega))|(refine go4 ?_;split<;>((try(exfalso;omega));try refine go3 ?_)))
    have key : ∀ st : St, st.ρ 4 = I (1 + totLL ls) → st.m = m → (outP Try.prog Try.f20 (ls.length + 1) st).gives st.m (I (1 + totLL ls), .rows 0 (rowsF pF 1 ls) :: (mkLL 1 ls).map aI, []) := by
      intro st h4 hm
      have ho := outP_mk (P := Try.prog) (fn := Try.f20) (ls := mkLL 1 ls) Try.results20 h4 (by rw [hm, rowsF_mk]; exact m1) (fun q hq => by
        rw [hml] at hq
        have := g2 q hq
        rw [if_pos (by omega)] at this
        rw [hm, show pF (1 + q) = 1001 + q by unfold pF; omega]
        exact this) (by omega)
      rwa [rowsF_mk, hml] at ho
    exact xw_fin' rfl (key _ (by simp [upd]) rfl)
theorem c_markIntSS_nil : KP 20 [.i .emp, I 1] [] = some (I 1, [], []) := by
  refine gc Try.func20 ?_
  have Fz:=fz1 Try.results20
  repeat'(first|exact trivial|refine go1 ?_|(refine go2 ?_ ?_<;>intro _<;>try(exfalso;omega))|(refine go4 ?_;split<;>((try(exfalso;omega));try refine go3 ?_)))
  refine xw_loopR (fun (u : Int) s => s.ρ 0 = .i .emp ∧ s.ρ 5 = I 0 ∧ s.ρ 1 = I 1) (fun u => 0) 0 (by simp [upd, initP]) ?_
  rintro i ⟨ρ, m⟩ ⟨h0, h5, h1⟩
  simp only at h0 h5 h1
  have Fz:=fz4 Try.results20 h0 h5 h1
  repeat'(first|exact trivial|refine go1 ?_|(refine go2 ?_ ?_<;>intro _<;>try(exfalso;omega))|(refine go4 ?_;split<;>((try(exfalso;omega));try refine go3 ?_)))
theorem c_heldIntSS_nil : KP 21 [.i (.lst []), I 1] [] = some (I 1, [], []) := c_heldIntSS [] (by simp) (by simp)
theorem c_eqIntSS_nil : KP 17 [.i (.lst []), .i (.lst [])] [] = some (B true, [], []) := c_eqIntSS [] [] (by simp) (by simp)
end Go.Proofs.Ytdlfdoicheakoaa.X
