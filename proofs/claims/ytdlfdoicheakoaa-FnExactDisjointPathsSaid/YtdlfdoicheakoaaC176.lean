/- Calls that make places of lists, and calls that write to them. -/
import Derived.Test.YtdlfdoicheakoaaC175
set_option linter.unusedSimpArgs false
set_option linter.unusedVariables false
set_option maxHeartbeats 8000000
set_option maxRecDepth 100000
namespace Go.Proofs.Ytdlfdoicheakoaa.X
open Go Go.Proofs
theorem flat_rowsF {f : Nat → Nat} : ∀ {ls : List (List Int)} {k : Nat}, (rowsF f k ls).all flatC = true
  | [], _ => rfl
  | a :: r, k => by rw [rowsF, List.all_cons, flat_rowsF]; rfl
theorem flat_aI {ls : List (List Int)} : (ls.map aI).all flatA = true := by
  rw [List.all_eq_true]
  intro A hA
  obtain ⟨l, _, rfl⟩ := List.mem_map.1 hA
  show (l.map encI).all (fun e => e.all flatIV) = true
  rw [List.all_eq_true]
  intro e he
  obtain ⟨x, _, rfl⟩ := List.mem_map.1 he
  rfl
theorem coll_i {n : Nat} {keep : Nat → Bool} {x : IV} {r : List PV} {acc a : List Nat} {m : Mem} (h : (coll n keep r acc).gives m a) : (coll (n + 1) keep (.i x :: r) acc).gives m a := by
  rw [coll]; exact h
section
variable {cf : Cfg} {C : CallS} {me fid : FuncId} {d : Nat} {m : Mem}
theorem call_rows {ls : List (List Int)} {args args' : List PV} (hmu : cf.mutF fid = false) (hown : cf.own me d = true) (hargs : (Mm.mapL frzA args).gives m args')
    (hc : C fid args' [] = some (.tup [.ref 2000 0 0 ls.length, B true], [], .rows 0 (rowsF (fun i => 2001 + i) 0 ls) :: ls.map aI)) (hl : ls.length ≤ 60) (h0 : ∀ j, j ≤ ls.length → m (siteOf d j) = none) :
    (callQ cf C me (some d) fid args).gives m (.tup [.ref (siteOf d 0) 0 0 ls.length, B true], (siteOf d 0, .rows 0 (rowsF (rF d) 0 ls)) :: wrs (rF d) ls) := by
  unfold callQ callP
  rw [hmu]
  simp only [Bool.false_eq_true, if_false, Mm.gives_bind]
  refine ⟨_, hargs, ?_⟩
  simp only [hc, hown, if_true, Mm.gives_chk]
  refine ⟨?_, back_rows hl h0⟩
  rw [List.all_cons, flat_aI, show flatA (.rows 0 (rowsF (fun i => 2001 + i) 0 ls)) = true from flat_rowsF]
  simp [flatP, flatC, flatIV]
theorem send_rows {s : Nat} {f : Nat → Nat} {ls : List (List Int)} {x : IV} (hf : ∀ i j, f i = f j → i = j) (hfs : ∀ i, f i ≠ s) (hl : ls.length ≤ 30) (hs : m s = some (.rows 0 (rowsF f 0 ls))) (hR : HR m f 0 ls) :
    (sendM [.ref s 0 0 ls.length, .i x]).gives m (s :: sitesF f 0 ls.length, [.ref 1000 0 0 ls.length, .i x], .rows 0 (rowsF pF 1 ls) :: ls.map aI, 0 :: ls.map fun _ => 0) := by
  have hnd : (s :: sitesF f 0 ls.length).Nodup := by
    rw [List.nodup_cons]
    exact ⟨fun h => by obtain ⟨i, -, h⟩ := mem_sitesF.1 h; exact hfs _ h.symm, nodup_sites hf⟩
  have hget : ∀ i, i < ls.length → (s :: sitesF f 0 ls.length)[i + 1]? = some (f i) := fun i hi => by
    rw [List.getElem?_cons_succ, sitesF_get hi, Nat.zero_add]
  have hidx : ∀ i, i < ls.length → (s :: sitesF f 0 ls.length).idxOf (f i) = i + 1 := fun i hi => idx_at hnd (hget i hi)
  have hcon : ∀ i, i < ls.length → (s :: sitesF f 0 ls.length).contains (f i) = true := fun i hi => by
    rw [List.contains_iff_mem]; exact List.mem_of_getElem? (hget i hi)
  have hll : (s :: sitesF f 0 ls.length).length ≤ 1000 := by rw [List.length_cons, sitesF_len]; omega
  have hcoll := coll_rows (keep := fun _ => true) (m := m) hf ls 0 39 [s] (by omega) (fun i _ => rfl) (fun i _ => by rw [List.mem_singleton]; exact hfs _) hR
  rw [List.singleton_append] at hcoll
  have h1000 : (lookIn 1000 (s :: sitesF f 0 ls.length) s 0).gives m (1000, 0) := by
    simp only [lookIn, Mm.gives_get, hs, Arr.ver, beq_self_eq_true, List.contains_cons, Bool.true_or, Bool.and_self, Mm.gives_chk, true_and, Mm.gives_ret]
    simp
  unfold sendM
  simp only [Mm.gives_bind, Mm.gives_chk]
  refine ⟨s :: sitesF f 0 ls.length, ?_, [.ref 1000 0 0 ls.length, .i x], ?_, (.rows 0 (rowsF pF 1 ls), 0) :: ls.map (fun l => (aI l, 0)), ?_, by rw [decide_eq_true hnd, decide_eq_true hll]; rfl, ?_⟩
  · rw [coll]
    simp only [List.contains_nil, Bool.not_false, Bool.and_self, if_true, Mm.gives_get, hs, List.nil_append, Mm.gives_bind]
    exact ⟨_, hcoll, coll_i coll_nil⟩
  · rw [Mm.gives_mapL_cons]
    refine ⟨_, _, ren_ref h1000, ?_, rfl⟩
    rw [Mm.gives_mapL_cons]
    exact ⟨_, _, ren_i, Mm.gives_mapL_nil.2 rfl, rfl⟩
  · rw [Mm.gives_mapL_cons]
    refine ⟨_, _, ?_, mapL_gives (by rw [sitesF_len, List.length_map]) fun i a b ha hb => ?_, rfl⟩
    · simp only [Mm.gives_get, hs, renArr, Mm.gives_bind, Mm.gives_ret, Arr.ver]
      refine ⟨_, ⟨_, ren_rows (g := pF) (j := 1) fun i hi => ?_, rfl⟩, rfl⟩
      have := hR i hi
      rw [Nat.zero_add] at this ⊢
      simp only [lookIn, Mm.gives_get, this, Arr.ver, beq_self_eq_true, hcon i hi, Bool.and_self, Mm.gives_chk, true_and, Mm.gives_ret, hidx i hi]
      rw [show 1000 + (i + 1) = pF (1 + i) by unfold pF; omega]
    · have hi : i < ls.length := by have := (List.getElem?_eq_some_iff.1 ha).1; rwa [sitesF_len] at this
      rw [sitesF_get hi] at ha
      cases ha
      have e : ls[i]? = some (ls.getD i []) := by simp [hi]
      rw [List.getElem?_map, e, Option.map_some, Option.some.injEq] at hb
      subst hb
      have := hR i hi
      simp only [Mm.gives_get, this, renArr, Mm.gives_bind, Mm.gives_ret, Arr.ver]
      exact ⟨_, rfl, rfl⟩
  · rw [Mm.gives_ret]
    simp only [List.map_cons, List.map_map]
    rfl
theorem back_mark {s : Nat} {f : Nat → Nat} {ls qs : List (List Int)} {v : Value} (hq : qs.length = ls.length) (hl : ls.length ≤ 30) :
    (backO d (s :: sitesF f 0 ls.length) (0 :: ls.map fun _ => 0) (.i (.v v)) (.rows 0 (rowsF pF 1 ls) :: qs.map aI) []).gives m (.i (.v v), (s, .rows 0 (rowsF f 0 ls)) :: wrs f qs) := by
  unfold backO
  simp only [Mm.gives_bind, Mm.gives_chk, List.length_nil, List.range_zero]
  refine ⟨[], Mm.gives_mapL_nil.2 rfl, .i (.v v), ren_i, (s, .rows 0 (rowsF f 0 ls)) :: wrs f qs, ?_, [], by simp [Mm.gives_mapL_nil], by simp, by rw [List.append_nil]; exact Mm.gives_ret.2 rfl⟩
  have e : ((s :: sitesF f 0 ls.length).zip (0 :: ls.map fun _ => 0)).zip (Arr.rows 0 (rowsF pF 1 ls) :: qs.map aI) = ((s, 0), Arr.rows 0 (rowsF pF 1 ls)) :: (List.range qs.length).map fun i => ((f i, 0), aI (qs.getD i [])) := by
    refine List.ext_getElem (by simp [sitesF_len, hq]) fun i h1 h2 => ?_
    cases i with
    | zero => simp
    | succ q => simp at h2; simp [h2, sitesF]
  rw [e, Mm.gives_mapL_cons]
  refine ⟨_, _, ?_, mapL_map fun i hi => ?_, rfl⟩
  · simp only [Mm.gives_bind, renArr, Mm.gives_ret, Arr.ver]
    refine ⟨_, ⟨_, ren_rows (g := f) (j := 0) fun i hi => ?_, rfl⟩, rfl⟩
    unfold lookOut
    rw [if_neg (by unfold pF; omega), if_pos (by unfold pF; omega), show pF (1 + i) - 1000 = i + 1 by unfold pF; omega]
    rw [List.getElem?_cons_succ, List.getElem?_cons_succ, sitesF_get hi, List.getElem?_map]
    have e : ls[i]? = some (ls.getD i []) := by simp [hi]
    rw [e]
    exact Mm.gives_ret.2 rfl
  · simp only [Mm.gives_bind, renArr, Mm.gives_ret, Arr.ver]
    exact ⟨_, rfl, rfl⟩
theorem call_mark {s : Nat} {f : Nat → Nat} {ls qs : List (List Int)} {x : IV} {v : Value} (hmu : cf.mutF fid = true) (hown : cf.own me d = false) (hf : ∀ i j, f i = f j → i = j) (hfs : ∀ i, f i ≠ s) (hl : ls.length ≤ 30) (hq : qs.length = ls.length)
    (hs : m s = some (.rows 0 (rowsF f 0 ls))) (hR : HR m f 0 ls) (hc : C fid [.ref 1000 0 0 ls.length, .i x] (.rows 0 (rowsF pF 1 ls) :: ls.map aI) = some (.i (.v v), .rows 0 (rowsF pF 1 ls) :: qs.map aI, [])) :
    (callQ cf C me (some d) fid [.ref s 0 0 ls.length, .i x]).gives m (.i (.v v), (s, .rows 0 (rowsF f 0 ls)) :: wrs f qs) := by
  unfold callQ callP
  rw [hmu]
  simp only [if_true, Mm.gives_bind]
  refine ⟨_, send_rows hf hfs hl hs hR, ?_⟩
  simp only [hc, hown, Bool.false_eq_true, if_false, Mm.gives_bind, Mm.gives_opt]
  exact ⟨.i (.v v), rfl, back_mark hq hl⟩
theorem call_look' {s N : Nat} {f : Nat → Nat} {ls : List (List Int)} {x : IV} {v : Value} (hN : ls.length = N) (hmu : cf.mutF fid = false) (hown : cf.own me d = false) (hs : m s = some (.rows 0 (rowsF f 0 ls))) (hR : HR m f 0 ls) (hx : x ≠ .emp)
    (hc : C fid [LL ls, .i x] [] = some (.i (.v v), [], [])) : (callQ cf C me (some d) fid [.ref s 0 0 N, .i x]).gives m (.i (.v v), []) := by
  subst hN
  exact call_look hmu hown hs hR hx hc
end
theorem frz_graph {m : Mem} {s : Nat} {n x y : Int} {es : List (Int × Int)} (hs : m s = some (.arr 0 2 (es.map encE))) : (Mm.mapL frzA [.agg [I n, .ref s 0 0 es.length], I x, I y]).gives m [GL n es, I x, I y] := by
  simp [Mm.gives, Mm.mapL, frzA, frz, Mm.bind, Mm.run, Mm.chk, hs]
  exact List.take_of_length_le (by simp)
theorem site0 {d j s : Nat} (h0 : s < 3000 + d * 8 ∨ 3008 + d * 8 ≤ s) (h1 : s < 1000000) : ¬ siteOf d j = s := by
  unfold siteOf
  split <;> omega
theorem rF_free {d c i j : Nat} (h : d ≠ c) (hd : d < 900) (hc : c < 900) (hi : i < 900) (hj : j < 900) : rF d i ≠ siteOf c j := by
  unfold rF siteOf
  split <;> split <;> omega
theorem dp_small {n x y : Int} {es : List (Int × Int)} (h : Pr n x y es) : (dpPs n es x y (flN n es x y)).length ≤ 16 ∧ ∀ p ∈ dpPs n es x y (flN n es x y), p.length ≤ 16 := by
  obtain ⟨hV, hx, hy, hxy⟩ := h
  have ho := hV.okg.ok
  have hnd := hV.nodup
  have hn16 := hV.2.1
  constructor
  · rw [dpPs_len]
    have h1 := (flow_deg ho hnd hx hy hxy).1
    have h2 := len_le_of_sub (l := nbS x es) (m := iota n) ((sorted_nbS ho hnd x).imp fun h => by omega) fun v hv => by
      have := mem_nbS ho |>.1 hv
      rw [mem_iota]
      rcases this with h | h
      · have := ho _ h; unfold okE at this; simp only at this; omega
      · have := ho _ h; unfold okE at this; simp only at this; omega
    rw [iota_length] at h2
    omega
  · intro p hp
    obtain ⟨i, hi, rfl⟩ := List.mem_map.1 hp
    exact way_len ho (dp_way ho hnd hx hy hxy (List.mem_range.1 hi)) hy hn16
theorem HR_upd {m : Mem} {f : Nat → Nat} {ls : List (List Int)} {s : Nat} {A : Option Arr} (h : HR m f 0 ls) (hs : ∀ i, f i ≠ s) : HR (upd m s A) f 0 ls := fun i hi => by
  rw [upd, if_neg (hs _)]; exact h i hi
theorem HR_updL {m : Mem} {f g : Nat → Nat} {ls qs : List (List Int)} (h : HR m f 0 ls) (hs : ∀ i j, i < ls.length → j < qs.length → g j ≠ f i) : HR (updL m (wrs g qs)) f 0 ls := fun i hi => by
  have h1 := h i hi
  rw [Nat.zero_add] at h1 ⊢
  rw [updL_wrs_ne fun j hj => hs _ j hi hj]; exact h1
theorem rF_at {d i s : Nat} (h0 : s < 3001 + d * 8 ∨ 3008 + d * 8 ≤ s) (h1 : s < 1000000) : rF d i ≠ s := by
  unfold rF siteOf
  split <;> omega
theorem rF_rF {d c i j : Nat} (h : c < d) (hd : d < 900) (hi : i < 900) : rF d j ≠ rF c i := by
  unfold rF siteOf
  split <;> split <;> omega
theorem updL_at {d s : Nat} {ls : List (List Int)} {m : Mem} (h0 : s < 3001 + d * 8 ∨ 3008 + d * 8 ≤ s) (h1 : s < 1000000) : updL m (wrs (rF d) ls) s = m s := updL_wrs_ne fun _ _ => rF_at h0 h1
end Go.Proofs.Ytdlfdoicheakoaa.X
