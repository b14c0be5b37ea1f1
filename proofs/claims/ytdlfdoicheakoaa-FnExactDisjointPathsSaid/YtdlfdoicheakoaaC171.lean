/- What functions compute: arrays of places that are handed back. -/
import Derived.Test.YtdlfdoicheakoaaC170
set_option linter.unusedSimpArgs false
set_option linter.unusedVariables false
set_option maxHeartbeats 4000000
set_option maxRecDepth 100000
namespace Go.Proofs.Ytdlfdoicheakoaa.X
open Go Go.Proofs
theorem rowSite_inj {s : Nat} : ∀ i j, rowSite s i = rowSite s j → i = j := fun i j h => by unfold rowSite at h; omega
theorem own_row {s i : Nat} : ownSite (rowSite s i) = true := by
  have h : 3000 ≤ rowSite s i := by unfold rowSite; omega
  unfold ownSite
  rw [decide_eq_true h, Bool.or_true]
theorem ren_ref {look : Nat → Nat → Mm (Nat × Nat)} {n s v o l s' v' : Nat} {m : Mem} (h : (look s v).gives m (s', v')) : (ren look n (.ref s v o l)).gives m (.ref s' v' o l) := by
  cases n <;> (simp only [ren, Mm.gives_bind, Mm.gives_ret]; exact ⟨(s', v'), h, rfl⟩)
theorem ren_i {look : Nat → Nat → Mm (Nat × Nat)} {n : Nat} {x : IV} {m : Mem} : (ren look n (.i x)).gives m (.i x) := by
  cases n <;> simp [ren, Mm.gives_ret]
/-- Places get other numbers. -/
theorem ren_rows {look : Nat → Nat → Mm (Nat × Nat)} {f g : Nat → Nat} {n : Nat} {m : Mem} {ls : List (List Int)} {j k : Nat} (h : ∀ i, i < ls.length → (look (f (k + i)) 0).gives m (g (j + i), 0)) : (Mm.mapL (ren look n) (rowsF f k ls)).gives m (rowsF g j ls) := by
  refine mapL_gives (by rw [rowsF_len, rowsF_len]) fun i a b ha hb => ?_
  have hi : i < ls.length := by have := (List.getElem?_eq_some_iff.1 ha).1; rwa [rowsF_len] at this
  rw [rowsF_get hi] at ha hb
  cases ha; cases hb
  exact ren_ref (h i hi)
theorem rsite {L : List Nat} {np s : Nat} {A : Arr} {m : Mem} (hA : m s = some A) (hs : ¬ (1000 ≤ s ∧ s < 1000 + np)) (hL : L.contains s = true) : (lookBack np L s A.ver).gives m (2000 + L.idxOf s, 0) := by
  simp only [lookBack, Mm.gives_get, hA, beq_self_eq_true, Mm.gives_chk, true_and]
  rw [if_neg hs, hL, if_pos rfl, Mm.gives_ret]
/-- An array of places is handed back. -/
theorem outP_rows {P : Program} {fn : Func} {st : St} {v : Nat} {ls : List (List Int)} (hres : fn.results = #[.tmp 6, .tmp 7]) (h6 : st.ρ 6 = .ref 28 v 0 ls.length) (h7 : st.ρ 7 = B true)
    (hm : st.m 28 = some (.rows v (rowsF (rowSite 28) 0 ls))) (hR : HR st.m (rowSite 28) 0 ls) (hl : ls.length ≤ 30) :
    (outP P fn 0 st).gives st.m (.tup [.ref 2000 0 0 ls.length, B true], [], .rows 0 (rowsF (fun i => 2001 + i) 0 ls) :: ls.map aI) := by
  have hnd : (28 :: sitesF (rowSite 28) 0 ls.length).Nodup := by
    rw [List.nodup_cons]
    refine ⟨fun h => ?_, nodup_sites rowSite_inj⟩
    obtain ⟨i, -, h⟩ := mem_sitesF.1 h
    unfold rowSite at h; omega
  have hget : ∀ i, i < ls.length → (28 :: sitesF (rowSite 28) 0 ls.length)[i + 1]? = some (rowSite 28 i) := fun i hi => by
    rw [List.getElem?_cons_succ, sitesF_get hi, Nat.zero_add]
  have hidx : ∀ i, i < ls.length → (28 :: sitesF (rowSite 28) 0 ls.length).idxOf (rowSite 28 i) = i + 1 := fun i hi => idx_at hnd (hget i hi)
  have hcon : ∀ i, i < ls.length → (28 :: sitesF (rowSite 28) 0 ls.length).contains (rowSite 28 i) = true := fun i hi => by
    rw [List.contains_iff_mem]; exact List.mem_of_getElem? (hget i hi)
  generalize hLL : 28 :: sitesF (rowSite 28) 0 ls.length = L at *
  have hlook : ∀ i, i < ls.length → (lookBack 0 L (rowSite 28 (0 + i)) 0).gives st.m (2001 + (0 + i), 0) := fun i hi => by
    have := rsite (np := 0) (hR i hi) (by omega) (by rw [Nat.zero_add]; exact hcon i hi)
    rw [Nat.zero_add, hidx i hi] at this
    rw [Nat.zero_add, show 2001 + i = 2000 + (i + 1) by omega]
    exact this
  have h28 : (lookBack 0 L 28 v).gives st.m (2000, 0) := by
    have := rsite (np := 0) (L := L) hm (by omega) (by rw [← hLL]; simp)
    rw [show L.idxOf 28 = 0 by rw [← hLL]; simp] at this
    exact this
  have hown : L.all ownSite = true := by
    rw [List.all_eq_true]
    intro s hs
    rw [← hLL] at hs
    rcases List.mem_cons.1 hs with rfl | hs
    · rfl
    · obtain ⟨i, -, rfl⟩ := mem_sitesF.1 hs
      exact own_row
  have hcoll := coll_rows (keep := ownSite) (m := st.m) (f := rowSite 28) rowSite_inj ls 0 38 [28] (by omega) (fun i _ => own_row)
    (fun i _ => by simp only [List.mem_singleton, rowSite]; omega) hR
  rw [List.singleton_append, hLL] at hcoll
  unfold outP
  rw [hres]
  simp only [Mm.gives_bind, Mm.gives_ret, Mm.gives_chk, List.range_zero, List.flatMap_nil]
  refine ⟨[.ref 28 v 0 ls.length, B true], ?_, [], by simp [Mm.gives_mapL_nil], L, ?_, .tup [.ref 2000 0 0 ls.length, B true], ?_, [], by simp [Mm.gives_mapL_nil], .rows 0 (rowsF (fun i => 2001 + i) 0 ls) :: ls.map aI, ?_, by rw [decide_eq_true hnd, hown]; rfl, rfl⟩
  · simp only [Mm.gives_mapL_cons, Mm.gives_mapL_nil, resP, Mm.gives_ret, h6, h7]
    exact ⟨_, _, rfl, ⟨_, _, rfl, rfl, rfl⟩, rfl⟩
  · show (coll 40 ownSite [.tup [.ref 28 v 0 ls.length, B true]] []).gives st.m L
    rw [coll]
    simp only [Mm.gives_bind]
    refine ⟨L, ?_, coll_nil⟩
    rw [coll]
    simp only [show ownSite 28 = true from rfl, List.contains_nil, Bool.not_false, Bool.and_self, if_true, Mm.gives_get, hm, Mm.gives_bind, List.nil_append]
    exact ⟨L, hcoll, by rw [coll]; exact coll_nil⟩
  · show (ren (lookBack 0 L) 3 (.tup [.ref 28 v 0 ls.length, B true])).gives st.m _
    simp only [ren, Mm.gives_bind, Mm.gives_ret, Mm.gives_mapL_cons, Mm.gives_mapL_nil]
    exact ⟨_, ⟨_, _, ⟨_, h28, rfl⟩, ⟨_, _, rfl, rfl, rfl⟩, rfl⟩, rfl⟩
  · rw [← hLL]
    rw [Mm.gives_mapL_cons]
    refine ⟨_, _, ?_, ?_, rfl⟩
    · simp only [Mm.gives_get, hm, renArr, Mm.gives_bind, Mm.gives_ret]
      refine ⟨_, ?_, rfl⟩
      rw [hLL]
      exact ren_rows hlook
    · refine mapL_gives (by rw [sitesF_len, List.length_map]) fun i a b ha hb => ?_
      have hi : i < ls.length := by have := (List.getElem?_eq_some_iff.1 ha).1; rwa [sitesF_len] at this
      rw [sitesF_get hi] at ha
      cases ha
      have e : ls[i]? = some (ls.getD i []) := by simp [hi]
      rw [List.getElem?_map, e, Option.map_some, Option.some.injEq] at hb
      subst hb
      simp only [Mm.gives_get, hR i hi, renArr, Mm.gives_ret]
end Go.Proofs.Ytdlfdoicheakoaa.X
