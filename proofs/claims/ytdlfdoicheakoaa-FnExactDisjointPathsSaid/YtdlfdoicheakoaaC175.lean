/- Calls that are given places of lists, or hand them back. -/
import Derived.Test.YtdlfdoicheakoaaC174
set_option linter.unusedSimpArgs false
set_option linter.unusedVariables false
set_option maxHeartbeats 8000000
set_option maxRecDepth 100000
namespace Go.Proofs.Ytdlfdoicheakoaa.X
open Go Go.Proofs
/-- What a computation has looked at. -/
noncomputable def rdOf {α : Type} (x : Mm α) (m : Mem) : List Nat := match x.run m with
  | some y => y.2
  | none => []
theorem run_of {α : Type} {x : Mm α} {m : Mem} {a : α} (h : x.gives m a) : x.run m = some (a, rdOf x m) := by
  obtain ⟨rd, h⟩ := h
  unfold rdOf
  rw [h]
/-- Lists that are written to places. -/
def wrs (f : Nat → Nat) (ls : List (List Int)) : List (Nat × Arr) := (List.range ls.length).map fun i => (f i, aI (ls.getD i []))
theorem updL_wrs_ne {f : Nat → Nat} {ls : List (List Int)} {m : Mem} {s : Nat} (h : ∀ i, i < ls.length → f i ≠ s) : updL m (wrs f ls) s = m s := by
  refine updL_other fun A hA => ?_
  obtain ⟨i, hi, he⟩ := List.mem_map.1 hA
  exact h i (List.mem_range.1 hi) (congrArg Prod.fst he)
theorem updL_wrs {f : Nat → Nat} {ls : List (List Int)} {m : Mem} (hf : ∀ i j, f i = f j → i = j) {i : Nat} (hi : i < ls.length) : updL m (wrs f ls) (f i) = some (aI (ls.getD i [])) := by
  refine updL_mem (List.mem_map.2 ⟨i, List.mem_range.2 hi, rfl⟩) fun B hB => ?_
  obtain ⟨j, _, he⟩ := List.mem_map.1 hB
  have h1 := hf j i (congrArg Prod.fst he)
  subst h1
  exact (congrArg Prod.snd he).symm
theorem HR_wrs {f : Nat → Nat} {ls : List (List Int)} {m : Mem} (hf : ∀ i j, f i = f j → i = j) : HR (updL m (wrs f ls)) f 0 ls := fun i hi => by
  rw [Nat.zero_add]; exact updL_wrs hf hi
abbrev rF (d i : Nat) : Nat := siteOf d (i + 1)
theorem rF_inj {d : Nat} (hd : d < 900) : ∀ i j, rF d i = rF d j → i = j := fun i j h => by
  unfold rF siteOf at h
  split at h <;> split at h <;> omega
theorem mapL_map {α β γ : Type} {m : Mem} {g : γ → Mm β} {h : α → γ} {k : α → β} : ∀ {xs : List α}, (∀ x ∈ xs, (g (h x)).gives m (k x)) → (Mm.mapL g (xs.map h)).gives m (xs.map k)
  | [], _ => by simp [Mm.gives_mapL_nil]
  | a :: r, H => by
    rw [List.map_cons, List.map_cons, Mm.gives_mapL_cons]
    exact ⟨_, _, H a List.mem_cons_self, mapL_map fun x hx => H x (List.mem_cons_of_mem _ hx), rfl⟩
theorem newVer0 {m : Mem} {s : Nat} (h : m s = none) : (newVer s).gives m 0 := by
  unfold newVer
  rw [Mm.gives_get, h]
  exact Mm.gives_ret.2 rfl
section
variable {cf : Cfg} {C : CallS} {me fid : FuncId} {d : Nat} {m : Mem}
/-- Lists that a callee has made become places of one's own. -/
theorem back_rows {ls : List (List Int)} (hl : ls.length ≤ 60) (h0 : ∀ j, j ≤ ls.length → m (siteOf d j) = none) :
    (backO d [] [] (.tup [.ref 2000 0 0 ls.length, B true]) [] (.rows 0 (rowsF (fun i => 2001 + i) 0 ls) :: ls.map aI)).gives m (.tup [.ref (siteOf d 0) 0 0 ls.length, B true], (siteOf d 0, .rows 0 (rowsF (rF d) 0 ls)) :: wrs (rF d) ls) := by
  have hlen : (Arr.rows 0 (rowsF (fun i => 2001 + i) 0 ls) :: ls.map aI).length = ls.length + 1 := by simp
  have hlook : ∀ j, j ≤ ls.length → (lookOut d [] [] ((List.range (ls.length + 1)).map fun _ => 0) (2000 + j) 0).gives m (siteOf d j, 0) := fun j hj => by
    unfold lookOut
    rw [if_neg (by omega), if_neg (by omega), show 2000 + j - 2000 = j by omega]
    have e : ((List.range (ls.length + 1)).map fun _ => 0)[j]? = some 0 := by rw [List.getElem?_map, List.getElem?_range (by omega)]; rfl
    rw [e]
    exact Mm.gives_ret.2 rfl
  unfold backO
  simp only [Mm.gives_bind, Mm.gives_chk, hlen]
  refine ⟨(List.range (ls.length + 1)).map fun _ => 0, ?_, .tup [.ref (siteOf d 0) 0 0 ls.length, B true], ?_, [], ?_, (siteOf d 0, .rows 0 (rowsF (rF d) 0 ls)) :: wrs (rF d) ls, ?_, ?_, Mm.gives_ret.2 rfl⟩
  · have := mapL_map (m := m) (g := fun j => newVer (siteOf d j)) (h := fun j => j) (k := fun _ => 0) (xs := List.range (ls.length + 1)) fun j hj => newVer0 (m := m) (s := siteOf d j) (h0 j (by have := List.mem_range.1 hj; omega))
    rwa [List.map_id'] at this
  · simp only [ren, Mm.gives_bind, Mm.gives_ret, Mm.gives_mapL_cons, Mm.gives_mapL_nil]
    exact ⟨_, ⟨_, _, ⟨_, hlook 0 (by omega), rfl⟩, ⟨_, _, rfl, rfl, rfl⟩, rfl⟩, rfl⟩
  · simp [Mm.gives_mapL_nil]
  · have e : ((List.range (ls.length + 1)).zip ((List.range (ls.length + 1)).map fun _ => 0)).zip (Arr.rows 0 (rowsF (fun i => 2001 + i) 0 ls) :: ls.map aI) =
        ((0, 0), Arr.rows 0 (rowsF (fun i => 2001 + i) 0 ls)) :: (List.range ls.length).map fun i => ((i + 1, 0), aI (ls.getD i [])) := by
      refine List.ext_getElem (by simp) fun i h1 h2 => ?_
      cases i with
      | zero => simp
      | succ q => simp at h2; simp [h2]
    rw [e, Mm.gives_mapL_cons]
    refine ⟨_, _, ?_, mapL_map fun i hi => ?_, rfl⟩
    · simp only [Mm.gives_bind, renArr, Mm.gives_ret, Arr.ver]
      refine ⟨_, ⟨_, ren_rows (g := rF d) (j := 0) fun i hi => ?_, rfl⟩, rfl⟩
      have := hlook (i + 1) (by omega)
      rw [show 2000 + (i + 1) = 2001 + (0 + i) by omega] at this
      rw [Nat.zero_add] at this ⊢
      exact this
    · simp only [Mm.gives_bind, renArr, Mm.gives_ret, Arr.ver]
      exact ⟨_, rfl, rfl⟩
  · simp; omega
/-- Places of lists are looked at: two arguments. -/
theorem frz_two {s : Nat} {f : Nat → Nat} {ls : List (List Int)} {x : IV} (hs : m s = some (.rows 0 (rowsF f 0 ls))) (hR : HR m f 0 ls) (hx : x ≠ .emp) :
    (Mm.mapL frzA [.ref s 0 0 ls.length, .i x]).gives m [LL ls, .i x] := by
  rw [Mm.gives_mapL_cons]
  refine ⟨_, _, ?_, ?_, rfl⟩
  · unfold frzA
    simp only [Mm.gives_bind, Mm.gives_ret]
    refine ⟨_, frz_rowsF hs hR, ?_⟩
    rfl
  · rw [Mm.gives_mapL_cons]
    refine ⟨.i x, [], ?_, Mm.gives_mapL_nil.2 rfl, rfl⟩
    unfold frzA
    simp only [Mm.gives_bind, Mm.gives_ret]
    refine ⟨x, ?_, rfl⟩
    cases x <;> first | exact absurd rfl hx | exact Mm.gives_ret.2 rfl
theorem call_look {s : Nat} {f : Nat → Nat} {ls : List (List Int)} {x : IV} {v : Value} (hmu : cf.mutF fid = false) (hown : cf.own me d = false) (hs : m s = some (.rows 0 (rowsF f 0 ls))) (hR : HR m f 0 ls) (hx : x ≠ .emp)
    (hc : C fid [LL ls, .i x] [] = some (.i (.v v), [], [])) : (callQ cf C me (some d) fid [.ref s 0 0 ls.length, .i x]).gives m (.i (.v v), []) := by
  unfold callQ callP
  rw [hmu]
  simp only [Bool.false_eq_true, if_false, Mm.gives_bind]
  refine ⟨_, frz_two hs hR hx, ?_⟩
  simp only [hc, hown, Bool.false_eq_true, if_false, Mm.gives_chk, Mm.gives_bind, Mm.gives_opt]
  refine ⟨by simp [flatP, flatC, flatIV], .i (.v v), rfl, ?_⟩
  unfold backO
  simp [Mm.gives_bind, Mm.gives_ret, Mm.gives_chk, Mm.gives_mapL_nil, ren]
end
end Go.Proofs.Ytdlfdoicheakoaa.X
