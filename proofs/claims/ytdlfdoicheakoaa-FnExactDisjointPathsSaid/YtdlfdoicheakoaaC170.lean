/- Arrays of places: what is sent, frozen and handed back. -/
import Derived.Test.YtdlfdoicheakoaaC10
set_option linter.unusedSimpArgs false
set_option linter.unusedVariables false
set_option maxHeartbeats 4000000
set_option maxRecDepth 100000
namespace Go.Proofs.Ytdlfdoicheakoaa.X
open Go Go.Proofs
/-- Places of lists, one behind another. -/
def rowsF (f : Nat → Nat) : Nat → List (List Int) → List PV
  | _, [] => []
  | k, l :: r => .ref (f k) 0 0 l.length :: rowsF f (k + 1) r
abbrev aI (l : List Int) : Arr := .arr 0 1 (l.map encI)
/-- Lists that stand at places. -/
def HR (m : Mem) (f : Nat → Nat) (k : Nat) (ls : List (List Int)) : Prop := ∀ i, i < ls.length → m (f (k + i)) = some (aI (ls.getD i []))
def sitesF (f : Nat → Nat) (k N : Nat) : List Nat := (List.range N).map fun i => f (k + i)
theorem rowsF_len {f : Nat → Nat} : ∀ {ls : List (List Int)} {k : Nat}, (rowsF f k ls).length = ls.length
  | [], _ => rfl
  | _ :: r, k => by rw [rowsF, List.length_cons, List.length_cons, rowsF_len]
theorem rowsF_app {f : Nat → Nat} {l : List Int} : ∀ {ls : List (List Int)} {k : Nat}, rowsF f k (ls ++ [l]) = rowsF f k ls ++ [.ref (f (k + ls.length)) 0 0 l.length]
  | [], k => rfl
  | a :: r, k => by
    rw [List.cons_append, rowsF, rowsF_app, rowsF, List.cons_append, List.length_cons, show k + 1 + r.length = k + (r.length + 1) by omega]
theorem rowsF_get {f : Nat → Nat} : ∀ {ls : List (List Int)} {k i : Nat}, i < ls.length → (rowsF f k ls)[i]? = some (.ref (f (k + i)) 0 0 (ls.getD i []).length)
  | [], _, _, h => by simp at h
  | a :: r, k, 0, _ => by rw [rowsF]; rfl
  | a :: r, k, i + 1, h => by
    rw [rowsF, List.getElem?_cons_succ, rowsF_get (by simpa using h), show k + 1 + i = k + (i + 1) by omega]
    simp
theorem sitesF_len {f : Nat → Nat} {k N : Nat} : (sitesF f k N).length = N := by simp [sitesF]
theorem sitesF_get {f : Nat → Nat} {k N i : Nat} (h : i < N) : (sitesF f k N)[i]? = some (f (k + i)) := by simp [sitesF, h]
theorem mem_sitesF {f : Nat → Nat} {k N s : Nat} : s ∈ sitesF f k N ↔ ∃ i, i < N ∧ s = f (k + i) := by
  simp only [sitesF, List.mem_map, List.mem_range]
  exact ⟨fun ⟨i, h1, h2⟩ => ⟨i, h1, h2.symm⟩, fun ⟨i, h1, h2⟩ => ⟨i, h1, h2.symm⟩⟩
theorem HR.tail {m : Mem} {f : Nat → Nat} {k : Nat} {a : List Int} {r : List (List Int)} (h : HR m f k (a :: r)) : HR m f (k + 1) r := fun i hi => by
  have := h (i + 1) (by simp; omega)
  rw [show k + 1 + i = k + (i + 1) by omega, this]
  simp
theorem sitesF_succ {f : Nat → Nat} {k N : Nat} : sitesF f k (N + 1) = f k :: sitesF f (k + 1) N := by
  simp only [sitesF, List.range_succ_eq_map, List.map_cons, List.map_map, Nat.add_zero]
  congr 1
  refine List.map_congr_left fun i _ => ?_
  show f (k + (i + 1)) = f (k + 1 + i)
  rw [show k + 1 + i = k + (i + 1) by omega]
theorem mapL_gives {α β : Type} {m : Mem} {f : α → Mm β} : ∀ {xs : List α} {ys : List β}, xs.length = ys.length → (∀ (i : Nat) (a : α) (b : β), xs[i]? = some a → ys[i]? = some b → (f a).gives m b) → (Mm.mapL f xs).gives m ys
  | [], [], _, _ => by simp [Mm.gives_mapL_nil]
  | a :: xs, b :: ys, hl, h => by
    rw [Mm.gives_mapL_cons]
    exact ⟨b, ys, h 0 a b rfl rfl, mapL_gives (by simpa using hl) (fun i x y hx hy => h (i + 1) x y (by simpa using hx) (by simpa using hy)), rfl⟩
theorem coll_nil {n : Nat} {keep : Nat → Bool} {acc : List Nat} {m : Mem} : (coll n keep [] acc).gives m acc := by
  cases n <;> simp [coll, Mm.gives_ret]
/-- What places lead to. -/
theorem coll_rows {keep : Nat → Bool} {f : Nat → Nat} {m : Mem} (hf : ∀ i j, f i = f j → i = j) : ∀ (ls : List (List Int)) (k n : Nat) (acc : List Nat), ls.length ≤ n → (∀ i, i < ls.length → keep (f (k + i)) = true) → (∀ i, i < ls.length → f (k + i) ∉ acc) → HR m f k ls →
    (coll n keep (rowsF f k ls) acc).gives m (acc ++ sitesF f k ls.length)
  | [], k, n, acc, _, _, _, _ => by
    rw [rowsF, show sitesF f k ([] : List (List Int)).length = [] from rfl, List.append_nil]
    exact coll_nil
  | a :: r, k, n, acc, hn, hk, ha, hR => by
    obtain ⟨n, rfl⟩ : ∃ n', n = n' + 1 := ⟨n - 1, by simp at hn; omega⟩
    have h0 := hR 0 (by simp)
    have hk0 := hk 0 (by simp)
    have ha0 := ha 0 (by simp)
    rw [Nat.add_zero] at h0 hk0 ha0
    have hc : acc.contains (f k) = false := by simpa using ha0
    have ih := coll_rows (keep := keep) (m := m) hf r (k + 1) n (acc ++ [f k]) (by simpa using hn) (fun i hi => by rw [show k + 1 + i = k + (i + 1) by omega]; exact hk (i + 1) (by simp; omega))
      (fun i hi => by
        rw [List.mem_append, List.mem_singleton]
        rintro (h | h)
        · exact ha (i + 1) (by simp; omega) (by rw [show k + (i + 1) = k + 1 + i by omega]; exact h)
        · have := hf _ _ h; omega) hR.tail
    rw [rowsF, coll]
    simp only [hk0, hc, Bool.not_false, Bool.and_self, if_true]
    rw [Mm.gives_get, h0, List.length_cons, sitesF_succ]
    simp only
    rw [List.append_assoc] at ih
    exact ih
/-- Lists that are looked at. -/
theorem frz_rowsF {f : Nat → Nat} {m : Mem} {n s v : Nat} {ls : List (List Int)} (hs : m s = some (.rows v (rowsF f 0 ls))) (hR : HR m f 0 ls) : (frz n (.ref s v 0 ls.length)).gives m (.lst (ls.map fun l => [.lst (l.map encI)])) := by
  have : (Mm.get s fun | some (.arr v' _ xs) => Mm.chk (v' == v) (.ret (.lst ((xs.drop 0).take ls.length))) | some (.rows v' cs) => Mm.chk (v' == v) ((Mm.mapL frz1 ((cs.drop 0).take ls.length)).bind fun l => .ret (.lst (l.map fun x => [x]))) | _ => .fail : Mm IV).gives m (.lst (ls.map fun l => [.lst (l.map encI)])) := by
    rw [Mm.gives_get, hs]
    simp only [beq_self_eq_true, Mm.gives_chk, true_and, Mm.gives_bind, Mm.gives_ret, List.drop_zero]
    refine ⟨ls.map fun l => .lst (l.map encI), ?_, by simp⟩
    rw [List.take_of_length_le (by rw [rowsF_len]; exact Nat.le_refl _)]
    refine mapL_gives (by rw [rowsF_len, List.length_map]) fun i a b ha hb => ?_
    have hi : i < ls.length := by have := (List.getElem?_eq_some_iff.1 ha).1; rwa [rowsF_len] at this
    rw [rowsF_get hi] at ha
    cases ha
    have e : ls[i]? = some (ls.getD i []) := by simp [hi]
    rw [List.getElem?_map, e, Option.map_some, Option.some.injEq] at hb
    subst hb
    have h1 := hR i hi
    simp only [frz1, Mm.gives_get, h1, beq_self_eq_true, Mm.gives_chk, true_and, Mm.gives_ret]
    rw [List.drop_zero, List.take_of_length_le (by simp)]
  cases n <;> exact this
theorem idx_at {α : Type} [BEq α] [LawfulBEq α] {L : List α} (hn : L.Nodup) {i : Nat} {a : α} (h : L[i]? = some a) : L.idxOf a = i := by
  obtain ⟨h1, h2⟩ := List.getElem?_eq_some_iff.1 h
  rw [← h2]
  exact hn.idxOf_getElem i h1
theorem nodup_sites {f : Nat → Nat} (hf : ∀ i j, f i = f j → i = j) {k N : Nat} : (sitesF f k N).Nodup := by
  unfold sitesF List.Nodup
  rw [List.pairwise_map]
  exact List.nodup_range.imp fun hne h => hne (by have := hf _ _ h; omega)
end Go.Proofs.Ytdlfdoicheakoaa.X
