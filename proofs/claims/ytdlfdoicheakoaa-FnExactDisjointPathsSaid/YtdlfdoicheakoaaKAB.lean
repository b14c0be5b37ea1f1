/- What functions answer, and the plain laws behind it. -/
import Derived.Test.YtdlfdoicheakoaaC10
import Derived.Test.YtdlfdoicheakoaaM1
/- What functions compute: labels of parts. -/
set_option linter.unusedSimpArgs false
set_option linter.unusedVariables false
set_option maxHeartbeats 2000000
namespace Go.Proofs.Ytdlfdoicheakoaa.X
open Go Go.Proofs
theorem iota_length (n : Int) : (iota n).length = n.toNat := by simp [iota]
theorem iota_snoc {i : Int} (h : 0 ≤ i) : iota (i + 1) = iota i ++ [i] := by
  have e : (i + 1).toNat = i.toNat + 1 := by omega
  unfold iota
  rw [e, List.range_succ, List.map_append]
  simp; omega
@[go_sem] theorem c_l2Node (n v : Int) (es : List (Int × Int)) (hl : es.length ≤ 1048576) : KP 95 [GL n es, I v] [] = some (B (decide (VG n es ∧ 0 ≤ v ∧ v < n)), [], []) := by
  refine gc Try.func95 ?_
  have Fz:=fz1 Try.results95
  repeat'(first|exact trivial|refine go1 ?_|(refine go2 ?_ ?_<;>intro _<;>try(exfalso;omega))|(refine go4 ?_;split<;>((try(exfalso;omega));try refine go3 ?_)))
  all_goals grind
end Go.Proofs.Ytdlfdoicheakoaa.X

/- Neighbors: plain law. -/
set_option linter.unusedVariables false
namespace Go.Proofs.Ytdlfdoicheakoaa.X
open Go
theorem VG.alone {n v : Int} {es : List (Int × Int)} (h : VG n es) : VG n (alone v es) := by
  obtain ⟨h1, h2, h3, h4, h5⟩ := h
  have hl : (X.alone v es).length ≤ es.length := List.length_filter_le _ _
  exact ⟨h1, h2, by omega, fun e he => h4 e (List.mem_filter.1 he).1, h5.filter _⟩
theorem alone_cons (v : Int) (e : Int × Int) (es : List (Int × Int)) : alone v (e :: es) = if v = e.1 ∨ v = e.2 then alone v es else e :: alone v es := by
  unfold alone
  by_cases h1 : v = e.1
  · have : ¬ (e.1 ≠ v ∧ e.2 ≠ v) := fun h => h.1 h1.symm
    rw [List.filter_cons_of_neg (by simpa using fun h => absurd h1.symm h), if_pos (.inl h1)]
  · by_cases h2 : v = e.2
    · rw [List.filter_cons_of_neg (by simpa using fun _ => h2.symm), if_pos (.inr h2)]
    · rw [List.filter_cons_of_pos (by simpa using ⟨fun h => h1 h.symm, fun h => h2 h.symm⟩), if_neg (by simp [h1, h2])]
theorem nbL_cons (v : Int) (e : Int × Int) (es : List (Int × Int)) : nbL v (e :: es) = if v = e.1 then e.2 :: nbL v es else if v = e.2 then e.1 :: nbL v es else nbL v es := by
  unfold nbL
  by_cases h1 : v = e.1
  · rw [List.filterMap_cons, if_pos h1, if_pos h1]
  · by_cases h2 : v = e.2
    · rw [List.filterMap_cons, if_neg h1, if_neg h1, if_pos h2, if_pos h2]
    · rw [List.filterMap_cons, if_neg h1, if_neg h1, if_neg h2, if_neg h2]
theorem nbS_length (v : Int) (es : List (Int × Int)) : (nbS v es).length = (nbL v es).length := sortI_length _
theorem alone_length (v : Int) (es : List (Int × Int)) : (alone v es).length + (nbS v es).length = es.length := by
  rw [nbS_length]
  induction es with
  | nil => rfl
  | cons e es ih =>
    rw [alone_cons, nbL_cons]
    by_cases h1 : v = e.1
    · rw [if_pos (.inl h1), if_pos h1]; simp only [List.length_cons]; omega
    · by_cases h2 : v = e.2
      · rw [if_pos (.inr h2), if_neg h1, if_pos h2]; simp only [List.length_cons]; omega
      · rw [if_neg (by simp [h1, h2]), if_neg h1, if_neg h2]; simp only [List.length_cons]; omega
theorem sorted_ext : ∀ {l r : List Int}, l.Pairwise (· < ·) → r.Pairwise (· < ·) → (∀ x, x ∈ l ↔ x ∈ r) → l = r
  | [], [], _, _, _ => rfl
  | [], y :: r, _, _, h => by have := (h y).2 (by simp); simp at this
  | x :: l, [], _, _, h => by have := (h x).1 (by simp); simp at this
  | x :: l, y :: r, hl, hr, h => by
    rw [List.pairwise_cons] at hl hr
    have hxy : x = y := by
      rcases List.mem_cons.1 ((h x).1 (by simp)) with e | e
      · exact e
      · rcases List.mem_cons.1 ((h y).2 (by simp)) with e' | e'
        · exact e'.symm
        · have := hl.1 y e'; have := hr.1 x e; omega
    subst hxy
    rw [sorted_ext hl.2 hr.2 fun z => ?_]
    constructor
    · intro hz
      rcases List.mem_cons.1 ((h z).1 (by simp [hz])) with e | e
      · have := hl.1 z hz; omega
      · exact e
    · intro hz
      rcases List.mem_cons.1 ((h z).2 (by simp [hz])) with e | e
      · have := hr.1 z hz; omega
      · exact e
theorem Ord.nodup {es : List (Int × Int)} (h : Ord es) : es.Nodup := by
  refine List.Pairwise.imp (fun {a b} hab e => ?_) h
  subst e
  rw [lessE_iff] at hab; omega
theorem mem_nbL {n : Int} {es : List (Int × Int)} (ho : ∀ e ∈ es, okE n e) {v x : Int} : x ∈ nbL v es ↔ Adj es v x := by
  unfold nbL Adj
  rw [List.mem_filterMap]
  constructor
  · rintro ⟨e, he, h⟩
    split at h
    · rename_i h1; cases h; subst h1; exact .inl he
    · split at h
      · rename_i h2; cases h; subst h2; exact .inr he
      · cases h
  · rintro (h | h)
    · exact ⟨_, h, by simp⟩
    · have := ho _ h
      unfold okE at this
      exact ⟨_, h, by rw [if_neg (by simp only; omega), if_pos rfl]⟩
theorem mem_nbS {n : Int} {es : List (Int × Int)} (ho : ∀ e ∈ es, okE n e) {v x : Int} : x ∈ nbS v es ↔ Adj es v x := by
  unfold nbS sortI
  rw [List.mem_mergeSort]
  exact mem_nbL ho
theorem nodup_nbL {n : Int} {es : List (Int × Int)} (ho : ∀ e ∈ es, okE n e) (hn : es.Nodup) (v : Int) : (nbL v es).Nodup := by
  induction es with
  | nil => simp [nbL]
  | cons e es ih =>
    rw [List.nodup_cons] at hn
    have ho' := fun f hf => ho f (List.mem_cons_of_mem _ hf)
    have ih := ih ho' hn.2
    have he := ho e (by simp)
    unfold okE at he
    rw [nbL_cons]
    split
    · rename_i h1
      rw [List.nodup_cons, mem_nbL ho']
      refine ⟨fun h => ?_, ih⟩
      rcases h with h | h
      · exact hn.1 (by rw [h1] at h; exact h)
      · have := ho' _ h; unfold okE at this; simp only at this; omega
    · split
      · rename_i h1 h2
        rw [List.nodup_cons, mem_nbL ho']
        refine ⟨fun h => ?_, ih⟩
        rcases h with h | h
        · have := ho' _ h; unfold okE at this; simp only at this; omega
        · exact hn.1 (by rw [h2] at h; exact h)
      · exact ih
theorem sorted_nbS {n : Int} {es : List (Int × Int)} (ho : ∀ e ∈ es, okE n e) (hn : es.Nodup) (v : Int) : (nbS v es).Pairwise (· < ·) := by
  have h1 : (nbS v es).Pairwise fun a b => decide (a ≤ b) = true := List.pairwise_mergeSort (by intro a b c; simp; omega) (by intro a b; simp; omega) _
  have h2 : (nbS v es).Nodup := (List.mergeSort_perm _ _).nodup_iff.2 (nodup_nbL ho hn v)
  have h3 := h1.and h2
  refine List.Pairwise.imp (fun {a b} h => ?_) h3
  have := h.1
  simp only [decide_eq_true_eq] at this
  have := h.2
  omega
theorem sorted_iota (n : Int) : (iota n).Pairwise (· < ·) := by
  unfold iota
  rw [List.pairwise_map]
  refine List.Pairwise.imp (fun {a b} h => ?_) (List.pairwise_lt_range)
  omega
theorem mem_iota {n x : Int} : x ∈ iota n ↔ 0 ≤ x ∧ x < n := by
  unfold iota
  rw [List.mem_map]
  constructor
  · rintro ⟨y, hy, rfl⟩
    have := List.mem_range.1 hy
    omega
  · rintro ⟨h1, h2⟩
    exact ⟨x.toNat, List.mem_range.2 (by omega), by omega⟩
theorem mem_edgeOf {n : Int} {es : List (Int × Int)} (ho : ∀ e ∈ es, okE n e) {x v : Int} : (x ≠ v ∧ edgeOf x v ∈ es) ↔ Adj es v x := by
  unfold edgeOf Adj
  constructor
  · rintro ⟨h1, h2⟩
    split at h2
    · exact .inr h2
    · exact .inl h2
  · rintro (h | h)
    · have := ho _ h; unfold okE at this; simp only at this
      rw [if_neg (by omega)]; exact ⟨by omega, h⟩
    · have := ho _ h; unfold okE at this; simp only at this
      rw [if_pos (by omega)]; exact ⟨by omega, h⟩
/-- The neighbors, as one looks for them node by node. -/
theorem next_eq {n : Int} {es : List (Int × Int)} (ho : ∀ e ∈ es, okE n e) (hn : es.Nodup) (v : Int) : (iota n).filter (fun x => decide (x ≠ v ∧ edgeOf x v ∈ es)) = nbS v es := by
  refine sorted_ext ((sorted_iota n).filter _) (sorted_nbS ho hn v) fun x => ?_
  rw [List.mem_filter, mem_iota, decide_eq_true_eq, mem_edgeOf ho, mem_nbS ho]
  constructor
  · exact fun h => h.2
  · exact fun h => ⟨by have := h.ok ho; omega, h⟩
theorem findE_pos {es : List (Int × Int)} {e : Int × Int} : 0 ≤ findE es e ↔ e ∈ es := by
  have := @findE_nonneg es e
  simpa using this
end Go.Proofs.Ytdlfdoicheakoaa.X
