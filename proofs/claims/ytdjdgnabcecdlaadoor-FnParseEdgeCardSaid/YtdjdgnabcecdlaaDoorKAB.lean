/- What functions answer, and the plain laws behind it. -/
import Derived.Test.YtdjdgnabcecdlaaDoorC10
import Derived.Test.YtdjdgnabcecdlaaDoorM1
/- What functions compute: labels of parts. -/
set_option linter.unusedSimpArgs false
set_option linter.unusedVariables false
set_option maxHeartbeats 2000000
namespace Go.Proofs.YtdjdgnabcecdlaaDoor.X
open Go Go.Proofs
theorem iota_length (n : Int) : (iota n).length = n.toNat := by simp [iota]
end Go.Proofs.YtdjdgnabcecdlaaDoor.X

/- Neighbors: plain law. -/
set_option linter.unusedVariables false
namespace Go.Proofs.YtdjdgnabcecdlaaDoor.X
open Go
theorem VG.alone {n v : Int} {es : List (Int × Int)} (h : VG n es) : VG n (alone v es) := by
  obtain ⟨h1, h2, h3, h4, h5⟩ := h
  have hl : (X.alone v es).length ≤ es.length := List.length_filter_le _ _
  exact ⟨h1, h2, by omega, fun e he => h4 e (List.mem_filter.1 he).1, h5.filter _⟩
theorem nbL_cons (v : Int) (e : Int × Int) (es : List (Int × Int)) : nbL v (e :: es) = if v = e.1 then e.2 :: nbL v es else if v = e.2 then e.1 :: nbL v es else nbL v es := by
  unfold nbL
  by_cases h1 : v = e.1
  · rw [List.filterMap_cons, if_pos h1, if_pos h1]
  · by_cases h2 : v = e.2
    · rw [List.filterMap_cons, if_neg h1, if_neg h1, if_pos h2, if_pos h2]
    · rw [List.filterMap_cons, if_neg h1, if_neg h1, if_neg h2, if_neg h2]
theorem Ord.nodup {es : List (Int × Int)} (h : Ord es) : es.Nodup := by
  refine List.Pairwise.imp (fun {a b} hab e => ?_) h
  subst e
  rw [lessE_iff] at hab; omega
theorem mem_nbL {n : Int} {es : List (Int × Int)} (ho : ∀ e ∈ es, okE n e) {v x : Int} : x ∈ nbL v es ↔ Adj es v x := by
  unfold nbL Adj
  rw [List.mem_filterMap]
  constructor
  · rintro ⟨e, he, h⟩
    split at h
    · rename_i h1; cases h; subst h1; exact .inl he
    · split at h
      · rename_i h2; cases h; subst h2; exact .inr he
      · cases h
  · rintro (h | h)
    · exact ⟨_, h, by simp⟩
    · have := ho _ h
      unfold okE at this
      exact ⟨_, h, by rw [if_neg (by simp only; omega), if_pos rfl]⟩
theorem mem_nbS {n : Int} {es : List (Int × Int)} (ho : ∀ e ∈ es, okE n e) {v x : Int} : x ∈ nbS v es ↔ Adj es v x := by
  unfold nbS sortI
  rw [List.mem_mergeSort]
  exact mem_nbL ho
theorem nodup_nbL {n : Int} {es : List (Int × Int)} (ho : ∀ e ∈ es, okE n e) (hn : es.Nodup) (v : Int) : (nbL v es).Nodup := by
  induction es with
  | nil => simp [nbL]
  | cons e es ih =>
    rw [List.nodup_cons] at hn
    have ho' := fun f hf => ho f (List.mem_cons_of_mem _ hf)
    have ih := ih ho' hn.2
    have he := ho e (by simp)
    unfold okE at he
    rw [nbL_cons]
    split
    · rename_i h1
      rw [List.nodup_cons, mem_nbL ho']
      refine ⟨fun h => ?_, ih⟩
      rcases h with h | h
      · exact hn.1 (by rw [h1] at h; exact h)
      · have := ho' _ h; unfold okE at this; simp only at this; omega
    · split
      · rename_i h1 h2
        rw [List.nodup_cons, mem_nbL ho']
        refine ⟨fun h => ?_, ih⟩
        rcases h with h | h
        · have := ho' _ h; unfold okE at this; simp only at this; omega
        · exact hn.1 (by rw [h2] at h; exact h)
      · exact ih
theorem sorted_nbS {n : Int} {es : List (Int × Int)} (ho : ∀ e ∈ es, okE n e) (hn : es.Nodup) (v : Int) : (nbS v es).Pairwise (· < ·) := by
  have h1 : (nbS v es).Pairwise fun a b => decide (a ≤ b) = true := List.pairwise_mergeSort (by intro a b c; simp; omega) (by intro a b; simp; omega) _
  have h2 : (nbS v es).Nodup := (List.mergeSort_perm _ _).nodup_iff.2 (nodup_nbL ho hn v)
  have h3 := h1.and h2
  refine List.Pairwise.imp (fun {a b} h => ?_) h3
  have := h.1
  simp only [decide_eq_true_eq] at this
  have := h.2
  omega
theorem sorted_iota (n : Int) : (iota n).Pairwise (· < ·) := by
  unfold iota
  rw [List.pairwise_map]
  refine List.Pairwise.imp (fun {a b} h => ?_) (List.pairwise_lt_range)
  omega
theorem mem_iota {n x : Int} : x ∈ iota n ↔ 0 ≤ x ∧ x < n := by
  unfold iota
  rw [List.mem_map]
  constructor
  · rintro ⟨y, hy, rfl⟩
    have := List.mem_range.1 hy
    omega
  · rintro ⟨h1, h2⟩
    exact ⟨x.toNat, List.mem_range.2 (by omega), by omega⟩
end Go.Proofs.YtdjdgnabcecdlaaDoor.X

/- What functions compute: neighbors node by node, cut nodes. -/
set_option linter.unusedSimpArgs false
set_option linter.unusedVariables false
set_option maxHeartbeats 2000000
namespace Go.Proofs.YtdjdgnabcecdlaaDoor.X
open Go Go.Proofs
/-- A function value that tells something of a number. -/
structure CloI (c : IV) (dom : Int → Prop) (p : Int → Bool) : Prop where
  frz : ∀ n, X.frz n (.i c) = .ret c
  flat : c.flat = true
  call : ∀ me d x, dom x → dynP cfg (KK Tryd.prog cfg) me (some d) (.i c) [I x] = .ret (B (p x), [])
def fidxI (p : Int → Bool) (xs : List Int) : Int := if xs.findIdx p < xs.length then (xs.findIdx p : Int) else -1
/-- A cut node: not all of its neighbors are connected without it. -/
def CutN (es : List (Int × Int)) (v : Int) : Prop := ∃ x ∈ nbS v es, ¬ Conn (alone v es) ((nbS v es).getD 0 0) x
noncomputable instance decCutN (es : List (Int × Int)) (v : Int) : Decidable (CutN es v) := Classical.propDecidable _
theorem OKG.alone {n : Int} {es : List (Int × Int)} (h : OKG n es) (v : Int) : OKG n (alone v es) :=
  ⟨h.n0, h.n1, Nat.le_trans (List.length_filter_le _ _) h.len, fun e he => h.ok e (List.mem_filter.1 he).1⟩
theorem VG.nodup {n : Int} {es : List (Int × Int)} (h : VG n es) : es.Nodup := Ord.nodup h.2.2.2.2
end Go.Proofs.YtdjdgnabcecdlaaDoor.X
