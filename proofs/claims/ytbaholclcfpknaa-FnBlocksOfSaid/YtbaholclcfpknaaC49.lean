/- What functions compute: blocks with at most one cut node. -/
import Derived.Test.YtbaholclcfpknaaC48
set_option linter.unusedSimpArgs false
set_option linter.unusedVariables false
set_option maxHeartbeats 8000000
set_option maxRecDepth 100000
namespace Go.Proofs.Ytbaholclcfpknaa.X
open Go Go.Proofs

/-- How many cut nodes there are in a list. -/
noncomputable def cutsN (es : List (Int × Int)) (vs : List Int) : Nat := (vs.filter fun v => decide (CutN es v)).length
noncomputable def leafT (n : Int) (es : List (Int × Int)) (i : Int) : List Int := (iota i).filter fun j => decide (cutsN es (nodesL n ((blocksL es).getD j.toNat [])) ≤ 1)
theorem sorted_ne2 {l : List Int} (h : l.Pairwise (· < ·)) {i k : Nat} (hi : i < l.length) (hk : k < l.length) (hne : i ≠ k) : l.getD i 0 ≠ l.getD k 0 := by
  have hp := List.pairwise_iff_getElem.1 h
  simp only [List.getD, List.getElem?_eq_getElem hi, List.getElem?_eq_getElem hk, Option.getD_some]
  rcases Nat.lt_or_gt_of_ne hne with q | q
  · have := hp i k hi hk q; omega
  · have := hp k i hk hi q; omega
theorem nodes_len {n : Int} (h : 0 ≤ n) (es : List (Int × Int)) : ((nodesL n es).length : Int) ≤ n := by
  unfold nodesL
  have := List.length_filter_le (fun v => es.any fun e => decide (On v e)) (iota n)
  rw [iota_length] at this
  omega

/-! The blocks part the edges. -/
theorem blkE_cnt {es : List (Int × Int)} {ls : List Int} {k : Int} : ∀ (h : ls.length = es.length), (blkE es ls k).length = (ls.filter fun x => decide (x = k)).length := by
  unfold blkE
  induction es generalizing ls with
  | nil => intro h; have := List.eq_nil_of_length_eq_zero h; subst this; rfl
  | cons e r ih =>
    intro h
    cases ls with
    | nil => simp at h
    | cons x xs =>
      rw [List.zip_cons_cons, List.filterMap_cons, List.filter_cons]
      simp only
      by_cases c : x = k
      · rw [if_pos c, if_pos (decide_eq_true c)]
        simp only [List.length_cons]
        rw [ih (by simpa using h)]
      · rw [if_neg c, if_neg (by simpa using c)]
        exact ih (by simpa using h)
theorem lt_snoc (ls : List Int) (i : Int) : (ls.filter fun x => decide (x < i + 1)).length = (ls.filter fun x => decide (x < i)).length + (ls.filter fun x => decide (x = i)).length := by
  induction ls with
  | nil => rfl
  | cons x xs ih =>
    simp only [List.filter_cons]
    by_cases c : x < i
    · have c1 : x < i + 1 := by omega
      have c2 : ¬ x = i := by omega
      simp only [c, c1, c2, decide_true, decide_false, if_true, Bool.false_eq_true, if_false, List.length_cons]; omega
    · by_cases c2 : x = i
      · have c1 : x < i + 1 := by omega
        rw [if_pos (decide_eq_true c1), if_neg (by simpa using c), if_pos (decide_eq_true c2), List.length_cons, List.length_cons]; omega
      · have c1 : ¬ x < i + 1 := by omega
        simp only [c, c1, c2, decide_false, Bool.false_eq_true, if_false]; exact ih
theorem blocks_sum {es : List (Int × Int)} : ∀ i : Nat, (i : Int) ≤ es.length → ((blocksT es i).map List.length).sum = ((blkL es).filter fun x => decide (x < (i : Int))).length
  | 0, _ => by
    have h1 : blocksT es ((0 : Nat) : Int) = [] := rfl
    rw [h1]
    have : (blkL es).filter (fun x => decide (x < ((0 : Nat) : Int))) = [] := by
      rw [List.filter_eq_nil_iff]
      intro x hx
      unfold blkL lab at hx
      obtain ⟨q, _, rfl⟩ := List.mem_map.1 hx
      simp
    rw [this]; rfl
  | i + 1, hi => by
    have ih := blocks_sum (es := es) i (by omega)
    have hsn := blocksT_snoc (es := es) (i := i) (by omega)
    rw [show ((i + 1 : Nat) : Int) = (i : Int) + 1 by omega, hsn, lt_snoc, List.map_append, List.sum_append, ih]
    congr 1
    have hbl := blkL_length es
    split
    · simp only [List.map_cons, List.map_nil, List.sum_cons, List.sum_nil, Nat.add_zero]
      exact blkE_cnt hbl
    · rename_i hne
      have : (blkL es).filter (fun x => decide (x = (i : Int))) = [] := by
        rw [List.filter_eq_nil_iff]
        intro x hx hxi
        simp only [decide_eq_true_eq] at hxi
        subst hxi
        obtain ⟨q, hq, he⟩ := List.mem_iff_getElem.1 hx
        have hg : (blkL es).getD ((q : Nat) : Int).toNat 0 = (i : Int) := by rw [Int.toNat_natCast]; simp [hq, he]
        have := (blkL_idem (es := es) (i := q) (by omega)).2
        rw [hg] at this
        exact hne this
      rw [this]; rfl
theorem blocks_total (es : List (Int × Int)) : ((blocksL es).map List.length).sum = es.length := by
  have h := blocks_sum (es := es) es.length (Int.le_refl _)
  have : (blkL es).filter (fun x => decide (x < ((es.length : Nat) : Int))) = blkL es := by
    rw [List.filter_eq_self]
    intro x hx
    obtain ⟨q, hq, he⟩ := List.mem_iff_getElem.1 hx
    have hbl := blkL_length es
    have := (blkL_idem (es := es) (i := q) (by omega)).1.2
    rw [Int.toNat_natCast] at this
    have hg : (blkL es).getD q 0 = x := by simp [hq, he]
    rw [hg] at this
    exact decide_eq_true this
  rw [this, blkL_length] at h
  exact h
/-- Two places of blocks: two blocks. -/
theorem blocks_two {es : List (Int × Int)} (hnd : es.Nodup) {i k : Nat} (hi : i < (blocksL es).length) (hk : k < (blocksL es).length) (hne : i ≠ k) {e f : Int × Int} (he : e ∈ (blocksL es).getD i []) (hf : f ∈ (blocksL es).getD k []) : e ∈ es ∧ f ∈ es ∧ ¬ Blk es e f := by
  obtain ⟨L, hL⟩ : ∃ L, L = (iota es.length).filter fun j => decide ((blkL es).getD j.toNat 0 = j) := ⟨_, rfl⟩
  have hLs : L.Pairwise (· < ·) := by rw [hL]; exact (sorted_iota _).filter _
  have hB : blocksL es = L.map fun j => blkE es (blkL es) j := by rw [hL]; rfl
  have hlen : (blocksL es).length = L.length := by rw [hB, List.length_map]
  have hget : ∀ q : Nat, q < L.length → (blocksL es).getD q [] = blkE es (blkL es) (L.getD q 0) := fun q hq => by rw [hB]; simp [hq]
  rw [hget i (by omega)] at he
  rw [hget k (by omega)] at hf
  have inE : ∀ {x : Int × Int} {t : Int}, x ∈ blkE es (blkL es) t → x ∈ es := fun h => by
    obtain ⟨q, hq, _⟩ := mem_blkE.1 h
    exact List.mem_of_getElem? hq
  have h1 := inE he
  have h2 := inE hf
  refine ⟨h1, h2, fun hb => ?_⟩
  have h3 := (mem_blk hnd h1).1 he
  have h4 := (mem_blk hnd h2).1 hf
  have h5 := blk_beq hnd h1 h2
  rw [decide_eq_true hb, decide_eq_true_eq, h3, h4] at h5
  exact sorted_ne2 hLs (by omega) (by omega) hne h5
end Go.Proofs.Ytbaholclcfpknaa.X


