/- Bridges and cut nodes on paths; cycles: plain law. -/
import Derived.Test.YtagpdfbgimnljaaKF
set_option linter.unusedVariables false
namespace Go.Proofs.Ytagpdfbgimnljaa.X
open Go

theorem edgeOf_of {n : Int} {e : Int × Int} (h : okE n e) : edgeOf e.1 e.2 = e ∧ edgeOf e.2 e.1 = e := by
  unfold okE at h
  unfold edgeOf
  rw [if_pos (by omega), if_neg (by omega)]
  exact ⟨rfl, rfl⟩
theorem pathL_pos {n : Int} {es : List (Int × Int)} {x y : Int} : 0 < (pathL n es x y).length := by rw [pathL_len]; omega
theorem path_break {n : Int} {es fs : List (Int × Int)} {x y : Int} (ho : ∀ e ∈ es, okE n e) (hn : 0 ≤ n) (hc : Conn es x y) (hno : ¬ Conn fs x y) :
    ∃ i, i + 1 < (pathL n es x y).length ∧ Adj es ((pathL n es x y).getD i 0) ((pathL n es x y).getD (i + 1) 0) ∧ ¬ Adj fs ((pathL n es x y).getD i 0) ((pathL n es x y).getD (i + 1) 0) := by
  have hp := pathL_pos (n := n) (es := es) (x := x) (y := y)
  refine walk_breaks (pathL_walk ho hn hc) (k := (pathL n es x y).length - 1) (by omega) ?_
  rw [pathL_zero, pathL_last ho hn hc (by omega)]
  exact hno
theorem between_brg {es : List (Int × Int)} {e : Int × Int} {x y : Int} (hc : Conn es x y) (hno : ¬ Conn (cutE e es) x y) : Brg es e := fun hb => hno (hc.via fun f hf => by
  by_cases hq : f = e
  · subst hq; exact hb
  · exact .edge (cutE_mem.2 ⟨hf, hq⟩))
theorem between_path {n : Int} {es : List (Int × Int)} {e : Int × Int} {x y : Int} (ho : ∀ e ∈ es, okE n e) (hn : 0 ≤ n) (he : e ∈ es) (hc : Conn es x y) (hno : ¬ Conn (cutE e es) x y) :
    ∃ i, i + 1 < (pathL n es x y).length ∧ e = edgeOf ((pathL n es x y).getD i 0) ((pathL n es x y).getD (i + 1) 0) ∧ e.1 ∈ pathL n es x y ∧ e.2 ∈ pathL n es x y := by
  obtain ⟨i, hi, ha, hb⟩ := path_break ho hn hc hno
  have h1 := getD_mem (d := 0) (show i < (pathL n es x y).length by omega)
  have h2 := getD_mem (d := 0) (show i + 1 < (pathL n es x y).length by omega)
  have hk := edgeOf_of (ho e he)
  refine ⟨i, hi, ?_⟩
  rcases adj_cut ho ha hb with ⟨e1, e2⟩ | ⟨e1, e2⟩
  · rw [e1] at h1; rw [e2] at h2; rw [e1, e2]; exact ⟨hk.1.symm, h1, h2⟩
  · rw [e1] at h1; rw [e2] at h2; rw [e1, e2]; exact ⟨hk.2.symm, h2, h1⟩
theorem between_len {n : Int} {es : List (Int × Int)} {x y : Int} (ho : ∀ e ∈ es, okE n e) (hn : 0 ≤ n) (hd : es.Nodup) (hc : Conn es x y) : (es.filter fun e => !decide (Conn (cutE e es) x y)).length < (pathL n es x y).length := by
  have hp := pathL_pos (n := n) (es := es) (x := x) (y := y)
  have := len_le_of_sub (l := es.filter fun e => !decide (Conn (cutE e es) x y)) (m := (List.range ((pathL n es x y).length - 1)).map fun i => edgeOf ((pathL n es x y).getD i 0) ((pathL n es x y).getD (i + 1) 0)) (hd.sublist List.filter_sublist) (fun e he => by
    obtain ⟨h1, h2⟩ := List.mem_filter.1 he
    simp only [Bool.not_eq_true', decide_eq_false_iff_not] at h2
    obtain ⟨i, hi, hq, _⟩ := between_path ho hn h1 hc h2
    exact List.mem_map.2 ⟨i, List.mem_range.2 (by omega), hq.symm⟩)
  simp only [List.length_map, List.length_range] at this
  omega

/-! Without a node that is no cut node. -/
theorem conn_alone {n : Int} {es : List (Int × Int)} {v x y : Int} (ho : ∀ e ∈ es, okE n e) (h : ¬ CutN es v) (hc : Conn es x y) (hx : x ≠ v) (hy : y ≠ v) : Conn (alone v es) x y := by
  have hall : ∀ z, Adj es v z → Conn (alone v es) ((nbS v es).getD 0 0) z := fun z hz => Classical.byContradiction fun hno => h ⟨z, (mem_nbS ho).2 hz, hno⟩
  have key : ∀ z, Conn es x z → Conn (alone v es) x (if z = v then (nbS v es).getD 0 0 else z) := by
    intro z hz
    induction hz with
    | refl => rw [if_neg hx]; exact .refl _
    | step _ a ih =>
      rename_i b c _
      by_cases hb : b = v
      · subst hb
        have hcb : ¬ c = b := (a.ok ho).2.2.2.2.symm
        rw [if_pos rfl] at ih
        rw [if_neg hcb]
        exact ih.trans (hall c a)
      · rw [if_neg hb] at ih
        by_cases hcv : c = v
        · subst hcv
          rw [if_pos rfl]
          exact ih.trans (hall b a.symm).symm
        · rw [if_neg hcv]
          refine ih.step ?_
          rcases a with a | a
          · exact .inl (List.mem_filter.2 ⟨a, by simp [hb, hcv]⟩)
          · exact .inr (List.mem_filter.2 ⟨a, by simp [hb, hcv]⟩)
  have := key y hc
  rwa [if_neg hy] at this
theorem between_cut {n : Int} {es : List (Int × Int)} {v x y : Int} (ho : ∀ e ∈ es, okE n e) (hn : 0 ≤ n) (hc : Conn es x y) (hx : v ≠ x) (hy : v ≠ y) (hno : ¬ Conn (alone v es) x y) : CutN es v ∧ v ∈ pathL n es x y := by
  refine ⟨Classical.byContradiction fun h => hno (conn_alone ho h hc hx.symm hy.symm), ?_⟩
  obtain ⟨i, hi, ha, hb⟩ := path_break ho hn hc hno
  have h1 := getD_mem (d := 0) (show i < (pathL n es x y).length by omega)
  have h2 := getD_mem (d := 0) (show i + 1 < (pathL n es x y).length by omega)
  by_cases e1 : (pathL n es x y).getD i 0 = v
  · rw [e1] at h1; exact h1
  by_cases e2 : (pathL n es x y).getD (i + 1) 0 = v
  · rw [e2] at h2; exact h2
  refine absurd ?_ hb
  rcases ha with a | a
  · exact .inl (List.mem_filter.2 ⟨a, by simp only [decide_eq_true_eq]; exact ⟨e1, e2⟩⟩)
  · exact .inr (List.mem_filter.2 ⟨a, by simp only [decide_eq_true_eq]; exact ⟨e2, e1⟩⟩)

/-! Cycles. -/
theorem seg {fs : List (Int × Int)} {p : List Int} {i : Nat} : ∀ k, i ≤ k → k < p.length → (∀ t, i ≤ t → t < k → Adj fs (p.getD t 0) (p.getD (t + 1) 0)) → Conn fs (p.getD i 0) (p.getD k 0)
  | 0, h0, _, _ => by
    obtain rfl : i = 0 := by omega
    exact .refl _
  | k + 1, h0, h1, h => by
    by_cases hi : i = k + 1
    · subst hi; exact .refl _
    · exact .step (seg k (by omega) (by omega) fun t h2 h3 => h t h2 (by omega)) (h k (by omega) (by omega))
/-- The nodes of a cycle are safe together. -/
theorem cycle_safe {n : Int} {es : List (Int × Int)} {e : Int × Int} (ho : ∀ e ∈ es, okE n e) (hn : 0 ≤ n) (he : e ∈ es) (hc : Conn (cutE e es) e.1 e.2) {i : Nat} (hi : i < (pathL n (cutE e es) e.1 e.2).length) :
    Conn (bare es) ((pathL n (cutE e es) e.1 e.2).getD 0 0) ((pathL n (cutE e es) e.1 e.2).getD i 0) := by
  have ho' : ∀ f ∈ cutE e es, okE n f := fun f hf => ho f (cutE_mem.1 hf).1
  have hpos := pathL_pos (n := n) (es := cutE e es) (x := e.1) (y := e.2)
  have hw := pathL_walk ho' hn hc
  have hnew := fun {i j : Nat} => pathL_new (i := i) (j := j) ho' hn hc
  have hz : (pathL n (cutE e es) e.1 e.2).getD 0 0 = e.1 := pathL_zero
  have hl : (pathL n (cutE e es) e.1 e.2).getD ((pathL n (cutE e es) e.1 e.2).length - 1) 0 = e.2 := pathL_last ho' hn hc (by omega)
  generalize pathL n (cutE e es) e.1 e.2 = p at *
  refine safe_iff.2 ⟨(hw.conn i hi).mono fun f hf => (cutE_mem.1 hf).1, fun f hf => ?_⟩
  by_cases hfe : f = e
  · subst hfe; exact hw.conn i hi
  have hstep : ∀ t, t + 1 < p.length → ¬ Adj (cutE f es) (p.getD t 0) (p.getD (t + 1) 0) → (p.getD t 0 = f.1 ∧ p.getD (t + 1) 0 = f.2) ∨ (p.getD t 0 = f.2 ∧ p.getD (t + 1) 0 = f.1) := fun t ht hno =>
    adj_cut ho ((hw t ht).mono fun g hg => (cutE_mem.1 hg).1) hno
  have hinj : ∀ s t, s < p.length → t < p.length → p.getD s 0 = p.getD t 0 → s = t := fun s t hs ht hq => by
    by_cases h1 : s < t
    · exact absurd hq (hnew h1 ht)
    · by_cases h2 : t < s
      · exact absurd hq.symm (hnew h2 hs)
      · omega
  by_cases hall : ∀ t, t < i → Adj (cutE f es) (p.getD t 0) (p.getD (t + 1) 0)
  · exact seg i (Nat.zero_le _) hi fun t _ h => hall t h
  · obtain ⟨j, hj⟩ : ∃ j, j < i ∧ ¬ Adj (cutE f es) (p.getD j 0) (p.getD (j + 1) 0) := Classical.byContradiction fun h => hall fun t ht => Classical.byContradiction fun h2 => h ⟨t, ht, h2⟩
    obtain ⟨hj1, hj2⟩ := hj
    have hjs := hstep j (by omega) hj2
    have c1 : Conn (cutE f es) (p.getD i 0) (p.getD (p.length - 1) 0) := seg (p.length - 1) (by omega) (by omega) fun t h1 h2 => Classical.byContradiction fun hno => by
      have hts := hstep t (by omega) hno
      have h3 := hinj t j (by omega) (by omega)
      have h4 := hinj t (j + 1) (by omega) (by omega)
      have h5 := hinj (t + 1) j (by omega) (by omega)
      rcases hts with ⟨a1, a2⟩ | ⟨a1, a2⟩ <;> rcases hjs with ⟨b1, b2⟩ | ⟨b1, b2⟩
      · have := h3 (by rw [a1, b1]); omega
      · have := h5 (by rw [a2, b1]); omega
      · have := h5 (by rw [a2, b1]); omega
      · have := h3 (by rw [a1, b1]); omega
    have c2 : Conn (cutE f es) e.1 e.2 := .edge (cutE_mem.2 ⟨he, fun h => hfe h.symm⟩)
    rw [hz]
    rw [hl] at c1
    exact c2.trans c1.symm
theorem lab_congr {n : Int} {es fs : List (Int × Int)} (h : ∀ x y : Int, Conn es x y ↔ Conn fs x y) : lab n es = lab n fs := by
  unfold lab
  refine List.map_congr_left fun x _ => ?_
  have : least es x = least fs x := by
    obtain ⟨a1, a2, a3⟩ := least_spec es x
    obtain ⟨b1, b2, b3⟩ := least_spec fs x
    refine Nat.le_antisymm (Nat.le_of_not_lt fun hl => a3 _ hl ((h _ _).2 b2)) (Nat.le_of_not_lt fun hl => b3 _ hl ((h _ _).1 a2))
  rw [this]
end Go.Proofs.Ytagpdfbgimnljaa.X
