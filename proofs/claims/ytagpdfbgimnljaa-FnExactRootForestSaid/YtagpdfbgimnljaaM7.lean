/- Safe parts and the tree of bridges: plain law. -/
import Derived.Test.YtagpdfbgimnljaaM6
set_option linter.unusedVariables false
namespace Go.Proofs.Ytagpdfbgimnljaa.X
open Go

/-- A graph's edges without its bridges. -/
noncomputable def bare (es : List (Int × Int)) : List (Int × Int) := es.filter fun e => !decide (Brg es e)
/-- A graph's bridges. -/
noncomputable def brgs (es : List (Int × Int)) : List (Int × Int) := es.filter fun e => decide (Brg es e)
theorem mem_bare {es : List (Int × Int)} {e : Int × Int} : e ∈ bare es ↔ e ∈ es ∧ ¬ Brg es e := by simp [bare]
theorem mem_brgs {es : List (Int × Int)} {e : Int × Int} : e ∈ brgs es ↔ e ∈ es ∧ Brg es e := by simp [brgs]
theorem bare_sub {es : List (Int × Int)} : ∀ e ∈ bare es, e ∈ es := fun e he => (mem_bare.1 he).1
theorem bare_cut {es : List (Int × Int)} {e : Int × Int} (h : Brg es e) : ∀ f ∈ bare es, f ∈ cutE e es := fun f hf => cutE_mem.2 ⟨(mem_bare.1 hf).1, fun he => (mem_bare.1 hf).2 (he ▸ h)⟩
theorem VG.bare {n : Int} {es : List (Int × Int)} (h : VG n es) : VG n (X.bare es) := h.sub List.filter_sublist
theorem VG.brgs {n : Int} {es : List (Int × Int)} (h : VG n es) : VG n (X.brgs es) := h.sub List.filter_sublist

/-- Without some bridges: what no bridge parts stays together. -/
theorem bare_keep {es : List (Int × Int)} {x y : Int} (hc : Conn es x y) (h : ∀ e ∈ es, Conn (cutE e es) x y) :
    ∀ bs : List (Int × Int), (∀ e ∈ bs, Brg es e) → Conn (es.filter fun e => !decide (e ∈ bs)) x y
  | [], _ => by
    rw [List.filter_eq_self.2 (by simp)]; exact hc
  | b :: bs, hb => by
    have ih := bare_keep hc h bs fun e he => hb e (List.mem_cons_of_mem _ he)
    by_cases hm : b ∈ es.filter fun e => !decide (e ∈ bs)
    · have hbe : b ∈ es := (List.mem_filter.1 hm).1
      have he : (es.filter fun e => !decide (e ∈ b :: bs)) = cutE b (es.filter fun e => !decide (e ∈ bs)) := by
        unfold cutE
        rw [List.filter_filter]
        refine List.filter_congr fun e _ => ?_
        simp only [List.mem_cons, not_or, decide_not, Bool.decide_or, Bool.not_or, ne_eq]
      rw [he]
      refine Classical.byContradiction fun hno => ?_
      have hsub : ∀ e ∈ cutE b (es.filter fun e => !decide (e ∈ bs)), e ∈ cutE b es := fun e he => by
        have := cutE_mem.1 he
        exact cutE_mem.2 ⟨(List.mem_filter.1 this.1).1, this.2⟩
      have hb1 := hb b (by simp)
      have hxy := h b hbe
      rcases conn_cons.1 ((conn_cut hm x y).1 ih) with k | ⟨k1, k2⟩ | ⟨k1, k2⟩
      · exact hno k
      · exact hb1 (((k1.mono hsub).symm.trans hxy).trans (k2.mono hsub).symm)
      · exact hb1 (((k2.mono hsub).trans hxy.symm).trans (k1.mono hsub))
    · have he : (es.filter fun e => !decide (e ∈ b :: bs)) = es.filter fun e => !decide (e ∈ bs) := by
        refine List.filter_congr fun e hes => ?_
        have : e = b → e ∈ bs := fun h1 => by
          subst h1
          refine Classical.byContradiction fun h2 => hm (List.mem_filter.2 ⟨hes, by simp [h2]⟩)
        by_cases h1 : e ∈ bs
        · simp [h1]
        · have h2 : e ≠ b := fun h2 => h1 (this h2)
          simp [h1, h2]
      rw [he]; exact ih
theorem safe_iff {es : List (Int × Int)} {x y : Int} : Conn (bare es) x y ↔ Conn es x y ∧ ∀ e ∈ es, Conn (cutE e es) x y := by
  constructor
  · intro h
    have hc := h.mono bare_sub
    refine ⟨hc, fun e he => ?_⟩
    by_cases hb : Brg es e
    · exact h.mono (bare_cut hb)
    · have hb' : Conn (cutE e es) e.1 e.2 := Classical.not_not.1 hb
      refine hc.via fun f hf => ?_
      by_cases hq : f = e
      · subst hq; exact hb'
      · exact .edge (cutE_mem.2 ⟨hf, hq⟩)
  · rintro ⟨hc, h⟩
    have := bare_keep hc h (brgs es) fun e he => (mem_brgs.1 he).2
    refine this.mono fun e he => ?_
    rw [List.mem_filter] at he
    refine mem_bare.2 ⟨he.1, fun hb => ?_⟩
    have := he.2
    simp only [Bool.not_eq_true', decide_eq_false_iff_not] at this
    exact this (mem_brgs.2 ⟨he.1, hb⟩)

/-! The tree of bridges. -/
/-- The label of a node's safe part. -/
noncomputable def sl (es : List (Int × Int)) (x : Int) : Int := (least (bare es) x.toNat : Nat)
theorem sl_conn {es : List (Int × Int)} {x : Int} (hx : 0 ≤ x) : Conn (bare es) (sl es x) x := by
  obtain ⟨k, rfl⟩ := Int.eq_ofNat_of_zero_le hx
  exact (least_spec (bare es) k).2.1
theorem sl_bound {es : List (Int × Int)} {x : Int} (hx : 0 ≤ x) : 0 ≤ sl es x ∧ sl es x ≤ x := by
  obtain ⟨k, rfl⟩ := Int.eq_ofNat_of_zero_le hx
  have := (least_spec (bare es) k).1
  unfold sl
  simp only [Int.toNat_natCast]; omega
theorem sl_eq {es : List (Int × Int)} {x y : Int} (hx : 0 ≤ x) (hy : 0 ≤ y) : sl es x = sl es y ↔ Conn (bare es) x y := by
  obtain ⟨k, rfl⟩ := Int.eq_ofNat_of_zero_le hx
  obtain ⟨j, rfl⟩ := Int.eq_ofNat_of_zero_le hy
  unfold sl
  rw [← least_iff]
  simp only [Int.toNat_natCast]; omega
noncomputable def treeE (es : List (Int × Int)) (e : Int × Int) : Int × Int := edgeOf (sl es e.1) (sl es e.2)
/-- The edges between safe parts, in the order of bridges. -/
noncomputable def treeL (es : List (Int × Int)) : List (Int × Int) := (brgs es).map (treeE es)
theorem brg_apart {n : Int} {es : List (Int × Int)} (ho : ∀ e ∈ es, okE n e) {e : Int × Int} (he : e ∈ brgs es) : sl es e.1 ≠ sl es e.2 := by
  obtain ⟨h1, h2⟩ := mem_brgs.1 he
  have := ho e h1
  unfold okE at this
  intro h
  exact h2 (((sl_eq (by omega) (by omega)).1 h).mono (bare_cut h2))
theorem edgeOf_ok {n x y : Int} (hx : 0 ≤ x ∧ x < n) (hy : 0 ≤ y ∧ y < n) (h : x ≠ y) : okE n (edgeOf x y) := by
  unfold okE edgeOf
  split <;> simp only <;> omega
theorem tree_ok {n : Int} {es : List (Int × Int)} (ho : ∀ e ∈ es, okE n e) : ∀ f ∈ treeL es, okE n f := by
  intro f hf
  obtain ⟨e, he, rfl⟩ := List.mem_map.1 hf
  have h1 := ho e (mem_brgs.1 he).1
  unfold okE at h1
  have b1 := sl_bound (es := es) (x := e.1) (by omega)
  have b2 := sl_bound (es := es) (x := e.2) (by omega)
  exact edgeOf_ok (by omega) (by omega) (brg_apart ho he)
/-- Both nodes of an edge of the tree are connected along its bridge. -/
theorem tree_via {n : Int} {es fs : List (Int × Int)} (ho : ∀ e ∈ es, okE n e) {e : Int × Int} (he : e ∈ brgs es) (hs : ∀ f ∈ bare es, f ∈ fs) (hf : e ∈ fs) : Conn fs (treeE es e).1 (treeE es e).2 := by
  have h1 := ho e (mem_brgs.1 he).1
  unfold okE at h1
  have c : Conn fs (sl es e.1) (sl es e.2) := (((sl_conn (es := es) (x := e.1) (by omega)).mono hs).trans (.edge hf)).trans ((sl_conn (es := es) (x := e.2) (by omega)).mono hs).symm
  unfold treeE
  rcases edgeOf_ends (x := sl es e.1) (y := sl es e.2) with h | h
  · rw [h]; exact c
  · rw [h]; exact c.symm
theorem tree_edge {fs : List (Int × Int)} {x y : Int} (h : Conn fs (edgeOf x y).1 (edgeOf x y).2) : Conn fs x y := by
  rcases edgeOf_ends (x := x) (y := y) with e | e
  · rw [e] at h; exact h
  · rw [e] at h; exact h.symm
theorem tree_conn {n : Int} {es : List (Int × Int)} (ho : ∀ e ∈ es, okE n e) {x y : Int} (hx : 0 ≤ x) (hy : 0 ≤ y) : Conn (treeL es) (sl es x) (sl es y) ↔ Conn es x y := by
  constructor
  · intro h
    have : Conn es (sl es x) (sl es y) := h.via fun f hf => by
      obtain ⟨e, he, rfl⟩ := List.mem_map.1 hf
      exact tree_via ho he bare_sub (mem_brgs.1 he).1
    exact (((sl_conn hx).mono bare_sub).symm.trans this).trans ((sl_conn hy).mono bare_sub)
  · intro h
    have key : ∀ {x y : Int}, 0 ≤ x → 0 ≤ y → Adj es x y → Conn (treeL es) (sl es x) (sl es y) := by
      intro x y hx hy a
      have one : ∀ {x y : Int}, 0 ≤ x → 0 ≤ y → (x, y) ∈ es → Conn (treeL es) (sl es x) (sl es y) := by
        intro x y hx hy a
        by_cases hb : Brg es (x, y)
        · have hm : (x, y) ∈ brgs es := mem_brgs.2 ⟨a, hb⟩
          have : treeE es (x, y) ∈ treeL es := List.mem_map.2 ⟨_, hm, rfl⟩
          exact tree_edge (.edge this)
        · rw [(sl_eq hx hy).2 (Conn.edge (mem_bare.2 ⟨a, hb⟩))]
          exact .refl _
      rcases a with a | a
      · exact one hx hy a
      · exact (one hy hx a).symm
    have : ∀ z, Conn es x z → (z = x ∨ 0 ≤ z) ∧ Conn (treeL es) (sl es x) (sl es z) := by
      intro z hz
      induction hz with
      | refl => exact ⟨.inl rfl, .refl _⟩
      | step _ a ih =>
        have hk := a.ok ho
        exact ⟨.inr (by omega), ih.2.trans (key (by omega) (by omega) a)⟩
    exact (this y h).2
theorem tree_inj {n : Int} {es : List (Int × Int)} (ho : ∀ e ∈ es, okE n e) {e f : Int × Int} (he : e ∈ brgs es) (hf : f ∈ brgs es) (hq : treeE es e = treeE es f) : e = f := by
  refine Classical.byContradiction fun hne => ?_
  have h1 := ho e (mem_brgs.1 he).1
  unfold okE at h1
  have h2 := (mem_brgs.1 he).2
  have c := tree_via (fs := cutE e es) ho hf (bare_cut h2) (cutE_mem.2 ⟨(mem_brgs.1 hf).1, fun h => hne h.symm⟩)
  rw [← hq] at c
  have c' := tree_edge c
  exact h2 ((((sl_conn (es := es) (x := e.1) (by omega)).mono (bare_cut h2)).symm.trans c').trans ((sl_conn (es := es) (x := e.2) (by omega)).mono (bare_cut h2)))
theorem nodup_map {α β : Type} {f : α → β} : ∀ {l : List α}, l.Nodup → (∀ x ∈ l, ∀ y ∈ l, f x = f y → x = y) → (l.map f).Nodup
  | [], _, _ => by simp
  | a :: l, hn, h => by
    rw [List.nodup_cons] at hn
    rw [List.map_cons, List.nodup_cons]
    refine ⟨fun hm => ?_, nodup_map hn.2 fun x hx y hy => h x (List.mem_cons_of_mem _ hx) y (List.mem_cons_of_mem _ hy)⟩
    obtain ⟨b, hb, he⟩ := List.mem_map.1 hm
    have := h a (by simp) b (List.mem_cons_of_mem _ hb) he.symm
    exact hn.1 (this ▸ hb)
theorem tree_nodup {n : Int} {es : List (Int × Int)} (ho : ∀ e ∈ es, okE n e) (hn : es.Nodup) : (treeL es).Nodup :=
  nodup_map (hn.sublist List.filter_sublist) fun _ hx _ hy => tree_inj ho hx hy
/-- Each edge of the tree is a bridge of it. -/
theorem tree_brgs {n : Int} {es : List (Int × Int)} (ho : ∀ e ∈ es, okE n e) {f : Int × Int} (hf : f ∈ treeL es) : Brg (treeL es) f := by
  obtain ⟨e, he, rfl⟩ := List.mem_map.1 hf
  intro hc
  have h1 := ho e (mem_brgs.1 he).1
  unfold okE at h1
  have h2 := (mem_brgs.1 he).2
  have c : Conn (cutE e es) (treeE es e).1 (treeE es e).2 := hc.via fun g hg => by
    obtain ⟨hg1, hg2⟩ := cutE_mem.1 hg
    obtain ⟨e', he', rfl⟩ := List.mem_map.1 hg1
    have hne : e' ≠ e := fun h => hg2 (by rw [h])
    exact tree_via ho he' (bare_cut h2) (cutE_mem.2 ⟨(mem_brgs.1 he').1, hne⟩)
  have c' := tree_edge c
  exact h2 ((((sl_conn (es := es) (x := e.1) (by omega)).mono (bare_cut h2)).symm.trans c').trans ((sl_conn (es := es) (x := e.2) (by omega)).mono (bare_cut h2)))
/-- What is a bridge depends on which edges there are alone. -/
theorem brg_congr {es fs : List (Int × Int)} (h : ∀ e, e ∈ es ↔ e ∈ fs) {e : Int × Int} : Brg es e ↔ Brg fs e := by
  unfold Brg
  refine not_congr ⟨Conn.mono fun f hf => ?_, Conn.mono fun f hf => ?_⟩
  · rw [cutE_mem] at hf ⊢; exact ⟨(h f).1 hf.1, hf.2⟩
  · rw [cutE_mem] at hf ⊢; exact ⟨(h f).2 hf.1, hf.2⟩
end Go.Proofs.Ytagpdfbgimnljaa.X
