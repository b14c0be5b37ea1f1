/- Paths and parts. -/
import Derived.Test.YtagpdfbgimnljaaKE
/- Bridges, forests, paths: plain law. -/
set_option linter.unusedVariables false
namespace Go.Proofs.Ytagpdfbgimnljaa.X
open Go

/-- An edge whose nodes are not connected without it. -/
def Brg (es : List (Int × Int)) (e : Int × Int) : Prop := ¬ Conn (cutE e es) e.1 e.2
noncomputable instance decBrg (es : List (Int × Int)) (e : Int × Int) : Decidable (Brg es e) := Classical.propDecidable _

theorem edgeOf_ends {x y : Int} : (edgeOf x y = (x, y)) ∨ (edgeOf x y = (y, x)) := by unfold edgeOf; split <;> simp
theorem adj_edge {n : Int} {es : List (Int × Int)} (ho : ∀ e ∈ es, okE n e) {x y : Int} : Adj es x y ↔ x ≠ y ∧ edgeOf x y ∈ es := by
  rw [← mem_edgeOf ho]
  have : edgeOf y x = edgeOf x y ∨ x = y := by
    unfold edgeOf
    by_cases h1 : x < y
    · rw [if_neg (by omega), if_pos h1]; exact .inl rfl
    · by_cases h2 : y < x
      · rw [if_pos h2, if_neg h1]; exact .inl rfl
      · exact .inr (by omega)
  constructor
  · rintro ⟨h1, h2⟩
    refine ⟨fun e => h1 e.symm, ?_⟩
    rcases this with h | h
    · rw [← h]; exact h2
    · exact absurd h.symm h1
  · rintro ⟨h1, h2⟩
    refine ⟨fun e => h1 e.symm, ?_⟩
    rcases this with h | h
    · rw [h]; exact h2
    · exact absurd h h1
theorem adj_cut {n : Int} {es : List (Int × Int)} (ho : ∀ e ∈ es, okE n e) {e : Int × Int} {x y : Int} (h : Adj es x y) (hn : ¬ Adj (cutE e es) x y) : (x = e.1 ∧ y = e.2) ∨ (x = e.2 ∧ y = e.1) := by
  rcases h with h | h
  · by_cases hq : (x, y) = e
    · subst hq; exact .inl ⟨rfl, rfl⟩
    · exact absurd (.inl (cutE_mem.2 ⟨h, hq⟩)) hn
  · by_cases hq : (y, x) = e
    · subst hq; exact .inr ⟨rfl, rfl⟩
    · exact absurd (.inr (cutE_mem.2 ⟨h, hq⟩)) hn
theorem alone_cut {v : Int} {es : List (Int × Int)} {e : Int × Int} (h : e.1 = v ∨ e.2 = v) : ∀ f ∈ alone v es, f ∈ cutE e es := by
  intro f hf
  have := List.mem_filter.1 hf
  simp only [decide_eq_true_eq] at this
  refine cutE_mem.2 ⟨this.1, fun he => ?_⟩
  subst he
  rcases h with h | h
  · exact this.2.1 h
  · exact this.2.2 h

/-- A bridge ends in a cut node, unless its node has no other neighbor. -/
theorem brg_end {n : Int} {es : List (Int × Int)} (ho : ∀ e ∈ es, okE n e) (hd : es.Nodup) {e : Int × Int} (he : e ∈ es) (hb : Brg es e) {v w : Int} (hv : (v = e.1 ∧ w = e.2) ∨ (v = e.2 ∧ w = e.1)) : CutN es v ↔ 1 < (nbS v es).length := by
  have hvw : Adj es v w := by
    rcases hv with ⟨rfl, rfl⟩ | ⟨rfl, rfl⟩
    · exact .inl he
    · exact .inr he
  have hbv : ¬ Conn (cutE e es) v w := by
    rcases hv with ⟨rfl, rfl⟩ | ⟨rfl, rfl⟩
    · exact hb
    · exact fun h => hb h.symm
  have hw : w ∈ nbS v es := (mem_nbS ho).2 hvw
  have hso := sorted_nbS ho hd v
  constructor
  · rintro ⟨x, hx, hc⟩
    cases hN : nbS v es with
    | nil => rw [hN] at hx; simp at hx
    | cons x0 r =>
      rw [hN] at hx hc
      rcases List.mem_cons.1 hx with rfl | hx
      · exact absurd (.refl _) hc
      · have := List.length_pos_of_mem hx
        simp only [List.length_cons]; omega
  · intro hl
    obtain ⟨u, hu, huw⟩ : ∃ u ∈ nbS v es, u ≠ w := by
      match hN : nbS v es with
      | [] => rw [hN] at hl; simp at hl
      | [a] => rw [hN] at hl; simp at hl
      | a :: b :: r =>
        rw [hN] at hso
        have hab : a < b := by
          rw [List.pairwise_cons] at hso
          exact hso.1 b (by simp)
        by_cases ha : a = w
        · exact ⟨b, by simp, by omega⟩
        · exact ⟨a, by simp, ha⟩
    have hvu : Adj es v u := (mem_nbS ho).1 hu
    have hcu : Adj (cutE e es) v u := Classical.byContradiction fun hno => by
      have := adj_cut ho hvu hno
      have hk := hvw.ok ho
      rcases hv with ⟨rfl, rfl⟩ | ⟨rfl, rfl⟩ <;> rcases this with ⟨h1, h2⟩ | ⟨h1, h2⟩ <;> omega
    have hal : ∀ f ∈ alone v es, f ∈ cutE e es := alone_cut (by rcases hv with ⟨rfl, rfl⟩ | ⟨rfl, rfl⟩ <;> simp)
    have huw' : ¬ Conn (alone v es) u w := fun h => hbv ((Conn.of hcu).trans (h.mono hal))
    by_cases h0 : Conn (alone v es) ((nbS v es).getD 0 0) u
    · exact ⟨w, hw, fun h1 => huw' (h0.symm.trans h1)⟩
    · exact ⟨u, hu, h0⟩

/-- Bridges alone are a forest. -/
theorem cnt_bridges {n : Int} {es : List (Int × Int)} (ho : ∀ e ∈ es, okE n e) : ∀ {bs : List (Int × Int)}, bs.Nodup → (∀ e ∈ bs, e ∈ es ∧ Brg es e) → cnt n bs + bs.length = n.toNat
  | [], _, _ => by simp [cnt_nil]
  | e :: bs, hn, h => by
    rw [List.nodup_cons] at hn
    have ih := cnt_bridges ho hn.2 fun f hf => h f (List.mem_cons_of_mem _ hf)
    obtain ⟨h1, h2⟩ := h e (by simp)
    have hok := ho e h1
    unfold okE at hok
    have hnc : ¬ Conn bs e.1 e.2 := fun hc => h2 (hc.mono fun f hf => cutE_mem.2 ⟨(h f (List.mem_cons_of_mem _ hf)).1, fun hq => hn.1 (by rw [← hq]; exact hf)⟩)
    have := cnt_less (n := n) (a := e.1) (b := e.2) (es := bs) (by omega) (by omega) hnc
    simp only [List.length_cons]
    have e1 : ((e.1, e.2) : Int × Int) = e := rfl
    rw [e1] at this
    omega
theorem bridges_le {n : Int} {es bs : List (Int × Int)} (ho : ∀ e ∈ es, okE n e) (hn : bs.Nodup) (h : ∀ e ∈ bs, e ∈ es ∧ Brg es e) : bs.length + cnt n es ≤ n.toNat := by
  have h1 := cnt_bridges ho hn h
  have h2 := cnt_sub (n := n) (es := es) (fs := bs) fun e he => (h e he).1
  omega

/-! The forest of the first edges. -/
noncomputable def fstep (acc : List (Int × Int)) (e : Int × Int) : List (Int × Int) := if Conn acc e.1 e.2 then acc else acc ++ [e]
noncomputable def forestL (es : List (Int × Int)) : List (Int × Int) := es.foldl fstep []
theorem fstep_sub {acc : List (Int × Int)} {e : Int × Int} : acc.Sublist (fstep acc e) := by
  unfold fstep; split
  · exact List.Sublist.refl _
  · exact List.sublist_append_left _ _
theorem fstep_conn {acc : List (Int × Int)} {e : Int × Int} : Conn (fstep acc e) e.1 e.2 := by
  unfold fstep; split
  · assumption
  · exact .edge (by simp)
theorem conn_snoc {es : List (Int × Int)} {e : Int × Int} {x y : Int} : Conn (es ++ [e]) x y ↔ Conn (e :: es) x y :=
  ⟨Conn.mono fun f hf => (by rcases List.mem_append.1 hf with h | h; exact List.mem_cons_of_mem _ h; exact List.mem_cons.2 (.inl (List.mem_singleton.1 h))), Conn.mono fun f hf => (by rcases List.mem_cons.1 hf with h | h; exact List.mem_append.2 (.inr (List.mem_singleton.2 h)); exact List.mem_append.2 (.inl h))⟩
theorem forest_facts {n : Int} : ∀ {fs acc : List (Int × Int)}, (∀ e ∈ fs, okE n e) → cnt n acc + acc.length = n.toNat →
    acc.Sublist (fs.foldl fstep acc) ∧ (fs.foldl fstep acc).Sublist (acc ++ fs) ∧ (∀ e ∈ fs, Conn (fs.foldl fstep acc) e.1 e.2) ∧ cnt n (fs.foldl fstep acc) + (fs.foldl fstep acc).length = n.toNat
  | [], acc, _, h => ⟨List.Sublist.refl _, by simp, by simp, h⟩
  | e :: fs, acc, ho, h => by
    have hok := ho e (by simp)
    unfold okE at hok
    have hc : cnt n (fstep acc e) + (fstep acc e).length = n.toNat := by
      unfold fstep
      split
      · exact h
      · rename_i hn
        have h1 := cnt_less (n := n) (a := e.1) (b := e.2) (es := acc) (by omega) (by omega) hn
        have h2 := cnt_congr (n := n) (es := acc ++ [e]) (fs := (e.1, e.2) :: acc) fun x y => conn_snoc
        simp only [List.length_append, List.length_cons, List.length_nil]
        omega
    obtain ⟨i1, i2, i3, i4⟩ := forest_facts (fs := fs) (acc := fstep acc e) (fun f hf => ho f (List.mem_cons_of_mem _ hf)) hc
    refine ⟨fstep_sub.trans i1, ?_, ?_, i4⟩
    · refine i2.trans ?_
      unfold fstep
      split
      · exact List.Sublist.append_left (List.sublist_cons_self _ _) _
      · simp
    · intro f hf
      rcases List.mem_cons.1 hf with rfl | hf
      · exact fstep_conn.mono fun g hg => i1.subset hg
      · exact i3 f hf
theorem forest_sub {n : Int} {es : List (Int × Int)} (ho : ∀ e ∈ es, okE n e) : (forestL es).Sublist es := by
  exact (forest_facts (fs := es) (acc := []) ho (by simp [cnt_nil])).2.1
theorem forest_cnt {n : Int} {es : List (Int × Int)} (ho : ∀ e ∈ es, okE n e) : cnt n (forestL es) + (forestL es).length = n.toNat :=
  (forest_facts (fs := es) (acc := []) ho (by simp [cnt_nil])).2.2.2
theorem forest_conn {n : Int} {es : List (Int × Int)} (ho : ∀ e ∈ es, okE n e) {x y : Int} : Conn (forestL es) x y ↔ Conn es x y :=
  ⟨fun h => h.mono fun e he => (forest_sub ho).subset he, fun h => h.via (forest_facts (fs := es) (acc := []) ho (by simp [cnt_nil])).2.2.1⟩
theorem forest_len {n : Int} {es : List (Int × Int)} (ho : ∀ e ∈ es, okE n e) : (forestL es).length + cnt n es = n.toNat := by
  have h1 := forest_cnt ho
  have h2 := cnt_congr (n := n) (es := forestL es) (fs := es) fun x y => forest_conn ho
  omega
theorem cnt_ge {n : Int} : ∀ {es : List (Int × Int)}, (∀ e ∈ es, okE n e) → n.toNat ≤ cnt n es + es.length
  | [], _ => by simp [cnt_nil]
  | e :: es, ho => by
    have ih := cnt_ge (es := es) fun f hf => ho f (List.mem_cons_of_mem _ hf)
    have hok := ho e (by simp)
    unfold okE at hok
    have e1 : ((e.1, e.2) : Int × Int) = e := rfl
    simp only [List.length_cons]
    by_cases hc : Conn es e.1 e.2
    · have := cnt_same (n := n) hc
      rw [e1] at this; omega
    · have := cnt_less (n := n) (a := e.1) (b := e.2) (by omega) (by omega) hc
      rw [e1] at this; omega
theorem cutE_lt {e : Int × Int} {es : List (Int × Int)} (h : e ∈ es) : (cutE e es).length < es.length := by
  have := filter_lt (l := es) (p := fun f => decide (f ≠ e)) (q := fun _ => true) (fun _ _ _ => rfl) ⟨e, h, rfl, by simp⟩
  rw [List.filter_eq_self.2 (fun _ _ => rfl)] at this
  exact this
/-- Where parts and edges together are as many as nodes, each edge is a bridge. -/
theorem tree_brg {n : Int} {es : List (Int × Int)} (ho : ∀ e ∈ es, okE n e) (h : cnt n es + es.length = n.toNat) {e : Int × Int} (he : e ∈ es) : Brg es e := by
  intro hc
  rcases cnt_cut (n := n) he (ho e he) with ⟨_, h2⟩ | ⟨h1, _⟩
  · exact h2 hc
  · have h3 := cnt_ge (n := n) (es := cutE e es) fun f hf => ho f (cutE_mem.1 hf).1
    have := cutE_lt he
    omega
/-- Edges all of which are bridges are their own forest. -/
theorem VG.sub {n : Int} {es fs : List (Int × Int)} (h : VG n es) (hs : fs.Sublist es) : VG n fs := by
  obtain ⟨h1, h2, h3, h4, h5⟩ := h
  have := hs.length_le
  exact ⟨h1, h2, by omega, fun e he => h4 e (hs.subset he), List.Pairwise.sublist hs h5⟩

/-! Rows of nodes. -/
def Walk (es : List (Int × Int)) (p : List Int) : Prop := ∀ i, i + 1 < p.length → Adj es (p.getD i 0) (p.getD (i + 1) 0)
theorem Walk.conn {es : List (Int × Int)} {p : List Int} (h : Walk es p) : ∀ i, i < p.length → Conn es (p.getD 0 0) (p.getD i 0)
  | 0, _ => .refl _
  | i + 1, hi => .step (h.conn i (by omega)) (h i hi)
theorem walk_breaks {es fs : List (Int × Int)} {p : List Int} (hp : Walk es p) {k : Nat} (hk : k < p.length) (hn : ¬ Conn fs (p.getD 0 0) (p.getD k 0)) : ∃ i, i + 1 < p.length ∧ Adj es (p.getD i 0) (p.getD (i + 1) 0) ∧ ¬ Adj fs (p.getD i 0) (p.getD (i + 1) 0) := by
  refine Classical.byContradiction fun hno => hn ?_
  have hw : Walk fs p := fun i hi => Classical.byContradiction fun h => hno ⟨i, hi, hp i hi, h⟩
  exact hw.conn k hk
theorem pathL_walk {n : Int} {es : List (Int × Int)} {x y : Int} (ho : ∀ e ∈ es, okE n e) (hn : 0 ≤ n) (hc : Conn es x y) : Walk es (pathL n es x y) := fun i hi => (pathL_at ho hn hc (by omega)).2.2 hi
theorem len_le_of_sub {α : Type} [DecidableEq α] : ∀ {l m : List α}, l.Nodup → (∀ x ∈ l, x ∈ m) → l.length ≤ m.length
  | [], m, _, _ => by simp
  | x :: l, m, hn, h => by
    rw [List.nodup_cons] at hn
    have hx := h x (by simp)
    have ih := len_le_of_sub (l := l) (m := m.erase x) hn.2 fun y hy => by
      have : y ≠ x := fun e => hn.1 (e ▸ hy)
      exact (List.mem_erase_of_ne this).2 (h y (List.mem_cons_of_mem _ hy))
    rw [List.length_erase_of_mem hx] at ih
    have := List.length_pos_of_mem hx
    simp only [List.length_cons]; omega
end Go.Proofs.Ytagpdfbgimnljaa.X

/- What functions compute: the number of parts. -/
set_option linter.unusedSimpArgs false
set_option linter.unusedVariables false
set_option maxHeartbeats 2000000
namespace Go.Proofs.Ytagpdfbgimnljaa.X
open Go Go.Proofs

theorem cnt_step {es : List (Int × Int)} {i : Int} (h : 0 ≤ i) : (((List.range (i + 1).toNat).filter fun x => decide (least es x = x)).length : Int) = ((List.range i.toNat).filter fun x => decide (least es x = x)).length + if least es i.toNat = i.toNat then 1 else 0 := by
  rw [show (i + 1).toNat = i.toNat + 1 by omega, List.range_succ, List.filter_append, List.length_append]
  simp only [List.filter_cons, List.filter_nil, decide_eq_true_eq]
  split <;> simp

end Go.Proofs.Ytagpdfbgimnljaa.X
/- Safe parts and the tree of bridges: plain law. -/
set_option linter.unusedVariables false
namespace Go.Proofs.Ytagpdfbgimnljaa.X
open Go

/-- A graph's edges without its bridges. -/
noncomputable def bare (es : List (Int × Int)) : List (Int × Int) := es.filter fun e => !decide (Brg es e)
/-- A graph's bridges. -/
noncomputable def brgs (es : List (Int × Int)) : List (Int × Int) := es.filter fun e => decide (Brg es e)
theorem mem_bare {es : List (Int × Int)} {e : Int × Int} : e ∈ bare es ↔ e ∈ es ∧ ¬ Brg es e := by simp [bare]
theorem mem_brgs {es : List (Int × Int)} {e : Int × Int} : e ∈ brgs es ↔ e ∈ es ∧ Brg es e := by simp [brgs]
theorem bare_sub {es : List (Int × Int)} : ∀ e ∈ bare es, e ∈ es := fun e he => (mem_bare.1 he).1
theorem bare_cut {es : List (Int × Int)} {e : Int × Int} (h : Brg es e) : ∀ f ∈ bare es, f ∈ cutE e es := fun f hf => cutE_mem.2 ⟨(mem_bare.1 hf).1, fun he => (mem_bare.1 hf).2 (he ▸ h)⟩
theorem VG.bare {n : Int} {es : List (Int × Int)} (h : VG n es) : VG n (X.bare es) := h.sub List.filter_sublist
theorem VG.brgs {n : Int} {es : List (Int × Int)} (h : VG n es) : VG n (X.brgs es) := h.sub List.filter_sublist

/-- Without some bridges: what no bridge parts stays together. -/
theorem bare_keep {es : List (Int × Int)} {x y : Int} (hc : Conn es x y) (h : ∀ e ∈ es, Conn (cutE e es) x y) :
    ∀ bs : List (Int × Int), (∀ e ∈ bs, Brg es e) → Conn (es.filter fun e => !decide (e ∈ bs)) x y
  | [], _ => by
    rw [List.filter_eq_self.2 (by simp)]; exact hc
  | b :: bs, hb => by
    have ih := bare_keep hc h bs fun e he => hb e (List.mem_cons_of_mem _ he)
    by_cases hm : b ∈ es.filter fun e => !decide (e ∈ bs)
    · have hbe : b ∈ es := (List.mem_filter.1 hm).1
      have he : (es.filter fun e => !decide (e ∈ b :: bs)) = cutE b (es.filter fun e => !decide (e ∈ bs)) := by
        unfold cutE
        rw [List.filter_filter]
        refine List.filter_congr fun e _ => ?_
        simp only [List.mem_cons, not_or, decide_not, Bool.decide_or, Bool.not_or, ne_eq]
      rw [he]
      refine Classical.byContradiction fun hno => ?_
      have hsub : ∀ e ∈ cutE b (es.filter fun e => !decide (e ∈ bs)), e ∈ cutE b es := fun e he => by
        have := cutE_mem.1 he
        exact cutE_mem.2 ⟨(List.mem_filter.1 this.1).1, this.2⟩
      have hb1 := hb b (by simp)
      have hxy := h b hbe
      rcases conn_cons.1 ((conn_cut hm x y).1 ih) with k | ⟨k1, k2⟩ | ⟨k1, k2⟩
      · exact hno k
      · exact hb1 (((k1.mono hsub).symm.trans hxy).trans (k2.mono hsub).symm)
      · exact hb1 (((k2.mono hsub).trans hxy.symm).trans (k1.mono hsub))
    · have he : (es.filter fun e => !decide (e ∈ b :: bs)) = es.filter fun e => !decide (e ∈ bs) := by
        refine List.filter_congr fun e hes => ?_
        have : e = b → e ∈ bs := fun h1 => by
          subst h1
          refine Classical.byContradiction fun h2 => hm (List.mem_filter.2 ⟨hes, by simp [h2]⟩)
        by_cases h1 : e ∈ bs
        · simp [h1]
        · have h2 : e ≠ b := fun h2 => h1 (this h2)
          simp [h1, h2]
      rw [he]; exact ih
theorem safe_iff {es : List (Int × Int)} {x y : Int} : Conn (bare es) x y ↔ Conn es x y ∧ ∀ e ∈ es, Conn (cutE e es) x y := by
  constructor
  · intro h
    have hc := h.mono bare_sub
    refine ⟨hc, fun e he => ?_⟩
    by_cases hb : Brg es e
    · exact h.mono (bare_cut hb)
    · have hb' : Conn (cutE e es) e.1 e.2 := Classical.not_not.1 hb
      refine hc.via fun f hf => ?_
      by_cases hq : f = e
      · subst hq; exact hb'
      · exact .edge (cutE_mem.2 ⟨hf, hq⟩)
  · rintro ⟨hc, h⟩
    have := bare_keep hc h (brgs es) fun e he => (mem_brgs.1 he).2
    refine this.mono fun e he => ?_
    rw [List.mem_filter] at he
    refine mem_bare.2 ⟨he.1, fun hb => ?_⟩
    have := he.2
    simp only [Bool.not_eq_true', decide_eq_false_iff_not] at this
    exact this (mem_brgs.2 ⟨he.1, hb⟩)

/-! The tree of bridges. -/
/-- The label of a node's safe part. -/
noncomputable def sl (es : List (Int × Int)) (x : Int) : Int := (least (bare es) x.toNat : Nat)
theorem sl_conn {es : List (Int × Int)} {x : Int} (hx : 0 ≤ x) : Conn (bare es) (sl es x) x := by
  obtain ⟨k, rfl⟩ := Int.eq_ofNat_of_zero_le hx
  exact (least_spec (bare es) k).2.1
theorem sl_bound {es : List (Int × Int)} {x : Int} (hx : 0 ≤ x) : 0 ≤ sl es x ∧ sl es x ≤ x := by
  obtain ⟨k, rfl⟩ := Int.eq_ofNat_of_zero_le hx
  have := (least_spec (bare es) k).1
  unfold sl
  simp only [Int.toNat_natCast]; omega
theorem sl_eq {es : List (Int × Int)} {x y : Int} (hx : 0 ≤ x) (hy : 0 ≤ y) : sl es x = sl es y ↔ Conn (bare es) x y := by
  obtain ⟨k, rfl⟩ := Int.eq_ofNat_of_zero_le hx
  obtain ⟨j, rfl⟩ := Int.eq_ofNat_of_zero_le hy
  unfold sl
  rw [← least_iff]
  simp only [Int.toNat_natCast]; omega
noncomputable def treeE (es : List (Int × Int)) (e : Int × Int) : Int × Int := edgeOf (sl es e.1) (sl es e.2)
/-- The edges between safe parts, in the order of bridges. -/
noncomputable def treeL (es : List (Int × Int)) : List (Int × Int) := (brgs es).map (treeE es)
theorem brg_apart {n : Int} {es : List (Int × Int)} (ho : ∀ e ∈ es, okE n e) {e : Int × Int} (he : e ∈ brgs es) : sl es e.1 ≠ sl es e.2 := by
  obtain ⟨h1, h2⟩ := mem_brgs.1 he
  have := ho e h1
  unfold okE at this
  intro h
  exact h2 (((sl_eq (by omega) (by omega)).1 h).mono (bare_cut h2))
theorem edgeOf_ok {n x y : Int} (hx : 0 ≤ x ∧ x < n) (hy : 0 ≤ y ∧ y < n) (h : x ≠ y) : okE n (edgeOf x y) := by
  unfold okE edgeOf
  split <;> simp only <;> omega
theorem tree_ok {n : Int} {es : List (Int × Int)} (ho : ∀ e ∈ es, okE n e) : ∀ f ∈ treeL es, okE n f := by
  intro f hf
  obtain ⟨e, he, rfl⟩ := List.mem_map.1 hf
  have h1 := ho e (mem_brgs.1 he).1
  unfold okE at h1
  have b1 := sl_bound (es := es) (x := e.1) (by omega)
  have b2 := sl_bound (es := es) (x := e.2) (by omega)
  exact edgeOf_ok (by omega) (by omega) (brg_apart ho he)
/-- Both nodes of an edge of the tree are connected along its bridge. -/
theorem tree_via {n : Int} {es fs : List (Int × Int)} (ho : ∀ e ∈ es, okE n e) {e : Int × Int} (he : e ∈ brgs es) (hs : ∀ f ∈ bare es, f ∈ fs) (hf : e ∈ fs) : Conn fs (treeE es e).1 (treeE es e).2 := by
  have h1 := ho e (mem_brgs.1 he).1
  unfold okE at h1
  have c : Conn fs (sl es e.1) (sl es e.2) := (((sl_conn (es := es) (x := e.1) (by omega)).mono hs).trans (.edge hf)).trans ((sl_conn (es := es) (x := e.2) (by omega)).mono hs).symm
  unfold treeE
  rcases edgeOf_ends (x := sl es e.1) (y := sl es e.2) with h | h
  · rw [h]; exact c
  · rw [h]; exact c.symm
theorem tree_edge {fs : List (Int × Int)} {x y : Int} (h : Conn fs (edgeOf x y).1 (edgeOf x y).2) : Conn fs x y := by
  rcases edgeOf_ends (x := x) (y := y) with e | e
  · rw [e] at h; exact h
  · rw [e] at h; exact h.symm
theorem tree_conn {n : Int} {es : List (Int × Int)} (ho : ∀ e ∈ es, okE n e) {x y : Int} (hx : 0 ≤ x) (hy : 0 ≤ y) : Conn (treeL es) (sl es x) (sl es y) ↔ Conn es x y := by
  constructor
  · intro h
    have : Conn es (sl es x) (sl es y) := h.via fun f hf => by
      obtain ⟨e, he, rfl⟩ := List.mem_map.1 hf
      exact tree_via ho he bare_sub (mem_brgs.1 he).1
    exact (((sl_conn hx).mono bare_sub).symm.trans this).trans ((sl_conn hy).mono bare_sub)
  · intro h
    have key : ∀ {x y : Int}, 0 ≤ x → 0 ≤ y → Adj es x y → Conn (treeL es) (sl es x) (sl es y) := by
      intro x y hx hy a
      have one : ∀ {x y : Int}, 0 ≤ x → 0 ≤ y → (x, y) ∈ es → Conn (treeL es) (sl es x) (sl es y) := by
        intro x y hx hy a
        by_cases hb : Brg es (x, y)
        · have hm : (x, y) ∈ brgs es := mem_brgs.2 ⟨a, hb⟩
          have : treeE es (x, y) ∈ treeL es := List.mem_map.2 ⟨_, hm, rfl⟩
          exact tree_edge (.edge this)
        · rw [(sl_eq hx hy).2 (Conn.edge (mem_bare.2 ⟨a, hb⟩))]
          exact .refl _
      rcases a with a | a
      · exact one hx hy a
      · exact (one hy hx a).symm
    have : ∀ z, Conn es x z → (z = x ∨ 0 ≤ z) ∧ Conn (treeL es) (sl es x) (sl es z) := by
      intro z hz
      induction hz with
      | refl => exact ⟨.inl rfl, .refl _⟩
      | step _ a ih =>
        have hk := a.ok ho
        exact ⟨.inr (by omega), ih.2.trans (key (by omega) (by omega) a)⟩
    exact (this y h).2
theorem tree_inj {n : Int} {es : List (Int × Int)} (ho : ∀ e ∈ es, okE n e) {e f : Int × Int} (he : e ∈ brgs es) (hf : f ∈ brgs es) (hq : treeE es e = treeE es f) : e = f := by
  refine Classical.byContradiction fun hne => ?_
  have h1 := ho e (mem_brgs.1 he).1
  unfold okE at h1
  have h2 := (mem_brgs.1 he).2
  have c := tree_via (fs := cutE e es) ho hf (bare_cut h2) (cutE_mem.2 ⟨(mem_brgs.1 hf).1, fun h => hne h.symm⟩)
  rw [← hq] at c
  have c' := tree_edge c
  exact h2 ((((sl_conn (es := es) (x := e.1) (by omega)).mono (bare_cut h2)).symm.trans c').trans ((sl_conn (es := es) (x := e.2) (by omega)).mono (bare_cut h2)))
theorem nodup_map {α β : Type} {f : α → β} : ∀ {l : List α}, l.Nodup → (∀ x ∈ l, ∀ y ∈ l, f x = f y → x = y) → (l.map f).Nodup
  | [], _, _ => by simp
  | a :: l, hn, h => by
    rw [List.nodup_cons] at hn
    rw [List.map_cons, List.nodup_cons]
    refine ⟨fun hm => ?_, nodup_map hn.2 fun x hx y hy => h x (List.mem_cons_of_mem _ hx) y (List.mem_cons_of_mem _ hy)⟩
    obtain ⟨b, hb, he⟩ := List.mem_map.1 hm
    have := h a (by simp) b (List.mem_cons_of_mem _ hb) he.symm
    exact hn.1 (this ▸ hb)
theorem tree_nodup {n : Int} {es : List (Int × Int)} (ho : ∀ e ∈ es, okE n e) (hn : es.Nodup) : (treeL es).Nodup :=
  nodup_map (hn.sublist List.filter_sublist) fun _ hx _ hy => tree_inj ho hx hy
/-- Each edge of the tree is a bridge of it. -/
theorem tree_brgs {n : Int} {es : List (Int × Int)} (ho : ∀ e ∈ es, okE n e) {f : Int × Int} (hf : f ∈ treeL es) : Brg (treeL es) f := by
  obtain ⟨e, he, rfl⟩ := List.mem_map.1 hf
  intro hc
  have h1 := ho e (mem_brgs.1 he).1
  unfold okE at h1
  have h2 := (mem_brgs.1 he).2
  have c : Conn (cutE e es) (treeE es e).1 (treeE es e).2 := hc.via fun g hg => by
    obtain ⟨hg1, hg2⟩ := cutE_mem.1 hg
    obtain ⟨e', he', rfl⟩ := List.mem_map.1 hg1
    have hne : e' ≠ e := fun h => hg2 (by rw [h])
    exact tree_via ho he' (bare_cut h2) (cutE_mem.2 ⟨(mem_brgs.1 he').1, hne⟩)
  have c' := tree_edge c
  exact h2 ((((sl_conn (es := es) (x := e.1) (by omega)).mono (bare_cut h2)).symm.trans c').trans ((sl_conn (es := es) (x := e.2) (by omega)).mono (bare_cut h2)))
/-- What is a bridge depends on which edges there are alone. -/
theorem brg_congr {es fs : List (Int × Int)} (h : ∀ e, e ∈ es ↔ e ∈ fs) {e : Int × Int} : Brg es e ↔ Brg fs e := by
  unfold Brg
  refine not_congr ⟨Conn.mono fun f hf => ?_, Conn.mono fun f hf => ?_⟩
  · rw [cutE_mem] at hf ⊢; exact ⟨(h f).1 hf.1, hf.2⟩
  · rw [cutE_mem] at hf ⊢; exact ⟨(h f).2 hf.1, hf.2⟩
end Go.Proofs.Ytagpdfbgimnljaa.X

/- What functions compute: bridges, safe parts, nodes and edges by a property. -/
set_option linter.unusedSimpArgs false
set_option linter.unusedVariables false
set_option maxHeartbeats 2000000
namespace Go.Proofs.Ytagpdfbgimnljaa.X
open Go Go.Proofs

theorem filt_yes {α : Type} {l : List α} {p : α → Bool} {i : Int} {d : α} (h0 : 0 ≤ i) (h1 : i < l.length) (hp : p (l.getD i.toNat d) = true) : (l.take (i + 1).toNat).filter p = (l.take i.toNat).filter p ++ [l.getD i.toNat d] := by
  rw [take_int d h0 h1, List.filter_append, List.filter_cons_of_pos hp]; rfl
theorem filt_no {α : Type} {l : List α} {p : α → Bool} {i : Int} {d : α} (h0 : 0 ≤ i) (h1 : i < l.length) (hp : ¬ p (l.getD i.toNat d) = true) : (l.take (i + 1).toNat).filter p = (l.take i.toNat).filter p := by
  rw [take_int d h0 h1, List.filter_append, List.filter_cons_of_neg hp, List.filter_nil, List.append_nil]
theorem OKG.cutE {n : Int} {es : List (Int × Int)} (h : OKG n es) (e : Int × Int) : OKG n (X.cutE e es) := ⟨h.n0, h.n1, Nat.le_trans (cutE_len e es) h.len, fun f hf => h.ok f (cutE_mem.1 hf).1⟩
theorem OKG.bare {n : Int} {es : List (Int × Int)} (h : OKG n es) : OKG n (X.bare es) := ⟨h.n0, h.n1, Nat.le_trans (List.length_filter_le _ _) h.len, fun f hf => h.ok f (mem_bare.1 hf).1⟩
theorem bare_def {es : List (Int × Int)} : (es.filter fun e => !decide (Brg es e)) = bare es := rfl
theorem brgs_def {es : List (Int × Int)} : (es.filter fun e => decide (Brg es e)) = brgs es := rfl
theorem brg_dec {es : List (Int × Int)} {a b : Int} : (!decide (Conn (cutE (a, b) es) a b)) = decide (Brg es (a, b)) := by
  by_cases h : Conn (cutE (a, b) es) a b
  · have : ¬ Brg es (a, b) := fun k => k h
    rw [decide_eq_true h, decide_eq_false this]; rfl
  · rw [decide_eq_false h, decide_eq_true (show Brg es (a, b) from h)]; rfl

/-- What deleting what does not fulfil something hands back. -/
def delF (p : Int × Int → Bool) (es : List (Int × Int)) : IV := if es = [] then .emp else .lst ((es.filter p).map encE)
theorem delE_not {p : Int × Int → Bool} {es : List (Int × Int)} : delE (fun e => !p e) es = delF p es := by
  unfold delE delF; simp only [Bool.not_not]
theorem frz_delF {p : Int × Int → Bool} {es : List (Int × Int)} {n : Nat} : frz n (.i (delF p es)) = .ret (.lst ((es.filter p).map encE)) := by
  rw [← delE_not, frz_del]; simp only [Bool.not_not]
theorem flat_delF {p : Int × Int → Bool} {es : List (Int × Int)} : (delF p es).flat = true := by rw [← delE_not]; exact flat_del
theorem lenP_delF {p : Int × Int → Bool} {es : List (Int × Int)} : lenP (.i (delF p es)) = some (es.filter p).length := by
  rw [← delE_not, lenP_del]; simp only [Bool.not_not]
theorem iaR_delF {p : Int × Int → Bool} {es : List (Int × Int)} {el : TypeId} {n : Int} (h0 : 0 ≤ n) (h : n < (es.filter p).length) :
    iaR Try.prog (some (.slice el)) (some n) (.i (delF p es)) = iaR Try.prog (some (.slice el)) (some n) (.i (.lst ((es.filter p).map encE))) := by
  have := iaR_del (p := fun e => !p e) (es := es) (el := el) (n := n) h0 (by simpa only [Bool.not_not] using h)
  rw [delE_not] at this
  simpa only [Bool.not_not] using this
attribute [go_sem] frz_delF flat_delF lenP_delF iaR_delF

/-- A list of edges, in whatever form, that can be looked at. -/
structure EQ (x : IV) (es : List (Int × Int)) : Prop extends EL x es where
  len : lenP (.i x) = some es.length
  ia : ∀ (el : TypeId) (i : Int), 0 ≤ i → i < es.length → iaR Try.prog (some (.slice el)) (some i) (.i x) = iaR Try.prog (some (.slice el)) (some i) (.i (.lst (es.map encE)))
theorem EQ.lst (es : List (Int × Int)) : EQ (.lst (es.map encE)) es := ⟨EL.lst es, by simp [lenP], fun _ _ _ _ => rfl⟩
theorem EQ.qe (es : List (Int × Int)) : EQ (qe es) es := ⟨EL.qe es, lenP_qe, fun el i h0 h1 => by
  cases es with
  | nil => simp at h1; omega
  | cons e r => rfl⟩
end Go.Proofs.Ytagpdfbgimnljaa.X

