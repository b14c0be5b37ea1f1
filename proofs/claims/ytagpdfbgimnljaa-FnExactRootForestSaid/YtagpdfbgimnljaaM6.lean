/- Bridges, forests, paths: plain law. -/
import Derived.Test.YtagpdfbgimnljaaM5
import Derived.Test.YtagpdfbgimnljaaM4
set_option linter.unusedVariables false
namespace Go.Proofs.Ytagpdfbgimnljaa.X
open Go

/-- An edge whose nodes are not connected without it. -/
def Brg (es : List (Int × Int)) (e : Int × Int) : Prop := ¬ Conn (cutE e es) e.1 e.2
noncomputable instance decBrg (es : List (Int × Int)) (e : Int × Int) : Decidable (Brg es e) := Classical.propDecidable _

theorem edgeOf_ends {x y : Int} : (edgeOf x y = (x, y)) ∨ (edgeOf x y = (y, x)) := by unfold edgeOf; split <;> simp
theorem adj_edge {n : Int} {es : List (Int × Int)} (ho : ∀ e ∈ es, okE n e) {x y : Int} : Adj es x y ↔ x ≠ y ∧ edgeOf x y ∈ es := by
  rw [← mem_edgeOf ho]
  have : edgeOf y x = edgeOf x y ∨ x = y := by
    unfold edgeOf
    by_cases h1 : x < y
    · rw [if_neg (by omega), if_pos h1]; exact .inl rfl
    · by_cases h2 : y < x
      · rw [if_pos h2, if_neg h1]; exact .inl rfl
      · exact .inr (by omega)
  constructor
  · rintro ⟨h1, h2⟩
    refine ⟨fun e => h1 e.symm, ?_⟩
    rcases this with h | h
    · rw [← h]; exact h2
    · exact absurd h.symm h1
  · rintro ⟨h1, h2⟩
    refine ⟨fun e => h1 e.symm, ?_⟩
    rcases this with h | h
    · rw [h]; exact h2
    · exact absurd h h1
theorem adj_cut {n : Int} {es : List (Int × Int)} (ho : ∀ e ∈ es, okE n e) {e : Int × Int} {x y : Int} (h : Adj es x y) (hn : ¬ Adj (cutE e es) x y) : (x = e.1 ∧ y = e.2) ∨ (x = e.2 ∧ y = e.1) := by
  rcases h with h | h
  · by_cases hq : (x, y) = e
    · subst hq; exact .inl ⟨rfl, rfl⟩
    · exact absurd (.inl (cutE_mem.2 ⟨h, hq⟩)) hn
  · by_cases hq : (y, x) = e
    · subst hq; exact .inr ⟨rfl, rfl⟩
    · exact absurd (.inr (cutE_mem.2 ⟨h, hq⟩)) hn
theorem alone_cut {v : Int} {es : List (Int × Int)} {e : Int × Int} (h : e.1 = v ∨ e.2 = v) : ∀ f ∈ alone v es, f ∈ cutE e es := by
  intro f hf
  have := List.mem_filter.1 hf
  simp only [decide_eq_true_eq] at this
  refine cutE_mem.2 ⟨this.1, fun he => ?_⟩
  subst he
  rcases h with h | h
  · exact this.2.1 h
  · exact this.2.2 h

/-- A bridge ends in a cut node, unless its node has no other neighbor. -/
theorem brg_end {n : Int} {es : List (Int × Int)} (ho : ∀ e ∈ es, okE n e) (hd : es.Nodup) {e : Int × Int} (he : e ∈ es) (hb : Brg es e) {v w : Int} (hv : (v = e.1 ∧ w = e.2) ∨ (v = e.2 ∧ w = e.1)) : CutN es v ↔ 1 < (nbS v es).length := by
  have hvw : Adj es v w := by
    rcases hv with ⟨rfl, rfl⟩ | ⟨rfl, rfl⟩
    · exact .inl he
    · exact .inr he
  have hbv : ¬ Conn (cutE e es) v w := by
    rcases hv with ⟨rfl, rfl⟩ | ⟨rfl, rfl⟩
    · exact hb
    · exact fun h => hb h.symm
  have hw : w ∈ nbS v es := (mem_nbS ho).2 hvw
  have hso := sorted_nbS ho hd v
  constructor
  · rintro ⟨x, hx, hc⟩
    cases hN : nbS v es with
    | nil => rw [hN] at hx; simp at hx
    | cons x0 r =>
      rw [hN] at hx hc
      rcases List.mem_cons.1 hx with rfl | hx
      · exact absurd (.refl _) hc
      · have := List.length_pos_of_mem hx
        simp only [List.length_cons]; omega
  · intro hl
    obtain ⟨u, hu, huw⟩ : ∃ u ∈ nbS v es, u ≠ w := by
      match hN : nbS v es with
      | [] => rw [hN] at hl; simp at hl
      | [a] => rw [hN] at hl; simp at hl
      | a :: b :: r =>
        rw [hN] at hso
        have hab : a < b := by
          rw [List.pairwise_cons] at hso
          exact hso.1 b (by simp)
        by_cases ha : a = w
        · exact ⟨b, by simp, by omega⟩
        · exact ⟨a, by simp, ha⟩
    have hvu : Adj es v u := (mem_nbS ho).1 hu
    have hcu : Adj (cutE e es) v u := Classical.byContradiction fun hno => by
      have := adj_cut ho hvu hno
      have hk := hvw.ok ho
      rcases hv with ⟨rfl, rfl⟩ | ⟨rfl, rfl⟩ <;> rcases this with ⟨h1, h2⟩ | ⟨h1, h2⟩ <;> omega
    have hal : ∀ f ∈ alone v es, f ∈ cutE e es := alone_cut (by rcases hv with ⟨rfl, rfl⟩ | ⟨rfl, rfl⟩ <;> simp)
    have huw' : ¬ Conn (alone v es) u w := fun h => hbv ((Conn.of hcu).trans (h.mono hal))
    by_cases h0 : Conn (alone v es) ((nbS v es).getD 0 0) u
    · exact ⟨w, hw, fun h1 => huw' (h0.symm.trans h1)⟩
    · exact ⟨u, hu, h0⟩

/-- Bridges alone are a forest. -/
theorem cnt_bridges {n : Int} {es : List (Int × Int)} (ho : ∀ e ∈ es, okE n e) : ∀ {bs : List (Int × Int)}, bs.Nodup → (∀ e ∈ bs, e ∈ es ∧ Brg es e) → cnt n bs + bs.length = n.toNat
  | [], _, _ => by simp [cnt_nil]
  | e :: bs, hn, h => by
    rw [List.nodup_cons] at hn
    have ih := cnt_bridges ho hn.2 fun f hf => h f (List.mem_cons_of_mem _ hf)
    obtain ⟨h1, h2⟩ := h e (by simp)
    have hok := ho e h1
    unfold okE at hok
    have hnc : ¬ Conn bs e.1 e.2 := fun hc => h2 (hc.mono fun f hf => cutE_mem.2 ⟨(h f (List.mem_cons_of_mem _ hf)).1, fun hq => hn.1 (by rw [← hq]; exact hf)⟩)
    have := cnt_less (n := n) (a := e.1) (b := e.2) (es := bs) (by omega) (by omega) hnc
    simp only [List.length_cons]
    have e1 : ((e.1, e.2) : Int × Int) = e := rfl
    rw [e1] at this
    omega
theorem bridges_le {n : Int} {es bs : List (Int × Int)} (ho : ∀ e ∈ es, okE n e) (hn : bs.Nodup) (h : ∀ e ∈ bs, e ∈ es ∧ Brg es e) : bs.length + cnt n es ≤ n.toNat := by
  have h1 := cnt_bridges ho hn h
  have h2 := cnt_sub (n := n) (es := es) (fs := bs) fun e he => (h e he).1
  omega

/-! The forest of the first edges. -/
noncomputable def fstep (acc : List (Int × Int)) (e : Int × Int) : List (Int × Int) := if Conn acc e.1 e.2 then acc else acc ++ [e]
noncomputable def forestL (es : List (Int × Int)) : List (Int × Int) := es.foldl fstep []
theorem fstep_sub {acc : List (Int × Int)} {e : Int × Int} : acc.Sublist (fstep acc e) := by
  unfold fstep; split
  · exact List.Sublist.refl _
  · exact List.sublist_append_left _ _
theorem fstep_conn {acc : List (Int × Int)} {e : Int × Int} : Conn (fstep acc e) e.1 e.2 := by
  unfold fstep; split
  · assumption
  · exact .edge (by simp)
theorem conn_snoc {es : List (Int × Int)} {e : Int × Int} {x y : Int} : Conn (es ++ [e]) x y ↔ Conn (e :: es) x y :=
  ⟨Conn.mono fun f hf => (by rcases List.mem_append.1 hf with h | h; exact List.mem_cons_of_mem _ h; exact List.mem_cons.2 (.inl (List.mem_singleton.1 h))), Conn.mono fun f hf => (by rcases List.mem_cons.1 hf with h | h; exact List.mem_append.2 (.inr (List.mem_singleton.2 h)); exact List.mem_append.2 (.inl h))⟩
theorem forest_facts {n : Int} : ∀ {fs acc : List (Int × Int)}, (∀ e ∈ fs, okE n e) → cnt n acc + acc.length = n.toNat →
    acc.Sublist (fs.foldl fstep acc) ∧ (fs.foldl fstep acc).Sublist (acc ++ fs) ∧ (∀ e ∈ fs, Conn (fs.foldl fstep acc) e.1 e.2) ∧ cnt n (fs.foldl fstep acc) + (fs.foldl fstep acc).length = n.toNat
  | [], acc, _, h => ⟨List.Sublist.refl _, by simp, by simp, h⟩
  | e :: fs, acc, ho, h => by
    have hok := ho e (by simp)
    unfold okE at hok
    have hc : cnt n (fstep acc e) + (fstep acc e).length = n.toNat := by
      unfold fstep
      split
      · exact h
      · rename_i hn
        have h1 := cnt_less (n := n) (a := e.1) (b := e.2) (es := acc) (by omega) (by omega) hn
        have h2 := cnt_congr (n := n) (es := acc ++ [e]) (fs := (e.1, e.2) :: acc) fun x y => conn_snoc
        simp only [List.length_append, List.length_cons, List.length_nil]
        omega
    obtain ⟨i1, i2, i3, i4⟩ := forest_facts (fs := fs) (acc := fstep acc e) (fun f hf => ho f (List.mem_cons_of_mem _ hf)) hc
    refine ⟨fstep_sub.trans i1, ?_, ?_, i4⟩
    · refine i2.trans ?_
      unfold fstep
      split
      · exact List.Sublist.append_left (List.sublist_cons_self _ _) _
      · simp
    · intro f hf
      rcases List.mem_cons.1 hf with rfl | hf
      · exact fstep_conn.mono fun g hg => i1.subset hg
      · exact i3 f hf
theorem forest_sub {n : Int} {es : List (Int × Int)} (ho : ∀ e ∈ es, okE n e) : (forestL es).Sublist es := by
  exact (forest_facts (fs := es) (acc := []) ho (by simp [cnt_nil])).2.1
theorem forest_cnt {n : Int} {es : List (Int × Int)} (ho : ∀ e ∈ es, okE n e) : cnt n (forestL es) + (forestL es).length = n.toNat :=
  (forest_facts (fs := es) (acc := []) ho (by simp [cnt_nil])).2.2.2
theorem forest_conn {n : Int} {es : List (Int × Int)} (ho : ∀ e ∈ es, okE n e) {x y : Int} : Conn (forestL es) x y ↔ Conn es x y :=
  ⟨fun h => h.mono fun e he => (forest_sub ho).subset he, fun h => h.via (forest_facts (fs := es) (acc := []) ho (by simp [cnt_nil])).2.2.1⟩
theorem forest_len {n : Int} {es : List (Int × Int)} (ho : ∀ e ∈ es, okE n e) : (forestL es).length + cnt n es = n.toNat := by
  have h1 := forest_cnt ho
  have h2 := cnt_congr (n := n) (es := forestL es) (fs := es) fun x y => forest_conn ho
  omega
theorem cnt_ge {n : Int} : ∀ {es : List (Int × Int)}, (∀ e ∈ es, okE n e) → n.toNat ≤ cnt n es + es.length
  | [], _ => by simp [cnt_nil]
  | e :: es, ho => by
    have ih := cnt_ge (es := es) fun f hf => ho f (List.mem_cons_of_mem _ hf)
    have hok := ho e (by simp)
    unfold okE at hok
    have e1 : ((e.1, e.2) : Int × Int) = e := rfl
    simp only [List.length_cons]
    by_cases hc : Conn es e.1 e.2
    · have := cnt_same (n := n) hc
      rw [e1] at this; omega
    · have := cnt_less (n := n) (a := e.1) (b := e.2) (by omega) (by omega) hc
      rw [e1] at this; omega
theorem cutE_lt {e : Int × Int} {es : List (Int × Int)} (h : e ∈ es) : (cutE e es).length < es.length := by
  have := filter_lt (l := es) (p := fun f => decide (f ≠ e)) (q := fun _ => true) (fun _ _ _ => rfl) ⟨e, h, rfl, by simp⟩
  rw [List.filter_eq_self.2 (fun _ _ => rfl)] at this
  exact this
/-- Where parts and edges together are as many as nodes, each edge is a bridge. -/
theorem tree_brg {n : Int} {es : List (Int × Int)} (ho : ∀ e ∈ es, okE n e) (h : cnt n es + es.length = n.toNat) {e : Int × Int} (he : e ∈ es) : Brg es e := by
  intro hc
  rcases cnt_cut (n := n) he (ho e he) with ⟨_, h2⟩ | ⟨h1, _⟩
  · exact h2 hc
  · have h3 := cnt_ge (n := n) (es := cutE e es) fun f hf => ho f (cutE_mem.1 hf).1
    have := cutE_lt he
    omega
/-- Edges all of which are bridges are their own forest. -/
theorem VG.sub {n : Int} {es fs : List (Int × Int)} (h : VG n es) (hs : fs.Sublist es) : VG n fs := by
  obtain ⟨h1, h2, h3, h4, h5⟩ := h
  have := hs.length_le
  exact ⟨h1, h2, by omega, fun e he => h4 e (hs.subset he), List.Pairwise.sublist hs h5⟩

/-! Rows of nodes. -/
def Walk (es : List (Int × Int)) (p : List Int) : Prop := ∀ i, i + 1 < p.length → Adj es (p.getD i 0) (p.getD (i + 1) 0)
theorem Walk.conn {es : List (Int × Int)} {p : List Int} (h : Walk es p) : ∀ i, i < p.length → Conn es (p.getD 0 0) (p.getD i 0)
  | 0, _ => .refl _
  | i + 1, hi => .step (h.conn i (by omega)) (h i hi)
theorem walk_breaks {es fs : List (Int × Int)} {p : List Int} (hp : Walk es p) {k : Nat} (hk : k < p.length) (hn : ¬ Conn fs (p.getD 0 0) (p.getD k 0)) : ∃ i, i + 1 < p.length ∧ Adj es (p.getD i 0) (p.getD (i + 1) 0) ∧ ¬ Adj fs (p.getD i 0) (p.getD (i + 1) 0) := by
  refine Classical.byContradiction fun hno => hn ?_
  have hw : Walk fs p := fun i hi => Classical.byContradiction fun h => hno ⟨i, hi, hp i hi, h⟩
  exact hw.conn k hk
theorem pathL_walk {n : Int} {es : List (Int × Int)} {x y : Int} (ho : ∀ e ∈ es, okE n e) (hn : 0 ≤ n) (hc : Conn es x y) : Walk es (pathL n es x y) := fun i hi => (pathL_at ho hn hc (by omega)).2.2 hi
theorem len_le_of_sub {α : Type} [DecidableEq α] : ∀ {l m : List α}, l.Nodup → (∀ x ∈ l, x ∈ m) → l.length ≤ m.length
  | [], m, _, _ => by simp
  | x :: l, m, hn, h => by
    rw [List.nodup_cons] at hn
    have hx := h x (by simp)
    have ih := len_le_of_sub (l := l) (m := m.erase x) hn.2 fun y hy => by
      have : y ≠ x := fun e => hn.1 (e ▸ hy)
      exact (List.mem_erase_of_ne this).2 (h y (List.mem_cons_of_mem _ hy))
    rw [List.length_erase_of_mem hx] at ih
    have := List.length_pos_of_mem hx
    simp only [List.length_cons]; omega
end Go.Proofs.Ytagpdfbgimnljaa.X
