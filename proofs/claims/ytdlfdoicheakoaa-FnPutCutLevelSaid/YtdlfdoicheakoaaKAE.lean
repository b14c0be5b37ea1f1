/- What functions answer, and the plain laws behind it. -/
import Derived.Test.YtdlfdoicheakoaaKAD
/- Bridges, forests, paths: plain law. -/
set_option linter.unusedVariables false
namespace Go.Proofs.Ytdlfdoicheakoaa.X
open Go
/-- An edge whose nodes are not connected without it. -/
def Brg (es : List (Int × Int)) (e : Int × Int) : Prop := ¬ Conn (cutE e es) e.1 e.2
noncomputable instance decBrg (es : List (Int × Int)) (e : Int × Int) : Decidable (Brg es e) := Classical.propDecidable _
theorem edgeOf_ends {x y : Int} : (edgeOf x y = (x, y)) ∨ (edgeOf x y = (y, x)) := by unfold edgeOf; split <;> simp
theorem adj_edge {n : Int} {es : List (Int × Int)} (ho : ∀ e ∈ es, okE n e) {x y : Int} : Adj es x y ↔ x ≠ y ∧ edgeOf x y ∈ es := by
  rw [← mem_edgeOf ho]
  have : edgeOf y x = edgeOf x y ∨ x = y := by
    unfold edgeOf
    by_cases h1 : x < y
    · rw [if_neg (by omega), if_pos h1]; exact .inl rfl
    · by_cases h2 : y < x
      · rw [if_pos h2, if_neg h1]; exact .inl rfl
      · exact .inr (by omega)
  constructor
  · rintro ⟨h1, h2⟩
    refine ⟨fun e => h1 e.symm, ?_⟩
    rcases this with h | h
    · rw [← h]; exact h2
    · exact absurd h.symm h1
  · rintro ⟨h1, h2⟩
    refine ⟨fun e => h1 e.symm, ?_⟩
    rcases this with h | h
    · rw [h]; exact h2
    · exact absurd h h1
theorem adj_cut {n : Int} {es : List (Int × Int)} (ho : ∀ e ∈ es, okE n e) {e : Int × Int} {x y : Int} (h : Adj es x y) (hn : ¬ Adj (cutE e es) x y) : (x = e.1 ∧ y = e.2) ∨ (x = e.2 ∧ y = e.1) := by
  rcases h with h | h
  · by_cases hq : (x, y) = e
    · subst hq; exact .inl ⟨rfl, rfl⟩
    · exact absurd (.inl (cutE_mem.2 ⟨h, hq⟩)) hn
  · by_cases hq : (y, x) = e
    · subst hq; exact .inr ⟨rfl, rfl⟩
    · exact absurd (.inr (cutE_mem.2 ⟨h, hq⟩)) hn
theorem alone_cut {v : Int} {es : List (Int × Int)} {e : Int × Int} (h : e.1 = v ∨ e.2 = v) : ∀ f ∈ alone v es, f ∈ cutE e es := by
  intro f hf
  have := List.mem_filter.1 hf
  simp only [decide_eq_true_eq] at this
  refine cutE_mem.2 ⟨this.1, fun he => ?_⟩
  subst he
  rcases h with h | h
  · exact this.2.1 h
  · exact this.2.2 h
noncomputable def fstep (acc : List (Int × Int)) (e : Int × Int) : List (Int × Int) := if Conn acc e.1 e.2 then acc else acc ++ [e]
noncomputable def forestL (es : List (Int × Int)) : List (Int × Int) := es.foldl fstep []
theorem fstep_sub {acc : List (Int × Int)} {e : Int × Int} : acc.Sublist (fstep acc e) := by
  unfold fstep; split
  · exact List.Sublist.refl _
  · exact List.sublist_append_left _ _
theorem fstep_conn {acc : List (Int × Int)} {e : Int × Int} : Conn (fstep acc e) e.1 e.2 := by
  unfold fstep; split
  · assumption
  · exact .edge (by simp)
theorem conn_snoc {es : List (Int × Int)} {e : Int × Int} {x y : Int} : Conn (es ++ [e]) x y ↔ Conn (e :: es) x y :=
  ⟨Conn.mono fun f hf => (by rcases List.mem_append.1 hf with h | h; exact List.mem_cons_of_mem _ h; exact List.mem_cons.2 (.inl (List.mem_singleton.1 h))), Conn.mono fun f hf => (by rcases List.mem_cons.1 hf with h | h; exact List.mem_append.2 (.inr (List.mem_singleton.2 h)); exact List.mem_append.2 (.inl h))⟩
theorem forest_facts {n : Int} : ∀ {fs acc : List (Int × Int)}, (∀ e ∈ fs, okE n e) → cnt n acc + acc.length = n.toNat →
    acc.Sublist (fs.foldl fstep acc) ∧ (fs.foldl fstep acc).Sublist (acc ++ fs) ∧ (∀ e ∈ fs, Conn (fs.foldl fstep acc) e.1 e.2) ∧ cnt n (fs.foldl fstep acc) + (fs.foldl fstep acc).length = n.toNat
  | [], acc, _, h => ⟨List.Sublist.refl _, by simp, by simp, h⟩
  | e :: fs, acc, ho, h => by
    have hok := ho e (by simp)
    unfold okE at hok
    have hc : cnt n (fstep acc e) + (fstep acc e).length = n.toNat := by
      unfold fstep
      split
      · exact h
      · rename_i hn
        have h1 := cnt_less (n := n) (a := e.1) (b := e.2) (es := acc) (by omega) (by omega) hn
        have h2 := cnt_congr (n := n) (es := acc ++ [e]) (fs := (e.1, e.2) :: acc) fun x y => conn_snoc
        simp only [List.length_append, List.length_cons, List.length_nil]
        omega
    obtain ⟨i1, i2, i3, i4⟩ := forest_facts (fs := fs) (acc := fstep acc e) (fun f hf => ho f (List.mem_cons_of_mem _ hf)) hc
    refine ⟨fstep_sub.trans i1, ?_, ?_, i4⟩
    · refine i2.trans ?_
      unfold fstep
      split
      · exact List.Sublist.append_left (List.sublist_cons_self _ _) _
      · simp
    · intro f hf
      rcases List.mem_cons.1 hf with rfl | hf
      · exact fstep_conn.mono fun g hg => i1.subset hg
      · exact i3 f hf
theorem forest_sub {n : Int} {es : List (Int × Int)} (ho : ∀ e ∈ es, okE n e) : (forestL es).Sublist es := by
  exact (forest_facts (fs := es) (acc := []) ho (by simp [cnt_nil])).2.1
theorem forest_cnt {n : Int} {es : List (Int × Int)} (ho : ∀ e ∈ es, okE n e) : cnt n (forestL es) + (forestL es).length = n.toNat :=
  (forest_facts (fs := es) (acc := []) ho (by simp [cnt_nil])).2.2.2
theorem forest_conn {n : Int} {es : List (Int × Int)} (ho : ∀ e ∈ es, okE n e) {x y : Int} : Conn (forestL es) x y ↔ Conn es x y :=
  ⟨fun h => h.mono fun e he => (forest_sub ho).subset he, fun h => h.via (forest_facts (fs := es) (acc := []) ho (by simp [cnt_nil])).2.2.1⟩
theorem forest_len {n : Int} {es : List (Int × Int)} (ho : ∀ e ∈ es, okE n e) : (forestL es).length + cnt n es = n.toNat := by
  have h1 := forest_cnt ho
  have h2 := cnt_congr (n := n) (es := forestL es) (fs := es) fun x y => forest_conn ho
  omega
theorem cnt_ge {n : Int} : ∀ {es : List (Int × Int)}, (∀ e ∈ es, okE n e) → n.toNat ≤ cnt n es + es.length
  | [], _ => by simp [cnt_nil]
  | e :: es, ho => by
    have ih := cnt_ge (es := es) fun f hf => ho f (List.mem_cons_of_mem _ hf)
    have hok := ho e (by simp)
    unfold okE at hok
    have e1 : ((e.1, e.2) : Int × Int) = e := rfl
    simp only [List.length_cons]
    by_cases hc : Conn es e.1 e.2
    · have := cnt_same (n := n) hc
      rw [e1] at this; omega
    · have := cnt_less (n := n) (a := e.1) (b := e.2) (by omega) (by omega) hc
      rw [e1] at this; omega
theorem cutE_lt {e : Int × Int} {es : List (Int × Int)} (h : e ∈ es) : (cutE e es).length < es.length := by
  have := filter_lt (l := es) (p := fun f => decide (f ≠ e)) (q := fun _ => true) (fun _ _ _ => rfl) ⟨e, h, rfl, by simp⟩
  rw [List.filter_eq_self.2 (fun _ _ => rfl)] at this
  exact this
/-- Where parts and edges together are as many as nodes, each edge is a bridge. -/
theorem tree_brg {n : Int} {es : List (Int × Int)} (ho : ∀ e ∈ es, okE n e) (h : cnt n es + es.length = n.toNat) {e : Int × Int} (he : e ∈ es) : Brg es e := by
  intro hc
  rcases cnt_cut (n := n) he (ho e he) with ⟨_, h2⟩ | ⟨h1, _⟩
  · exact h2 hc
  · have h3 := cnt_ge (n := n) (es := cutE e es) fun f hf => ho f (cutE_mem.1 hf).1
    have := cutE_lt he
    omega
/-- Edges all of which are bridges are their own forest. -/
theorem VG.sub {n : Int} {es fs : List (Int × Int)} (h : VG n es) (hs : fs.Sublist es) : VG n fs := by
  obtain ⟨h1, h2, h3, h4, h5⟩ := h
  have := hs.length_le
  exact ⟨h1, h2, by omega, fun e he => h4 e (hs.subset he), List.Pairwise.sublist hs h5⟩
def Walk (es : List (Int × Int)) (p : List Int) : Prop := ∀ i, i + 1 < p.length → Adj es (p.getD i 0) (p.getD (i + 1) 0)
theorem Walk.conn {es : List (Int × Int)} {p : List Int} (h : Walk es p) : ∀ i, i < p.length → Conn es (p.getD 0 0) (p.getD i 0)
  | 0, _ => .refl _
  | i + 1, hi => .step (h.conn i (by omega)) (h i hi)
theorem len_le_of_sub {α : Type} [DecidableEq α] : ∀ {l m : List α}, l.Nodup → (∀ x ∈ l, x ∈ m) → l.length ≤ m.length
  | [], m, _, _ => by simp
  | x :: l, m, hn, h => by
    rw [List.nodup_cons] at hn
    have hx := h x (by simp)
    have ih := len_le_of_sub (l := l) (m := m.erase x) hn.2 fun y hy => by
      have : y ≠ x := fun e => hn.1 (e ▸ hy)
      exact (List.mem_erase_of_ne this).2 (h y (List.mem_cons_of_mem _ hy))
    rw [List.length_erase_of_mem hx] at ih
    have := List.length_pos_of_mem hx
    simp only [List.length_cons]; omega
end Go.Proofs.Ytdlfdoicheakoaa.X

/- What functions compute: the number of parts. -/
set_option linter.unusedSimpArgs false
set_option linter.unusedVariables false
set_option maxHeartbeats 2000000
namespace Go.Proofs.Ytdlfdoicheakoaa.X
open Go Go.Proofs
end Go.Proofs.Ytdlfdoicheakoaa.X

/- Safe parts and the tree of bridges: plain law. -/
set_option linter.unusedVariables false
namespace Go.Proofs.Ytdlfdoicheakoaa.X
open Go
/-- A graph's edges without its bridges. -/
noncomputable def bare (es : List (Int × Int)) : List (Int × Int) := es.filter fun e => !decide (Brg es e)
/-- A graph's bridges. -/
noncomputable def brgs (es : List (Int × Int)) : List (Int × Int) := es.filter fun e => decide (Brg es e)
theorem mem_bare {es : List (Int × Int)} {e : Int × Int} : e ∈ bare es ↔ e ∈ es ∧ ¬ Brg es e := by simp [bare]
theorem VG.bare {n : Int} {es : List (Int × Int)} (h : VG n es) : VG n (X.bare es) := h.sub List.filter_sublist
theorem VG.brgs {n : Int} {es : List (Int × Int)} (h : VG n es) : VG n (X.brgs es) := h.sub List.filter_sublist
/-- The label of a node's safe part. -/
noncomputable def sl (es : List (Int × Int)) (x : Int) : Int := (least (bare es) x.toNat : Nat)
noncomputable def treeE (es : List (Int × Int)) (e : Int × Int) : Int × Int := edgeOf (sl es e.1) (sl es e.2)
/-- The edges between safe parts, in the order of bridges. -/
noncomputable def treeL (es : List (Int × Int)) : List (Int × Int) := (brgs es).map (treeE es)
theorem edgeOf_ok {n x y : Int} (hx : 0 ≤ x ∧ x < n) (hy : 0 ≤ y ∧ y < n) (h : x ≠ y) : okE n (edgeOf x y) := by
  unfold okE edgeOf
  split <;> simp only <;> omega
theorem nodup_map {α β : Type} {f : α → β} : ∀ {l : List α}, l.Nodup → (∀ x ∈ l, ∀ y ∈ l, f x = f y → x = y) → (l.map f).Nodup
  | [], _, _ => by simp
  | a :: l, hn, h => by
    rw [List.nodup_cons] at hn
    rw [List.map_cons, List.nodup_cons]
    refine ⟨fun hm => ?_, nodup_map hn.2 fun x hx y hy => h x (List.mem_cons_of_mem _ hx) y (List.mem_cons_of_mem _ hy)⟩
    obtain ⟨b, hb, he⟩ := List.mem_map.1 hm
    have := h a (by simp) b (List.mem_cons_of_mem _ hb) he.symm
    exact hn.1 (this ▸ hb)
end Go.Proofs.Ytdlfdoicheakoaa.X

/- What functions compute: bridges, safe parts, nodes and edges by a property. -/
set_option linter.unusedSimpArgs false
set_option linter.unusedVariables false
set_option maxHeartbeats 2000000
namespace Go.Proofs.Ytdlfdoicheakoaa.X
open Go Go.Proofs
theorem OKG.cutE {n : Int} {es : List (Int × Int)} (h : OKG n es) (e : Int × Int) : OKG n (X.cutE e es) := ⟨h.n0, h.n1, Nat.le_trans (cutE_len e es) h.len, fun f hf => h.ok f (cutE_mem.1 hf).1⟩
theorem OKG.bare {n : Int} {es : List (Int × Int)} (h : OKG n es) : OKG n (X.bare es) := ⟨h.n0, h.n1, Nat.le_trans (List.length_filter_le _ _) h.len, fun f hf => h.ok f (mem_bare.1 hf).1⟩
/-- What deleting what does not fulfil something hands back. -/
def delF (p : Int × Int → Bool) (es : List (Int × Int)) : IV := if es = [] then .emp else .lst ((es.filter p).map encE)
theorem delE_not {p : Int × Int → Bool} {es : List (Int × Int)} : delE (fun e => !p e) es = delF p es := by
  unfold delE delF; simp only [Bool.not_not]
theorem frz_delF {p : Int × Int → Bool} {es : List (Int × Int)} {n : Nat} : frz n (.i (delF p es)) = .ret (.lst ((es.filter p).map encE)) := by
  rw [← delE_not, frz_del]; simp only [Bool.not_not]
theorem flat_delF {p : Int × Int → Bool} {es : List (Int × Int)} : (delF p es).flat = true := by rw [← delE_not]; exact flat_del
theorem lenP_delF {p : Int × Int → Bool} {es : List (Int × Int)} : lenP (.i (delF p es)) = some (es.filter p).length := by
  rw [← delE_not, lenP_del]; simp only [Bool.not_not]
theorem iaR_delF {p : Int × Int → Bool} {es : List (Int × Int)} {el : TypeId} {n : Int} (h0 : 0 ≤ n) (h : n < (es.filter p).length) :
    iaR Try.prog (some (.slice el)) (some n) (.i (delF p es)) = iaR Try.prog (some (.slice el)) (some n) (.i (.lst ((es.filter p).map encE))) := by
  have := iaR_del (p := fun e => !p e) (es := es) (el := el) (n := n) h0 (by simpa only [Bool.not_not] using h)
  rw [delE_not] at this
  simpa only [Bool.not_not] using this
attribute [go_sem] frz_delF flat_delF lenP_delF iaR_delF
/-- A list of edges, in whatever form, that can be looked at. -/
structure EQ (x : IV) (es : List (Int × Int)) : Prop extends EL x es where
  len : lenP (.i x) = some es.length
  ia : ∀ (el : TypeId) (i : Int), 0 ≤ i → i < es.length → iaR Try.prog (some (.slice el)) (some i) (.i x) = iaR Try.prog (some (.slice el)) (some i) (.i (.lst (es.map encE)))
theorem EQ.lst (es : List (Int × Int)) : EQ (.lst (es.map encE)) es := ⟨EL.lst es, by simp [lenP], fun _ _ _ _ => rfl⟩
theorem EQ.qe (es : List (Int × Int)) : EQ (qe es) es := ⟨EL.qe es, lenP_qe, fun el i h0 h1 => by
  cases es with
  | nil => simp at h1; omega
  | cons e r => rfl⟩
end Go.Proofs.Ytdlfdoicheakoaa.X

/- Bridges and cut nodes on paths; cycles: plain law. -/
set_option linter.unusedVariables false
namespace Go.Proofs.Ytdlfdoicheakoaa.X
open Go
theorem lab_congr {n : Int} {es fs : List (Int × Int)} (h : ∀ x y : Int, Conn es x y ↔ Conn fs x y) : lab n es = lab n fs := by
  unfold lab
  refine List.map_congr_left fun x _ => ?_
  have : least es x = least fs x := by
    obtain ⟨a1, a2, a3⟩ := least_spec es x
    obtain ⟨b1, b2, b3⟩ := least_spec fs x
    refine Nat.le_antisymm (Nat.le_of_not_lt fun hl => a3 _ hl ((h _ _).2 b2)) (Nat.le_of_not_lt fun hl => b3 _ hl ((h _ _).1 a2))
  rw [this]
end Go.Proofs.Ytdlfdoicheakoaa.X

/- Breadth search along edges that can be gone along: plain law. -/
set_option linter.unusedVariables false
namespace Go.Proofs.Ytdlfdoicheakoaa.X
open Go
def look (goes : Int → Int → Bool) (a : Int) (st : List Int × List Int) (v : Int) : List Int × List Int :=
  if st.1.getD v.toNat 0 < 0 ∧ goes a v = true then (st.1.set v.toNat a, st.2 ++ [v]) else st
def bstep (es : List (Int × Int)) (goes : Int → Int → Bool) (st : List Int × List Int) (i : Nat) : List Int × List Int :=
  if i < st.2.length then (nbS (st.2.getD i 0) es).foldl (look goes (st.2.getD i 0)) st else st
/-- From which nodes nodes are reached, and in which order. -/
def bfsS (n : Int) (es : List (Int × Int)) (goes : Int → Int → Bool) (x : Int) : Nat → List Int × List Int
  | 0 => ((List.replicate n.toNat (-1)).set x.toNat x, [x])
  | i + 1 => bstep es goes (bfsS n es goes x i) i
def bfs (n : Int) (es : List (Int × Int)) (goes : Int → Int → Bool) (x : Int) : List Int × List Int := bfsS n es goes x n.toNat
structure BI (n : Int) (es : List (Int × Int)) (goes : Int → Int → Bool) (x : Int) (st : List Int × List Int) : Prop where
  len : st.1.length = n.toNat
  nd : st.2.Nodup
  pos : 0 < st.2.length
  hd : st.2.getD 0 0 = x
  mem : ∀ v, 0 ≤ v → v < n → (0 ≤ st.1.getD v.toNat 0 ↔ v ∈ st.2)
  neg : ∀ v, 0 ≤ v → v < n → st.1.getD v.toNat 0 < 0 → st.1.getD v.toNat 0 = -1
  rng : ∀ v ∈ st.2, 0 ≤ v ∧ v < n
  self : st.1.getD x.toNat 0 = x
  par : ∀ k, 0 < k → k < st.2.length → ∃ j, j < k ∧ st.1.getD (st.2.getD k 0).toNat 0 = st.2.getD j 0 ∧ Adj es (st.2.getD j 0) (st.2.getD k 0) ∧ goes (st.2.getD j 0) (st.2.getD k 0) = true
theorem getD_append_left' {l r : List Int} {i : Nat} (h : i < l.length) : (l ++ r).getD i 0 = l.getD i 0 := by
  simp [List.getD, List.getElem?_append_left h]
theorem getD_append_last {l : List Int} {v : Int} : (l ++ [v]).getD l.length 0 = v := by
  simp [List.getD]
theorem BI.look {n : Int} {es : List (Int × Int)} {goes : Int → Int → Bool} {x a v : Int} {st : List Int × List Int} (h : BI n es goes x st) (ha : a ∈ st.2) (hv : 0 ≤ v ∧ v < n) (hav : Adj es a v) :
    BI n es goes x (look goes a st v) ∧ st.2 <+: (X.look goes a st v).2 ∧ (goes a v = true → v ∈ (X.look goes a st v).2) := by
  unfold X.look
  split
  · rename_i hc
    obtain ⟨hneg, hgo⟩ := hc
    have hnm : v ∉ st.2 := fun hm => by have := (h.mem v hv.1 hv.2).2 hm; omega
    have hvl : v.toNat < st.1.length := by rw [h.len]; omega
    have hg : ∀ u : Int, 0 ≤ u → u < n → (st.1.set v.toNat a).getD u.toNat 0 = if v = u then a else st.1.getD u.toNat 0 := fun u h0 h1 => by
      rw [getD_set (by rw [h.len]; omega)]
      by_cases he : v = u
      · subst he; simp
      · rw [if_neg he, if_neg (by omega)]
    have har := h.rng a ha
    refine ⟨⟨by simp [h.len], ?_, by simp, ?_, fun u h0 h1 => ?_, fun u h0 h1 hn => ?_, fun u hu => ?_, ?_, fun k h0 h1 => ?_⟩, List.prefix_append _ _, fun _ => by simp⟩
    · rw [List.nodup_append]
      exact ⟨h.nd, by simp, fun y hy z hz => by simp only [List.mem_singleton] at hz; subst hz; exact fun e => hnm (e ▸ hy)⟩
    · rw [getD_append_left' h.pos]; exact h.hd
    · simp only [List.mem_append, List.mem_singleton]
      rw [hg u h0 h1]
      by_cases he : v = u
      · subst he; simp; exact har.1
      · rw [if_neg he, h.mem u h0 h1]
        exact ⟨.inl, fun h' => h'.resolve_right fun e => he e.symm⟩
    · simp only at hn ⊢
      rw [hg u h0 h1] at hn ⊢
      split
      · rw [if_pos ‹_›] at hn; omega
      · rw [if_neg ‹_›] at hn; exact h.neg u h0 h1 hn
    · simp only [List.mem_append, List.mem_singleton] at hu
      rcases hu with hu | rfl
      · exact h.rng u hu
      · exact hv
    · have hx : x ∈ st.2 := by
        have := getD_mem (d := 0) h.pos
        rw [h.hd] at this; exact this
      have hxr := h.rng x hx
      simp only
      rw [hg x hxr.1 hxr.2, if_neg (fun e : v = x => hnm (by rw [e]; exact hx))]
      exact h.self
    · simp only [List.length_append, List.length_cons, List.length_nil] at h1
      simp only
      by_cases hk : k < st.2.length
      · obtain ⟨j, j1, j2, j3, j4⟩ := h.par k h0 hk
        have hkm := getD_mem (d := 0) hk
        have hkr := h.rng _ hkm
        refine ⟨j, j1, ?_⟩
        rw [getD_append_left' hk, getD_append_left' (show j < st.2.length by omega) (r := [v]), hg _ hkr.1 hkr.2, if_neg (fun e : v = st.2.getD k 0 => hnm (by rw [e]; exact hkm))]
        exact ⟨j2, j3, j4⟩
      · obtain rfl : k = st.2.length := by omega
        rw [getD_append_last, hg v hv.1 hv.2, if_pos rfl]
        obtain ⟨j, hj, he⟩ := List.mem_iff_getElem.1 ha
        refine ⟨j, hj, ?_⟩
        have e1 : st.2.getD j 0 = a := by simp [List.getD, hj, he]
        rw [getD_append_left' hj, e1]
        exact ⟨rfl, hav, hgo⟩
  · rename_i hc
    refine ⟨h, List.prefix_refl _, fun hgo => ?_⟩
    refine (h.mem v hv.1 hv.2).1 (Classical.byContradiction fun hn => hc ⟨by omega, hgo⟩)
theorem BI.le {n : Int} {es : List (Int × Int)} {goes : Int → Int → Bool} {x : Int} {st : List Int × List Int} (h : BI n es goes x st) : st.2.length ≤ n.toNat := by
  have := len_le_of_sub (m := iota n) h.nd fun v hv => mem_iota.2 (h.rng v hv)
  rwa [iota_length] at this
def upL (fr : List Int) (x : Int) : Nat → Int → List Int
  | 0, y => [y]
  | k + 1, y => if y = x then [y] else y :: upL fr x k (fr.getD y.toNat 0)
/-- The way to a node that is reached. -/
def wayL (n : Int) (fr : List Int) (x y : Int) : List Int := (upL fr x n.toNat y).reverse
/-- A row of different nodes along edges that can be gone along. -/
structure Way (es : List (Int × Int)) (goes : Int → Int → Bool) (x y : Int) (p : List Int) : Prop where
  pos : 0 < p.length
  nd : p.Nodup
  hd : p.getD 0 0 = x
  la : p.getD (p.length - 1) 0 = y
  st : ∀ i, i + 1 < p.length → Adj es (p.getD i 0) (p.getD (i + 1) 0) ∧ goes (p.getD i 0) (p.getD (i + 1) 0) = true
end Go.Proofs.Ytdlfdoicheakoaa.X

/- Units along ways, and cuts: plain law. -/
set_option linter.unusedVariables false
namespace Go.Proofs.Ytdlfdoicheakoaa.X
open Go
abbrev Un := Int → Int → Bool
/-- A unit more from a node to another one. -/
def stepF (F : Un) (a b : Int) : Un := fun c d => if F b a = true then (if c = b ∧ d = a then false else F c d) else (if c = a ∧ d = b then true else F c d)
/-- A unit more along a row of nodes, from its first step on. -/
def augF (F : Un) : List Int → Un
  | a :: b :: r => augF (stepF F a b) (b :: r)
  | _ => F
/-- The same, from the last step on. -/
def augB (F : Un) : List Int → Un
  | a :: b :: r => stepF (augB F (b :: r)) a b
  | _ => F
def Steps (P : Int → Int → Prop) : List Int → Prop
  | a :: b :: r => P a b ∧ Steps P (b :: r)
  | _ => True
theorem Steps.of {P : Int → Int → Prop} : ∀ {p : List Int}, (∀ i, i + 1 < p.length → P (p.getD i 0) (p.getD (i + 1) 0)) → Steps P p
  | [], _ => trivial
  | [a], _ => trivial
  | a :: b :: r, h => ⟨h 0 (by simp), Steps.of (p := b :: r) fun i hi => by
      have := h (i + 1) (by simp only [List.length_cons] at hi ⊢; omega)
      simpa using this⟩
theorem Steps.mono {P Q : Int → Int → Prop} : ∀ {p : List Int}, (∀ a b, a ∈ p → b ∈ p → P a b → Q a b) → Steps P p → Steps Q p
  | [], _, _ => trivial
  | [a], _, _ => trivial
  | a :: b :: r, h, ⟨h1, h2⟩ => ⟨h a b (by simp) (by simp) h1, Steps.mono (p := b :: r) (fun c d hc hd => h c d (List.mem_cons_of_mem _ hc) (List.mem_cons_of_mem _ hd)) h2⟩
/-- Units lie on edges, and not in both directions. -/
structure OKF (es : List (Int × Int)) (F : Un) : Prop where
  adj : ∀ a b, F a b = true → Adj es a b
  one : ∀ a b, F a b = true → F b a = false
theorem OKF.step {es : List (Int × Int)} {F : Un} {a b : Int} (h : OKF es F) (ha : Adj es a b) (hne : a ≠ b) : OKF es (stepF F a b) := by
  constructor
  · intro c d hcd
    unfold stepF at hcd
    split at hcd
    · split at hcd
      · cases hcd
      · exact h.adj c d hcd
    · split at hcd
      · rename_i hc; rw [hc.1, hc.2]; exact ha
      · exact h.adj c d hcd
  · intro c d hcd
    unfold stepF at hcd ⊢
    split at hcd
    · rename_i hba
      rw [if_pos hba]
      split at hcd
      · cases hcd
      · split
        · rfl
        · exact h.one c d hcd
    · rename_i hba
      rw [if_neg hba]
      split at hcd
      · rename_i hc
        obtain ⟨rfl, rfl⟩ := hc
        rw [if_neg (fun k => hne k.2)]
        exact Bool.not_eq_true _ ▸ hba
      · rename_i hc
        split
        · rename_i hd
          obtain ⟨rfl, rfl⟩ := hd
          exact absurd hcd hba
        · exact h.one c d hcd
def b2i (b : Bool) : Int := if b = true then 1 else 0
def contrib (S : Int → Bool) (F : Un) (e : Int × Int) : Int := (b2i (S e.1) - b2i (S e.2)) * (b2i (F e.1 e.2) - b2i (F e.2 e.1))
def val (S : Int → Bool) (F : Un) (es : List (Int × Int)) : Int := (es.map (contrib S F)).sum
/-- The edges that lead out of a set. -/
def cutsz (S : Int → Bool) (es : List (Int × Int)) : Nat := (es.filter fun e => S e.1 != S e.2).length
def goesF (F : Un) : Int → Int → Bool := fun a b => !F a b
def flS (n : Int) (es : List (Int × Int)) (x y : Int) : Nat → Un
  | 0 => fun _ _ => false
  | k + 1 => augF (flS n es x y k) (wayL n (bfs n es (goesF (flS n es x y k)) x).1 x y)
/-- Is there a way yet? -/
def more (n : Int) (es : List (Int × Int)) (x y : Int) (k : Nat) : Prop := y ∈ (bfs n es (goesF (flS n es x y k)) x).2
instance (n : Int) (es : List (Int × Int)) (x y : Int) (k : Nat) : Decidable (more n es x y k) := by unfold more; infer_instance
/-- How many ways there are. -/
def flN (n : Int) (es : List (Int × Int)) (x y : Int) : Nat := ((List.range (n.toNat + 1)).find? fun k => decide ¬ more n es x y k).getD 0
/-- The units in the end. -/
def flU (n : Int) (es : List (Int × Int)) (x y : Int) : Un := flS n es x y (flN n es x y)
/-- The nodes that can be reached in the end. -/
def sideO (n : Int) (es : List (Int × Int)) (x y : Int) : List Int := (bfs n es (goesF (flU n es x y)) x).2
end Go.Proofs.Ytdlfdoicheakoaa.X
