/- What functions answer, and the plain laws behind it. -/
import Derived.Test.YtdjdgnabcecdlaaGreatDoorKAF
/- Shortest paths: plain law. -/
set_option linter.unusedVariables false
namespace Go.Proofs.YtdjdgnabcecdlaaGreatDoor.X
open Go
theorem Rk.one {es : List (Int × Int)} {x y : Int} (h : Adj es x y) : Rk es x 1 y := .inr ⟨x, rfl, h⟩
theorem Rk.comp {es : List (Int × Int)} {x y : Int} {j : Nat} (h : Rk es x j y) : ∀ (k : Nat) {z : Int}, Rk es y k z → Rk es x (j + k) z
  | 0, z, hk => by cases hk; exact h
  | k + 1, z, hk => by
    rcases hk with hk | ⟨w, hw, ha⟩
    · exact .inl (Rk.comp h k hk)
    · exact .inr ⟨w, Rk.comp h k hw, ha⟩
theorem Rk.symm {es : List (Int × Int)} {x : Int} : ∀ (k : Nat) {y : Int}, Rk es x k y → Rk es y k x
  | 0, y, h => by cases h; rfl
  | k + 1, y, h => by
    rcases h with h | ⟨z, h, a⟩
    · exact .inl (Rk.symm k h)
    · have := (Rk.one a.symm).comp k (Rk.symm k h)
      rwa [Nat.add_comm 1 k] at this
theorem gpath_len (es : List (Int × Int)) (far : List Int) : ∀ (k : Nat) (x : Int), (gpath es far k x).length = k + 1
  | 0, _ => rfl
  | k + 1, x => by rw [gpath, List.length_cons, gpath_len es far k]
theorem pathL_len {n : Int} {es : List (Int × Int)} {x y : Int} : (pathL n es x y).length = (dst n es y x).toNat + 1 := gpath_len _ _ _ _
/-- What stands at each place of a path. -/
theorem gpath_at {n : Int} {es : List (Int × Int)} {t : Int} (ho : ∀ e ∈ es, okE n e) (hn : 0 ≤ n) : ∀ (k : Nat) {x : Int}, Conn es t x → dst n es t x = k →
    ∀ i : Nat, i ≤ k → Conn es t ((gpath es (dstL n es t) k x).getD i 0) ∧ dst n es t ((gpath es (dstL n es t) k x).getD i 0) = k - i ∧
      (i < k → Adj es ((gpath es (dstL n es t) k x).getD i 0) ((gpath es (dstL n es t) k x).getD (i + 1) 0))
  | 0, x, hc, hd, i, hi => by
    obtain rfl : i = 0 := by omega
    exact ⟨hc, by simpa [gpath] using hd, fun h => by omega⟩
  | k + 1, x, hc, hd, i, hi => by
    obtain ⟨s1, s2, -, -⟩ := nxtN_spec ho hn hc (by omega)
    have ha := (mem_nbS ho).1 s1
    have ih := gpath_at ho hn k (hc.step ha) (by omega)
    cases i with
    | zero =>
      refine ⟨by simpa [gpath] using hc, by simp only [gpath, List.getD_cons_zero]; omega, fun _ => ?_⟩
      have e : ∀ x, (gpath es (dstL n es t) k x).getD 0 0 = x := fun x => by cases k <;> rfl
      simp only [gpath, List.getD_cons_zero, List.getD_cons_succ, e]
      exact ha
    | succ i =>
      obtain ⟨i1, i2, i3⟩ := ih i (by omega)
      simp only [gpath, List.getD_cons_succ]
      exact ⟨i1, by omega, fun h => i3 (by omega)⟩
theorem pathL_at {n : Int} {es : List (Int × Int)} {x y : Int} (ho : ∀ e ∈ es, okE n e) (hn : 0 ≤ n) (hc : Conn es x y) {i : Nat} (hi : i < (pathL n es x y).length) :
    Conn es y ((pathL n es x y).getD i 0) ∧ dst n es y ((pathL n es x y).getD i 0) = dst n es y x - i ∧
      (i + 1 < (pathL n es x y).length → Adj es ((pathL n es x y).getD i 0) ((pathL n es x y).getD (i + 1) 0)) := by
  have h0 := (dst_spec ho hc.symm).1
  rw [pathL_len] at hi ⊢
  obtain ⟨h1, h2, h3⟩ := gpath_at ho hn (dst n es y x).toNat hc.symm (by omega) i (by omega)
  exact ⟨h1, by unfold pathL; omega, fun h => h3 (by omega)⟩
end Go.Proofs.YtdjdgnabcecdlaaGreatDoor.X

/- Bridges, forests, paths: plain law. -/
set_option linter.unusedVariables false
namespace Go.Proofs.YtdjdgnabcecdlaaGreatDoor.X
open Go
/-- An edge whose nodes are not connected without it. -/
def Brg (es : List (Int × Int)) (e : Int × Int) : Prop := ¬ Conn (cutE e es) e.1 e.2
noncomputable instance decBrg (es : List (Int × Int)) (e : Int × Int) : Decidable (Brg es e) := Classical.propDecidable _
theorem edgeOf_ends {x y : Int} : (edgeOf x y = (x, y)) ∨ (edgeOf x y = (y, x)) := by unfold edgeOf; split <;> simp
theorem adj_edge {n : Int} {es : List (Int × Int)} (ho : ∀ e ∈ es, okE n e) {x y : Int} : Adj es x y ↔ x ≠ y ∧ edgeOf x y ∈ es := by
  rw [← mem_edgeOf ho]
  have : edgeOf y x = edgeOf x y ∨ x = y := by
    unfold edgeOf
    by_cases h1 : x < y
    · rw [if_neg (by omega), if_pos h1]; exact .inl rfl
    · by_cases h2 : y < x
      · rw [if_pos h2, if_neg h1]; exact .inl rfl
      · exact .inr (by omega)
  constructor
  · rintro ⟨h1, h2⟩
    refine ⟨fun e => h1 e.symm, ?_⟩
    rcases this with h | h
    · rw [← h]; exact h2
    · exact absurd h.symm h1
  · rintro ⟨h1, h2⟩
    refine ⟨fun e => h1 e.symm, ?_⟩
    rcases this with h | h
    · rw [h]; exact h2
    · exact absurd h h1
theorem adj_cut {n : Int} {es : List (Int × Int)} (ho : ∀ e ∈ es, okE n e) {e : Int × Int} {x y : Int} (h : Adj es x y) (hn : ¬ Adj (cutE e es) x y) : (x = e.1 ∧ y = e.2) ∨ (x = e.2 ∧ y = e.1) := by
  rcases h with h | h
  · by_cases hq : (x, y) = e
    · subst hq; exact .inl ⟨rfl, rfl⟩
    · exact absurd (.inl (cutE_mem.2 ⟨h, hq⟩)) hn
  · by_cases hq : (y, x) = e
    · subst hq; exact .inr ⟨rfl, rfl⟩
    · exact absurd (.inr (cutE_mem.2 ⟨h, hq⟩)) hn
theorem alone_cut {v : Int} {es : List (Int × Int)} {e : Int × Int} (h : e.1 = v ∨ e.2 = v) : ∀ f ∈ alone v es, f ∈ cutE e es := by
  intro f hf
  have := List.mem_filter.1 hf
  simp only [decide_eq_true_eq] at this
  refine cutE_mem.2 ⟨this.1, fun he => ?_⟩
  subst he
  rcases h with h | h
  · exact this.2.1 h
  · exact this.2.2 h
noncomputable def fstep (acc : List (Int × Int)) (e : Int × Int) : List (Int × Int) := if Conn acc e.1 e.2 then acc else acc ++ [e]
noncomputable def forestL (es : List (Int × Int)) : List (Int × Int) := es.foldl fstep []
theorem fstep_sub {acc : List (Int × Int)} {e : Int × Int} : acc.Sublist (fstep acc e) := by
  unfold fstep; split
  · exact List.Sublist.refl _
  · exact List.sublist_append_left _ _
theorem fstep_conn {acc : List (Int × Int)} {e : Int × Int} : Conn (fstep acc e) e.1 e.2 := by
  unfold fstep; split
  · assumption
  · exact .edge (by simp)
theorem conn_snoc {es : List (Int × Int)} {e : Int × Int} {x y : Int} : Conn (es ++ [e]) x y ↔ Conn (e :: es) x y :=
  ⟨Conn.mono fun f hf => (by rcases List.mem_append.1 hf with h | h; exact List.mem_cons_of_mem _ h; exact List.mem_cons.2 (.inl (List.mem_singleton.1 h))), Conn.mono fun f hf => (by rcases List.mem_cons.1 hf with h | h; exact List.mem_append.2 (.inr (List.mem_singleton.2 h)); exact List.mem_append.2 (.inl h))⟩
theorem forest_facts {n : Int} : ∀ {fs acc : List (Int × Int)}, (∀ e ∈ fs, okE n e) → cnt n acc + acc.length = n.toNat →
    acc.Sublist (fs.foldl fstep acc) ∧ (fs.foldl fstep acc).Sublist (acc ++ fs) ∧ (∀ e ∈ fs, Conn (fs.foldl fstep acc) e.1 e.2) ∧ cnt n (fs.foldl fstep acc) + (fs.foldl fstep acc).length = n.toNat
  | [], acc, _, h => ⟨List.Sublist.refl _, by simp, by simp, h⟩
  | e :: fs, acc, ho, h => by
    have hok := ho e (by simp)
    unfold okE at hok
    have hc : cnt n (fstep acc e) + (fstep acc e).length = n.toNat := by
      unfold fstep
      split
      · exact h
      · rename_i hn
        have h1 := cnt_less (n := n) (a := e.1) (b := e.2) (es := acc) (by omega) (by omega) hn
        have h2 := cnt_congr (n := n) (es := acc ++ [e]) (fs := (e.1, e.2) :: acc) fun x y => conn_snoc
        simp only [List.length_append, List.length_cons, List.length_nil]
        omega
    obtain ⟨i1, i2, i3, i4⟩ := forest_facts (fs := fs) (acc := fstep acc e) (fun f hf => ho f (List.mem_cons_of_mem _ hf)) hc
    refine ⟨fstep_sub.trans i1, ?_, ?_, i4⟩
    · refine i2.trans ?_
      unfold fstep
      split
      · exact List.Sublist.append_left (List.sublist_cons_self _ _) _
      · simp
    · intro f hf
      rcases List.mem_cons.1 hf with rfl | hf
      · exact fstep_conn.mono fun g hg => i1.subset hg
      · exact i3 f hf
theorem forest_sub {n : Int} {es : List (Int × Int)} (ho : ∀ e ∈ es, okE n e) : (forestL es).Sublist es := by
  exact (forest_facts (fs := es) (acc := []) ho (by simp [cnt_nil])).2.1
theorem forest_cnt {n : Int} {es : List (Int × Int)} (ho : ∀ e ∈ es, okE n e) : cnt n (forestL es) + (forestL es).length = n.toNat :=
  (forest_facts (fs := es) (acc := []) ho (by simp [cnt_nil])).2.2.2
theorem forest_conn {n : Int} {es : List (Int × Int)} (ho : ∀ e ∈ es, okE n e) {x y : Int} : Conn (forestL es) x y ↔ Conn es x y :=
  ⟨fun h => h.mono fun e he => (forest_sub ho).subset he, fun h => h.via (forest_facts (fs := es) (acc := []) ho (by simp [cnt_nil])).2.2.1⟩
theorem forest_len {n : Int} {es : List (Int × Int)} (ho : ∀ e ∈ es, okE n e) : (forestL es).length + cnt n es = n.toNat := by
  have h1 := forest_cnt ho
  have h2 := cnt_congr (n := n) (es := forestL es) (fs := es) fun x y => forest_conn ho
  omega
theorem cnt_ge {n : Int} : ∀ {es : List (Int × Int)}, (∀ e ∈ es, okE n e) → n.toNat ≤ cnt n es + es.length
  | [], _ => by simp [cnt_nil]
  | e :: es, ho => by
    have ih := cnt_ge (es := es) fun f hf => ho f (List.mem_cons_of_mem _ hf)
    have hok := ho e (by simp)
    unfold okE at hok
    have e1 : ((e.1, e.2) : Int × Int) = e := rfl
    simp only [List.length_cons]
    by_cases hc : Conn es e.1 e.2
    · have := cnt_same (n := n) hc
      rw [e1] at this; omega
    · have := cnt_less (n := n) (a := e.1) (b := e.2) (by omega) (by omega) hc
      rw [e1] at this; omega
theorem cutE_lt {e : Int × Int} {es : List (Int × Int)} (h : e ∈ es) : (cutE e es).length < es.length := by
  have := filter_lt (l := es) (p := fun f => decide (f ≠ e)) (q := fun _ => true) (fun _ _ _ => rfl) ⟨e, h, rfl, by simp⟩
  rw [List.filter_eq_self.2 (fun _ _ => rfl)] at this
  exact this
/-- Where parts and edges together are as many as nodes, each edge is a bridge. -/
theorem tree_brg {n : Int} {es : List (Int × Int)} (ho : ∀ e ∈ es, okE n e) (h : cnt n es + es.length = n.toNat) {e : Int × Int} (he : e ∈ es) : Brg es e := by
  intro hc
  rcases cnt_cut (n := n) he (ho e he) with ⟨_, h2⟩ | ⟨h1, _⟩
  · exact h2 hc
  · have h3 := cnt_ge (n := n) (es := cutE e es) fun f hf => ho f (cutE_mem.1 hf).1
    have := cutE_lt he
    omega
/-- Edges all of which are bridges are their own forest. -/
theorem VG.sub {n : Int} {es fs : List (Int × Int)} (h : VG n es) (hs : fs.Sublist es) : VG n fs := by
  obtain ⟨h1, h2, h3, h4, h5⟩ := h
  have := hs.length_le
  exact ⟨h1, h2, by omega, fun e he => h4 e (hs.subset he), List.Pairwise.sublist hs h5⟩
def Walk (es : List (Int × Int)) (p : List Int) : Prop := ∀ i, i + 1 < p.length → Adj es (p.getD i 0) (p.getD (i + 1) 0)
theorem Walk.conn {es : List (Int × Int)} {p : List Int} (h : Walk es p) : ∀ i, i < p.length → Conn es (p.getD 0 0) (p.getD i 0)
  | 0, _ => .refl _
  | i + 1, hi => .step (h.conn i (by omega)) (h i hi)
theorem len_le_of_sub {α : Type} [DecidableEq α] : ∀ {l m : List α}, l.Nodup → (∀ x ∈ l, x ∈ m) → l.length ≤ m.length
  | [], m, _, _ => by simp
  | x :: l, m, hn, h => by
    rw [List.nodup_cons] at hn
    have hx := h x (by simp)
    have ih := len_le_of_sub (l := l) (m := m.erase x) hn.2 fun y hy => by
      have : y ≠ x := fun e => hn.1 (e ▸ hy)
      exact (List.mem_erase_of_ne this).2 (h y (List.mem_cons_of_mem _ hy))
    rw [List.length_erase_of_mem hx] at ih
    have := List.length_pos_of_mem hx
    simp only [List.length_cons]; omega
end Go.Proofs.YtdjdgnabcecdlaaGreatDoor.X

/- What functions compute: the number of parts. -/
set_option linter.unusedSimpArgs false
set_option linter.unusedVariables false
set_option maxHeartbeats 2000000
namespace Go.Proofs.YtdjdgnabcecdlaaGreatDoor.X
open Go Go.Proofs
end Go.Proofs.YtdjdgnabcecdlaaGreatDoor.X

/- Safe parts and the tree of bridges: plain law. -/
set_option linter.unusedVariables false
namespace Go.Proofs.YtdjdgnabcecdlaaGreatDoor.X
open Go
/-- A graph's edges without its bridges. -/
noncomputable def bare (es : List (Int × Int)) : List (Int × Int) := es.filter fun e => !decide (Brg es e)
/-- A graph's bridges. -/
noncomputable def brgs (es : List (Int × Int)) : List (Int × Int) := es.filter fun e => decide (Brg es e)
theorem mem_bare {es : List (Int × Int)} {e : Int × Int} : e ∈ bare es ↔ e ∈ es ∧ ¬ Brg es e := by simp [bare]
theorem VG.bare {n : Int} {es : List (Int × Int)} (h : VG n es) : VG n (X.bare es) := h.sub List.filter_sublist
theorem VG.brgs {n : Int} {es : List (Int × Int)} (h : VG n es) : VG n (X.brgs es) := h.sub List.filter_sublist
/-- The label of a node's safe part. -/
noncomputable def sl (es : List (Int × Int)) (x : Int) : Int := (least (bare es) x.toNat : Nat)
noncomputable def treeE (es : List (Int × Int)) (e : Int × Int) : Int × Int := edgeOf (sl es e.1) (sl es e.2)
/-- The edges between safe parts, in the order of bridges. -/
noncomputable def treeL (es : List (Int × Int)) : List (Int × Int) := (brgs es).map (treeE es)
theorem edgeOf_ok {n x y : Int} (hx : 0 ≤ x ∧ x < n) (hy : 0 ≤ y ∧ y < n) (h : x ≠ y) : okE n (edgeOf x y) := by
  unfold okE edgeOf
  split <;> simp only <;> omega
theorem nodup_map {α β : Type} {f : α → β} : ∀ {l : List α}, l.Nodup → (∀ x ∈ l, ∀ y ∈ l, f x = f y → x = y) → (l.map f).Nodup
  | [], _, _ => by simp
  | a :: l, hn, h => by
    rw [List.nodup_cons] at hn
    rw [List.map_cons, List.nodup_cons]
    refine ⟨fun hm => ?_, nodup_map hn.2 fun x hx y hy => h x (List.mem_cons_of_mem _ hx) y (List.mem_cons_of_mem _ hy)⟩
    obtain ⟨b, hb, he⟩ := List.mem_map.1 hm
    have := h a (by simp) b (List.mem_cons_of_mem _ hb) he.symm
    exact hn.1 (this ▸ hb)
end Go.Proofs.YtdjdgnabcecdlaaGreatDoor.X

/- What functions compute: bridges, safe parts, nodes and edges by a property. -/
set_option linter.unusedSimpArgs false
set_option linter.unusedVariables false
set_option maxHeartbeats 2000000
namespace Go.Proofs.YtdjdgnabcecdlaaGreatDoor.X
open Go Go.Proofs
theorem OKG.cutE {n : Int} {es : List (Int × Int)} (h : OKG n es) (e : Int × Int) : OKG n (X.cutE e es) := ⟨h.n0, h.n1, Nat.le_trans (cutE_len e es) h.len, fun f hf => h.ok f (cutE_mem.1 hf).1⟩
theorem OKG.bare {n : Int} {es : List (Int × Int)} (h : OKG n es) : OKG n (X.bare es) := ⟨h.n0, h.n1, Nat.le_trans (List.length_filter_le _ _) h.len, fun f hf => h.ok f (mem_bare.1 hf).1⟩
/-- What deleting what does not fulfil something hands back. -/
def delF (p : Int × Int → Bool) (es : List (Int × Int)) : IV := if es = [] then .emp else .lst ((es.filter p).map encE)
theorem delE_not {p : Int × Int → Bool} {es : List (Int × Int)} : delE (fun e => !p e) es = delF p es := by
  unfold delE delF; simp only [Bool.not_not]
theorem frz_delF {p : Int × Int → Bool} {es : List (Int × Int)} {n : Nat} : frz n (.i (delF p es)) = .ret (.lst ((es.filter p).map encE)) := by
  rw [← delE_not, frz_del]; simp only [Bool.not_not]
theorem flat_delF {p : Int × Int → Bool} {es : List (Int × Int)} : (delF p es).flat = true := by rw [← delE_not]; exact flat_del
theorem lenP_delF {p : Int × Int → Bool} {es : List (Int × Int)} : lenP (.i (delF p es)) = some (es.filter p).length := by
  rw [← delE_not, lenP_del]; simp only [Bool.not_not]
theorem iaR_delF {p : Int × Int → Bool} {es : List (Int × Int)} {el : TypeId} {n : Int} (h0 : 0 ≤ n) (h : n < (es.filter p).length) :
    iaR Tryz.prog (some (.slice el)) (some n) (.i (delF p es)) = iaR Tryz.prog (some (.slice el)) (some n) (.i (.lst ((es.filter p).map encE))) := by
  have := iaR_del (p := fun e => !p e) (es := es) (el := el) (n := n) h0 (by simpa only [Bool.not_not] using h)
  rw [delE_not] at this
  simpa only [Bool.not_not] using this
attribute [go_sem] frz_delF flat_delF lenP_delF iaR_delF
/-- A list of edges, in whatever form, that can be looked at. -/
structure EQ (x : IV) (es : List (Int × Int)) : Prop extends EL x es where
  len : lenP (.i x) = some es.length
  ia : ∀ (el : TypeId) (i : Int), 0 ≤ i → i < es.length → iaR Tryz.prog (some (.slice el)) (some i) (.i x) = iaR Tryz.prog (some (.slice el)) (some i) (.i (.lst (es.map encE)))
theorem EQ.lst (es : List (Int × Int)) : EQ (.lst (es.map encE)) es := ⟨EL.lst es, by simp [lenP], fun _ _ _ _ => rfl⟩
theorem EQ.qe (es : List (Int × Int)) : EQ (qe es) es := ⟨EL.qe es, lenP_qe, fun el i h0 h1 => by
  cases es with
  | nil => simp at h1; omega
  | cons e r => rfl⟩
end Go.Proofs.YtdjdgnabcecdlaaGreatDoor.X

/- Bridges and cut nodes on paths; cycles: plain law. -/
set_option linter.unusedVariables false
namespace Go.Proofs.YtdjdgnabcecdlaaGreatDoor.X
open Go
theorem lab_congr {n : Int} {es fs : List (Int × Int)} (h : ∀ x y : Int, Conn es x y ↔ Conn fs x y) : lab n es = lab n fs := by
  unfold lab
  refine List.map_congr_left fun x _ => ?_
  have : least es x = least fs x := by
    obtain ⟨a1, a2, a3⟩ := least_spec es x
    obtain ⟨b1, b2, b3⟩ := least_spec fs x
    refine Nat.le_antisymm (Nat.le_of_not_lt fun hl => a3 _ hl ((h _ _).2 b2)) (Nat.le_of_not_lt fun hl => b3 _ hl ((h _ _).1 a2))
  rw [this]
end Go.Proofs.YtdjdgnabcecdlaaGreatDoor.X
