/- What functions answer, and the plain laws behind it. -/
import Derived.Test.YtmocnnknnbalkaaGreatDoorKAF
/- The number of connected parts: plain law. -/
set_option linter.unusedVariables false
namespace Go.Proofs.YtmocnnknnbalkaaGreatDoor.X
open Go
theorem conn_cons {es : List (Int × Int)} {a b x y : Int} : Conn ((a, b) :: es) x y ↔ Conn es x y ∨ (Conn es x a ∧ Conn es b y) ∨ (Conn es x b ∧ Conn es a y) := by
  constructor
  · intro h
    induction h with
    | refl => exact .inl (.refl _)
    | step _ ad ih =>
      have key : (∀ {y z : Int}, Adj ((a, b) :: es) y z → Adj es y z ∨ (y = a ∧ z = b) ∨ (y = b ∧ z = a)) := by
        intro y z h
        rcases h with h | h
        · rcases List.mem_cons.1 h with h | h
          · simp only [Prod.mk.injEq] at h; exact .inr (.inl h)
          · exact .inl (.inl h)
        · rcases List.mem_cons.1 h with h | h
          · simp only [Prod.mk.injEq] at h; exact .inr (.inr ⟨h.2, h.1⟩)
          · exact .inl (.inr h)
      rcases key ad with ad | ⟨rfl, rfl⟩ | ⟨rfl, rfl⟩
      · rcases ih with ih | ⟨i1, i2⟩ | ⟨i1, i2⟩
        · exact .inl (.step ih ad)
        · exact .inr (.inl ⟨i1, .step i2 ad⟩)
        · exact .inr (.inr ⟨i1, .step i2 ad⟩)
      · rcases ih with ih | ⟨i1, i2⟩ | ⟨i1, i2⟩
        · exact .inr (.inl ⟨ih, .refl _⟩)
        · exact .inr (.inl ⟨i1, .refl _⟩)
        · exact .inl i1
      · rcases ih with ih | ⟨i1, i2⟩ | ⟨i1, i2⟩
        · exact .inr (.inr ⟨ih, .refl _⟩)
        · exact .inl i1
        · exact .inr (.inr ⟨i1, .refl _⟩)
  · have hm : ∀ e ∈ es, e ∈ (a, b) :: es := fun e he => List.mem_cons_of_mem _ he
    have hab : Conn ((a, b) :: es) a b := .of (.inl (by simp))
    rintro (h | ⟨h1, h2⟩ | ⟨h1, h2⟩)
    · exact h.mono hm
    · exact ((h1.mono hm).trans hab).trans (h2.mono hm)
    · exact ((h1.mono hm).trans hab.symm).trans (h2.mono hm)
/-- Connected alike, if all edges join what is connected. -/
theorem Conn.via {es fs : List (Int × Int)} (h : ∀ e ∈ es, Conn fs e.1 e.2) {x y : Int} (hc : Conn es x y) : Conn fs x y := by
  induction hc with
  | refl => exact .refl _
  | step _ a ih =>
    rcases a with a | a
    · exact ih.trans (h _ a)
    · exact ih.trans (h _ a).symm
theorem Conn.edge {es : List (Int × Int)} {e : Int × Int} (h : e ∈ es) : Conn es e.1 e.2 := .of (.inl h)
def root (es : List (Int × Int)) (x : Nat) : Prop := ∀ y : Nat, y < x → ¬ Conn es (y : Nat) (x : Nat)
theorem least_root {es : List (Int × Int)} {x : Nat} : least es x = x ↔ root es x := by
  obtain ⟨h1, h2, h3⟩ := least_spec es x
  constructor
  · intro h y hy
    exact h3 y (by omega)
  · intro h
    refine Nat.le_antisymm h1 ?_
    refine Nat.le_of_not_lt fun hl => h _ hl h2
/-- The number of connected parts. -/
noncomputable def cnt (n : Int) (es : List (Int × Int)) : Nat := ((List.range n.toNat).filter fun x => decide (least es x = x)).length
theorem filter_without {α : Type} [DecidableEq α] {p : α → Bool} {m : α} : ∀ {l : List α}, l.Nodup → m ∈ l → p m = true → (l.filter fun x => p x && decide (x ≠ m)).length + 1 = (l.filter p).length
  | [], _, h, _ => by simp at h
  | x :: l, hn, hm, hp => by
    rw [List.nodup_cons] at hn
    by_cases hx : x = m
    · subst hx
      have : l.filter (fun y => p y && decide (y ≠ x)) = l.filter p := List.filter_congr fun y hy => by
        have : y ≠ x := fun e => hn.1 (e ▸ hy)
        simp [this]
      simp only [List.filter_cons, hp, ne_eq, not_true_eq_false, decide_false, Bool.and_false, Bool.false_eq_true, if_false, if_true, List.length_cons]
      rw [← this]
    · have hm' : m ∈ l := (List.mem_cons.1 hm).resolve_left fun e => hx e.symm
      have ih := filter_without hn.2 hm' hp
      simp only [List.filter_cons, ne_eq, hx, not_false_eq_true, decide_true, Bool.and_true]
      split
      · simp only [List.length_cons]
        simp only [ne_eq] at ih
        omega
      · simpa only [ne_eq] using ih
theorem cnt_congr {n : Int} {es fs : List (Int × Int)} (h : ∀ x y : Int, Conn es x y ↔ Conn fs x y) : cnt n es = cnt n fs := by
  unfold cnt
  congr 1
  refine List.filter_congr fun x _ => ?_
  rw [decide_eq_decide, least_root, least_root]
  unfold root
  exact forall_congr' fun y => imp_congr_right fun _ => not_congr (h _ _)
theorem filter_le {α : Type} {p q : α → Bool} : ∀ {l : List α}, (∀ x ∈ l, p x = true → q x = true) → (l.filter p).length ≤ (l.filter q).length
  | [], _ => by simp
  | x :: l, h => by
    have ih := filter_le (l := l) (p := p) (q := q) fun y hy => h y (List.mem_cons_of_mem _ hy)
    simp only [List.filter_cons]
    cases hp : p x with
    | true => rw [h x (by simp) hp]; simp only [if_true, List.length_cons]; omega
    | false => simp only [Bool.false_eq_true, if_false]; split <;> (try simp only [List.length_cons]) <;> omega
theorem Conn.nil {x y : Int} (h : Conn [] x y) : x = y := by
  induction h with
  | refl => rfl
  | step _ a _ => rcases a with a | a <;> simp at a
theorem cnt_nil (n : Int) : cnt n [] = n.toNat := by
  unfold cnt
  rw [List.filter_eq_self.2, List.length_range]
  intro x _
  rw [decide_eq_true_eq, least_root]
  intro y hy hc
  have := hc.nil
  omega
theorem cnt_same {n a b : Int} {es : List (Int × Int)} (h : Conn es a b) : cnt n ((a, b) :: es) = cnt n es := by
  refine cnt_congr fun x y => ⟨fun hc => ?_, fun hc => hc.mono fun e he => List.mem_cons_of_mem _ he⟩
  refine hc.via fun e he => ?_
  rcases List.mem_cons.1 he with rfl | he
  · exact h
  · exact .edge he
theorem cnt_less {n a b : Int} {es : List (Int × Int)} (ha : 0 ≤ a ∧ a < n) (hb : 0 ≤ b ∧ b < n) (h : ¬ Conn es a b) : cnt n ((a, b) :: es) + 1 = cnt n es := by
  obtain ⟨x, rfl⟩ := Int.eq_ofNat_of_zero_le ha.1
  obtain ⟨y, rfl⟩ := Int.eq_ofNat_of_zero_le hb.1
  obtain ⟨x1, x2, x3⟩ := least_spec es x
  obtain ⟨y1, y2, y3⟩ := least_spec es y
  have hne : least es x ≠ least es y := fun e => h (least_iff.1 e)
  have hroot : ∀ z : Nat, root ((((x : Nat) : Int), ((y : Nat) : Int)) :: es) z ↔ root es z ∧ z ≠ max (least es x) (least es y) := by
    intro z
    constructor
    · intro hz
      refine ⟨fun w hw hc => hz w hw (conn_cons.2 (.inl hc)), fun e => ?_⟩
      by_cases hl : least es x < least es y
      · have e' : z = least es y := by omega
        subst e'
        exact hz _ hl (conn_cons.2 (.inr (.inl ⟨x2, y2.symm⟩)))
      · have e' : z = least es x := by omega
        subst e'
        exact hz _ (by omega) (conn_cons.2 (.inr (.inr ⟨y2, x2.symm⟩)))
    · rintro ⟨hz, hm⟩ w hw hc
      have hzz := least_root.2 hz
      rcases conn_cons.1 hc with hc | ⟨c1, c2⟩ | ⟨c1, c2⟩
      · exact hz w hw hc
      · have e1 := least_conn c1
        have e2 := least_conn c2
        have := (least_spec es w).1
        omega
      · have e1 := least_conn c1
        have e2 := least_conn c2
        have := (least_spec es w).1
        omega
  have hmx : root es (max (least es x) (least es y)) := by
    by_cases hl : least es x < least es y
    · rw [show max (least es x) (least es y) = least es y by omega]
      exact fun w hw hc => y3 w hw (hc.trans y2)
    · rw [show max (least es x) (least es y) = least es x by omega]
      exact fun w hw hc => x3 w hw (hc.trans x2)
  have hf := filter_without (l := List.range n.toNat) (p := fun z => decide (least es z = z)) (m := max (least es x) (least es y)) List.nodup_range (List.mem_range.2 (by omega)) (decide_eq_true (least_root.2 hmx))
  have hq : ((List.range n.toNat).filter fun z => decide (least ((((x : Nat) : Int), ((y : Nat) : Int)) :: es) z = z)) = (List.range n.toNat).filter fun z => decide (least es z = z) && decide (z ≠ max (least es x) (least es y)) := by
    refine List.filter_congr fun z _ => ?_
    rw [Bool.eq_iff_iff]
    simp only [Bool.and_eq_true, decide_eq_true_eq]
    rw [least_root, least_root]
    exact hroot z
  unfold cnt
  rw [hq]
  exact hf
theorem cutE_mem {e0 e : Int × Int} {es : List (Int × Int)} : e ∈ cutE e0 es ↔ e ∈ es ∧ e ≠ e0 := by simp [cutE]
end Go.Proofs.YtmocnnknnbalkaaGreatDoor.X

/- Shortest paths: plain law. -/
set_option linter.unusedVariables false
namespace Go.Proofs.YtmocnnknnbalkaaGreatDoor.X
open Go
theorem Rk.one {es : List (Int × Int)} {x y : Int} (h : Adj es x y) : Rk es x 1 y := .inr ⟨x, rfl, h⟩
theorem Rk.comp {es : List (Int × Int)} {x y : Int} {j : Nat} (h : Rk es x j y) : ∀ (k : Nat) {z : Int}, Rk es y k z → Rk es x (j + k) z
  | 0, z, hk => by cases hk; exact h
  | k + 1, z, hk => by
    rcases hk with hk | ⟨w, hw, ha⟩
    · exact .inl (Rk.comp h k hk)
    · exact .inr ⟨w, Rk.comp h k hw, ha⟩
theorem Rk.symm {es : List (Int × Int)} {x : Int} : ∀ (k : Nat) {y : Int}, Rk es x k y → Rk es y k x
  | 0, y, h => by cases h; rfl
  | k + 1, y, h => by
    rcases h with h | ⟨z, h, a⟩
    · exact .inl (Rk.symm k h)
    · have := (Rk.one a.symm).comp k (Rk.symm k h)
      rwa [Nat.add_comm 1 k] at this
end Go.Proofs.YtmocnnknnbalkaaGreatDoor.X

/- Bridges, forests, paths: plain law. -/
set_option linter.unusedVariables false
namespace Go.Proofs.YtmocnnknnbalkaaGreatDoor.X
open Go
/-- An edge whose nodes are not connected without it. -/
def Brg (es : List (Int × Int)) (e : Int × Int) : Prop := ¬ Conn (cutE e es) e.1 e.2
noncomputable instance decBrg (es : List (Int × Int)) (e : Int × Int) : Decidable (Brg es e) := Classical.propDecidable _
noncomputable def fstep (acc : List (Int × Int)) (e : Int × Int) : List (Int × Int) := if Conn acc e.1 e.2 then acc else acc ++ [e]
noncomputable def forestL (es : List (Int × Int)) : List (Int × Int) := es.foldl fstep []
theorem fstep_sub {acc : List (Int × Int)} {e : Int × Int} : acc.Sublist (fstep acc e) := by
  unfold fstep; split
  · exact List.Sublist.refl _
  · exact List.sublist_append_left _ _
theorem fstep_conn {acc : List (Int × Int)} {e : Int × Int} : Conn (fstep acc e) e.1 e.2 := by
  unfold fstep; split
  · assumption
  · exact .edge (by simp)
theorem conn_snoc {es : List (Int × Int)} {e : Int × Int} {x y : Int} : Conn (es ++ [e]) x y ↔ Conn (e :: es) x y :=
  ⟨Conn.mono fun f hf => (by rcases List.mem_append.1 hf with h | h; exact List.mem_cons_of_mem _ h; exact List.mem_cons.2 (.inl (List.mem_singleton.1 h))), Conn.mono fun f hf => (by rcases List.mem_cons.1 hf with h | h; exact List.mem_append.2 (.inr (List.mem_singleton.2 h)); exact List.mem_append.2 (.inl h))⟩
theorem forest_facts {n : Int} : ∀ {fs acc : List (Int × Int)}, (∀ e ∈ fs, okE n e) → cnt n acc + acc.length = n.toNat →
    acc.Sublist (fs.foldl fstep acc) ∧ (fs.foldl fstep acc).Sublist (acc ++ fs) ∧ (∀ e ∈ fs, Conn (fs.foldl fstep acc) e.1 e.2) ∧ cnt n (fs.foldl fstep acc) + (fs.foldl fstep acc).length = n.toNat
  | [], acc, _, h => ⟨List.Sublist.refl _, by simp, by simp, h⟩
  | e :: fs, acc, ho, h => by
    have hok := ho e (by simp)
    unfold okE at hok
    have hc : cnt n (fstep acc e) + (fstep acc e).length = n.toNat := by
      unfold fstep
      split
      · exact h
      · rename_i hn
        have h1 := cnt_less (n := n) (a := e.1) (b := e.2) (es := acc) (by omega) (by omega) hn
        have h2 := cnt_congr (n := n) (es := acc ++ [e]) (fs := (e.1, e.2) :: acc) fun x y => conn_snoc
        simp only [List.length_append, List.length_cons, List.length_nil]
        omega
    obtain ⟨i1, i2, i3, i4⟩ := forest_facts (fs := fs) (acc := fstep acc e) (fun f hf => ho f (List.mem_cons_of_mem _ hf)) hc
    refine ⟨fstep_sub.trans i1, ?_, ?_, i4⟩
    · refine i2.trans ?_
      unfold fstep
      split
      · exact List.Sublist.append_left (List.sublist_cons_self _ _) _
      · simp
    · intro f hf
      rcases List.mem_cons.1 hf with rfl | hf
      · exact fstep_conn.mono fun g hg => i1.subset hg
      · exact i3 f hf
theorem forest_sub {n : Int} {es : List (Int × Int)} (ho : ∀ e ∈ es, okE n e) : (forestL es).Sublist es := by
  exact (forest_facts (fs := es) (acc := []) ho (by simp [cnt_nil])).2.1
theorem forest_cnt {n : Int} {es : List (Int × Int)} (ho : ∀ e ∈ es, okE n e) : cnt n (forestL es) + (forestL es).length = n.toNat :=
  (forest_facts (fs := es) (acc := []) ho (by simp [cnt_nil])).2.2.2
theorem forest_conn {n : Int} {es : List (Int × Int)} (ho : ∀ e ∈ es, okE n e) {x y : Int} : Conn (forestL es) x y ↔ Conn es x y :=
  ⟨fun h => h.mono fun e he => (forest_sub ho).subset he, fun h => h.via (forest_facts (fs := es) (acc := []) ho (by simp [cnt_nil])).2.2.1⟩
theorem forest_len {n : Int} {es : List (Int × Int)} (ho : ∀ e ∈ es, okE n e) : (forestL es).length + cnt n es = n.toNat := by
  have h1 := forest_cnt ho
  have h2 := cnt_congr (n := n) (es := forestL es) (fs := es) fun x y => forest_conn ho
  omega
theorem cnt_ge {n : Int} : ∀ {es : List (Int × Int)}, (∀ e ∈ es, okE n e) → n.toNat ≤ cnt n es + es.length
  | [], _ => by simp [cnt_nil]
  | e :: es, ho => by
    have ih := cnt_ge (es := es) fun f hf => ho f (List.mem_cons_of_mem _ hf)
    have hok := ho e (by simp)
    unfold okE at hok
    have e1 : ((e.1, e.2) : Int × Int) = e := rfl
    simp only [List.length_cons]
    by_cases hc : Conn es e.1 e.2
    · have := cnt_same (n := n) hc
      rw [e1] at this; omega
    · have := cnt_less (n := n) (a := e.1) (b := e.2) (by omega) (by omega) hc
      rw [e1] at this; omega
/-- Edges all of which are bridges are their own forest. -/
theorem VG.sub {n : Int} {es fs : List (Int × Int)} (h : VG n es) (hs : fs.Sublist es) : VG n fs := by
  obtain ⟨h1, h2, h3, h4, h5⟩ := h
  have := hs.length_le
  exact ⟨h1, h2, by omega, fun e he => h4 e (hs.subset he), List.Pairwise.sublist hs h5⟩
def Walk (es : List (Int × Int)) (p : List Int) : Prop := ∀ i, i + 1 < p.length → Adj es (p.getD i 0) (p.getD (i + 1) 0)
theorem Walk.conn {es : List (Int × Int)} {p : List Int} (h : Walk es p) : ∀ i, i < p.length → Conn es (p.getD 0 0) (p.getD i 0)
  | 0, _ => .refl _
  | i + 1, hi => .step (h.conn i (by omega)) (h i hi)
theorem len_le_of_sub {α : Type} [DecidableEq α] : ∀ {l m : List α}, l.Nodup → (∀ x ∈ l, x ∈ m) → l.length ≤ m.length
  | [], m, _, _ => by simp
  | x :: l, m, hn, h => by
    rw [List.nodup_cons] at hn
    have hx := h x (by simp)
    have ih := len_le_of_sub (l := l) (m := m.erase x) hn.2 fun y hy => by
      have : y ≠ x := fun e => hn.1 (e ▸ hy)
      exact (List.mem_erase_of_ne this).2 (h y (List.mem_cons_of_mem _ hy))
    rw [List.length_erase_of_mem hx] at ih
    have := List.length_pos_of_mem hx
    simp only [List.length_cons]; omega
end Go.Proofs.YtmocnnknnbalkaaGreatDoor.X

/- What functions compute: the number of parts. -/
set_option linter.unusedSimpArgs false
set_option linter.unusedVariables false
set_option maxHeartbeats 2000000
namespace Go.Proofs.YtmocnnknnbalkaaGreatDoor.X
open Go Go.Proofs
end Go.Proofs.YtmocnnknnbalkaaGreatDoor.X

/- Safe parts and the tree of bridges: plain law. -/
set_option linter.unusedVariables false
namespace Go.Proofs.YtmocnnknnbalkaaGreatDoor.X
open Go
/-- A graph's edges without its bridges. -/
noncomputable def bare (es : List (Int × Int)) : List (Int × Int) := es.filter fun e => !decide (Brg es e)
/-- A graph's bridges. -/
noncomputable def brgs (es : List (Int × Int)) : List (Int × Int) := es.filter fun e => decide (Brg es e)
theorem mem_bare {es : List (Int × Int)} {e : Int × Int} : e ∈ bare es ↔ e ∈ es ∧ ¬ Brg es e := by simp [bare]
theorem VG.bare {n : Int} {es : List (Int × Int)} (h : VG n es) : VG n (X.bare es) := h.sub List.filter_sublist
theorem VG.brgs {n : Int} {es : List (Int × Int)} (h : VG n es) : VG n (X.brgs es) := h.sub List.filter_sublist
/-- The label of a node's safe part. -/
noncomputable def sl (es : List (Int × Int)) (x : Int) : Int := (least (bare es) x.toNat : Nat)
noncomputable def treeE (es : List (Int × Int)) (e : Int × Int) : Int × Int := edgeOf (sl es e.1) (sl es e.2)
/-- The edges between safe parts, in the order of bridges. -/
noncomputable def treeL (es : List (Int × Int)) : List (Int × Int) := (brgs es).map (treeE es)
theorem nodup_map {α β : Type} {f : α → β} : ∀ {l : List α}, l.Nodup → (∀ x ∈ l, ∀ y ∈ l, f x = f y → x = y) → (l.map f).Nodup
  | [], _, _ => by simp
  | a :: l, hn, h => by
    rw [List.nodup_cons] at hn
    rw [List.map_cons, List.nodup_cons]
    refine ⟨fun hm => ?_, nodup_map hn.2 fun x hx y hy => h x (List.mem_cons_of_mem _ hx) y (List.mem_cons_of_mem _ hy)⟩
    obtain ⟨b, hb, he⟩ := List.mem_map.1 hm
    have := h a (by simp) b (List.mem_cons_of_mem _ hb) he.symm
    exact hn.1 (this ▸ hb)
end Go.Proofs.YtmocnnknnbalkaaGreatDoor.X

/- What functions compute: bridges, safe parts, nodes and edges by a property. -/
set_option linter.unusedSimpArgs false
set_option linter.unusedVariables false
set_option maxHeartbeats 2000000
namespace Go.Proofs.YtmocnnknnbalkaaGreatDoor.X
open Go Go.Proofs
theorem filt_yes {α : Type} {l : List α} {p : α → Bool} {i : Int} {d : α} (h0 : 0 ≤ i) (h1 : i < l.length) (hp : p (l.getD i.toNat d) = true) : (l.take (i + 1).toNat).filter p = (l.take i.toNat).filter p ++ [l.getD i.toNat d] := by
  rw [take_int d h0 h1, List.filter_append, List.filter_cons_of_pos hp]; rfl
theorem filt_no {α : Type} {l : List α} {p : α → Bool} {i : Int} {d : α} (h0 : 0 ≤ i) (h1 : i < l.length) (hp : ¬ p (l.getD i.toNat d) = true) : (l.take (i + 1).toNat).filter p = (l.take i.toNat).filter p := by
  rw [take_int d h0 h1, List.filter_append, List.filter_cons_of_neg hp, List.filter_nil, List.append_nil]
theorem OKG.cutE {n : Int} {es : List (Int × Int)} (h : OKG n es) (e : Int × Int) : OKG n (X.cutE e es) := ⟨h.n0, h.n1, Nat.le_trans (cutE_len e es) h.len, fun f hf => h.ok f (cutE_mem.1 hf).1⟩
theorem OKG.bare {n : Int} {es : List (Int × Int)} (h : OKG n es) : OKG n (X.bare es) := ⟨h.n0, h.n1, Nat.le_trans (List.length_filter_le _ _) h.len, fun f hf => h.ok f (mem_bare.1 hf).1⟩
theorem bare_def {es : List (Int × Int)} : (es.filter fun e => !decide (Brg es e)) = bare es := rfl
theorem brg_dec {es : List (Int × Int)} {a b : Int} : (!decide (Conn (cutE (a, b) es) a b)) = decide (Brg es (a, b)) := by
  by_cases h : Conn (cutE (a, b) es) a b
  · have : ¬ Brg es (a, b) := fun k => k h
    rw [decide_eq_true h, decide_eq_false this]; rfl
  · rw [decide_eq_false h, decide_eq_true (show Brg es (a, b) from h)]; rfl
/-- What deleting what does not fulfil something hands back. -/
def delF (p : Int × Int → Bool) (es : List (Int × Int)) : IV := if es = [] then .emp else .lst ((es.filter p).map encE)
theorem delE_not {p : Int × Int → Bool} {es : List (Int × Int)} : delE (fun e => !p e) es = delF p es := by
  unfold delE delF; simp only [Bool.not_not]
theorem frz_delF {p : Int × Int → Bool} {es : List (Int × Int)} {n : Nat} : frz n (.i (delF p es)) = .ret (.lst ((es.filter p).map encE)) := by
  rw [← delE_not, frz_del]; simp only [Bool.not_not]
theorem flat_delF {p : Int × Int → Bool} {es : List (Int × Int)} : (delF p es).flat = true := by rw [← delE_not]; exact flat_del
theorem lenP_delF {p : Int × Int → Bool} {es : List (Int × Int)} : lenP (.i (delF p es)) = some (es.filter p).length := by
  rw [← delE_not, lenP_del]; simp only [Bool.not_not]
theorem iaR_delF {p : Int × Int → Bool} {es : List (Int × Int)} {el : TypeId} {n : Int} (h0 : 0 ≤ n) (h : n < (es.filter p).length) :
    iaR Tryz.prog (some (.slice el)) (some n) (.i (delF p es)) = iaR Tryz.prog (some (.slice el)) (some n) (.i (.lst ((es.filter p).map encE))) := by
  have := iaR_del (p := fun e => !p e) (es := es) (el := el) (n := n) h0 (by simpa only [Bool.not_not] using h)
  rw [delE_not] at this
  simpa only [Bool.not_not] using this
attribute [go_sem] frz_delF flat_delF lenP_delF iaR_delF
@[go_sem] theorem c_isBridge (n a b : Int) (es : List (Int × Int)) (h : OKG n es) (he : okE n (a, b)) : KP 38 [GL n es, PE a b] [] = some (B (decide (Brg es (a, b))), [], []) := by
  have hl := h.len
  have hok := h.cutE (a, b)
  unfold okE at he; simp only at he
  refine xw_call (fn := Tryz.f38) rfl Tryz.func38 rfl ⟨Nat.le_of_ble_eq_true rfl, rfl, rfl⟩ ?_
  repeat'(first|(refine na ?_;constructor)|(refine ite_two ?_ ?_<;>intro _<;>first|(exfalso;omega)|skip)|refine ord_split (by kernel_rfl) ?_|((first|(refine nb ?_;constructor)|refine pn rfl ?_|refine pe rfl ?_|((first|refine at2 ?_|refine at_cond ?_);split<;>first|(exfalso;omega;done)|skip))<;>try simp(config:={maxSteps:=3000000})(disch:=first|assumption|omega|exact VG.okg (by assumption)|(simp only[List.length_set,List.length_append,List.length_cons,List.length_nil,List.length_replicate];omega))only[go_sem,simprocAttr,Tryz.results38, cut_del]))
  all_goals exact brg_dec
theorem clo_isBridge (n : Int) (es : List (Int × Int)) (h : OKG n es) : Clo (.fn 38 [.ag [.v (.int .i64 n), .lst (es.map encE)]] []) (okE n) (fun e => decide (Brg es e)) := by
  refine ⟨fun n => by cases n <;> rfl, rfl, fun me d x y hd => ?_⟩
  have hx := c_isBridge n x y es h hd
  simp only [go_sem, ↓reduceIte, Int.reduceLE, Int.reduceLT, Int.reduceToNat, Int.reduceNeg, Int.reduceAdd, Int.reduceSub, Int.reduceMul, Int.reduceEq, Int.reduceNe, Nat.reduceEqDiff, Nat.reduceAdd, Nat.reduceSub, Nat.reduceMul, Nat.reduceLT, Nat.reduceLeDiff, Nat.reduceBEq, Nat.reduceBNe, UInt8.reduceToNat, hx, ite_self]
@[go_sem] theorem c_safeParts (n : Int) (es : List (Int × Int)) (h : OKG n es) : KP 20 [GL n es] [] = some (LI (lab n (bare es)), [], []) := by
  have hl := h.len
  have hb := h.bare
  have hw := c_without (clo_isBridge n es h) n es h.ok (by omega)
  refine xw_call (fn := Tryz.f20) rfl Tryz.func20 rfl ⟨Nat.le_of_ble_eq_true rfl, rfl, rfl⟩ ?_
  repeat'(first|(refine na ?_;constructor)|(refine ite_two ?_ ?_<;>intro _<;>first|(exfalso;omega)|skip)|refine ord_split (by kernel_rfl) ?_|((first|(refine nb ?_;constructor)|refine pn rfl ?_|refine pe rfl ?_|((first|refine at2 ?_|refine at_cond ?_);split<;>first|(exfalso;omega;done)|skip))<;>try simp(config:={maxSteps:=3000000})(disch:=first|assumption|omega|exact VG.okg (by assumption)|(simp only[List.length_set,List.length_append,List.length_cons,List.length_nil,List.length_replicate];omega))only[go_sem,simprocAttr,Tryz.results20, hw, bare_def]))
@[go_sem] theorem c_SafeParts (n : Int) (es : List (Int × Int)) (hl : es.length ≤ 1048576) : KP 10 [GL n es] [] = some (if VG n es then LI (lab n (bare es)) else .i .emp, [], []) := by
  by_cases h : VG n es
  · have hb := h.okg
    refine xw_call (fn := Tryz.f10) rfl Tryz.func10 rfl ⟨Nat.le_of_ble_eq_true rfl, rfl, rfl⟩ ?_
    repeat'(first|(refine na ?_;constructor)|(refine ite_two ?_ ?_<;>intro _<;>first|(exfalso;omega)|skip)|refine ord_split (by kernel_rfl) ?_|((first|(refine nb ?_;constructor)|refine pn rfl ?_|refine pe rfl ?_|((first|refine at2 ?_|refine at_cond ?_);split<;>first|(exfalso;omega;done)|skip))<;>try simp(config:={maxSteps:=3000000})(disch:=first|assumption|omega|exact VG.okg (by assumption)|(simp only[List.length_set,List.length_append,List.length_cons,List.length_nil,List.length_replicate];omega))only[go_sem,simprocAttr,Tryz.results10]))
  · refine xw_call (fn := Tryz.f10) rfl Tryz.func10 rfl ⟨Nat.le_of_ble_eq_true rfl, rfl, rfl⟩ ?_
    repeat'(first|(refine na ?_;constructor)|(refine ite_two ?_ ?_<;>intro _<;>first|(exfalso;omega)|skip)|refine ord_split (by kernel_rfl) ?_|((first|(refine nb ?_;constructor)|refine pn rfl ?_|refine pe rfl ?_|((first|refine at2 ?_|refine at_cond ?_);split<;>first|(exfalso;omega;done)|skip))<;>try simp(config:={maxSteps:=3000000})(disch:=first|assumption|omega|exact VG.okg (by assumption)|(simp only[List.length_set,List.length_append,List.length_cons,List.length_nil,List.length_replicate];omega))only[go_sem,simprocAttr,Tryz.results10]))
/-- A list of edges, in whatever form, that can be looked at. -/
structure EQ (x : IV) (es : List (Int × Int)) : Prop extends EL x es where
  len : lenP (.i x) = some es.length
  ia : ∀ (el : TypeId) (i : Int), 0 ≤ i → i < es.length → iaR Tryz.prog (some (.slice el)) (some i) (.i x) = iaR Tryz.prog (some (.slice el)) (some i) (.i (.lst (es.map encE)))
theorem EQ.lst (es : List (Int × Int)) : EQ (.lst (es.map encE)) es := ⟨EL.lst es, by simp [lenP], fun _ _ _ _ => rfl⟩
theorem EQ.qe (es : List (Int × Int)) : EQ (qe es) es := ⟨EL.qe es, lenP_qe, fun el i h0 h1 => by
  cases es with
  | nil => simp at h1; omega
  | cons e r => rfl⟩
end Go.Proofs.YtmocnnknnbalkaaGreatDoor.X

/- Bridges and cut nodes on paths; cycles: plain law. -/
set_option linter.unusedVariables false
namespace Go.Proofs.YtmocnnknnbalkaaGreatDoor.X
open Go
theorem lab_congr {n : Int} {es fs : List (Int × Int)} (h : ∀ x y : Int, Conn es x y ↔ Conn fs x y) : lab n es = lab n fs := by
  unfold lab
  refine List.map_congr_left fun x _ => ?_
  have : least es x = least fs x := by
    obtain ⟨a1, a2, a3⟩ := least_spec es x
    obtain ⟨b1, b2, b3⟩ := least_spec fs x
    refine Nat.le_antisymm (Nat.le_of_not_lt fun hl => a3 _ hl ((h _ _).2 b2)) (Nat.le_of_not_lt fun hl => b3 _ hl ((h _ _).1 a2))
  rw [this]
end Go.Proofs.YtmocnnknnbalkaaGreatDoor.X
