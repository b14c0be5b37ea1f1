/- Breadth search along edges that can be gone along: plain law. -/
import Derived.Test.YtdlfdoicheakoaaKAE
set_option linter.unusedVariables false
namespace Go.Proofs.Ytdlfdoicheakoaa.X
open Go
def look (goes : Int → Int → Bool) (a : Int) (st : List Int × List Int) (v : Int) : List Int × List Int :=
  if st.1.getD v.toNat 0 < 0 ∧ goes a v = true then (st.1.set v.toNat a, st.2 ++ [v]) else st
def bstep (es : List (Int × Int)) (goes : Int → Int → Bool) (st : List Int × List Int) (i : Nat) : List Int × List Int :=
  if i < st.2.length then (nbS (st.2.getD i 0) es).foldl (look goes (st.2.getD i 0)) st else st
/-- From which nodes nodes are reached, and in which order. -/
def bfsS (n : Int) (es : List (Int × Int)) (goes : Int → Int → Bool) (x : Int) : Nat → List Int × List Int
  | 0 => ((List.replicate n.toNat (-1)).set x.toNat x, [x])
  | i + 1 => bstep es goes (bfsS n es goes x i) i
def bfs (n : Int) (es : List (Int × Int)) (goes : Int → Int → Bool) (x : Int) : List Int × List Int := bfsS n es goes x n.toNat
structure BI (n : Int) (es : List (Int × Int)) (goes : Int → Int → Bool) (x : Int) (st : List Int × List Int) : Prop where
  len : st.1.length = n.toNat
  nd : st.2.Nodup
  pos : 0 < st.2.length
  hd : st.2.getD 0 0 = x
  mem : ∀ v, 0 ≤ v → v < n → (0 ≤ st.1.getD v.toNat 0 ↔ v ∈ st.2)
  neg : ∀ v, 0 ≤ v → v < n → st.1.getD v.toNat 0 < 0 → st.1.getD v.toNat 0 = -1
  rng : ∀ v ∈ st.2, 0 ≤ v ∧ v < n
  self : st.1.getD x.toNat 0 = x
  par : ∀ k, 0 < k → k < st.2.length → ∃ j, j < k ∧ st.1.getD (st.2.getD k 0).toNat 0 = st.2.getD j 0 ∧ Adj es (st.2.getD j 0) (st.2.getD k 0) ∧ goes (st.2.getD j 0) (st.2.getD k 0) = true
theorem BI.init {n : Int} {es : List (Int × Int)} {goes : Int → Int → Bool} {x : Int} (hx : 0 ≤ x ∧ x < n) : BI n es goes x (bfsS n es goes x 0) := by
  have hl : x.toNat < (List.replicate n.toNat (-1 : Int)).length := by simp; omega
  have hg : ∀ v : Int, 0 ≤ v → v < n → ((List.replicate n.toNat (-1 : Int)).set x.toNat x).getD v.toNat 0 = if x = v then x else -1 := fun v h0 h1 => by
    rw [getD_set (by simp; omega)]
    by_cases h : x = v
    · subst h; simp
    · rw [if_neg h, if_neg (by omega)]
      have : v.toNat < n.toNat := by omega
      simp [this]
  refine ⟨by simp [bfsS], by simp [bfsS], by simp [bfsS], rfl, fun v h0 h1 => ?_, fun v h0 h1 h => ?_, fun v hv => ?_, ?_, fun k h0 h1 => ?_⟩
  · simp only [bfsS]; rw [hg v h0 h1]
    by_cases h : x = v
    · subst h; simp; omega
    · rw [if_neg h]; simp; exact fun h' => h h'.symm
  · simp only [bfsS] at h ⊢; rw [hg v h0 h1] at h ⊢
    split
    · rw [if_pos ‹_›] at h; omega
    · rfl
  · simp only [bfsS, List.mem_singleton] at hv; subst hv; exact hx
  · simp only [bfsS]; rw [hg x hx.1 hx.2, if_pos rfl]
  · simp only [bfsS, List.length_cons, List.length_nil] at h1; omega
theorem getD_append_left' {l r : List Int} {i : Nat} (h : i < l.length) : (l ++ r).getD i 0 = l.getD i 0 := by
  simp [List.getD, List.getElem?_append_left h]
theorem getD_append_last {l : List Int} {v : Int} : (l ++ [v]).getD l.length 0 = v := by
  simp [List.getD]
theorem BI.look {n : Int} {es : List (Int × Int)} {goes : Int → Int → Bool} {x a v : Int} {st : List Int × List Int} (h : BI n es goes x st) (ha : a ∈ st.2) (hv : 0 ≤ v ∧ v < n) (hav : Adj es a v) :
    BI n es goes x (look goes a st v) ∧ st.2 <+: (X.look goes a st v).2 ∧ (goes a v = true → v ∈ (X.look goes a st v).2) := by
  unfold X.look
  split
  · rename_i hc
    obtain ⟨hneg, hgo⟩ := hc
    have hnm : v ∉ st.2 := fun hm => by have := (h.mem v hv.1 hv.2).2 hm; omega
    have hvl : v.toNat < st.1.length := by rw [h.len]; omega
    have hg : ∀ u : Int, 0 ≤ u → u < n → (st.1.set v.toNat a).getD u.toNat 0 = if v = u then a else st.1.getD u.toNat 0 := fun u h0 h1 => by
      rw [getD_set (by rw [h.len]; omega)]
      by_cases he : v = u
      · subst he; simp
      · rw [if_neg he, if_neg (by omega)]
    have har := h.rng a ha
    refine ⟨⟨by simp [h.len], ?_, by simp, ?_, fun u h0 h1 => ?_, fun u h0 h1 hn => ?_, fun u hu => ?_, ?_, fun k h0 h1 => ?_⟩, List.prefix_append _ _, fun _ => by simp⟩
    · rw [List.nodup_append]
      exact ⟨h.nd, by simp, fun y hy z hz => by simp only [List.mem_singleton] at hz; subst hz; exact fun e => hnm (e ▸ hy)⟩
    · rw [getD_append_left' h.pos]; exact h.hd
    · simp only [List.mem_append, List.mem_singleton]
      rw [hg u h0 h1]
      by_cases he : v = u
      · subst he; simp; exact har.1
      · rw [if_neg he, h.mem u h0 h1]
        exact ⟨.inl, fun h' => h'.resolve_right fun e => he e.symm⟩
    · simp only at hn ⊢
      rw [hg u h0 h1] at hn ⊢
      split
      · rw [if_pos ‹_›] at hn; omega
      · rw [if_neg ‹_›] at hn; exact h.neg u h0 h1 hn
    · simp only [List.mem_append, List.mem_singleton] at hu
      rcases hu with hu | rfl
      · exact h.rng u hu
      · exact hv
    · have hx : x ∈ st.2 := by
        have := getD_mem (d := 0) h.pos
        rw [h.hd] at this; exact this
      have hxr := h.rng x hx
      simp only
      rw [hg x hxr.1 hxr.2, if_neg (fun e : v = x => hnm (by rw [e]; exact hx))]
      exact h.self
    · simp only [List.length_append, List.length_cons, List.length_nil] at h1
      simp only
      by_cases hk : k < st.2.length
      · obtain ⟨j, j1, j2, j3, j4⟩ := h.par k h0 hk
        have hkm := getD_mem (d := 0) hk
        have hkr := h.rng _ hkm
        refine ⟨j, j1, ?_⟩
        rw [getD_append_left' hk, getD_append_left' (show j < st.2.length by omega) (r := [v]), hg _ hkr.1 hkr.2, if_neg (fun e : v = st.2.getD k 0 => hnm (by rw [e]; exact hkm))]
        exact ⟨j2, j3, j4⟩
      · obtain rfl : k = st.2.length := by omega
        rw [getD_append_last, hg v hv.1 hv.2, if_pos rfl]
        obtain ⟨j, hj, he⟩ := List.mem_iff_getElem.1 ha
        refine ⟨j, hj, ?_⟩
        have e1 : st.2.getD j 0 = a := by simp [List.getD, hj, he]
        rw [getD_append_left' hj, e1]
        exact ⟨rfl, hav, hgo⟩
  · rename_i hc
    refine ⟨h, List.prefix_refl _, fun hgo => ?_⟩
    refine (h.mem v hv.1 hv.2).1 (Classical.byContradiction fun hn => hc ⟨by omega, hgo⟩)
theorem BI.fold {n : Int} {es : List (Int × Int)} {goes : Int → Int → Bool} {x a : Int} : ∀ {vs : List Int} {st : List Int × List Int}, BI n es goes x st → a ∈ st.2 → (∀ v ∈ vs, (0 ≤ v ∧ v < n) ∧ Adj es a v) →
    BI n es goes x (vs.foldl (X.look goes a) st) ∧ st.2 <+: (vs.foldl (X.look goes a) st).2 ∧ ∀ v ∈ vs, goes a v = true → v ∈ (vs.foldl (X.look goes a) st).2
  | [], st, h, _, _ => ⟨h, List.prefix_refl _, fun v hv => by simp at hv⟩
  | v :: vs, st, h, ha, hvs => by
    obtain ⟨h1, h2⟩ := hvs v (by simp)
    obtain ⟨k1, k2, k3⟩ := h.look ha h1 h2
    obtain ⟨i1, i2, i3⟩ := BI.fold (vs := vs) k1 (k2.subset ha) fun u hu => hvs u (List.mem_cons_of_mem _ hu)
    refine ⟨i1, k2.trans i2, fun u hu hg => ?_⟩
    rcases List.mem_cons.1 hu with rfl | hu
    · exact i2.subset (k3 hg)
    · exact i3 u hu hg
theorem getD_prefix {l r : List Int} (h : l <+: r) {i : Nat} (hi : i < l.length) : r.getD i 0 = l.getD i 0 := by
  obtain ⟨t, rfl⟩ := h
  exact getD_append_left' hi
theorem bfsS_inv {n : Int} {es : List (Int × Int)} {goes : Int → Int → Bool} {x : Int} (ho : ∀ e ∈ es, okE n e) (hx : 0 ≤ x ∧ x < n) : ∀ i, BI n es goes x (bfsS n es goes x i) ∧
    ∀ j, j < i → j < (bfsS n es goes x i).2.length → ∀ v, Adj es ((bfsS n es goes x i).2.getD j 0) v → goes ((bfsS n es goes x i).2.getD j 0) v = true → v ∈ (bfsS n es goes x i).2
  | 0 => ⟨BI.init hx, fun j h => by omega⟩
  | i + 1 => by
    obtain ⟨h1, h2⟩ := bfsS_inv ho hx i
    rw [bfsS]
    generalize bfsS n es goes x i = st at *
    unfold bstep
    split
    · rename_i hi
      have hm := getD_mem (d := 0) hi
      obtain ⟨k1, k2, k3⟩ := h1.fold (a := st.2.getD i 0) (vs := nbS (st.2.getD i 0) es) hm fun v hv => by
        have ha := (mem_nbS ho).1 hv
        have := ha.ok ho
        exact ⟨⟨by omega, by omega⟩, ha⟩
      refine ⟨k1, fun j hj hjl v ha hg => ?_⟩
      by_cases hji : j < i
      · rw [getD_prefix k2 (by omega)] at ha hg
        exact k2.subset (h2 j hji (by omega) v ha hg)
      · obtain rfl : j = i := by omega
        rw [getD_prefix k2 hi] at ha hg
        exact k3 v ((mem_nbS ho).2 ha) hg
    · refine ⟨h1, fun j hj hjl v ha hg => h2 j (by omega) hjl v ha hg⟩
theorem BI.le {n : Int} {es : List (Int × Int)} {goes : Int → Int → Bool} {x : Int} {st : List Int × List Int} (h : BI n es goes x st) : st.2.length ≤ n.toNat := by
  have := len_le_of_sub (m := iota n) h.nd fun v hv => mem_iota.2 (h.rng v hv)
  rwa [iota_length] at this
theorem bfsS_stop {n : Int} {es : List (Int × Int)} {goes : Int → Int → Bool} {x : Int} {i : Nat} (h : (bfsS n es goes x i).2.length ≤ i) : ∀ k, bfsS n es goes x (i + k) = bfsS n es goes x i
  | 0 => rfl
  | k + 1 => by
    have ih := bfsS_stop h k
    show bstep es goes (bfsS n es goes x (i + k)) (i + k) = _
    rw [ih, bstep, if_neg (by omega)]
theorem bfs_eq {n : Int} {es : List (Int × Int)} {goes : Int → Int → Bool} {x : Int} (ho : ∀ e ∈ es, okE n e) (hx : 0 ≤ x ∧ x < n) {i : Nat} (h : (bfsS n es goes x i).2.length = i) : bfsS n es goes x i = bfs n es goes x := by
  have hle := (bfsS_inv (goes := goes) ho hx i).1.le
  rw [h] at hle
  have := bfsS_stop (Nat.le_of_eq h) (n.toNat - i)
  rw [show i + (n.toNat - i) = n.toNat by omega] at this
  exact this.symm
theorem bfs_inv {n : Int} {es : List (Int × Int)} {goes : Int → Int → Bool} {x : Int} (ho : ∀ e ∈ es, okE n e) (hx : 0 ≤ x ∧ x < n) : BI n es goes x (bfs n es goes x) := (bfsS_inv ho hx _).1
theorem bfs_closed {n : Int} {es : List (Int × Int)} {goes : Int → Int → Bool} {x : Int} (ho : ∀ e ∈ es, okE n e) (hx : 0 ≤ x ∧ x < n) {u v : Int} (hu : u ∈ (bfs n es goes x).2) (ha : Adj es u v) (hg : goes u v = true) : v ∈ (bfs n es goes x).2 := by
  obtain ⟨h1, h2⟩ := bfsS_inv (goes := goes) ho hx n.toNat
  have hle := h1.le
  obtain ⟨j, hj, he⟩ := List.mem_iff_getElem.1 hu
  have e1 : (bfsS n es goes x n.toNat).2.getD j 0 = u := by
    have : j < (bfsS n es goes x n.toNat).2.length := hj
    simp only [List.getD, List.getElem?_eq_getElem this, Option.getD_some]; exact he
  have hj' : j < (bfsS n es goes x n.toNat).2.length := hj
  exact h2 j (by omega) hj' v (by rw [e1]; exact ha) (by rw [e1]; exact hg)
def upL (fr : List Int) (x : Int) : Nat → Int → List Int
  | 0, y => [y]
  | k + 1, y => if y = x then [y] else y :: upL fr x k (fr.getD y.toNat 0)
/-- The way to a node that is reached. -/
def wayL (n : Int) (fr : List Int) (x y : Int) : List Int := (upL fr x n.toNat y).reverse
/-- A row of different nodes along edges that can be gone along. -/
structure Way (es : List (Int × Int)) (goes : Int → Int → Bool) (x y : Int) (p : List Int) : Prop where
  pos : 0 < p.length
  nd : p.Nodup
  hd : p.getD 0 0 = x
  la : p.getD (p.length - 1) 0 = y
  st : ∀ i, i + 1 < p.length → Adj es (p.getD i 0) (p.getD (i + 1) 0) ∧ goes (p.getD i 0) (p.getD (i + 1) 0) = true
theorem up_way {n : Int} {es : List (Int × Int)} {goes : Int → Int → Bool} {x : Int} {st : List Int × List Int} (h : BI n es goes x st) : ∀ (k : Nat), k < st.2.length → ∀ f, k ≤ f →
    Way es goes x (st.2.getD k 0) (upL st.1 x f (st.2.getD k 0)).reverse ∧ ∀ v ∈ upL st.1 x f (st.2.getD k 0), ∃ t, t ≤ k ∧ st.2.getD t 0 = v := by
  have hinj : ∀ s t, s < st.2.length → t < st.2.length → st.2.getD s 0 = st.2.getD t 0 → s = t := fun s t hs ht hq => by
    simp only [List.getD, List.getElem?_eq_getElem hs, List.getElem?_eq_getElem ht, Option.getD_some] at hq
    exact (List.getElem_inj h.nd).1 hq
  intro k
  induction k using Nat.strongRecOn with
  | _ k ih =>
    intro hk f hf
    by_cases hk0 : k = 0
    · subst hk0
      rw [h.hd]
      have e : upL st.1 x f x = [x] := by cases f <;> simp [upL]
      rw [e]
      exact ⟨⟨by simp, by simp, rfl, rfl, fun i hi => by simp at hi⟩, fun v hv => ⟨0, Nat.le_refl _, by rw [h.hd]; exact (List.mem_singleton.1 hv).symm⟩⟩
    · obtain ⟨j, j1, j2, j3, j4⟩ := h.par k (by omega) hk
      have hne : st.2.getD k 0 ≠ x := fun e => by
        rw [← h.hd] at e
        have := hinj k 0 hk h.pos e
        omega
      match f, hf with
      | 0, hf => omega
      | f + 1, hf =>
        rw [upL, if_neg hne, j2]
        obtain ⟨w, w2⟩ := ih j j1 (by omega) f (by omega)
        rw [List.reverse_cons]
        have hnm : st.2.getD k 0 ∉ upL st.1 x f (st.2.getD j 0) := fun hm => by
          obtain ⟨t, t1, t2⟩ := w2 _ hm
          have := hinj t k (by omega) hk t2
          omega
        generalize hp : (upL st.1 x f (st.2.getD j 0)).reverse = p at w ⊢
        have hpm : ∀ v, v ∈ p ↔ v ∈ upL st.1 x f (st.2.getD j 0) := fun v => by rw [← hp]; simp
        refine ⟨⟨by simp, ?_, ?_, ?_, fun i hi => ?_⟩, fun v hv => ?_⟩
        · rw [List.nodup_append]
          exact ⟨w.nd, by simp, fun a ha b hb => by simp only [List.mem_singleton] at hb; subst hb; exact fun e => hnm ((hpm _).1 (e ▸ ha))⟩
        · rw [getD_append_left' w.pos]; exact w.hd
        · simp only [List.length_append, List.length_cons, List.length_nil, Nat.add_sub_cancel]
          exact getD_append_last
        · simp only [List.length_append, List.length_cons, List.length_nil] at hi
          by_cases hi' : i + 1 < p.length
          · rw [getD_append_left' hi', getD_append_left' (by omega)]; exact w.st i hi'
          · have e1 : i = p.length - 1 := by omega
            have hpp := w.pos
            rw [getD_append_left' (by omega), show i + 1 = p.length by omega, getD_append_last, e1, w.la]
            exact ⟨j3, j4⟩
        · rcases List.mem_cons.1 hv with rfl | hv
          · exact ⟨k, Nat.le_refl _, rfl⟩
          · obtain ⟨t, t1, t2⟩ := w2 v hv
            exact ⟨t, by omega, t2⟩
theorem bfs_way {n : Int} {es : List (Int × Int)} {goes : Int → Int → Bool} {x y : Int} (ho : ∀ e ∈ es, okE n e) (hx : 0 ≤ x ∧ x < n) (hy : y ∈ (bfs n es goes x).2) : Way es goes x y (wayL n (bfs n es goes x).1 x y) := by
  have h := bfs_inv (goes := goes) ho hx
  have hle := h.le
  obtain ⟨k, hk, he⟩ := List.mem_iff_getElem.1 hy
  have e1 : (bfs n es goes x).2.getD k 0 = y := by simp only [List.getD, List.getElem?_eq_getElem hk, Option.getD_some]; exact he
  have := (up_way h k hk n.toNat (by omega)).1
  rw [e1] at this
  exact this
theorem upL_head {fr : List Int} {x : Int} : ∀ (k : Nat) (y : Int), upL fr x k y = y :: (upL fr x k y).tail
  | 0, y => rfl
  | k + 1, y => by rw [upL]; split <;> rfl
theorem upL_next {fr : List Int} {x : Int} : ∀ (k : Nat) (y : Int) (i : Nat), i + 1 < (upL fr x k y).length → (upL fr x k y).getD (i + 1) 0 = fr.getD ((upL fr x k y).getD i 0).toNat 0
  | 0, y, i, h => by simp [upL] at h
  | k + 1, y, i, h => by
    rw [upL] at h ⊢
    split
    · rw [if_pos ‹_›] at h; simp at h
    · rw [if_neg ‹_›] at h
      cases i with
      | zero =>
        rw [List.getD_cons_succ, List.getD_cons_zero, upL_head]; rfl
      | succ i =>
        rw [List.getD_cons_succ, List.getD_cons_succ]
        exact upL_next k _ i (by simpa using h)
theorem getD_reverse {l : List Int} {i : Nat} (h : i < l.length) : l.reverse.getD i 0 = l.getD (l.length - 1 - i) 0 := by
  simp only [List.getD_eq_getElem?_getD]
  rw [List.getElem?_reverse h]
/-- Each node of a way is reached from the one in front of it. -/
theorem way_back {n : Int} {fr : List Int} {x y : Int} {t : Nat} (h0 : 0 < t) (h1 : t < (wayL n fr x y).length) : fr.getD ((wayL n fr x y).getD t 0).toNat 0 = (wayL n fr x y).getD (t - 1) 0 := by
  unfold wayL at h1 ⊢
  rw [List.length_reverse] at h1
  rw [getD_reverse (by omega), getD_reverse (by omega)]
  have := upL_next (fr := fr) (x := x) n.toNat y ((upL fr x n.toNat y).length - 1 - t) (by omega)
  rw [← this]
  congr 1
  omega
end Go.Proofs.Ytdlfdoicheakoaa.X
