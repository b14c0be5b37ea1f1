/- Breadth search along edges that can be gone along: plain law. -/
import Derived.Test.YtjffaedlmplcnaaM8
set_option linter.unusedVariables false
namespace Go.Proofs.Ytjffaedlmplcnaa.X
open Go
def look (goes : Int → Int → Bool) (a : Int) (st : List Int × List Int) (v : Int) : List Int × List Int :=
  if st.1.getD v.toNat 0 < 0 ∧ goes a v = true then (st.1.set v.toNat a, st.2 ++ [v]) else st
def bstep (es : List (Int × Int)) (goes : Int → Int → Bool) (st : List Int × List Int) (i : Nat) : List Int × List Int :=
  if i < st.2.length then (nbS (st.2.getD i 0) es).foldl (look goes (st.2.getD i 0)) st else st
/-- From which nodes nodes are reached, and in which order. -/
def bfsS (n : Int) (es : List (Int × Int)) (goes : Int → Int → Bool) (x : Int) : Nat → List Int × List Int
  | 0 => ((List.replicate n.toNat (-1)).set x.toNat x, [x])
  | i + 1 => bstep es goes (bfsS n es goes x i) i
def bfs (n : Int) (es : List (Int × Int)) (goes : Int → Int → Bool) (x : Int) : List Int × List Int := bfsS n es goes x n.toNat
structure BI (n : Int) (es : List (Int × Int)) (goes : Int → Int → Bool) (x : Int) (st : List Int × List Int) : Prop where
  len : st.1.length = n.toNat
  nd : st.2.Nodup
  pos : 0 < st.2.length
  hd : st.2.getD 0 0 = x
  mem : ∀ v, 0 ≤ v → v < n → (0 ≤ st.1.getD v.toNat 0 ↔ v ∈ st.2)
  neg : ∀ v, 0 ≤ v → v < n → st.1.getD v.toNat 0 < 0 → st.1.getD v.toNat 0 = -1
  rng : ∀ v ∈ st.2, 0 ≤ v ∧ v < n
  self : st.1.getD x.toNat 0 = x
  par : ∀ k, 0 < k → k < st.2.length → ∃ j, j < k ∧ st.1.getD (st.2.getD k 0).toNat 0 = st.2.getD j 0 ∧ Adj es (st.2.getD j 0) (st.2.getD k 0) ∧ goes (st.2.getD j 0) (st.2.getD k 0) = true
theorem getD_append_left' {l r : List Int} {i : Nat} (h : i < l.length) : (l ++ r).getD i 0 = l.getD i 0 := by
  simp [List.getD, List.getElem?_append_left h]
theorem getD_append_last {l : List Int} {v : Int} : (l ++ [v]).getD l.length 0 = v := by
  simp [List.getD]
theorem BI.look {n : Int} {es : List (Int × Int)} {goes : Int → Int → Bool} {x a v : Int} {st : List Int × List Int} (h : BI n es goes x st) (ha : a ∈ st.2) (hv : 0 ≤ v ∧ v < n) (hav : Adj es a v) :
    BI n es goes x (look goes a st v) ∧ st.2 <+: (X.look goes a st v).2 ∧ (goes a v = true → v ∈ (X.look goes a st v).2) := by
  unfold X.look
  split
  · rename_i hc
    obtain ⟨hneg, hgo⟩ := hc
    have hnm : v ∉ st.2 := fun hm => by have := (h.mem v hv.1 hv.2).2 hm; omega
    have hvl : v.toNat < st.1.length := by rw [h.len]; omega
    have hg : ∀ u : Int, 0 ≤ u → u < n → (st.1.set v.toNat a).getD u.toNat 0 = if v = u then a else st.1.getD u.toNat 0 := fun u h0 h1 => by
      rw [getD_set (by rw [h.len]; omega)]
      by_cases he : v = u
      · subst he; simp
      · rw [if_neg he, if_neg (by omega)]
    have har := h.rng a ha
    refine ⟨⟨by simp [h.len], ?_, by simp, ?_, fun u h0 h1 => ?_, fun u h0 h1 hn => ?_, fun u hu => ?_, ?_, fun k h0 h1 => ?_⟩, List.prefix_append _ _, fun _ => by simp⟩
    · rw [List.nodup_append]
      exact ⟨h.nd, by simp, fun y hy z hz => by simp only [List.mem_singleton] at hz; subst hz; exact fun e => hnm (e ▸ hy)⟩
    · rw [getD_append_left' h.pos]; exact h.hd
    · simp only [List.mem_append, List.mem_singleton]
      rw [hg u h0 h1]
      by_cases he : v = u
      · subst he; simp; exact har.1
      · rw [if_neg he, h.mem u h0 h1]
        exact ⟨.inl, fun h' => h'.resolve_right fun e => he e.symm⟩
    · simp only at hn ⊢
      rw [hg u h0 h1] at hn ⊢
      split
      · rw [if_pos ‹_›] at hn; omega
      · rw [if_neg ‹_›] at hn; exact h.neg u h0 h1 hn
    · simp only [List.mem_append, List.mem_singleton] at hu
      rcases hu with hu | rfl
      · exact h.rng u hu
      · exact hv
    · have hx : x ∈ st.2 := by
        have := getD_mem (d := 0) h.pos
        rw [h.hd] at this; exact this
      have hxr := h.rng x hx
      simp only
      rw [hg x hxr.1 hxr.2, if_neg (fun e : v = x => hnm (by rw [e]; exact hx))]
      exact h.self
    · simp only [List.length_append, List.length_cons, List.length_nil] at h1
      simp only
      by_cases hk : k < st.2.length
      · obtain ⟨j, j1, j2, j3, j4⟩ := h.par k h0 hk
        have hkm := getD_mem (d := 0) hk
        have hkr := h.rng _ hkm
        refine ⟨j, j1, ?_⟩
        rw [getD_append_left' hk, getD_append_left' (show j < st.2.length by omega) (r := [v]), hg _ hkr.1 hkr.2, if_neg (fun e : v = st.2.getD k 0 => hnm (by rw [e]; exact hkm))]
        exact ⟨j2, j3, j4⟩
      · obtain rfl : k = st.2.length := by omega
        rw [getD_append_last, hg v hv.1 hv.2, if_pos rfl]
        obtain ⟨j, hj, he⟩ := List.mem_iff_getElem.1 ha
        refine ⟨j, hj, ?_⟩
        have e1 : st.2.getD j 0 = a := by simp [List.getD, hj, he]
        rw [getD_append_left' hj, e1]
        exact ⟨rfl, hav, hgo⟩
  · rename_i hc
    refine ⟨h, List.prefix_refl _, fun hgo => ?_⟩
    refine (h.mem v hv.1 hv.2).1 (Classical.byContradiction fun hn => hc ⟨by omega, hgo⟩)
def upL (fr : List Int) (x : Int) : Nat → Int → List Int
  | 0, y => [y]
  | k + 1, y => if y = x then [y] else y :: upL fr x k (fr.getD y.toNat 0)
/-- The way to a node that is reached. -/
def wayL (n : Int) (fr : List Int) (x y : Int) : List Int := (upL fr x n.toNat y).reverse
/-- A row of different nodes along edges that can be gone along. -/
structure Way (es : List (Int × Int)) (goes : Int → Int → Bool) (x y : Int) (p : List Int) : Prop where
  pos : 0 < p.length
  nd : p.Nodup
  hd : p.getD 0 0 = x
  la : p.getD (p.length - 1) 0 = y
  st : ∀ i, i + 1 < p.length → Adj es (p.getD i 0) (p.getD (i + 1) 0) ∧ goes (p.getD i 0) (p.getD (i + 1) 0) = true
end Go.Proofs.Ytjffaedlmplcnaa.X
