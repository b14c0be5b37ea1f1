/- Distances by a search in breadth: plain law. -/
import Derived.Test.YtdlfdoicheakoaaKAB
set_option linter.unusedVariables false
namespace Go.Proofs.Ytdlfdoicheakoaa.X
open Go
/-- The value at a node. -/
abbrev gI (l : List Int) (x : Int) : Int := l.getD x.toNat 0
theorem gI_set {l : List Int} {x y v : Int} (hx : 0 ≤ x) (hy : 0 ≤ y) (h : y < l.length) : gI (l.set x.toNat v) y = if x = y then v else gI l y := by
  unfold gI
  rw [getD_set (by omega)]
  by_cases e : x = y
  · subst e; simp
  · rw [if_neg (by omega), if_neg e]
/-- How many nodes are not found yet. -/
def und (out : List Int) : Nat := (out.filter fun d => decide (d < 0)).length
theorem und_set {out : List Int} {i : Nat} {v : Int} (h : i < out.length) (h1 : out.getD i 0 < 0) (h2 : 0 ≤ v) : und (out.set i v) + 1 = und out := by
  unfold und
  induction out generalizing i with
  | nil => simp at h
  | cons d out ih =>
    cases i with
    | zero =>
      simp only [List.getD_cons_zero] at h1
      simp only [List.set_cons_zero, List.filter_cons, decide_eq_true_eq]
      rw [if_neg (by omega), if_pos h1]; simp
    | succ i =>
      have := ih (i := i) (by simpa using h) (by simpa using h1)
      simp only [List.set_cons_succ, List.filter_cons, decide_eq_true_eq]
      split <;> (try simp only [List.length_cons]) <;> omega
/-- A search in breadth from a node: what is found, what is to be looked at. -/
structure Bfs (n : Int) (es : List (Int × Int)) (t : Int) (out q : List Int) : Prop where
  len : out.length = n.toNat
  t0 : 0 ≤ t ∧ t < n
  src : gI out t = 0
  low : ∀ x, 0 ≤ x → x < n → -1 ≤ gI out x
  reach : ∀ x, 0 ≤ x → x < n → 0 ≤ gI out x → Rk es t (gI out x).toNat x
  que : ∀ x ∈ q, 0 ≤ x ∧ x < n ∧ 0 ≤ gI out x
  sorted : q.Pairwise fun a b => gI out a ≤ gI out b
  near : ∀ a ∈ q, ∀ x, 0 ≤ x → x < n → gI out x ≤ gI out a + 1
  top : ∀ x, 0 ≤ x → x < n → gI out x + und out ≤ n - 1
/-- All but some nodes have been looked at. -/
def Done (n : Int) (es : List (Int × Int)) (out : List Int) (ex : Int → Prop) : Prop := ∀ x, 0 ≤ x → x < n → 0 ≤ gI out x → ¬ ex x → ∀ y, Adj es x y → 0 ≤ gI out y ∧ gI out y ≤ gI out x + 1
theorem rep_get {n : Int} {x : Int} (h0 : 0 ≤ x) (h1 : x < n) : gI (List.replicate n.toNat (-1)) x = -1 := by
  have : x.toNat < n.toNat := by omega
  simp [gI, this]
theorem Bfs.init {n : Int} {es : List (Int × Int)} {t : Int} (ht : 0 ≤ t ∧ t < n) : Bfs n es t ((List.replicate n.toNat (-1)).set t.toNat 0) [t] ∧ Done n es ((List.replicate n.toNat (-1)).set t.toNat 0) (· ∈ [t]) := by
  have hg : ∀ x, 0 ≤ x → x < n → gI ((List.replicate n.toNat (-1)).set t.toNat 0) x = if t = x then 0 else -1 := fun x h0 h1 => by
    rw [gI_set ht.1 h0 (by simp; omega), rep_get h0 h1]
  refine ⟨⟨by simp, ht, by rw [hg t ht.1 ht.2]; simp, fun x h0 h1 => by rw [hg x h0 h1]; split <;> omega, fun x h0 h1 h => ?_, fun x hx => ?_, by simp, fun a ha x h0 h1 => ?_, fun x h0 h1 => ?_⟩, fun x h0 h1 h hx => ?_⟩
  · rw [hg x h0 h1] at h ⊢
    split at h
    · rename_i e; subst e; rw [if_pos rfl]; exact rfl
    · omega
  · rw [List.mem_singleton.1 hx, hg t ht.1 ht.2]; simp; omega
  · rw [List.mem_singleton.1 ha, hg t ht.1 ht.2, hg x h0 h1]; split <;> simp
  · have hu := und_set (out := List.replicate n.toNat (-1)) (i := t.toNat) (v := 0) (by simp; omega) (by have := rep_get ht.1 ht.2; unfold gI at this; omega) (by omega)
    have hr : und (List.replicate n.toNat (-1)) = n.toNat := by simp [und]
    rw [hg x h0 h1]
    split <;> omega
  · rw [hg x h0 h1] at h
    split at h
    · rename_i e; subst e; exact absurd (List.mem_singleton.2 rfl) hx
    · omega
/-- While the neighbors of a node are looked at. -/
structure BfsAt (n : Int) (es : List (Int × Int)) (t a : Int) (i : Nat) (out q : List Int) : Prop where
  bfs : Bfs n es t out q
  a0 : 0 ≤ a ∧ a < n ∧ 0 ≤ gI out a
  hq : ∀ y ∈ q, gI out a ≤ gI out y
  hn : ∀ y, 0 ≤ y → y < n → gI out y ≤ gI out a + 1
  done : Done n es out (fun x => x ∈ q ∨ x = a)
  seen : ∀ y ∈ (nbS a es).take i, 0 ≤ gI out y ∧ gI out y ≤ gI out a + 1
open Classical in
/-- The distance from a node, or -1. -/
noncomputable def dst (n : Int) (es : List (Int × Int)) (t x : Int) : Int := if Conn es t x then (((List.range (n.toNat + 1)).find? fun k => decide (Rk es t k x)).getD 0 : Nat) else -1
open Classical in
theorem dst_eq {n : Int} {es : List (Int × Int)} {t x : Int} {k : Nat} (hk : Rk es t k x) (hm : ∀ j, Rk es t j x → k ≤ j) (ho : ∀ e ∈ es, okE n e) (hn : 0 ≤ n) : dst n es t x = k := by
  unfold dst
  rw [if_pos hk.conn]
  have ho' : ∀ e ∈ es, okE ((n.toNat : Nat) : Int) e := fun e he => by have := ho e he; unfold okE at this ⊢; omega
  have hle := hm _ (Rk.all ho' hk.conn)
  have : (List.range (n.toNat + 1)).find? (fun k => decide (Rk es t k x)) = some k := by
    rw [List.find?_range_eq_some]
    refine ⟨by simpa using hk, List.mem_range.2 (by omega), fun j hj => ?_⟩
    have : ¬ Rk es t j x := fun h => by have := hm j h; omega
    simp [this]
  rw [this]; rfl
open Classical in
noncomputable def dstL (n : Int) (es : List (Int × Int)) (t : Int) : List Int := (iota n).map fun x => dst n es t x
theorem dstL_get {n : Int} {es : List (Int × Int)} {t x : Int} (h0 : 0 ≤ x) (h1 : x < n) : gI (dstL n es t) x = dst n es t x := by
  unfold gI dstL iota
  have : x.toNat < n.toNat := by omega
  simp [this, Int.toNat_of_nonneg h0]
theorem dstL_length {n : Int} {es : List (Int × Int)} {t : Int} : (dstL n es t).length = n.toNat := by simp [dstL, iota]
theorem list_gI {l r : List Int} {n : Int} (hl : l.length = n.toNat) (hr : r.length = n.toNat) (h : ∀ x, 0 ≤ x → x < n → gI l x = gI r x) : l = r := by
  refine List.ext_getElem (by omega) fun i h1 h2 => ?_
  have := h (i : Int) (by omega) (by omega)
  unfold gI at this
  simpa [h1, h2] using this
/-- When nothing is left to be looked at, the distances are found. -/
theorem Bfs.end {n : Int} {es : List (Int × Int)} {t : Int} {out : List Int} (ho : ∀ e ∈ es, okE n e) (h : Bfs n es t out []) (hd : Done n es out (· ∈ ([] : List Int))) : out = dstL n es t := by
  have key : ∀ (k : Nat) (x : Int), Rk es t k x → 0 ≤ x ∧ x < n ∧ 0 ≤ gI out x ∧ gI out x ≤ k := by
    intro k
    induction k with
    | zero => intro x hx; cases hx; exact ⟨h.t0.1, h.t0.2, by rw [h.src]; omega, by rw [h.src]; omega⟩
    | succ k ih =>
      intro x hx
      rcases hx with hx | ⟨z, hz, ha⟩
      · have := ih x hx; omega
      · have h1 := ih z hz
        have h2 := hd z h1.1 h1.2.1 h1.2.2.1 (by simp) x ha
        have h3 := ha.ok ho
        omega
  refine list_gI h.len dstL_length fun x h0 h1 => ?_
  rw [dstL_get h0 h1]
  by_cases hx : 0 ≤ gI out x
  · have hr := h.reach x h0 h1 hx
    rw [dst_eq hr (fun j hj => by have := (key j x hj).2.2.2; omega) ho (by have := h.t0; omega)]
    omega
  · have hlow := h.low x h0 h1
    have : ¬ Conn es t x := fun hc => by
      have ho' : ∀ e ∈ es, okE ((n.toNat : Nat) : Int) e := fun e he => by have := ho e he; unfold okE at this ⊢; omega
      have := (key _ x (Rk.all ho' hc)).2.2.1
      omega
    unfold dst
    rw [if_neg this]; omega
def nxtN (es : List (Int × Int)) (far : List Int) (x : Int) : Int := ((nbS x es).find? fun y => decide (gI far y = gI far x - 1)).getD x
def gpath (es : List (Int × Int)) (far : List Int) : Nat → Int → List Int
  | 0, x => [x]
  | k + 1, x => x :: gpath es far k (nxtN es far x)
noncomputable def pathL (n : Int) (es : List (Int × Int)) (x y : Int) : List Int := gpath es (dstL n es y) (dst n es y x).toNat x
end Go.Proofs.Ytdlfdoicheakoaa.X
