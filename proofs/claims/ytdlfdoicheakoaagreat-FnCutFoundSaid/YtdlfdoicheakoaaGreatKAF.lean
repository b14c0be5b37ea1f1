/- What functions answer, and the plain laws behind it. -/
import Derived.Test.YtdlfdoicheakoaaGreatKAE
/- Distances by a search in breadth: plain law. -/
set_option linter.unusedVariables false
namespace Go.Proofs.YtdlfdoicheakoaaGreat.X
open Go
/-- The value at a node. -/
abbrev gI (l : List Int) (x : Int) : Int := l.getD x.toNat 0
theorem gI_set {l : List Int} {x y v : Int} (hx : 0 ≤ x) (hy : 0 ≤ y) (h : y < l.length) : gI (l.set x.toNat v) y = if x = y then v else gI l y := by
  unfold gI
  rw [getD_set (by omega)]
  by_cases e : x = y
  · subst e; simp
  · rw [if_neg (by omega), if_neg e]
/-- How many nodes are not found yet. -/
def und (out : List Int) : Nat := (out.filter fun d => decide (d < 0)).length
theorem und_set {out : List Int} {i : Nat} {v : Int} (h : i < out.length) (h1 : out.getD i 0 < 0) (h2 : 0 ≤ v) : und (out.set i v) + 1 = und out := by
  unfold und
  induction out generalizing i with
  | nil => simp at h
  | cons d out ih =>
    cases i with
    | zero =>
      simp only [List.getD_cons_zero] at h1
      simp only [List.set_cons_zero, List.filter_cons, decide_eq_true_eq]
      rw [if_neg (by omega), if_pos h1]; simp
    | succ i =>
      have := ih (i := i) (by simpa using h) (by simpa using h1)
      simp only [List.set_cons_succ, List.filter_cons, decide_eq_true_eq]
      split <;> (try simp only [List.length_cons]) <;> omega
/-- A search in breadth from a node: what is found, what is to be looked at. -/
structure Bfs (n : Int) (es : List (Int × Int)) (t : Int) (out q : List Int) : Prop where
  len : out.length = n.toNat
  t0 : 0 ≤ t ∧ t < n
  src : gI out t = 0
  low : ∀ x, 0 ≤ x → x < n → -1 ≤ gI out x
  reach : ∀ x, 0 ≤ x → x < n → 0 ≤ gI out x → Rk es t (gI out x).toNat x
  que : ∀ x ∈ q, 0 ≤ x ∧ x < n ∧ 0 ≤ gI out x
  sorted : q.Pairwise fun a b => gI out a ≤ gI out b
  near : ∀ a ∈ q, ∀ x, 0 ≤ x → x < n → gI out x ≤ gI out a + 1
  top : ∀ x, 0 ≤ x → x < n → gI out x + und out ≤ n - 1
/-- All but some nodes have been looked at. -/
def Done (n : Int) (es : List (Int × Int)) (out : List Int) (ex : Int → Prop) : Prop := ∀ x, 0 ≤ x → x < n → 0 ≤ gI out x → ¬ ex x → ∀ y, Adj es x y → 0 ≤ gI out y ∧ gI out y ≤ gI out x + 1
theorem rep_get {n : Int} {x : Int} (h0 : 0 ≤ x) (h1 : x < n) : gI (List.replicate n.toNat (-1)) x = -1 := by
  have : x.toNat < n.toNat := by omega
  simp [gI, this]
theorem Bfs.init {n : Int} {es : List (Int × Int)} {t : Int} (ht : 0 ≤ t ∧ t < n) : Bfs n es t ((List.replicate n.toNat (-1)).set t.toNat 0) [t] ∧ Done n es ((List.replicate n.toNat (-1)).set t.toNat 0) (· ∈ [t]) := by
  have hg : ∀ x, 0 ≤ x → x < n → gI ((List.replicate n.toNat (-1)).set t.toNat 0) x = if t = x then 0 else -1 := fun x h0 h1 => by
    rw [gI_set ht.1 h0 (by simp; omega), rep_get h0 h1]
  refine ⟨⟨by simp, ht, by rw [hg t ht.1 ht.2]; simp, fun x h0 h1 => by rw [hg x h0 h1]; split <;> omega, fun x h0 h1 h => ?_, fun x hx => ?_, by simp, fun a ha x h0 h1 => ?_, fun x h0 h1 => ?_⟩, fun x h0 h1 h hx => ?_⟩
  · rw [hg x h0 h1] at h ⊢
    split at h
    · rename_i e; subst e; rw [if_pos rfl]; exact rfl
    · omega
  · rw [List.mem_singleton.1 hx, hg t ht.1 ht.2]; simp; omega
  · rw [List.mem_singleton.1 ha, hg t ht.1 ht.2, hg x h0 h1]; split <;> simp
  · have hu := und_set (out := List.replicate n.toNat (-1)) (i := t.toNat) (v := 0) (by simp; omega) (by have := rep_get ht.1 ht.2; unfold gI at this; omega) (by omega)
    have hr : und (List.replicate n.toNat (-1)) = n.toNat := by simp [und]
    rw [hg x h0 h1]
    split <;> omega
  · rw [hg x h0 h1] at h
    split at h
    · rename_i e; subst e; exact absurd (List.mem_singleton.2 rfl) hx
    · omega
/-- One more node is found. -/
theorem Bfs.find {n : Int} {es : List (Int × Int)} {t : Int} {out q : List Int} {a x : Int} (ho : ∀ e ∈ es, okE n e) (h : Bfs n es t out q) (ha : 0 ≤ a ∧ a < n) (ha0 : 0 ≤ gI out a) (hq : ∀ y ∈ q, gI out a ≤ gI out y)
    (hn : ∀ y, 0 ≤ y → y < n → gI out y ≤ gI out a + 1) (hadj : Adj es a x) (hx : gI out x < 0) :
    Bfs n es t (out.set x.toNat (gI out a + 1)) (q ++ [x]) ∧ und (out.set x.toNat (gI out a + 1)) + 1 = und out := by
  have hok := hadj.ok ho
  have hxl : x < (out.length : Int) := by rw [h.len]; omega
  have hg : ∀ y, 0 ≤ y → y < n → gI (out.set x.toNat (gI out a + 1)) y = if x = y then gI out a + 1 else gI out y := fun y h0 h1 => gI_set (by omega) h0 (by rw [h.len]; omega)
  have hxt : x ≠ t := fun e => by rw [e, h.src] at hx; omega
  refine ⟨⟨by simp [h.len], h.t0, by rw [hg t h.t0.1 h.t0.2, if_neg hxt]; exact h.src, fun y h0 h1 => ?_, fun y h0 h1 hy => ?_, fun y hy => ?_, ?_, fun b hb y h0 h1 => ?_, fun y h0 h1 => ?_⟩, und_set (by omega) hx (by omega)⟩
  · rw [hg y h0 h1]; have := h.low y h0 h1; split <;> omega
  · rw [hg y h0 h1] at hy ⊢
    split
    · rename_i e; subst e
      rw [show (gI out a + 1).toNat = (gI out a).toNat + 1 by omega]
      exact .inr ⟨a, h.reach a ha.1 ha.2 ha0, hadj⟩
    · rename_i e; rw [if_neg e] at hy; exact h.reach y h0 h1 hy
  · rcases List.mem_append.1 hy with hy | hy
    · have := h.que y hy
      refine ⟨this.1, this.2.1, ?_⟩
      rw [hg y this.1 this.2.1]; split <;> omega
    · rw [List.mem_singleton.1 hy, hg x (by omega) (by omega), if_pos rfl]; omega
  · rw [List.pairwise_append]
    refine ⟨?_, by simp, fun b hb c hc => ?_⟩
    · refine List.Pairwise.imp_of_mem (fun {b c} hb hc hbc => ?_) h.sorted
      have hb' := h.que b hb
      have hc' := h.que c hc
      have nb : x ≠ b := fun e => by rw [← e] at hb'; omega
      have nc : x ≠ c := fun e => by rw [← e] at hc'; omega
      rw [hg b hb'.1 hb'.2.1, hg c hc'.1 hc'.2.1, if_neg nb, if_neg nc]; exact hbc
    · have hb' := h.que b hb
      have nb : x ≠ b := fun e => by rw [← e] at hb'; omega
      rw [List.mem_singleton.1 hc, hg b hb'.1 hb'.2.1, hg x (by omega) (by omega), if_neg nb, if_pos rfl]
      exact hn b hb'.1 hb'.2.1
  · have key : ∀ z, 0 ≤ z → z < n → gI (out.set x.toNat (gI out a + 1)) z ≤ gI out a + 1 := fun z h0 h1 => by
      rw [hg z h0 h1]; have := hn z h0 h1; split <;> omega
    have hb2 : gI out a ≤ gI (out.set x.toNat (gI out a + 1)) b := by
      rcases List.mem_append.1 hb with hb | hb
      · have hb' := h.que b hb
        rw [hg b hb'.1 hb'.2.1]; have := hq b hb; split <;> omega
      · rw [List.mem_singleton.1 hb, hg x (by omega) (by omega), if_pos rfl]; omega
    have := key y h0 h1
    omega
  · have hu := und_set (v := gI out a + 1) (show x.toNat < out.length by omega) hx (by omega)
    rw [hg y h0 h1]
    have h1' := h.top a ha.1 ha.2
    have h2' := h.top y h0 h1
    split <;> omega
/-- What is found stays found, and as it was. -/
theorem found_set {n : Int} {out : List Int} {x v : Int} (hl : out.length = n.toNat) (hx0 : 0 ≤ x) (hx : gI out x < 0) {y : Int} (h0 : 0 ≤ y) (h1 : y < n) (hy : 0 ≤ gI out y) : gI (out.set x.toNat v) y = gI out y := by
  rw [gI_set hx0 h0 (by omega), if_neg fun e => by rw [e] at hx; omega]
/-- While the neighbors of a node are looked at. -/
structure BfsAt (n : Int) (es : List (Int × Int)) (t a : Int) (i : Nat) (out q : List Int) : Prop where
  bfs : Bfs n es t out q
  a0 : 0 ≤ a ∧ a < n ∧ 0 ≤ gI out a
  hq : ∀ y ∈ q, gI out a ≤ gI out y
  hn : ∀ y, 0 ≤ y → y < n → gI out y ≤ gI out a + 1
  done : Done n es out (fun x => x ∈ q ∨ x = a)
  seen : ∀ y ∈ (nbS a es).take i, 0 ≤ gI out y ∧ gI out y ≤ gI out a + 1
theorem BfsAt.start {n : Int} {es : List (Int × Int)} {t a : Int} {out q : List Int} (h : Bfs n es t out (a :: q)) (hd : Done n es out (· ∈ a :: q)) : BfsAt n es t a 0 out q := by
  have ha := h.que a (by simp)
  have hs := h.sorted
  rw [List.pairwise_cons] at hs
  refine ⟨⟨h.len, h.t0, h.src, h.low, h.reach, fun x hx => h.que x (by simp [hx]), hs.2, fun b hb => h.near b (by simp [hb]), h.top⟩, ha, hs.1, fun y => h.near a (by simp) y, fun x h0 h1 hx hex => hd x h0 h1 hx fun hm => hex ?_, by simp⟩
  rcases List.mem_cons.1 hm with e | e
  · exact .inr e
  · exact .inl e
theorem BfsAt.find {n : Int} {es : List (Int × Int)} {t a : Int} {i : Nat} {out q : List Int} (ho : ∀ e ∈ es, okE n e) (h : BfsAt n es t a i out q) (hi : i < (nbS a es).length) (hx : gI out ((nbS a es).getD i 0) < 0) :
    BfsAt n es t a (i + 1) (out.set ((nbS a es).getD i 0).toNat (gI out a + 1)) (q ++ [(nbS a es).getD i 0]) ∧ und (out.set ((nbS a es).getD i 0).toNat (gI out a + 1)) + 1 = und out := by
  have hadj := (mem_nbS ho).1 (getD_mem (d := 0) hi)
  have htk : (nbS a es).take (i + 1) = (nbS a es).take i ++ [(nbS a es).getD i 0] := by rw [List.take_add_one]; simp [hi]
  generalize (nbS a es).getD i 0 = x at *
  have hok := hadj.ok ho
  obtain ⟨h1, h2⟩ := h.bfs.find ho ⟨h.a0.1, h.a0.2.1⟩ h.a0.2.2 h.hq h.hn hadj hx
  have hkeep : ∀ y, 0 ≤ y → y < n → 0 ≤ gI out y → gI (out.set x.toNat (gI out a + 1)) y = gI out y := fun y g0 g1 g2 => found_set h.bfs.len (by omega) hx g0 g1 g2
  have hnew : gI (out.set x.toNat (gI out a + 1)) x = gI out a + 1 := by rw [gI_set (by omega) (by omega) (by have := h.bfs.len; omega), if_pos rfl]
  have hany : ∀ y, 0 ≤ y → y < n → gI (out.set x.toNat (gI out a + 1)) y = if x = y then gI out a + 1 else gI out y := fun y g0 g1 => gI_set (by omega) g0 (by have := h.bfs.len; omega)
  have ha := hkeep a h.a0.1 h.a0.2.1 h.a0.2.2
  refine ⟨⟨h1, ⟨h.a0.1, h.a0.2.1, by rw [ha]; exact h.a0.2.2⟩, fun y hy => ?_, fun y g0 g1 => ?_, fun z g0 g1 hz hex y hy => ?_, fun y hy => ?_⟩, h2⟩
  · rw [ha]
    rcases List.mem_append.1 hy with hy | hy
    · have := h.bfs.que y hy
      rw [hkeep y this.1 this.2.1 this.2.2]; exact h.hq y hy
    · rw [List.mem_singleton.1 hy, hnew]; omega
  · rw [ha, hany y g0 g1]
    have := h.hn y g0 g1
    split <;> omega
  · have hzx : x ≠ z := fun e => hex (.inl (by simp [e]))
    rw [hany z g0 g1, if_neg hzx] at hz ⊢
    have := h.done z g0 g1 hz (fun h' => hex (h'.elim (fun h' => .inl (by simp [h'])) .inr)) y hy
    have hyk := hy.ok ho
    rw [hkeep y (by omega) (by omega) this.1]
    exact this
  · rw [ha]
    rw [htk] at hy
    rcases List.mem_append.1 hy with hy | hy
    · have := h.seen y hy
      have hyk := ((mem_nbS ho).1 (List.mem_of_mem_take hy)).ok ho
      rw [hkeep y (by omega) (by omega) this.1]; exact this
    · rw [List.mem_singleton.1 hy, hnew]; have := h.a0.2.2; omega
theorem BfsAt.skip {n : Int} {es : List (Int × Int)} {t a : Int} {i : Nat} {out q : List Int} (ho : ∀ e ∈ es, okE n e) (h : BfsAt n es t a i out q) (hi : i < (nbS a es).length) (hx : 0 ≤ gI out ((nbS a es).getD i 0)) : BfsAt n es t a (i + 1) out q := by
  have hadj := (mem_nbS ho).1 (getD_mem (d := 0) hi)
  have hok := hadj.ok ho
  refine ⟨h.bfs, h.a0, h.hq, h.hn, h.done, fun y hy => ?_⟩
  have htk : (nbS a es).take (i + 1) = (nbS a es).take i ++ [(nbS a es).getD i 0] := by rw [List.take_add_one]; simp [hi]
  rw [htk] at hy
  rcases List.mem_append.1 hy with hy | hy
  · exact h.seen y hy
  · rw [List.mem_singleton.1 hy]; exact ⟨hx, h.hn _ (by omega) (by omega)⟩
theorem BfsAt.stop {n : Int} {es : List (Int × Int)} {t a : Int} {i : Nat} {out q : List Int} (ho : ∀ e ∈ es, okE n e) (h : BfsAt n es t a i out q) (hi : (nbS a es).length ≤ i) : Bfs n es t out q ∧ Done n es out (· ∈ q) := by
  refine ⟨h.bfs, fun x h0 h1 hx hex y hy => ?_⟩
  by_cases hxa : x = a
  · subst hxa
    have := h.seen y (by rw [take_all hi]; exact (mem_nbS ho).2 hy)
    exact this
  · exact h.done x h0 h1 hx (fun h' => h'.elim hex hxa) y hy
open Classical in
/-- The distance from a node, or -1. -/
noncomputable def dst (n : Int) (es : List (Int × Int)) (t x : Int) : Int := if Conn es t x then (((List.range (n.toNat + 1)).find? fun k => decide (Rk es t k x)).getD 0 : Nat) else -1
open Classical in
theorem dst_eq {n : Int} {es : List (Int × Int)} {t x : Int} {k : Nat} (hk : Rk es t k x) (hm : ∀ j, Rk es t j x → k ≤ j) (ho : ∀ e ∈ es, okE n e) (hn : 0 ≤ n) : dst n es t x = k := by
  unfold dst
  rw [if_pos hk.conn]
  have ho' : ∀ e ∈ es, okE ((n.toNat : Nat) : Int) e := fun e he => by have := ho e he; unfold okE at this ⊢; omega
  have hle := hm _ (Rk.all ho' hk.conn)
  have : (List.range (n.toNat + 1)).find? (fun k => decide (Rk es t k x)) = some k := by
    rw [List.find?_range_eq_some]
    refine ⟨by simpa using hk, List.mem_range.2 (by omega), fun j hj => ?_⟩
    have : ¬ Rk es t j x := fun h => by have := hm j h; omega
    simp [this]
  rw [this]; rfl
open Classical in
theorem dst_spec {n : Int} {es : List (Int × Int)} {t x : Int} (ho : ∀ e ∈ es, okE n e) (hc : Conn es t x) : 0 ≤ dst n es t x ∧ Rk es t (dst n es t x).toNat x ∧ ∀ j, Rk es t j x → dst n es t x ≤ j := by
  unfold dst
  rw [if_pos hc]
  have ho' : ∀ e ∈ es, okE ((n.toNat : Nat) : Int) e := fun e he => by have := ho e he; unfold okE at this ⊢; omega
  have hall := Rk.all ho' hc
  cases hf : (List.range (n.toNat + 1)).find? (fun k => decide (Rk es t k x)) with
  | none =>
    rw [List.find?_eq_none] at hf
    exact absurd hall (by simpa using hf n.toNat (by simp))
  | some k =>
    rw [List.find?_range_eq_some] at hf
    obtain ⟨h1, h2, h3⟩ := hf
    refine ⟨by omega, by simpa using h1, fun j hj => ?_⟩
    simp only [Option.getD_some]
    refine Int.ofNat_le.2 (Nat.le_of_not_lt fun hlt => ?_)
    have := h3 j hlt
    simp [hj] at this
noncomputable def dstL (n : Int) (es : List (Int × Int)) (t : Int) : List Int := (iota n).map fun x => dst n es t x
theorem dstL_get {n : Int} {es : List (Int × Int)} {t x : Int} (h0 : 0 ≤ x) (h1 : x < n) : gI (dstL n es t) x = dst n es t x := by
  unfold gI dstL iota
  have : x.toNat < n.toNat := by omega
  simp [this, Int.toNat_of_nonneg h0]
theorem dstL_length {n : Int} {es : List (Int × Int)} {t : Int} : (dstL n es t).length = n.toNat := by simp [dstL, iota]
theorem list_gI {l r : List Int} {n : Int} (hl : l.length = n.toNat) (hr : r.length = n.toNat) (h : ∀ x, 0 ≤ x → x < n → gI l x = gI r x) : l = r := by
  refine List.ext_getElem (by omega) fun i h1 h2 => ?_
  have := h (i : Int) (by omega) (by omega)
  unfold gI at this
  simpa [h1, h2] using this
/-- When nothing is left to be looked at, the distances are found. -/
theorem Bfs.end {n : Int} {es : List (Int × Int)} {t : Int} {out : List Int} (ho : ∀ e ∈ es, okE n e) (h : Bfs n es t out []) (hd : Done n es out (· ∈ ([] : List Int))) : out = dstL n es t := by
  have key : ∀ (k : Nat) (x : Int), Rk es t k x → 0 ≤ x ∧ x < n ∧ 0 ≤ gI out x ∧ gI out x ≤ k := by
    intro k
    induction k with
    | zero => intro x hx; cases hx; exact ⟨h.t0.1, h.t0.2, by rw [h.src]; omega, by rw [h.src]; omega⟩
    | succ k ih =>
      intro x hx
      rcases hx with hx | ⟨z, hz, ha⟩
      · have := ih x hx; omega
      · have h1 := ih z hz
        have h2 := hd z h1.1 h1.2.1 h1.2.2.1 (by simp) x ha
        have h3 := ha.ok ho
        omega
  refine list_gI h.len dstL_length fun x h0 h1 => ?_
  rw [dstL_get h0 h1]
  by_cases hx : 0 ≤ gI out x
  · have hr := h.reach x h0 h1 hx
    rw [dst_eq hr (fun j hj => by have := (key j x hj).2.2.2; omega) ho (by have := h.t0; omega)]
    omega
  · have hlow := h.low x h0 h1
    have : ¬ Conn es t x := fun hc => by
      have ho' : ∀ e ∈ es, okE ((n.toNat : Nat) : Int) e := fun e he => by have := ho e he; unfold okE at this ⊢; omega
      have := (key _ x (Rk.all ho' hc)).2.2.1
      omega
    unfold dst
    rw [if_neg this]; omega
def nxtN (es : List (Int × Int)) (far : List Int) (x : Int) : Int := ((nbS x es).find? fun y => decide (gI far y = gI far x - 1)).getD x
def gpath (es : List (Int × Int)) (far : List Int) : Nat → Int → List Int
  | 0, x => [x]
  | k + 1, x => x :: gpath es far k (nxtN es far x)
noncomputable def pathL (n : Int) (es : List (Int × Int)) (x y : Int) : List Int := gpath es (dstL n es y) (dst n es y x).toNat x
theorem find_at {l : List Int} {p : Int → Bool} {i : Nat} (h : i < l.length) (hp : p (l.getD i 0) = true) (hn : ∀ e ∈ l.take i, p e = false) : l.find? p = some (l.getD i 0) := by
  rw [List.find?_eq_some_iff_append]
  have e1 : l.getD i 0 = l[i] := by simp [h]
  refine ⟨hp, l.take i, l.drop (i + 1), ?_, fun a ha => by simpa using hn a ha⟩
  rw [e1, List.getElem_cons_drop, List.take_append_drop]
theorem dst_self {n : Int} {es : List (Int × Int)} {t : Int} (ho : ∀ e ∈ es, okE n e) (hn : 0 ≤ n) : dst n es t t = 0 := dst_eq (k := 0) rfl (fun _ _ => Nat.zero_le _) ho hn
theorem dst_zero {n : Int} {es : List (Int × Int)} {t x : Int} (ho : ∀ e ∈ es, okE n e) (hc : Conn es t x) (h : dst n es t x = 0) : x = t := by
  have := (dst_spec ho hc).2.1
  rw [h] at this
  exact this
/-- From a node one comes one step nearer. -/
theorem dst_near {n : Int} {es : List (Int × Int)} {t x : Int} (ho : ∀ e ∈ es, okE n e) (hn : 0 ≤ n) (hc : Conn es t x) (h : dst n es t x ≠ 0) : ∃ z, Adj es x z ∧ dst n es t z = dst n es t x - 1 := by
  obtain ⟨h0, h1, h2⟩ := dst_spec ho hc
  obtain ⟨k, hk⟩ : ∃ k : Nat, (dst n es t x).toNat = k + 1 := ⟨(dst n es t x).toNat - 1, by omega⟩
  rw [hk] at h1
  rcases h1 with h1 | ⟨z, hz, ha⟩
  · have := h2 k h1; omega
  · refine ⟨z, ha.symm, ?_⟩
    rw [dst_eq hz (fun j hj => ?_) ho hn]
    · omega
    · have := h2 (j + 1) (.inr ⟨z, hj, ha⟩); omega
/-- The distance of neighbors. -/
theorem dst_adj {n : Int} {es : List (Int × Int)} {t x y : Int} (ho : ∀ e ∈ es, okE n e) (hc : Conn es t x) (ha : Adj es x y) : dst n es t y ≤ dst n es t x + 1 := by
  obtain ⟨h0, h1, h2⟩ := dst_spec ho hc
  have := (dst_spec ho (hc.step ha)).2.2 ((dst n es t x).toNat + 1) (.inr ⟨x, h1, ha⟩)
  omega
theorem nxtN_spec {n : Int} {es : List (Int × Int)} {t x : Int} (ho : ∀ e ∈ es, okE n e) (hn : 0 ≤ n) (hc : Conn es t x) (h : dst n es t x ≠ 0) :
    nxtN es (dstL n es t) x ∈ nbS x es ∧ dst n es t (nxtN es (dstL n es t) x) = dst n es t x - 1 ∧ (∀ z, (nbS x es).find? (fun y => decide (gI (dstL n es t) y = gI (dstL n es t) x - 1)) = some z → nxtN es (dstL n es t) x = z) ∧
      ∃ z, (nbS x es).find? (fun y => decide (gI (dstL n es t) y = gI (dstL n es t) x - 1)) = some z := by
  obtain ⟨z, ha, hz⟩ := dst_near ho hn hc h
  have hzm := (mem_nbS ho).2 ha
  have hok := ha.ok ho
  cases hf : (nbS x es).find? (fun y => decide (gI (dstL n es t) y = gI (dstL n es t) x - 1)) with
  | none =>
    rw [List.find?_eq_none] at hf
    exact absurd (show gI (dstL n es t) z = gI (dstL n es t) x - 1 by rw [dstL_get (by omega) (by omega), dstL_get (by omega) (by omega), hz]) (by simpa using hf z hzm)
  | some u =>
    have hu := List.mem_of_find?_eq_some hf
    have hp := List.find?_some hf
    simp only [decide_eq_true_eq] at hp
    have hok' := ((mem_nbS ho).1 hu).ok ho
    rw [dstL_get (by omega) (by omega), dstL_get (by omega) (by omega)] at hp
    have hnx : nxtN es (dstL n es t) x = u := by unfold nxtN; rw [hf]; rfl
    rw [hnx]
    exact ⟨hu, hp, fun z hz => Option.some.inj hz, u, rfl⟩
end Go.Proofs.YtdlfdoicheakoaaGreat.X

/- What functions compute: distances and paths. -/
set_option linter.unusedSimpArgs false
set_option linter.unusedVariables false
set_option maxHeartbeats 2000000
namespace Go.Proofs.YtdlfdoicheakoaaGreat.X
open Go Go.Proofs
@[go_sem] theorem c_mul1 (n : Int) (h : 0 ≤ n ∧ n ≤ 1048576) : KP 82 [.i (.v (.int .u64 1)), .i (.v (.int .u64 n))] [] = some (.tup [.i (.v (.int .u64 0)), .i (.v (.int .u64 n))], [], []) := by
  refine KK_prim rfl ?_
  have h1 : 1 * n / 18446744073709551616 = 0 := by omega
  have h2 : 1 * n % 18446744073709551616 = n := by omega
  simp only [mulP, h1, h2]
  rw [if_pos (by omega)]
@[go_sem] theorem c_repeatI (x n : Int) (hn : 0 ≤ n ∧ n ≤ 1048576) : KP 76 [.i (.lst [[.v (.int .i64 x)]]), I n] [] = some (.ref 2000 0 0 n.toNat, [], [.arr 0 1 ((List.replicate n.toNat x).map encI)]) := by
  by_cases h0 : n = 0
  · subst h0
    refine xw_call (fn := Tryz.f76) rfl Tryz.func76 rfl ⟨Nat.le_of_ble_eq_true rfl, rfl, rfl⟩ ?_
    have Fz:=fz1 Tryz.results76
    repeat'(first|exact trivial|refine go1 ?_|(refine go2 ?_ ?_<;>intro _<;>try(exfalso;omega))|(refine go4 ?_;split<;>(try(exfalso;omega);try refine go3 ?_)))
    refine xw_loopR (fun (y : Unit) s => s.m 30 = some (.arr 0 1 []) ∧ s.ρ 7 = .ref 30 0 0 0 ∧ s.ρ 8 = I 0) (fun _ => 0) () ⟨rfl, rfl, rfl⟩ ?_
    rintro ⟨⟩ ⟨ρ, m⟩ ⟨m30, h7, h8⟩
    simp only at m30 h7 h8
    have Fz:=fz4 Tryz.results76 m30 h7 h8
    repeat'(first|exact trivial|refine go1 ?_|(refine go2 ?_ ?_<;>intro _<;>try(exfalso;omega))|(refine go4 ?_;split<;>(try(exfalso;omega);try refine go3 ?_)))
    all_goals simp
  refine xw_call (fn := Tryz.f76) rfl Tryz.func76 rfl ⟨Nat.le_of_ble_eq_true rfl, rfl, rfl⟩ ?_
  have Fz:=fz2 Tryz.results76 @take_all
  repeat'(first|exact trivial|refine go1 ?_|(refine go2 ?_ ?_<;>intro _<;>try(exfalso;omega))|(refine go4 ?_;split<;>(try(exfalso;omega);try refine go3 ?_)))
  refine xw_loopR (fun (y : Int × List Int) s => s.m 30 = some (.arr 0 1 (y.2.map encI)) ∧ s.ρ 7 = .ref 30 0 0 n.toNat ∧ s.ρ 8 = I y.1 ∧ 0 < y.1 ∧ y.1 ≤ n ∧ y.2.length = n.toNat ∧ y.2.take y.1.toNat = List.replicate y.1.toNat x)
    (fun y => (n - y.1).toNat) (1, x :: (zI n.toNat).drop 1) ?_ ?_
  · have e1 : min 1 (n.toNat) = 1 := by omega
    refine ⟨rfl, rfl, ?_, by simp, by simp only; omega, by simp [zI]; omega, by simp⟩
    simp [upd, e1]
  rintro ⟨k, xs⟩ ⟨ρ, m⟩ ⟨m30, h7, h8, g0, g1, g3, g4⟩
  simp only at m30 h7 h8 g0 g1 g3 g4
  have Fz:=fz6 Tryz.results76 m30 h7 h8 @llt g3
  repeat'(first|exact trivial|refine go1 ?_|(refine go2 ?_ ?_<;>intro _<;>try(exfalso;omega))|(refine go4 ?_;split<;>(try(exfalso;omega);try refine go3 ?_)))
  · refine ⟨by omega, by omega, by simp [g3]; omega, ?_, by omega⟩
    have e1 : min k.toNat n.toNat = k.toNat := by omega
    rw [e1, g4, List.take_replicate]
    have e2 : min (n.toNat - k.toNat) k.toNat = min k.toNat (n.toNat - k.toNat) := Nat.min_comm ..
    rw [List.replicate_append_replicate, e2]
    have e3 : (k + ((min k.toNat (n.toNat - k.toNat) : Nat) : Int)).toNat = k.toNat + min k.toNat (n.toNat - k.toNat) := by omega
    rw [e3]
    exact List.take_left' (by simp)
  · have : k.toNat = n.toNat := by omega
    rw [this, take_all (by omega)] at g4
    rw [g4]
theorem getD_len_append (a b : List Int) (x : Int) : (a ++ x :: b).getD a.length 0 = x := by simp
theorem c_far (n t : Int) (es : List (Int × Int)) (h : VG n es) (ht : 0 ≤ t ∧ t < n) : KP 60 [GL n es, I t] [] = some (.ref 2000 0 0 (dstL n es t).length, [], [.arr 0 1 ((dstL n es t).map encI)]) := by
  have hl := h.okg.len
  have hn16 := h.2.1
  have ho := h.okg.ok
  obtain ⟨hi1, hi2⟩ := Bfs.init (es := es) ht
  refine xw_call (fn := Tryz.f60) rfl Tryz.func60 rfl ⟨Nat.le_of_ble_eq_true rfl, rfl, rfl⟩ ?_
  have Fz:=fz2 Tryz.results60 @llr
  repeat'(first|exact trivial|refine go1 ?_|(refine go2 ?_ ?_<;>intro _<;>try(exfalso;omega))|(refine go4 ?_;split<;>(try(exfalso;omega);try refine go3 ?_)))
  refine xw_loopR (fun (y : Nat × List Int × List Int × List Int) s => s.m 3104 = some (.arr 0 1 (y.2.2.2.map encI)) ∧ s.ρ 5 = .ref 3104 0 0 n.toNat ∧ s.m 18 = some (.arr y.1 1 ((y.2.1 ++ y.2.2.1).map encI)) ∧ s.ρ 6 = .ref 18 y.1 y.2.1.length y.2.2.1.length ∧
    s.ρ 2 = .ptr 2 0 0 0 ∧ s.m 2 = some (.box 0 [I n, LE es]) ∧ Bfs n es t y.2.2.2 y.2.2.1 ∧ Done n es y.2.2.2 (· ∈ y.2.2.1) ∧ y.2.1.length + y.2.2.1.length ≤ 1048576 ∧ y.2.1.length + y.2.2.1.length + und y.2.2.2 ≤ 100)
    (fun y => y.2.2.1.length + und y.2.2.2) (0, [], [t], (List.replicate n.toNat (-1)).set t.toNat 0) ?_ ?_
  · have hu : und ((List.replicate n.toNat (-1)).set t.toNat 0) ≤ n.toNat := by
      unfold und
      exact Nat.le_trans (List.length_filter_le _ _) (by simp)
    exact ⟨rfl, rfl, rfl, rfl, rfl, rfl, hi1, hi2, by simp, by simp only [List.length_nil, List.length_cons]; omega⟩
  rintro ⟨w, pre, q, out⟩ ⟨ρ, m⟩ ⟨m1, h5, m18, h6, h2, m2, g0, g1, g2, g3⟩
  simp only at m1 h5 m18 h6 h2 m2 g0 g1 g2 g3
  cases q with
  | nil =>
    have Fz:=fz7 Tryz.results60 m1 h5 m18 h6 h2 m2
    repeat'(first|exact trivial|refine go1 ?_|(refine go2 ?_ ?_<;>intro _<;>try(exfalso;omega))|(refine go4 ?_;split<;>(try(exfalso;omega);try refine go3 ?_)))
    rw [g0.end ho g1]
    exact ⟨dstL_length.symm, rfl⟩
  | cons a q =>
    have hg := getD_len_append pre q a
    have hat := BfsAt.start g0 g1
    have hnb := c_neighbors n a es (by omega)
    have hlen := g0.len
    have ha := g0.que a (by simp)
    have hnbl : (nbS a es).length ≤ 40 := by have := alone_length a es; omega
    simp only [List.length_cons] at h6 g2 g3
    have Fz:=fz9 Tryz.results60 m1 h5 m18 h6 h2 m2 hg hnb
    repeat'(first|exact trivial|refine go1 ?_|(refine go2 ?_ ?_<;>intro _<;>try(exfalso;omega))|(refine go4 ?_;split<;>(try(exfalso;omega);try refine go3 ?_)))
    refine xw_loopR (fun (y : Int × Nat × List Int × List Int × List Int) s => s.m 3104 = some (.arr 0 1 (y.2.2.2.2.map encI)) ∧ s.ρ 5 = .ref 3104 0 0 n.toNat ∧ s.m 18 = some (.arr y.2.1 1 ((y.2.2.1 ++ y.2.2.2.1).map encI)) ∧ s.ρ 6 = .ref 18 y.2.1 y.2.2.1.length y.2.2.2.1.length ∧
      s.ρ 2 = .ptr 2 0 0 0 ∧ s.m 2 = some (.box 0 [I n, LE es]) ∧ s.ρ 29 = LI (nbS a es) ∧ s.ρ 30 = I (nbS a es).length ∧ s.ρ 31 = I y.1 ∧ s.ρ 7 = I a ∧ 0 ≤ y.1 ∧ y.1 ≤ (nbS a es).length ∧ BfsAt n es t a y.1.toNat y.2.2.2.2 y.2.2.2.1 ∧
      y.2.2.1.length + y.2.2.2.1.length ≤ 1048576 ∧ y.2.2.1.length + y.2.2.2.1.length + und y.2.2.2.2 ≤ 100 ∧ y.2.2.2.1.length + und y.2.2.2.2 = q.length + und out)
      (fun y => ((nbS a es).length - y.1).toNat) (0, w, pre ++ [a], q, out) ?_ ?_
    · refine ⟨by simp [upd, m1], by simp [upd, h5], by simp [upd, m18], by simp [upd], by simp [upd, h2], by simp [upd, m2], by simp [upd], by simp [upd], by simp [upd], by simp [upd], by simp, by simp, hat, ?_, ?_, rfl⟩
      · simp only [List.length_append, List.length_cons, List.length_nil]; omega
      · simp only [List.length_append, List.length_cons, List.length_nil]; omega
    rintro ⟨i, w', pr, q', ou⟩ ⟨ρ, m⟩ ⟨m1, h5, m18, h6, h2, m2, h29, h30, h31, h7, f0, f1, f2, f3, f4, f5⟩
    simp only at m1 h5 m18 h6 h2 m2 h29 h30 h31 h7 f0 f1 f2 f3 f4 f5
    have hol := f2.bfs.len
    by_cases hj : i < (nbS a es).length
    · have hadj := (mem_nbS ho).1 (getD_mem (d := 0) (show i.toNat < (nbS a es).length by omega))
      have hok := hadj.ok ho
      have hlow := f2.bfs.low _ hok.2.2.1 hok.2.2.2.1
      have hga := f2.hn a ha.1 ha.2.1
      have hge : 0 ≤ ou.getD a.toNat 0 := f2.a0.2.2
      have hgu : ou.getD a.toNat 0 + und ou ≤ n - 1 := f2.bfs.top a ha.1 ha.2.1
      have hi1' : (i + 1).toNat = i.toNat + 1 := by omega
      have Fz:=fz11 Tryz.results60 m1 h5 m18 h6 h2 m2 h29 h30 h31 h7
      repeat'(first|exact trivial|refine go1 ?_|(refine go2 ?_ ?_<;>intro _<;>try(exfalso;omega))|(refine go4 ?_;split<;>(try(exfalso;omega);try refine go3 ?_)))
      · have hx : gI ou ((nbS a es).getD i.toNat 0) < 0 := by assumption
        obtain ⟨k1, k2⟩ := f2.find ho (by omega) hx
        have k3 : und (ou.set ((nbS a es).getD i.toNat 0).toNat (ou.getD a.toNat 0 + 1)) + 1 = und ou := k2
        refine ⟨i + 1, [], q' ++ [(nbS a es).getD i.toNat 0], by simp, rfl, by simp, rfl, by omega, by omega, by rw [hi1']; exact k1, ?_, ?_, ?_, by omega⟩
        all_goals simp only [List.length_append, List.length_cons, List.length_nil]
        all_goals omega
      · have hx : 0 ≤ gI ou ((nbS a es).getD i.toNat 0) := by unfold gI; omega
        exact ⟨i + 1, pr, q', rfl, rfl, rfl, rfl, by omega, by omega, by rw [hi1']; exact f2.skip ho (by omega) hx, by omega, by omega, by omega, by omega⟩
    · have Fz:=fz11 Tryz.results60 m1 h5 m18 h6 h2 m2 h29 h30 h31 h7
      repeat'(first|exact trivial|refine go1 ?_|(refine go2 ?_ ?_<;>intro _<;>try(exfalso;omega))|(refine go4 ?_;split<;>(try(exfalso;omega);try refine go3 ?_)))
      obtain ⟨k1, k2⟩ := f2.stop ho (by omega)
      exact ⟨pr, q', rfl, rfl, rfl, k1, k2, by omega, by omega, by omega⟩
end Go.Proofs.YtdlfdoicheakoaaGreat.X
