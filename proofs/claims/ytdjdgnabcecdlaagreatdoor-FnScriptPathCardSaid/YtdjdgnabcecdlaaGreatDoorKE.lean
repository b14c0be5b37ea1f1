/- Graphs and paths. -/
import Derived.Test.YtdjdgnabcecdlaaGreatDoorKD
/- Distances by a search in breadth: plain law. -/
set_option linter.unusedVariables false
namespace Go.Proofs.YtdjdgnabcecdlaaGreatDoor.X
open Go
/-- The value at a node. -/
abbrev gI (l : List Int) (x : Int) : Int := l.getD x.toNat 0
theorem gI_set {l : List Int} {x y v : Int} (hx : 0 ≤ x) (hy : 0 ≤ y) (h : y < l.length) : gI (l.set x.toNat v) y = if x = y then v else gI l y := by
  unfold gI
  rw [getD_set (by omega)]
  by_cases e : x = y
  · subst e; simp
  · rw [if_neg (by omega), if_neg e]
/-- How many nodes are not found yet. -/
def und (out : List Int) : Nat := (out.filter fun d => decide (d < 0)).length
theorem und_set {out : List Int} {i : Nat} {v : Int} (h : i < out.length) (h1 : out.getD i 0 < 0) (h2 : 0 ≤ v) : und (out.set i v) + 1 = und out := by
  unfold und
  induction out generalizing i with
  | nil => simp at h
  | cons d out ih =>
    cases i with
    | zero =>
      simp only [List.getD_cons_zero] at h1
      simp only [List.set_cons_zero, List.filter_cons, decide_eq_true_eq]
      rw [if_neg (by omega), if_pos h1]; simp
    | succ i =>
      have := ih (i := i) (by simpa using h) (by simpa using h1)
      simp only [List.set_cons_succ, List.filter_cons, decide_eq_true_eq]
      split <;> (try simp only [List.length_cons]) <;> omega
/-- A search in breadth from a node: what is found, what is to be looked at. -/
structure Bfs (n : Int) (es : List (Int × Int)) (t : Int) (out q : List Int) : Prop where
  len : out.length = n.toNat
  t0 : 0 ≤ t ∧ t < n
  src : gI out t = 0
  low : ∀ x, 0 ≤ x → x < n → -1 ≤ gI out x
  reach : ∀ x, 0 ≤ x → x < n → 0 ≤ gI out x → Rk es t (gI out x).toNat x
  que : ∀ x ∈ q, 0 ≤ x ∧ x < n ∧ 0 ≤ gI out x
  sorted : q.Pairwise fun a b => gI out a ≤ gI out b
  near : ∀ a ∈ q, ∀ x, 0 ≤ x → x < n → gI out x ≤ gI out a + 1
  top : ∀ x, 0 ≤ x → x < n → gI out x + und out ≤ n - 1
/-- All but some nodes have been looked at. -/
def Done (n : Int) (es : List (Int × Int)) (out : List Int) (ex : Int → Prop) : Prop := ∀ x, 0 ≤ x → x < n → 0 ≤ gI out x → ¬ ex x → ∀ y, Adj es x y → 0 ≤ gI out y ∧ gI out y ≤ gI out x + 1
theorem rep_get {n : Int} {x : Int} (h0 : 0 ≤ x) (h1 : x < n) : gI (List.replicate n.toNat (-1)) x = -1 := by
  have : x.toNat < n.toNat := by omega
  simp [gI, this]
theorem Bfs.init {n : Int} {es : List (Int × Int)} {t : Int} (ht : 0 ≤ t ∧ t < n) : Bfs n es t ((List.replicate n.toNat (-1)).set t.toNat 0) [t] ∧ Done n es ((List.replicate n.toNat (-1)).set t.toNat 0) (· ∈ [t]) := by
  have hg : ∀ x, 0 ≤ x → x < n → gI ((List.replicate n.toNat (-1)).set t.toNat 0) x = if t = x then 0 else -1 := fun x h0 h1 => by
    rw [gI_set ht.1 h0 (by simp; omega), rep_get h0 h1]
  refine ⟨⟨by simp, ht, by rw [hg t ht.1 ht.2]; simp, fun x h0 h1 => by rw [hg x h0 h1]; split <;> omega, fun x h0 h1 h => ?_, fun x hx => ?_, by simp, fun a ha x h0 h1 => ?_, fun x h0 h1 => ?_⟩, fun x h0 h1 h hx => ?_⟩
  · rw [hg x h0 h1] at h ⊢
    split at h
    · rename_i e; subst e; rw [if_pos rfl]; exact rfl
    · omega
  · rw [List.mem_singleton.1 hx, hg t ht.1 ht.2]; simp; omega
  · rw [List.mem_singleton.1 ha, hg t ht.1 ht.2, hg x h0 h1]; split <;> simp
  · have hu := und_set (out := List.replicate n.toNat (-1)) (i := t.toNat) (v := 0) (by simp; omega) (by have := rep_get ht.1 ht.2; unfold gI at this; omega) (by omega)
    have hr : und (List.replicate n.toNat (-1)) = n.toNat := by simp [und]
    rw [hg x h0 h1]
    split <;> omega
  · rw [hg x h0 h1] at h
    split at h
    · rename_i e; subst e; exact absurd (List.mem_singleton.2 rfl) hx
    · omega
/-- One more node is found. -/
theorem Bfs.find {n : Int} {es : List (Int × Int)} {t : Int} {out q : List Int} {a x : Int} (ho : ∀ e ∈ es, okE n e) (h : Bfs n es t out q) (ha : 0 ≤ a ∧ a < n) (ha0 : 0 ≤ gI out a) (hq : ∀ y ∈ q, gI out a ≤ gI out y)
    (hn : ∀ y, 0 ≤ y → y < n → gI out y ≤ gI out a + 1) (hadj : Adj es a x) (hx : gI out x < 0) :
    Bfs n es t (out.set x.toNat (gI out a + 1)) (q ++ [x]) ∧ und (out.set x.toNat (gI out a + 1)) + 1 = und out := by
  have hok := hadj.ok ho
  have hxl : x < (out.length : Int) := by rw [h.len]; omega
  have hg : ∀ y, 0 ≤ y → y < n → gI (out.set x.toNat (gI out a + 1)) y = if x = y then gI out a + 1 else gI out y := fun y h0 h1 => gI_set (by omega) h0 (by rw [h.len]; omega)
  have hxt : x ≠ t := fun e => by rw [e, h.src] at hx; omega
  refine ⟨⟨by simp [h.len], h.t0, by rw [hg t h.t0.1 h.t0.2, if_neg hxt]; exact h.src, fun y h0 h1 => ?_, fun y h0 h1 hy => ?_, fun y hy => ?_, ?_, fun b hb y h0 h1 => ?_, fun y h0 h1 => ?_⟩, und_set (by omega) hx (by omega)⟩
  · rw [hg y h0 h1]; have := h.low y h0 h1; split <;> omega
  · rw [hg y h0 h1] at hy ⊢
    split
    · rename_i e; subst e
      rw [show (gI out a + 1).toNat = (gI out a).toNat + 1 by omega]
      exact .inr ⟨a, h.reach a ha.1 ha.2 ha0, hadj⟩
    · rename_i e; rw [if_neg e] at hy; exact h.reach y h0 h1 hy
  · rcases List.mem_append.1 hy with hy | hy
    · have := h.que y hy
      refine ⟨this.1, this.2.1, ?_⟩
      rw [hg y this.1 this.2.1]; split <;> omega
    · rw [List.mem_singleton.1 hy, hg x (by omega) (by omega), if_pos rfl]; omega
  · rw [List.pairwise_append]
    refine ⟨?_, by simp, fun b hb c hc => ?_⟩
    · refine List.Pairwise.imp_of_mem (fun {b c} hb hc hbc => ?_) h.sorted
      have hb' := h.que b hb
      have hc' := h.que c hc
      have nb : x ≠ b := fun e => by rw [← e] at hb'; omega
      have nc : x ≠ c := fun e => by rw [← e] at hc'; omega
      rw [hg b hb'.1 hb'.2.1, hg c hc'.1 hc'.2.1, if_neg nb, if_neg nc]; exact hbc
    · have hb' := h.que b hb
      have nb : x ≠ b := fun e => by rw [← e] at hb'; omega
      rw [List.mem_singleton.1 hc, hg b hb'.1 hb'.2.1, hg x (by omega) (by omega), if_neg nb, if_pos rfl]
      exact hn b hb'.1 hb'.2.1
  · have key : ∀ z, 0 ≤ z → z < n → gI (out.set x.toNat (gI out a + 1)) z ≤ gI out a + 1 := fun z h0 h1 => by
      rw [hg z h0 h1]; have := hn z h0 h1; split <;> omega
    have hb2 : gI out a ≤ gI (out.set x.toNat (gI out a + 1)) b := by
      rcases List.mem_append.1 hb with hb | hb
      · have hb' := h.que b hb
        rw [hg b hb'.1 hb'.2.1]; have := hq b hb; split <;> omega
      · rw [List.mem_singleton.1 hb, hg x (by omega) (by omega), if_pos rfl]; omega
    have := key y h0 h1
    omega
  · have hu := und_set (v := gI out a + 1) (show x.toNat < out.length by omega) hx (by omega)
    rw [hg y h0 h1]
    have h1' := h.top a ha.1 ha.2
    have h2' := h.top y h0 h1
    split <;> omega
/-- What is found stays found, and as it was. -/
theorem found_set {n : Int} {out : List Int} {x v : Int} (hl : out.length = n.toNat) (hx0 : 0 ≤ x) (hx : gI out x < 0) {y : Int} (h0 : 0 ≤ y) (h1 : y < n) (hy : 0 ≤ gI out y) : gI (out.set x.toNat v) y = gI out y := by
  rw [gI_set hx0 h0 (by omega), if_neg fun e => by rw [e] at hx; omega]
/-- While the neighbors of a node are looked at. -/
structure BfsAt (n : Int) (es : List (Int × Int)) (t a : Int) (i : Nat) (out q : List Int) : Prop where
  bfs : Bfs n es t out q
  a0 : 0 ≤ a ∧ a < n ∧ 0 ≤ gI out a
  hq : ∀ y ∈ q, gI out a ≤ gI out y
  hn : ∀ y, 0 ≤ y → y < n → gI out y ≤ gI out a + 1
  done : Done n es out (fun x => x ∈ q ∨ x = a)
  seen : ∀ y ∈ (nbS a es).take i, 0 ≤ gI out y ∧ gI out y ≤ gI out a + 1
theorem BfsAt.start {n : Int} {es : List (Int × Int)} {t a : Int} {out q : List Int} (h : Bfs n es t out (a :: q)) (hd : Done n es out (· ∈ a :: q)) : BfsAt n es t a 0 out q := by
  have ha := h.que a (by simp)
  have hs := h.sorted
  rw [List.pairwise_cons] at hs
  refine ⟨⟨h.len, h.t0, h.src, h.low, h.reach, fun x hx => h.que x (by simp [hx]), hs.2, fun b hb => h.near b (by simp [hb]), h.top⟩, ha, hs.1, fun y => h.near a (by simp) y, fun x h0 h1 hx hex => hd x h0 h1 hx fun hm => hex ?_, by simp⟩
  rcases List.mem_cons.1 hm with e | e
  · exact .inr e
  · exact .inl e
theorem BfsAt.find {n : Int} {es : List (Int × Int)} {t a : Int} {i : Nat} {out q : List Int} (ho : ∀ e ∈ es, okE n e) (h : BfsAt n es t a i out q) (hi : i < (nbS a es).length) (hx : gI out ((nbS a es).getD i 0) < 0) :
    BfsAt n es t a (i + 1) (out.set ((nbS a es).getD i 0).toNat (gI out a + 1)) (q ++ [(nbS a es).getD i 0]) ∧ und (out.set ((nbS a es).getD i 0).toNat (gI out a + 1)) + 1 = und out := by
  have hadj := (mem_nbS ho).1 (getD_mem (d := 0) hi)
  have htk : (nbS a es).take (i + 1) = (nbS a es).take i ++ [(nbS a es).getD i 0] := by rw [List.take_add_one]; simp [hi]
  generalize (nbS a es).getD i 0 = x at *
  have hok := hadj.ok ho
  obtain ⟨h1, h2⟩ := h.bfs.find ho ⟨h.a0.1, h.a0.2.1⟩ h.a0.2.2 h.hq h.hn hadj hx
  have hkeep : ∀ y, 0 ≤ y → y < n → 0 ≤ gI out y → gI (out.set x.toNat (gI out a + 1)) y = gI out y := fun y g0 g1 g2 => found_set h.bfs.len (by omega) hx g0 g1 g2
  have hnew : gI (out.set x.toNat (gI out a + 1)) x = gI out a + 1 := by rw [gI_set (by omega) (by omega) (by have := h.bfs.len; omega), if_pos rfl]
  have hany : ∀ y, 0 ≤ y → y < n → gI (out.set x.toNat (gI out a + 1)) y = if x = y then gI out a + 1 else gI out y := fun y g0 g1 => gI_set (by omega) g0 (by have := h.bfs.len; omega)
  have ha := hkeep a h.a0.1 h.a0.2.1 h.a0.2.2
  refine ⟨⟨h1, ⟨h.a0.1, h.a0.2.1, by rw [ha]; exact h.a0.2.2⟩, fun y hy => ?_, fun y g0 g1 => ?_, fun z g0 g1 hz hex y hy => ?_, fun y hy => ?_⟩, h2⟩
  · rw [ha]
    rcases List.mem_append.1 hy with hy | hy
    · have := h.bfs.que y hy
      rw [hkeep y this.1 this.2.1 this.2.2]; exact h.hq y hy
    · rw [List.mem_singleton.1 hy, hnew]; omega
  · rw [ha, hany y g0 g1]
    have := h.hn y g0 g1
    split <;> omega
  · have hzx : x ≠ z := fun e => hex (.inl (by simp [e]))
    rw [hany z g0 g1, if_neg hzx] at hz ⊢
    have := h.done z g0 g1 hz (fun h' => hex (h'.elim (fun h' => .inl (by simp [h'])) .inr)) y hy
    have hyk := hy.ok ho
    rw [hkeep y (by omega) (by omega) this.1]
    exact this
  · rw [ha]
    rw [htk] at hy
    rcases List.mem_append.1 hy with hy | hy
    · have := h.seen y hy
      have hyk := ((mem_nbS ho).1 (List.mem_of_mem_take hy)).ok ho
      rw [hkeep y (by omega) (by omega) this.1]; exact this
    · rw [List.mem_singleton.1 hy, hnew]; have := h.a0.2.2; omega
theorem BfsAt.skip {n : Int} {es : List (Int × Int)} {t a : Int} {i : Nat} {out q : List Int} (ho : ∀ e ∈ es, okE n e) (h : BfsAt n es t a i out q) (hi : i < (nbS a es).length) (hx : 0 ≤ gI out ((nbS a es).getD i 0)) : BfsAt n es t a (i + 1) out q := by
  have hadj := (mem_nbS ho).1 (getD_mem (d := 0) hi)
  have hok := hadj.ok ho
  refine ⟨h.bfs, h.a0, h.hq, h.hn, h.done, fun y hy => ?_⟩
  have htk : (nbS a es).take (i + 1) = (nbS a es).take i ++ [(nbS a es).getD i 0] := by rw [List.take_add_one]; simp [hi]
  rw [htk] at hy
  rcases List.mem_append.1 hy with hy | hy
  · exact h.seen y hy
  · rw [List.mem_singleton.1 hy]; exact ⟨hx, h.hn _ (by omega) (by omega)⟩
theorem BfsAt.stop {n : Int} {es : List (Int × Int)} {t a : Int} {i : Nat} {out q : List Int} (ho : ∀ e ∈ es, okE n e) (h : BfsAt n es t a i out q) (hi : (nbS a es).length ≤ i) : Bfs n es t out q ∧ Done n es out (· ∈ q) := by
  refine ⟨h.bfs, fun x h0 h1 hx hex y hy => ?_⟩
  by_cases hxa : x = a
  · subst hxa
    have := h.seen y (by rw [take_all hi]; exact (mem_nbS ho).2 hy)
    exact this
  · exact h.done x h0 h1 hx (fun h' => h'.elim hex hxa) y hy
open Classical in
/-- The distance from a node, or -1. -/
noncomputable def dst (n : Int) (es : List (Int × Int)) (t x : Int) : Int := if Conn es t x then (((List.range (n.toNat + 1)).find? fun k => decide (Rk es t k x)).getD 0 : Nat) else -1
open Classical in
theorem dst_eq {n : Int} {es : List (Int × Int)} {t x : Int} {k : Nat} (hk : Rk es t k x) (hm : ∀ j, Rk es t j x → k ≤ j) (ho : ∀ e ∈ es, okE n e) (hn : 0 ≤ n) : dst n es t x = k := by
  unfold dst
  rw [if_pos hk.conn]
  have ho' : ∀ e ∈ es, okE ((n.toNat : Nat) : Int) e := fun e he => by have := ho e he; unfold okE at this ⊢; omega
  have hle := hm _ (Rk.all ho' hk.conn)
  have : (List.range (n.toNat + 1)).find? (fun k => decide (Rk es t k x)) = some k := by
    rw [List.find?_range_eq_some]
    refine ⟨by simpa using hk, List.mem_range.2 (by omega), fun j hj => ?_⟩
    have : ¬ Rk es t j x := fun h => by have := hm j h; omega
    simp [this]
  rw [this]; rfl
open Classical in
theorem dst_spec {n : Int} {es : List (Int × Int)} {t x : Int} (ho : ∀ e ∈ es, okE n e) (hc : Conn es t x) : 0 ≤ dst n es t x ∧ Rk es t (dst n es t x).toNat x ∧ ∀ j, Rk es t j x → dst n es t x ≤ j := by
  unfold dst
  rw [if_pos hc]
  have ho' : ∀ e ∈ es, okE ((n.toNat : Nat) : Int) e := fun e he => by have := ho e he; unfold okE at this ⊢; omega
  have hall := Rk.all ho' hc
  cases hf : (List.range (n.toNat + 1)).find? (fun k => decide (Rk es t k x)) with
  | none =>
    rw [List.find?_eq_none] at hf
    exact absurd hall (by simpa using hf n.toNat (by simp))
  | some k =>
    rw [List.find?_range_eq_some] at hf
    obtain ⟨h1, h2, h3⟩ := hf
    refine ⟨by omega, by simpa using h1, fun j hj => ?_⟩
    simp only [Option.getD_some]
    refine Int.ofNat_le.2 (Nat.le_of_not_lt fun hlt => ?_)
    have := h3 j hlt
    simp [hj] at this
noncomputable def dstL (n : Int) (es : List (Int × Int)) (t : Int) : List Int := (iota n).map fun x => dst n es t x
theorem dstL_get {n : Int} {es : List (Int × Int)} {t x : Int} (h0 : 0 ≤ x) (h1 : x < n) : gI (dstL n es t) x = dst n es t x := by
  unfold gI dstL iota
  have : x.toNat < n.toNat := by omega
  simp [this, Int.toNat_of_nonneg h0]
theorem dstL_length {n : Int} {es : List (Int × Int)} {t : Int} : (dstL n es t).length = n.toNat := by simp [dstL, iota]
theorem list_gI {l r : List Int} {n : Int} (hl : l.length = n.toNat) (hr : r.length = n.toNat) (h : ∀ x, 0 ≤ x → x < n → gI l x = gI r x) : l = r := by
  refine List.ext_getElem (by omega) fun i h1 h2 => ?_
  have := h (i : Int) (by omega) (by omega)
  unfold gI at this
  simpa [h1, h2] using this
/-- When nothing is left to be looked at, the distances are found. -/
theorem Bfs.end {n : Int} {es : List (Int × Int)} {t : Int} {out : List Int} (ho : ∀ e ∈ es, okE n e) (h : Bfs n es t out []) (hd : Done n es out (· ∈ ([] : List Int))) : out = dstL n es t := by
  have key : ∀ (k : Nat) (x : Int), Rk es t k x → 0 ≤ x ∧ x < n ∧ 0 ≤ gI out x ∧ gI out x ≤ k := by
    intro k
    induction k with
    | zero => intro x hx; cases hx; exact ⟨h.t0.1, h.t0.2, by rw [h.src]; omega, by rw [h.src]; omega⟩
    | succ k ih =>
      intro x hx
      rcases hx with hx | ⟨z, hz, ha⟩
      · have := ih x hx; omega
      · have h1 := ih z hz
        have h2 := hd z h1.1 h1.2.1 h1.2.2.1 (by simp) x ha
        have h3 := ha.ok ho
        omega
  refine list_gI h.len dstL_length fun x h0 h1 => ?_
  rw [dstL_get h0 h1]
  by_cases hx : 0 ≤ gI out x
  · have hr := h.reach x h0 h1 hx
    rw [dst_eq hr (fun j hj => by have := (key j x hj).2.2.2; omega) ho (by have := h.t0; omega)]
    omega
  · have hlow := h.low x h0 h1
    have : ¬ Conn es t x := fun hc => by
      have ho' : ∀ e ∈ es, okE ((n.toNat : Nat) : Int) e := fun e he => by have := ho e he; unfold okE at this ⊢; omega
      have := (key _ x (Rk.all ho' hc)).2.2.1
      omega
    unfold dst
    rw [if_neg this]; omega
def nxtN (es : List (Int × Int)) (far : List Int) (x : Int) : Int := ((nbS x es).find? fun y => decide (gI far y = gI far x - 1)).getD x
def gpath (es : List (Int × Int)) (far : List Int) : Nat → Int → List Int
  | 0, x => [x]
  | k + 1, x => x :: gpath es far k (nxtN es far x)
noncomputable def pathL (n : Int) (es : List (Int × Int)) (x y : Int) : List Int := gpath es (dstL n es y) (dst n es y x).toNat x
theorem find_at {l : List Int} {p : Int → Bool} {i : Nat} (h : i < l.length) (hp : p (l.getD i 0) = true) (hn : ∀ e ∈ l.take i, p e = false) : l.find? p = some (l.getD i 0) := by
  rw [List.find?_eq_some_iff_append]
  have e1 : l.getD i 0 = l[i] := by simp [h]
  refine ⟨hp, l.take i, l.drop (i + 1), ?_, fun a ha => by simpa using hn a ha⟩
  rw [e1, List.getElem_cons_drop, List.take_append_drop]
theorem dst_self {n : Int} {es : List (Int × Int)} {t : Int} (ho : ∀ e ∈ es, okE n e) (hn : 0 ≤ n) : dst n es t t = 0 := dst_eq (k := 0) rfl (fun _ _ => Nat.zero_le _) ho hn
theorem dst_zero {n : Int} {es : List (Int × Int)} {t x : Int} (ho : ∀ e ∈ es, okE n e) (hc : Conn es t x) (h : dst n es t x = 0) : x = t := by
  have := (dst_spec ho hc).2.1
  rw [h] at this
  exact this
/-- From a node one comes one step nearer. -/
theorem dst_near {n : Int} {es : List (Int × Int)} {t x : Int} (ho : ∀ e ∈ es, okE n e) (hn : 0 ≤ n) (hc : Conn es t x) (h : dst n es t x ≠ 0) : ∃ z, Adj es x z ∧ dst n es t z = dst n es t x - 1 := by
  obtain ⟨h0, h1, h2⟩ := dst_spec ho hc
  obtain ⟨k, hk⟩ : ∃ k : Nat, (dst n es t x).toNat = k + 1 := ⟨(dst n es t x).toNat - 1, by omega⟩
  rw [hk] at h1
  rcases h1 with h1 | ⟨z, hz, ha⟩
  · have := h2 k h1; omega
  · refine ⟨z, ha.symm, ?_⟩
    rw [dst_eq hz (fun j hj => ?_) ho hn]
    · omega
    · have := h2 (j + 1) (.inr ⟨z, hj, ha⟩); omega
theorem nxtN_spec {n : Int} {es : List (Int × Int)} {t x : Int} (ho : ∀ e ∈ es, okE n e) (hn : 0 ≤ n) (hc : Conn es t x) (h : dst n es t x ≠ 0) :
    nxtN es (dstL n es t) x ∈ nbS x es ∧ dst n es t (nxtN es (dstL n es t) x) = dst n es t x - 1 ∧ (∀ z, (nbS x es).find? (fun y => decide (gI (dstL n es t) y = gI (dstL n es t) x - 1)) = some z → nxtN es (dstL n es t) x = z) ∧
      ∃ z, (nbS x es).find? (fun y => decide (gI (dstL n es t) y = gI (dstL n es t) x - 1)) = some z := by
  obtain ⟨z, ha, hz⟩ := dst_near ho hn hc h
  have hzm := (mem_nbS ho).2 ha
  have hok := ha.ok ho
  cases hf : (nbS x es).find? (fun y => decide (gI (dstL n es t) y = gI (dstL n es t) x - 1)) with
  | none =>
    rw [List.find?_eq_none] at hf
    exact absurd (show gI (dstL n es t) z = gI (dstL n es t) x - 1 by rw [dstL_get (by omega) (by omega), dstL_get (by omega) (by omega), hz]) (by simpa using hf z hzm)
  | some u =>
    have hu := List.mem_of_find?_eq_some hf
    have hp := List.find?_some hf
    simp only [decide_eq_true_eq] at hp
    have hok' := ((mem_nbS ho).1 hu).ok ho
    rw [dstL_get (by omega) (by omega), dstL_get (by omega) (by omega)] at hp
    have hnx : nxtN es (dstL n es t) x = u := by unfold nxtN; rw [hf]; rfl
    rw [hnx]
    exact ⟨hu, hp, fun z hz => Option.some.inj hz, u, rfl⟩
end Go.Proofs.YtdjdgnabcecdlaaGreatDoor.X

/- Shortest paths: plain law. -/
set_option linter.unusedVariables false
namespace Go.Proofs.YtdjdgnabcecdlaaGreatDoor.X
open Go
theorem Rk.one {es : List (Int × Int)} {x y : Int} (h : Adj es x y) : Rk es x 1 y := .inr ⟨x, rfl, h⟩
theorem Rk.comp {es : List (Int × Int)} {x y : Int} {j : Nat} (h : Rk es x j y) : ∀ (k : Nat) {z : Int}, Rk es y k z → Rk es x (j + k) z
  | 0, z, hk => by cases hk; exact h
  | k + 1, z, hk => by
    rcases hk with hk | ⟨w, hw, ha⟩
    · exact .inl (Rk.comp h k hk)
    · exact .inr ⟨w, Rk.comp h k hw, ha⟩
theorem Rk.symm {es : List (Int × Int)} {x : Int} : ∀ (k : Nat) {y : Int}, Rk es x k y → Rk es y k x
  | 0, y, h => by cases h; rfl
  | k + 1, y, h => by
    rcases h with h | ⟨z, h, a⟩
    · exact .inl (Rk.symm k h)
    · have := (Rk.one a.symm).comp k (Rk.symm k h)
      rwa [Nat.add_comm 1 k] at this
theorem gpath_len (es : List (Int × Int)) (far : List Int) : ∀ (k : Nat) (x : Int), (gpath es far k x).length = k + 1
  | 0, _ => rfl
  | k + 1, x => by rw [gpath, List.length_cons, gpath_len es far k]
theorem pathL_len {n : Int} {es : List (Int × Int)} {x y : Int} : (pathL n es x y).length = (dst n es y x).toNat + 1 := gpath_len _ _ _ _
/-- What stands at each place of a path. -/
theorem gpath_at {n : Int} {es : List (Int × Int)} {t : Int} (ho : ∀ e ∈ es, okE n e) (hn : 0 ≤ n) : ∀ (k : Nat) {x : Int}, Conn es t x → dst n es t x = k →
    ∀ i : Nat, i ≤ k → Conn es t ((gpath es (dstL n es t) k x).getD i 0) ∧ dst n es t ((gpath es (dstL n es t) k x).getD i 0) = k - i ∧
      (i < k → Adj es ((gpath es (dstL n es t) k x).getD i 0) ((gpath es (dstL n es t) k x).getD (i + 1) 0))
  | 0, x, hc, hd, i, hi => by
    obtain rfl : i = 0 := by omega
    exact ⟨hc, by simpa [gpath] using hd, fun h => by omega⟩
  | k + 1, x, hc, hd, i, hi => by
    obtain ⟨s1, s2, -, -⟩ := nxtN_spec ho hn hc (by omega)
    have ha := (mem_nbS ho).1 s1
    have ih := gpath_at ho hn k (hc.step ha) (by omega)
    cases i with
    | zero =>
      refine ⟨by simpa [gpath] using hc, by simp only [gpath, List.getD_cons_zero]; omega, fun _ => ?_⟩
      have e : ∀ x, (gpath es (dstL n es t) k x).getD 0 0 = x := fun x => by cases k <;> rfl
      simp only [gpath, List.getD_cons_zero, List.getD_cons_succ, e]
      exact ha
    | succ i =>
      obtain ⟨i1, i2, i3⟩ := ih i (by omega)
      simp only [gpath, List.getD_cons_succ]
      exact ⟨i1, by omega, fun h => i3 (by omega)⟩
theorem pathL_at {n : Int} {es : List (Int × Int)} {x y : Int} (ho : ∀ e ∈ es, okE n e) (hn : 0 ≤ n) (hc : Conn es x y) {i : Nat} (hi : i < (pathL n es x y).length) :
    Conn es y ((pathL n es x y).getD i 0) ∧ dst n es y ((pathL n es x y).getD i 0) = dst n es y x - i ∧
      (i + 1 < (pathL n es x y).length → Adj es ((pathL n es x y).getD i 0) ((pathL n es x y).getD (i + 1) 0)) := by
  have h0 := (dst_spec ho hc.symm).1
  rw [pathL_len] at hi ⊢
  obtain ⟨h1, h2, h3⟩ := gpath_at ho hn (dst n es y x).toNat hc.symm (by omega) i (by omega)
  exact ⟨h1, by unfold pathL; omega, fun h => h3 (by omega)⟩
end Go.Proofs.YtdjdgnabcecdlaaGreatDoor.X

/- What functions compute: distances and paths. -/
set_option linter.unusedSimpArgs false
set_option linter.unusedVariables false
set_option maxHeartbeats 2000000
namespace Go.Proofs.YtdjdgnabcecdlaaGreatDoor.X
open Go Go.Proofs
@[go_sem] theorem c_mul1 (n : Int) (h : 0 ≤ n ∧ n ≤ 1048576) : KP 170 [.i (.v (.int .u64 1)), .i (.v (.int .u64 n))] [] = some (.tup [.i (.v (.int .u64 0)), .i (.v (.int .u64 n))], [], []) := by
  refine KK_prim rfl ?_
  have h1 : 1 * n / 18446744073709551616 = 0 := by omega
  have h2 : 1 * n % 18446744073709551616 = n := by omega
  simp only [mulP, h1, h2]
  rw [if_pos (by omega)]
@[go_sem] theorem c_repeatI (x n : Int) (hn : 0 ≤ n ∧ n ≤ 1048576) : KP 129 [.i (.lst [[.v (.int .i64 x)]]), I n] [] = some (.ref 2000 0 0 n.toNat, [], [.arr 0 1 ((List.replicate n.toNat x).map encI)]) := by
  by_cases h0 : n = 0
  · subst h0
    refine xw_call (fn := Tryz.f129) rfl Tryz.func129 rfl ⟨Nat.le_of_ble_eq_true rfl, rfl, rfl⟩ ?_
    repeat' (first
      | refine xw_seq ?_
      | refine xw_block ?_
      | (refine ite_two ?_ ?_ <;> intro _ <;> first | (exfalso; omega) | skip)
      | refine ord_split (by kernel_rfl) ?_
      | (refine xw_ret ?_ <;> try simp only [sq, bl, LQ])
      | ((first | refine xw_reg ?_ | refine xw_regd ?_ | refine xw_if ?_ | refine xw_skip ?_ | refine xw_exit ?_ | refine xw_label ?_ | refine post_ret ?_ | refine post_normal ?_ | refine postE_ret ?_ | refine postE_normal ?_) <;> simp (config := { maxSteps := 3000000 }) (disch := first | assumption | omega | exact VG.okg (by assumption) | (simp only [List.length_set, List.length_append, List.length_cons, List.length_nil, List.length_replicate]; omega)) only [go_sem, ↓reduceIte, Int.reduceLE, Int.reduceLT, Int.reduceToNat, Int.reduceNeg, Int.reduceAdd, Int.reduceSub, Int.reduceMul, Int.reduceEq, Int.reduceNe, Nat.reduceEqDiff, Nat.reduceAdd, Nat.reduceSub, Nat.reduceMul, Nat.reduceLT, Nat.reduceLeDiff, Nat.reduceBEq, Nat.reduceBNe, Tryz.results129])
      | (((first | refine at_region ?_ | refine at_out ?_ | refine at_cond ?_); split) <;> first | (exfalso; omega; done) | simp (config := { maxSteps := 3000000 }) (disch := first | assumption | omega | exact VG.okg (by assumption) | (simp only [List.length_set, List.length_append, List.length_cons, List.length_nil, List.length_replicate]; omega)) only [go_sem, ↓reduceIte, Int.reduceLE, Int.reduceLT, Int.reduceToNat, Int.reduceNeg, Int.reduceAdd, Int.reduceSub, Int.reduceMul, Int.reduceEq, Int.reduceNe, Nat.reduceEqDiff, Nat.reduceAdd, Nat.reduceSub, Nat.reduceMul, Nat.reduceLT, Nat.reduceLeDiff, Nat.reduceBEq, Nat.reduceBNe, Tryz.results129] | skip))
    refine xw_loopR (fun (y : Unit) s => s.m 30 = some (.arr 0 1 []) ∧ s.ρ 7 = .ref 30 0 0 0 ∧ s.ρ 8 = I 0) (fun _ => 0) () ⟨rfl, rfl, rfl⟩ ?_
    rintro ⟨⟩ ⟨ρ, m⟩ ⟨m30, h7, h8⟩
    simp only at m30 h7 h8
    repeat' (first
      | refine xw_seq ?_
      | refine xw_block ?_
      | (refine ite_two ?_ ?_ <;> intro _ <;> first | (exfalso; omega) | skip)
      | refine ord_split (by kernel_rfl) ?_
      | (refine xw_ret ?_ <;> try simp only [sq, bl, LQ])
      | ((first | refine xw_reg ?_ | refine xw_regd ?_ | refine xw_if ?_ | refine xw_skip ?_ | refine xw_exit ?_ | refine xw_label ?_ | refine post_ret ?_ | refine post_normal ?_ | refine postE_ret ?_ | refine postE_normal ?_) <;> simp (config := { maxSteps := 3000000 }) (disch := first | assumption | omega | exact VG.okg (by assumption) | (simp only [List.length_set, List.length_append, List.length_cons, List.length_nil, List.length_replicate]; omega)) only [go_sem, ↓reduceIte, Int.reduceLE, Int.reduceLT, Int.reduceToNat, Int.reduceNeg, Int.reduceAdd, Int.reduceSub, Int.reduceMul, Int.reduceEq, Int.reduceNe, Nat.reduceEqDiff, Nat.reduceAdd, Nat.reduceSub, Nat.reduceMul, Nat.reduceLT, Nat.reduceLeDiff, Nat.reduceBEq, Nat.reduceBNe, Tryz.results129, m30, h7, h8])
      | (((first | refine at_region ?_ | refine at_out ?_ | refine at_cond ?_); split) <;> first | (exfalso; omega; done) | simp (config := { maxSteps := 3000000 }) (disch := first | assumption | omega | exact VG.okg (by assumption) | (simp only [List.length_set, List.length_append, List.length_cons, List.length_nil, List.length_replicate]; omega)) only [go_sem, ↓reduceIte, Int.reduceLE, Int.reduceLT, Int.reduceToNat, Int.reduceNeg, Int.reduceAdd, Int.reduceSub, Int.reduceMul, Int.reduceEq, Int.reduceNe, Nat.reduceEqDiff, Nat.reduceAdd, Nat.reduceSub, Nat.reduceMul, Nat.reduceLT, Nat.reduceLeDiff, Nat.reduceBEq, Nat.reduceBNe, Tryz.results129, m30, h7, h8] | skip))
    all_goals simp
  refine xw_call (fn := Tryz.f129) rfl Tryz.func129 rfl ⟨Nat.le_of_ble_eq_true rfl, rfl, rfl⟩ ?_
  repeat' (first
    | refine xw_seq ?_
    | refine xw_block ?_
    | (refine ite_two ?_ ?_ <;> intro _ <;> first | (exfalso; omega) | skip)
    | refine ord_split (by kernel_rfl) ?_
    | (refine xw_ret ?_ <;> try simp only [sq, bl, LQ])
    | ((first | refine xw_reg ?_ | refine xw_regd ?_ | refine xw_if ?_ | refine xw_skip ?_ | refine xw_exit ?_ | refine xw_label ?_ | refine post_ret ?_ | refine post_normal ?_ | refine postE_ret ?_ | refine postE_normal ?_) <;> simp (config := { maxSteps := 3000000 }) (disch := first | assumption | omega | exact VG.okg (by assumption) | (simp only [List.length_set, List.length_append, List.length_cons, List.length_nil, List.length_replicate]; omega)) only [go_sem, ↓reduceIte, Int.reduceLE, Int.reduceLT, Int.reduceToNat, Int.reduceNeg, Int.reduceAdd, Int.reduceSub, Int.reduceMul, Int.reduceEq, Int.reduceNe, Nat.reduceEqDiff, Nat.reduceAdd, Nat.reduceSub, Nat.reduceMul, Nat.reduceLT, Nat.reduceLeDiff, Nat.reduceBEq, Nat.reduceBNe, Tryz.results129, take_all])
    | (((first | refine at_region ?_ | refine at_out ?_ | refine at_cond ?_); split) <;> first | (exfalso; omega; done) | simp (config := { maxSteps := 3000000 }) (disch := first | assumption | omega | exact VG.okg (by assumption) | (simp only [List.length_set, List.length_append, List.length_cons, List.length_nil, List.length_replicate]; omega)) only [go_sem, ↓reduceIte, Int.reduceLE, Int.reduceLT, Int.reduceToNat, Int.reduceNeg, Int.reduceAdd, Int.reduceSub, Int.reduceMul, Int.reduceEq, Int.reduceNe, Nat.reduceEqDiff, Nat.reduceAdd, Nat.reduceSub, Nat.reduceMul, Nat.reduceLT, Nat.reduceLeDiff, Nat.reduceBEq, Nat.reduceBNe, Tryz.results129, take_all] | skip))
  refine xw_loopR (fun (y : Int × List Int) s => s.m 30 = some (.arr 0 1 (y.2.map encI)) ∧ s.ρ 7 = .ref 30 0 0 n.toNat ∧ s.ρ 8 = I y.1 ∧ 0 < y.1 ∧ y.1 ≤ n ∧ y.2.length = n.toNat ∧ y.2.take y.1.toNat = List.replicate y.1.toNat x)
    (fun y => (n - y.1).toNat) (1, x :: (zI n.toNat).drop 1) ?_ ?_
  · have e1 : min 1 (n.toNat) = 1 := by omega
    refine ⟨rfl, rfl, ?_, by simp, by simp only; omega, by simp [zI]; omega, by simp⟩
    simp [upd, e1]
  rintro ⟨k, xs⟩ ⟨ρ, m⟩ ⟨m30, h7, h8, g0, g1, g3, g4⟩
  simp only at m30 h7 h8 g0 g1 g3 g4
  repeat' (first
    | refine xw_seq ?_
    | refine xw_block ?_
    | (refine ite_two ?_ ?_ <;> intro _ <;> first | (exfalso; omega) | skip)
    | refine ord_split (by kernel_rfl) ?_
    | (refine xw_ret ?_ <;> try simp only [sq, bl, LQ])
    | ((first | refine xw_reg ?_ | refine xw_regd ?_ | refine xw_if ?_ | refine xw_skip ?_ | refine xw_exit ?_ | refine xw_label ?_ | refine post_ret ?_ | refine post_normal ?_ | refine postE_ret ?_ | refine postE_normal ?_) <;> simp (config := { maxSteps := 3000000 }) (disch := first | assumption | omega | exact VG.okg (by assumption) | (simp only [List.length_set, List.length_append, List.length_cons, List.length_nil, List.length_replicate]; omega)) only [go_sem, ↓reduceIte, Int.reduceLE, Int.reduceLT, Int.reduceToNat, Int.reduceNeg, Int.reduceAdd, Int.reduceSub, Int.reduceMul, Int.reduceEq, Int.reduceNe, Nat.reduceEqDiff, Nat.reduceAdd, Nat.reduceSub, Nat.reduceMul, Nat.reduceLT, Nat.reduceLeDiff, Nat.reduceBEq, Nat.reduceBNe, Tryz.results129, m30, h7, h8, List.length_take, g3])
    | (((first | refine at_region ?_ | refine at_out ?_ | refine at_cond ?_); split) <;> first | (exfalso; omega; done) | simp (config := { maxSteps := 3000000 }) (disch := first | assumption | omega | exact VG.okg (by assumption) | (simp only [List.length_set, List.length_append, List.length_cons, List.length_nil, List.length_replicate]; omega)) only [go_sem, ↓reduceIte, Int.reduceLE, Int.reduceLT, Int.reduceToNat, Int.reduceNeg, Int.reduceAdd, Int.reduceSub, Int.reduceMul, Int.reduceEq, Int.reduceNe, Nat.reduceEqDiff, Nat.reduceAdd, Nat.reduceSub, Nat.reduceMul, Nat.reduceLT, Nat.reduceLeDiff, Nat.reduceBEq, Nat.reduceBNe, Tryz.results129, m30, h7, h8, List.length_take, g3] | skip))
  · refine ⟨by omega, by omega, by simp [g3]; omega, ?_, by omega⟩
    have e1 : min k.toNat n.toNat = k.toNat := by omega
    rw [e1, g4, List.take_replicate]
    have e2 : min (n.toNat - k.toNat) k.toNat = min k.toNat (n.toNat - k.toNat) := Nat.min_comm ..
    rw [List.replicate_append_replicate, e2]
    have e3 : (k + ((min k.toNat (n.toNat - k.toNat) : Nat) : Int)).toNat = k.toNat + min k.toNat (n.toNat - k.toNat) := by omega
    rw [e3]
    exact List.take_left' (by simp)
  · have : k.toNat = n.toNat := by omega
    rw [this, take_all (by omega)] at g4
    rw [g4]
theorem getD_len_append (a b : List Int) (x : Int) : (a ++ x :: b).getD a.length 0 = x := by simp
theorem c_far (n t : Int) (es : List (Int × Int)) (h : VG n es) (ht : 0 ≤ t ∧ t < n) : KP 111 [GL n es, I t] [] = some (.ref 2000 0 0 (dstL n es t).length, [], [.arr 0 1 ((dstL n es t).map encI)]) := by
  have hl := h.okg.len
  have hn16 := h.2.1
  have ho := h.okg.ok
  obtain ⟨hi1, hi2⟩ := Bfs.init (es := es) ht
  refine xw_call (fn := Tryz.f111) rfl Tryz.func111 rfl ⟨Nat.le_of_ble_eq_true rfl, rfl, rfl⟩ ?_
  repeat' (first
    | refine xw_seq ?_
    | refine xw_block ?_
    | (refine ite_two ?_ ?_ <;> intro _ <;> first | (exfalso; omega) | skip)
    | refine ord_split (by kernel_rfl) ?_
    | (refine xw_ret ?_ <;> try simp only [sq, bl, LQ])
    | ((first | refine xw_reg ?_ | refine xw_regd ?_ | refine xw_if ?_ | refine xw_skip ?_ | refine xw_exit ?_ | refine xw_label ?_ | refine post_ret ?_ | refine post_normal ?_ | refine postE_ret ?_ | refine postE_normal ?_) <;> simp (config := { maxSteps := 3000000 }) (disch := first | assumption | omega | exact VG.okg (by assumption) | (simp only [List.length_set, List.length_append, List.length_cons, List.length_nil, List.length_replicate]; omega)) only [go_sem, ↓reduceIte, Int.reduceLE, Int.reduceLT, Int.reduceToNat, Int.reduceNeg, Int.reduceAdd, Int.reduceSub, Int.reduceMul, Int.reduceEq, Int.reduceNe, Nat.reduceEqDiff, Nat.reduceAdd, Nat.reduceSub, Nat.reduceMul, Nat.reduceLT, Nat.reduceLeDiff, Nat.reduceBEq, Nat.reduceBNe, Tryz.results111, List.length_replicate])
    | (((first | refine at_region ?_ | refine at_out ?_ | refine at_cond ?_); split) <;> first | (exfalso; omega; done) | simp (config := { maxSteps := 3000000 }) (disch := first | assumption | omega | exact VG.okg (by assumption) | (simp only [List.length_set, List.length_append, List.length_cons, List.length_nil, List.length_replicate]; omega)) only [go_sem, ↓reduceIte, Int.reduceLE, Int.reduceLT, Int.reduceToNat, Int.reduceNeg, Int.reduceAdd, Int.reduceSub, Int.reduceMul, Int.reduceEq, Int.reduceNe, Nat.reduceEqDiff, Nat.reduceAdd, Nat.reduceSub, Nat.reduceMul, Nat.reduceLT, Nat.reduceLeDiff, Nat.reduceBEq, Nat.reduceBNe, Tryz.results111, List.length_replicate] | skip))
  refine xw_loopR (fun (y : Nat × List Int × List Int × List Int) s => s.m 3104 = some (.arr 0 1 (y.2.2.2.map encI)) ∧ s.ρ 5 = .ref 3104 0 0 n.toNat ∧ s.m 18 = some (.arr y.1 1 ((y.2.1 ++ y.2.2.1).map encI)) ∧ s.ρ 6 = .ref 18 y.1 y.2.1.length y.2.2.1.length ∧
    s.ρ 2 = .ptr 2 0 0 0 ∧ s.m 2 = some (.box 0 [I n, LE es]) ∧ Bfs n es t y.2.2.2 y.2.2.1 ∧ Done n es y.2.2.2 (· ∈ y.2.2.1) ∧ y.2.1.length + y.2.2.1.length ≤ 1048576 ∧ y.2.1.length + y.2.2.1.length + und y.2.2.2 ≤ 100)
    (fun y => y.2.2.1.length + und y.2.2.2) (0, [], [t], (List.replicate n.toNat (-1)).set t.toNat 0) ?_ ?_
  · have hu : und ((List.replicate n.toNat (-1)).set t.toNat 0) ≤ n.toNat := by
      unfold und
      exact Nat.le_trans (List.length_filter_le _ _) (by simp)
    exact ⟨rfl, rfl, rfl, rfl, rfl, rfl, hi1, hi2, by simp, by simp only [List.length_nil, List.length_cons]; omega⟩
  rintro ⟨w, pre, q, out⟩ ⟨ρ, m⟩ ⟨m1, h5, m18, h6, h2, m2, g0, g1, g2, g3⟩
  simp only at m1 h5 m18 h6 h2 m2 g0 g1 g2 g3
  cases q with
  | nil =>
    repeat' (first
      | refine xw_seq ?_
      | refine xw_block ?_
      | (refine ite_two ?_ ?_ <;> intro _ <;> first | (exfalso; omega) | skip)
      | refine ord_split (by kernel_rfl) ?_
      | (refine xw_ret ?_ <;> try simp only [sq, bl, LQ])
      | ((first | refine xw_reg ?_ | refine xw_regd ?_ | refine xw_if ?_ | refine xw_skip ?_ | refine xw_exit ?_ | refine xw_label ?_ | refine post_ret ?_ | refine post_normal ?_ | refine postE_ret ?_ | refine postE_normal ?_) <;> simp (config := { maxSteps := 3000000 }) (disch := first | assumption | omega | exact VG.okg (by assumption) | (simp only [List.length_set, List.length_append, List.length_cons, List.length_nil, List.length_replicate]; omega)) only [go_sem, ↓reduceIte, Int.reduceLE, Int.reduceLT, Int.reduceToNat, Int.reduceNeg, Int.reduceAdd, Int.reduceSub, Int.reduceMul, Int.reduceEq, Int.reduceNe, Nat.reduceEqDiff, Nat.reduceAdd, Nat.reduceSub, Nat.reduceMul, Nat.reduceLT, Nat.reduceLeDiff, Nat.reduceBEq, Nat.reduceBNe, Tryz.results111, m1, h5, m18, h6, h2, m2])
      | (((first | refine at_region ?_ | refine at_out ?_ | refine at_cond ?_); split) <;> first | (exfalso; omega; done) | simp (config := { maxSteps := 3000000 }) (disch := first | assumption | omega | exact VG.okg (by assumption) | (simp only [List.length_set, List.length_append, List.length_cons, List.length_nil, List.length_replicate]; omega)) only [go_sem, ↓reduceIte, Int.reduceLE, Int.reduceLT, Int.reduceToNat, Int.reduceNeg, Int.reduceAdd, Int.reduceSub, Int.reduceMul, Int.reduceEq, Int.reduceNe, Nat.reduceEqDiff, Nat.reduceAdd, Nat.reduceSub, Nat.reduceMul, Nat.reduceLT, Nat.reduceLeDiff, Nat.reduceBEq, Nat.reduceBNe, Tryz.results111, m1, h5, m18, h6, h2, m2] | skip))
    rw [g0.end ho g1]
    exact ⟨dstL_length.symm, rfl⟩
  | cons a q =>
    have hg := getD_len_append pre q a
    have hat := BfsAt.start g0 g1
    have hnb := c_neighbors n a es (by omega)
    have hlen := g0.len
    have ha := g0.que a (by simp)
    have hnbl : (nbS a es).length ≤ 40 := by have := alone_length a es; omega
    simp only [List.length_cons] at h6 g2 g3
    repeat' (first
      | refine xw_seq ?_
      | refine xw_block ?_
      | (refine ite_two ?_ ?_ <;> intro _ <;> first | (exfalso; omega) | skip)
      | refine ord_split (by kernel_rfl) ?_
      | (refine xw_ret ?_ <;> try simp only [sq, bl, LQ])
      | ((first | refine xw_reg ?_ | refine xw_regd ?_ | refine xw_if ?_ | refine xw_skip ?_ | refine xw_exit ?_ | refine xw_label ?_ | refine post_ret ?_ | refine post_normal ?_ | refine postE_ret ?_ | refine postE_normal ?_) <;> simp (config := { maxSteps := 3000000 }) (disch := first | assumption | omega | exact VG.okg (by assumption) | (simp only [List.length_set, List.length_append, List.length_cons, List.length_nil, List.length_replicate]; omega)) only [go_sem, ↓reduceIte, Int.reduceLE, Int.reduceLT, Int.reduceToNat, Int.reduceNeg, Int.reduceAdd, Int.reduceSub, Int.reduceMul, Int.reduceEq, Int.reduceNe, Nat.reduceEqDiff, Nat.reduceAdd, Nat.reduceSub, Nat.reduceMul, Nat.reduceLT, Nat.reduceLeDiff, Nat.reduceBEq, Nat.reduceBNe, Tryz.results111, m1, h5, m18, h6, h2, m2, hg, hnb])
      | (((first | refine at_region ?_ | refine at_out ?_ | refine at_cond ?_); split) <;> first | (exfalso; omega; done) | simp (config := { maxSteps := 3000000 }) (disch := first | assumption | omega | exact VG.okg (by assumption) | (simp only [List.length_set, List.length_append, List.length_cons, List.length_nil, List.length_replicate]; omega)) only [go_sem, ↓reduceIte, Int.reduceLE, Int.reduceLT, Int.reduceToNat, Int.reduceNeg, Int.reduceAdd, Int.reduceSub, Int.reduceMul, Int.reduceEq, Int.reduceNe, Nat.reduceEqDiff, Nat.reduceAdd, Nat.reduceSub, Nat.reduceMul, Nat.reduceLT, Nat.reduceLeDiff, Nat.reduceBEq, Nat.reduceBNe, Tryz.results111, m1, h5, m18, h6, h2, m2, hg, hnb] | skip))
    refine xw_loopR (fun (y : Int × Nat × List Int × List Int × List Int) s => s.m 3104 = some (.arr 0 1 (y.2.2.2.2.map encI)) ∧ s.ρ 5 = .ref 3104 0 0 n.toNat ∧ s.m 18 = some (.arr y.2.1 1 ((y.2.2.1 ++ y.2.2.2.1).map encI)) ∧ s.ρ 6 = .ref 18 y.2.1 y.2.2.1.length y.2.2.2.1.length ∧
      s.ρ 2 = .ptr 2 0 0 0 ∧ s.m 2 = some (.box 0 [I n, LE es]) ∧ s.ρ 29 = LI (nbS a es) ∧ s.ρ 30 = I (nbS a es).length ∧ s.ρ 31 = I y.1 ∧ s.ρ 7 = I a ∧ 0 ≤ y.1 ∧ y.1 ≤ (nbS a es).length ∧ BfsAt n es t a y.1.toNat y.2.2.2.2 y.2.2.2.1 ∧
      y.2.2.1.length + y.2.2.2.1.length ≤ 1048576 ∧ y.2.2.1.length + y.2.2.2.1.length + und y.2.2.2.2 ≤ 100 ∧ y.2.2.2.1.length + und y.2.2.2.2 = q.length + und out)
      (fun y => ((nbS a es).length - y.1).toNat) (0, w, pre ++ [a], q, out) ?_ ?_
    · refine ⟨by simp [upd, m1], by simp [upd, h5], by simp [upd, m18], by simp [upd], by simp [upd, h2], by simp [upd, m2], by simp [upd], by simp [upd], by simp [upd], by simp [upd], by simp, by simp, hat, ?_, ?_, rfl⟩
      · simp only [List.length_append, List.length_cons, List.length_nil]; omega
      · simp only [List.length_append, List.length_cons, List.length_nil]; omega
    rintro ⟨i, w', pr, q', ou⟩ ⟨ρ, m⟩ ⟨m1, h5, m18, h6, h2, m2, h29, h30, h31, h7, f0, f1, f2, f3, f4, f5⟩
    simp only at m1 h5 m18 h6 h2 m2 h29 h30 h31 h7 f0 f1 f2 f3 f4 f5
    have hol := f2.bfs.len
    by_cases hj : i < (nbS a es).length
    · have hadj := (mem_nbS ho).1 (getD_mem (d := 0) (show i.toNat < (nbS a es).length by omega))
      have hok := hadj.ok ho
      have hlow := f2.bfs.low _ hok.2.2.1 hok.2.2.2.1
      have hga := f2.hn a ha.1 ha.2.1
      have hge : 0 ≤ ou.getD a.toNat 0 := f2.a0.2.2
      have hgu : ou.getD a.toNat 0 + und ou ≤ n - 1 := f2.bfs.top a ha.1 ha.2.1
      have hi1' : (i + 1).toNat = i.toNat + 1 := by omega
      repeat' (first
        | refine xw_seq ?_
        | refine xw_block ?_
        | (refine ite_two ?_ ?_ <;> intro _ <;> first | (exfalso; omega) | skip)
        | refine ord_split (by kernel_rfl) ?_
        | (refine xw_ret ?_ <;> try simp only [sq, bl, LQ])
        | ((first | refine xw_reg ?_ | refine xw_regd ?_ | refine xw_if ?_ | refine xw_skip ?_ | refine xw_exit ?_ | refine xw_label ?_ | refine post_ret ?_ | refine post_normal ?_ | refine postE_ret ?_ | refine postE_normal ?_) <;> simp (config := { maxSteps := 3000000 }) (disch := first | assumption | omega | exact VG.okg (by assumption) | (simp only [List.length_set, List.length_append, List.length_cons, List.length_nil, List.length_replicate]; omega)) only [go_sem, ↓reduceIte, Int.reduceLE, Int.reduceLT, Int.reduceToNat, Int.reduceNeg, Int.reduceAdd, Int.reduceSub, Int.reduceMul, Int.reduceEq, Int.reduceNe, Nat.reduceEqDiff, Nat.reduceAdd, Nat.reduceSub, Nat.reduceMul, Nat.reduceLT, Nat.reduceLeDiff, Nat.reduceBEq, Nat.reduceBNe, Tryz.results111, m1, h5, m18, h6, h2, m2, h29, h30, h31, h7])
        | (((first | refine at_region ?_ | refine at_out ?_ | refine at_cond ?_); split) <;> first | (exfalso; omega; done) | simp (config := { maxSteps := 3000000 }) (disch := first | assumption | omega | exact VG.okg (by assumption) | (simp only [List.length_set, List.length_append, List.length_cons, List.length_nil, List.length_replicate]; omega)) only [go_sem, ↓reduceIte, Int.reduceLE, Int.reduceLT, Int.reduceToNat, Int.reduceNeg, Int.reduceAdd, Int.reduceSub, Int.reduceMul, Int.reduceEq, Int.reduceNe, Nat.reduceEqDiff, Nat.reduceAdd, Nat.reduceSub, Nat.reduceMul, Nat.reduceLT, Nat.reduceLeDiff, Nat.reduceBEq, Nat.reduceBNe, Tryz.results111, m1, h5, m18, h6, h2, m2, h29, h30, h31, h7] | skip))
      · have hx : gI ou ((nbS a es).getD i.toNat 0) < 0 := by assumption
        obtain ⟨k1, k2⟩ := f2.find ho (by omega) hx
        have k3 : und (ou.set ((nbS a es).getD i.toNat 0).toNat (ou.getD a.toNat 0 + 1)) + 1 = und ou := k2
        refine ⟨i + 1, [], q' ++ [(nbS a es).getD i.toNat 0], by simp, rfl, by simp, rfl, by omega, by omega, by rw [hi1']; exact k1, ?_, ?_, ?_, by omega⟩
        all_goals simp only [List.length_append, List.length_cons, List.length_nil]
        all_goals omega
      · have hx : 0 ≤ gI ou ((nbS a es).getD i.toNat 0) := by unfold gI; omega
        exact ⟨i + 1, pr, q', rfl, rfl, rfl, rfl, by omega, by omega, by rw [hi1']; exact f2.skip ho (by omega) hx, by omega, by omega, by omega, by omega⟩
    · repeat' (first
        | refine xw_seq ?_
        | refine xw_block ?_
        | (refine ite_two ?_ ?_ <;> intro _ <;> first | (exfalso; omega) | skip)
        | refine ord_split (by kernel_rfl) ?_
        | (refine xw_ret ?_ <;> try simp only [sq, bl, LQ])
        | ((first | refine xw_reg ?_ | refine xw_regd ?_ | refine xw_if ?_ | refine xw_skip ?_ | refine xw_exit ?_ | refine xw_label ?_ | refine post_ret ?_ | refine post_normal ?_ | refine postE_ret ?_ | refine postE_normal ?_) <;> simp (config := { maxSteps := 3000000 }) (disch := first | assumption | omega | exact VG.okg (by assumption) | (simp only [List.length_set, List.length_append, List.length_cons, List.length_nil, List.length_replicate]; omega)) only [go_sem, ↓reduceIte, Int.reduceLE, Int.reduceLT, Int.reduceToNat, Int.reduceNeg, Int.reduceAdd, Int.reduceSub, Int.reduceMul, Int.reduceEq, Int.reduceNe, Nat.reduceEqDiff, Nat.reduceAdd, Nat.reduceSub, Nat.reduceMul, Nat.reduceLT, Nat.reduceLeDiff, Nat.reduceBEq, Nat.reduceBNe, Tryz.results111, m1, h5, m18, h6, h2, m2, h29, h30, h31, h7])
        | (((first | refine at_region ?_ | refine at_out ?_ | refine at_cond ?_); split) <;> first | (exfalso; omega; done) | simp (config := { maxSteps := 3000000 }) (disch := first | assumption | omega | exact VG.okg (by assumption) | (simp only [List.length_set, List.length_append, List.length_cons, List.length_nil, List.length_replicate]; omega)) only [go_sem, ↓reduceIte, Int.reduceLE, Int.reduceLT, Int.reduceToNat, Int.reduceNeg, Int.reduceAdd, Int.reduceSub, Int.reduceMul, Int.reduceEq, Int.reduceNe, Nat.reduceEqDiff, Nat.reduceAdd, Nat.reduceSub, Nat.reduceMul, Nat.reduceLT, Nat.reduceLeDiff, Nat.reduceBEq, Nat.reduceBNe, Tryz.results111, m1, h5, m18, h6, h2, m2, h29, h30, h31, h7] | skip))
      obtain ⟨k1, k2⟩ := f2.stop ho (by omega)
      exact ⟨pr, q', rfl, rfl, rfl, k1, k2, by omega, by omega, by omega⟩
end Go.Proofs.YtdjdgnabcecdlaaGreatDoor.X

/- The number of connected parts: plain law. -/
set_option linter.unusedVariables false
namespace Go.Proofs.YtdjdgnabcecdlaaGreatDoor.X
open Go
theorem conn_cons {es : List (Int × Int)} {a b x y : Int} : Conn ((a, b) :: es) x y ↔ Conn es x y ∨ (Conn es x a ∧ Conn es b y) ∨ (Conn es x b ∧ Conn es a y) := by
  constructor
  · intro h
    induction h with
    | refl => exact .inl (.refl _)
    | step _ ad ih =>
      have key : (∀ {y z : Int}, Adj ((a, b) :: es) y z → Adj es y z ∨ (y = a ∧ z = b) ∨ (y = b ∧ z = a)) := by
        intro y z h
        rcases h with h | h
        · rcases List.mem_cons.1 h with h | h
          · simp only [Prod.mk.injEq] at h; exact .inr (.inl h)
          · exact .inl (.inl h)
        · rcases List.mem_cons.1 h with h | h
          · simp only [Prod.mk.injEq] at h; exact .inr (.inr ⟨h.2, h.1⟩)
          · exact .inl (.inr h)
      rcases key ad with ad | ⟨rfl, rfl⟩ | ⟨rfl, rfl⟩
      · rcases ih with ih | ⟨i1, i2⟩ | ⟨i1, i2⟩
        · exact .inl (.step ih ad)
        · exact .inr (.inl ⟨i1, .step i2 ad⟩)
        · exact .inr (.inr ⟨i1, .step i2 ad⟩)
      · rcases ih with ih | ⟨i1, i2⟩ | ⟨i1, i2⟩
        · exact .inr (.inl ⟨ih, .refl _⟩)
        · exact .inr (.inl ⟨i1, .refl _⟩)
        · exact .inl i1
      · rcases ih with ih | ⟨i1, i2⟩ | ⟨i1, i2⟩
        · exact .inr (.inr ⟨ih, .refl _⟩)
        · exact .inl i1
        · exact .inr (.inr ⟨i1, .refl _⟩)
  · have hm : ∀ e ∈ es, e ∈ (a, b) :: es := fun e he => List.mem_cons_of_mem _ he
    have hab : Conn ((a, b) :: es) a b := .of (.inl (by simp))
    rintro (h | ⟨h1, h2⟩ | ⟨h1, h2⟩)
    · exact h.mono hm
    · exact ((h1.mono hm).trans hab).trans (h2.mono hm)
    · exact ((h1.mono hm).trans hab.symm).trans (h2.mono hm)
/-- Connected alike, if all edges join what is connected. -/
theorem Conn.via {es fs : List (Int × Int)} (h : ∀ e ∈ es, Conn fs e.1 e.2) {x y : Int} (hc : Conn es x y) : Conn fs x y := by
  induction hc with
  | refl => exact .refl _
  | step _ a ih =>
    rcases a with a | a
    · exact ih.trans (h _ a)
    · exact ih.trans (h _ a).symm
theorem Conn.edge {es : List (Int × Int)} {e : Int × Int} (h : e ∈ es) : Conn es e.1 e.2 := .of (.inl h)
def root (es : List (Int × Int)) (x : Nat) : Prop := ∀ y : Nat, y < x → ¬ Conn es (y : Nat) (x : Nat)
theorem least_root {es : List (Int × Int)} {x : Nat} : least es x = x ↔ root es x := by
  obtain ⟨h1, h2, h3⟩ := least_spec es x
  constructor
  · intro h y hy
    exact h3 y (by omega)
  · intro h
    refine Nat.le_antisymm h1 ?_
    refine Nat.le_of_not_lt fun hl => h _ hl h2
/-- The number of connected parts. -/
noncomputable def cnt (n : Int) (es : List (Int × Int)) : Nat := ((List.range n.toNat).filter fun x => decide (least es x = x)).length
theorem filter_without {α : Type} [DecidableEq α] {p : α → Bool} {m : α} : ∀ {l : List α}, l.Nodup → m ∈ l → p m = true → (l.filter fun x => p x && decide (x ≠ m)).length + 1 = (l.filter p).length
  | [], _, h, _ => by simp at h
  | x :: l, hn, hm, hp => by
    rw [List.nodup_cons] at hn
    by_cases hx : x = m
    · subst hx
      have : l.filter (fun y => p y && decide (y ≠ x)) = l.filter p := List.filter_congr fun y hy => by
        have : y ≠ x := fun e => hn.1 (e ▸ hy)
        simp [this]
      simp only [List.filter_cons, hp, ne_eq, not_true_eq_false, decide_false, Bool.and_false, Bool.false_eq_true, if_false, if_true, List.length_cons]
      rw [← this]
    · have hm' : m ∈ l := (List.mem_cons.1 hm).resolve_left fun e => hx e.symm
      have ih := filter_without hn.2 hm' hp
      simp only [List.filter_cons, ne_eq, hx, not_false_eq_true, decide_true, Bool.and_true]
      split
      · simp only [List.length_cons]
        simp only [ne_eq] at ih
        omega
      · simpa only [ne_eq] using ih
theorem cnt_congr {n : Int} {es fs : List (Int × Int)} (h : ∀ x y : Int, Conn es x y ↔ Conn fs x y) : cnt n es = cnt n fs := by
  unfold cnt
  congr 1
  refine List.filter_congr fun x _ => ?_
  rw [decide_eq_decide, least_root, least_root]
  unfold root
  exact forall_congr' fun y => imp_congr_right fun _ => not_congr (h _ _)
theorem filter_le {α : Type} {p q : α → Bool} : ∀ {l : List α}, (∀ x ∈ l, p x = true → q x = true) → (l.filter p).length ≤ (l.filter q).length
  | [], _ => by simp
  | x :: l, h => by
    have ih := filter_le (l := l) (p := p) (q := q) fun y hy => h y (List.mem_cons_of_mem _ hy)
    simp only [List.filter_cons]
    cases hp : p x with
    | true => rw [h x (by simp) hp]; simp only [if_true, List.length_cons]; omega
    | false => simp only [Bool.false_eq_true, if_false]; split <;> (try simp only [List.length_cons]) <;> omega
theorem Conn.nil {x y : Int} (h : Conn [] x y) : x = y := by
  induction h with
  | refl => rfl
  | step _ a _ => rcases a with a | a <;> simp at a
theorem cnt_nil (n : Int) : cnt n [] = n.toNat := by
  unfold cnt
  rw [List.filter_eq_self.2, List.length_range]
  intro x _
  rw [decide_eq_true_eq, least_root]
  intro y hy hc
  have := hc.nil
  omega
theorem cnt_same {n a b : Int} {es : List (Int × Int)} (h : Conn es a b) : cnt n ((a, b) :: es) = cnt n es := by
  refine cnt_congr fun x y => ⟨fun hc => ?_, fun hc => hc.mono fun e he => List.mem_cons_of_mem _ he⟩
  refine hc.via fun e he => ?_
  rcases List.mem_cons.1 he with rfl | he
  · exact h
  · exact .edge he
theorem cnt_less {n a b : Int} {es : List (Int × Int)} (ha : 0 ≤ a ∧ a < n) (hb : 0 ≤ b ∧ b < n) (h : ¬ Conn es a b) : cnt n ((a, b) :: es) + 1 = cnt n es := by
  obtain ⟨x, rfl⟩ := Int.eq_ofNat_of_zero_le ha.1
  obtain ⟨y, rfl⟩ := Int.eq_ofNat_of_zero_le hb.1
  obtain ⟨x1, x2, x3⟩ := least_spec es x
  obtain ⟨y1, y2, y3⟩ := least_spec es y
  have hne : least es x ≠ least es y := fun e => h (least_iff.1 e)
  have hroot : ∀ z : Nat, root ((((x : Nat) : Int), ((y : Nat) : Int)) :: es) z ↔ root es z ∧ z ≠ max (least es x) (least es y) := by
    intro z
    constructor
    · intro hz
      refine ⟨fun w hw hc => hz w hw (conn_cons.2 (.inl hc)), fun e => ?_⟩
      by_cases hl : least es x < least es y
      · have e' : z = least es y := by omega
        subst e'
        exact hz _ hl (conn_cons.2 (.inr (.inl ⟨x2, y2.symm⟩)))
      · have e' : z = least es x := by omega
        subst e'
        exact hz _ (by omega) (conn_cons.2 (.inr (.inr ⟨y2, x2.symm⟩)))
    · rintro ⟨hz, hm⟩ w hw hc
      have hzz := least_root.2 hz
      rcases conn_cons.1 hc with hc | ⟨c1, c2⟩ | ⟨c1, c2⟩
      · exact hz w hw hc
      · have e1 := least_conn c1
        have e2 := least_conn c2
        have := (least_spec es w).1
        omega
      · have e1 := least_conn c1
        have e2 := least_conn c2
        have := (least_spec es w).1
        omega
  have hmx : root es (max (least es x) (least es y)) := by
    by_cases hl : least es x < least es y
    · rw [show max (least es x) (least es y) = least es y by omega]
      exact fun w hw hc => y3 w hw (hc.trans y2)
    · rw [show max (least es x) (least es y) = least es x by omega]
      exact fun w hw hc => x3 w hw (hc.trans x2)
  have hf := filter_without (l := List.range n.toNat) (p := fun z => decide (least es z = z)) (m := max (least es x) (least es y)) List.nodup_range (List.mem_range.2 (by omega)) (decide_eq_true (least_root.2 hmx))
  have hq : ((List.range n.toNat).filter fun z => decide (least ((((x : Nat) : Int), ((y : Nat) : Int)) :: es) z = z)) = (List.range n.toNat).filter fun z => decide (least es z = z) && decide (z ≠ max (least es x) (least es y)) := by
    refine List.filter_congr fun z _ => ?_
    rw [Bool.eq_iff_iff]
    simp only [Bool.and_eq_true, decide_eq_true_eq]
    rw [least_root, least_root]
    exact hroot z
  unfold cnt
  rw [hq]
  exact hf
theorem cutE_mem {e0 e : Int × Int} {es : List (Int × Int)} : e ∈ cutE e0 es ↔ e ∈ es ∧ e ≠ e0 := by simp [cutE]
end Go.Proofs.YtdjdgnabcecdlaaGreatDoor.X

/- What functions compute: distances as the reference has them; paths. -/
set_option linter.unusedSimpArgs false
set_option linter.unusedVariables false
set_option maxHeartbeats 2000000
namespace Go.Proofs.YtdjdgnabcecdlaaGreatDoor.X
open Go Go.Proofs
theorem c_l2From (n t : Int) (es : List (Int × Int)) (h : VG n es) (ht : 0 ≤ t ∧ t < n) : KP 157 [GL n es, I t] [] = some (.ref 2000 0 0 (dstL n es t).length, [], [.arr 0 1 ((dstL n es t).map encI)]) := by
  have hl := h.okg.len
  have hn16 := h.2.1
  have ho := h.okg.ok
  have hog := h.okg
  have hnd := h.nodup
  obtain ⟨hi1, hi2⟩ := Bfs.init (es := es) ht
  refine xw_call (fn := Tryz.f157) rfl Tryz.func157 rfl ⟨Nat.le_of_ble_eq_true rfl, rfl, rfl⟩ ?_
  repeat' (first
    | refine xw_seq ?_
    | refine xw_block ?_
    | (refine ite_two ?_ ?_ <;> intro _ <;> first | (exfalso; omega) | skip)
    | refine ord_split (by kernel_rfl) ?_
    | (refine xw_ret ?_ <;> try simp only [sq, bl, LQ])
    | ((first | refine xw_reg ?_ | refine xw_regd ?_ | refine xw_if ?_ | refine xw_skip ?_ | refine xw_exit ?_ | refine xw_label ?_ | refine post_ret ?_ | refine post_normal ?_ | refine postE_ret ?_ | refine postE_normal ?_) <;> simp (config := { maxSteps := 3000000 }) (disch := first | assumption | omega | exact VG.okg (by assumption) | (simp only [List.length_set, List.length_append, List.length_cons, List.length_nil, List.length_replicate]; omega)) only [go_sem, ↓reduceIte, Int.reduceLE, Int.reduceLT, Int.reduceToNat, Int.reduceNeg, Int.reduceAdd, Int.reduceSub, Int.reduceMul, Int.reduceEq, Int.reduceNe, Nat.reduceEqDiff, Nat.reduceAdd, Nat.reduceSub, Nat.reduceMul, Nat.reduceLT, Nat.reduceLeDiff, Nat.reduceBEq, Nat.reduceBNe, Tryz.results157])
    | (((first | refine at_region ?_ | refine at_out ?_ | refine at_cond ?_); split) <;> first | (exfalso; omega; done) | simp (config := { maxSteps := 3000000 }) (disch := first | assumption | omega | exact VG.okg (by assumption) | (simp only [List.length_set, List.length_append, List.length_cons, List.length_nil, List.length_replicate]; omega)) only [go_sem, ↓reduceIte, Int.reduceLE, Int.reduceLT, Int.reduceToNat, Int.reduceNeg, Int.reduceAdd, Int.reduceSub, Int.reduceMul, Int.reduceEq, Int.reduceNe, Nat.reduceEqDiff, Nat.reduceAdd, Nat.reduceSub, Nat.reduceMul, Nat.reduceLT, Nat.reduceLeDiff, Nat.reduceBEq, Nat.reduceBNe, Tryz.results157] | skip))
  refine xw_loopR (fun (x : Int × Nat × List Int) s => s.m 11 = some (.arr x.2.1 1 (x.2.2.map encI)) ∧ s.ρ 5 = .ref 11 x.2.1 0 x.2.2.length ∧ s.ρ 6 = I x.1 ∧ s.ρ 1 = I t ∧ s.ρ 2 = .ptr 2 0 0 0 ∧ s.m 2 = some (.box 0 [I n, LE es]) ∧
    0 ≤ x.1 ∧ x.1 ≤ n ∧ x.2.2.length = x.1.toNat ∧ x.2.2 = List.replicate x.1.toNat (-1)) (fun x => (n - x.1).toNat) (0, 0, []) ⟨rfl, rfl, rfl, rfl, rfl, rfl, by simp, by simp only; omega, rfl, rfl⟩ ?_
  rintro ⟨i, v, xs⟩ ⟨ρ, m⟩ ⟨m11, h5, h6, h1, h2, m2, g0, g1, g2, g3⟩
  simp only at m11 h5 h6 h1 h2 m2 g0 g1 g2 g3
  repeat' (first
    | refine xw_seq ?_
    | refine xw_block ?_
    | (refine ite_two ?_ ?_ <;> intro _ <;> first | (exfalso; omega) | skip)
    | refine ord_split (by kernel_rfl) ?_
    | (refine xw_ret ?_ <;> try simp only [sq, bl, LQ])
    | ((first | refine xw_reg ?_ | refine xw_regd ?_ | refine xw_if ?_ | refine xw_skip ?_ | refine xw_exit ?_ | refine xw_label ?_ | refine post_ret ?_ | refine post_normal ?_ | refine postE_ret ?_ | refine postE_normal ?_) <;> simp (config := { maxSteps := 3000000 }) (disch := first | assumption | omega | exact VG.okg (by assumption) | (simp only [List.length_set, List.length_append, List.length_cons, List.length_nil, List.length_replicate]; omega)) only [go_sem, ↓reduceIte, Int.reduceLE, Int.reduceLT, Int.reduceToNat, Int.reduceNeg, Int.reduceAdd, Int.reduceSub, Int.reduceMul, Int.reduceEq, Int.reduceNe, Nat.reduceEqDiff, Nat.reduceAdd, Nat.reduceSub, Nat.reduceMul, Nat.reduceLT, Nat.reduceLeDiff, Nat.reduceBEq, Nat.reduceBNe, Tryz.results157, m11, h5, h6, h1, h2, m2])
    | (((first | refine at_region ?_ | refine at_out ?_ | refine at_cond ?_); split) <;> first | (exfalso; omega; done) | simp (config := { maxSteps := 3000000 }) (disch := first | assumption | omega | exact VG.okg (by assumption) | (simp only [List.length_set, List.length_append, List.length_cons, List.length_nil, List.length_replicate]; omega)) only [go_sem, ↓reduceIte, Int.reduceLE, Int.reduceLT, Int.reduceToNat, Int.reduceNeg, Int.reduceAdd, Int.reduceSub, Int.reduceMul, Int.reduceEq, Int.reduceNe, Nat.reduceEqDiff, Nat.reduceAdd, Nat.reduceSub, Nat.reduceMul, Nat.reduceLT, Nat.reduceLeDiff, Nat.reduceBEq, Nat.reduceBNe, Tryz.results157, m11, h5, h6, h1, h2, m2] | skip))
  · refine ⟨by omega, by omega, by omega, ?_, by omega⟩
    rw [g3, show (i + 1).toNat = i.toNat + 1 by omega, List.replicate_succ']
  have hin : i.toNat = n.toNat := by omega
  rw [hin] at g2 g3
  subst g3
  refine xw_loopR (fun (y : Nat × List Int × List Int × List Int) s => s.m 11 = some (.arr v 1 (y.2.2.2.map encI)) ∧ s.ρ 5 = .ref 11 v 0 n.toNat ∧ s.m 25 = some (.arr y.1 1 ((y.2.1 ++ y.2.2.1).map encI)) ∧ s.ρ 7 = .ref 25 y.1 y.2.1.length y.2.2.1.length ∧
    s.ρ 2 = .ptr 2 0 0 0 ∧ s.m 2 = some (.box 0 [I n, LE es]) ∧ Bfs n es t y.2.2.2 y.2.2.1 ∧ Done n es y.2.2.2 (· ∈ y.2.2.1) ∧ y.2.1.length + y.2.2.1.length ≤ 1048576 ∧ y.2.1.length + y.2.2.1.length + und y.2.2.2 ≤ 100)
    (fun y => y.2.2.1.length + und y.2.2.2) (nv (m 25), [], [t], (List.replicate n.toNat (-1)).set t.toNat 0) ?_ ?_
  · have hu : und ((List.replicate n.toNat (-1)).set t.toNat 0) ≤ n.toNat := by
      unfold und
      exact Nat.le_trans (List.length_filter_le _ _) (by simp)
    refine ⟨by simp [upd], by simp [upd, h5], by simp [upd, encI], by simp [upd], by simp [upd, h2], by simp [upd, m2], hi1, hi2, by simp, by simp only [List.length_nil, List.length_cons]; omega⟩
  rintro ⟨w, pre, q, out⟩ ⟨ρ, m⟩ ⟨m1, h5, m25, h7, h2, m2, g0, g1, g2, g3⟩
  simp only at m1 h5 m25 h7 h2 m2 g0 g1 g2 g3
  cases q with
  | nil =>
    repeat' (first
      | refine xw_seq ?_
      | refine xw_block ?_
      | (refine ite_two ?_ ?_ <;> intro _ <;> first | (exfalso; omega) | skip)
      | refine ord_split (by kernel_rfl) ?_
      | (refine xw_ret ?_ <;> try simp only [sq, bl, LQ])
      | ((first | refine xw_reg ?_ | refine xw_regd ?_ | refine xw_if ?_ | refine xw_skip ?_ | refine xw_exit ?_ | refine xw_label ?_ | refine post_ret ?_ | refine post_normal ?_ | refine postE_ret ?_ | refine postE_normal ?_) <;> simp (config := { maxSteps := 3000000 }) (disch := first | assumption | omega | exact VG.okg (by assumption) | (simp only [List.length_set, List.length_append, List.length_cons, List.length_nil, List.length_replicate]; omega)) only [go_sem, ↓reduceIte, Int.reduceLE, Int.reduceLT, Int.reduceToNat, Int.reduceNeg, Int.reduceAdd, Int.reduceSub, Int.reduceMul, Int.reduceEq, Int.reduceNe, Nat.reduceEqDiff, Nat.reduceAdd, Nat.reduceSub, Nat.reduceMul, Nat.reduceLT, Nat.reduceLeDiff, Nat.reduceBEq, Nat.reduceBNe, Tryz.results157, m1, h5, m25, h7, h2, m2])
      | (((first | refine at_region ?_ | refine at_out ?_ | refine at_cond ?_); split) <;> first | (exfalso; omega; done) | simp (config := { maxSteps := 3000000 }) (disch := first | assumption | omega | exact VG.okg (by assumption) | (simp only [List.length_set, List.length_append, List.length_cons, List.length_nil, List.length_replicate]; omega)) only [go_sem, ↓reduceIte, Int.reduceLE, Int.reduceLT, Int.reduceToNat, Int.reduceNeg, Int.reduceAdd, Int.reduceSub, Int.reduceMul, Int.reduceEq, Int.reduceNe, Nat.reduceEqDiff, Nat.reduceAdd, Nat.reduceSub, Nat.reduceMul, Nat.reduceLT, Nat.reduceLeDiff, Nat.reduceBEq, Nat.reduceBNe, Tryz.results157, m1, h5, m25, h7, h2, m2] | skip))
    rw [g0.end ho g1]
    exact ⟨dstL_length.symm, rfl⟩
  | cons a q =>
    have hg := getD_len_append pre q a
    have hat := BfsAt.start g0 g1
    have hnb := c_l1Next n a es hog hnd
    have hlen := g0.len
    have ha := g0.que a (by simp)
    have hnbl : (nbS a es).length ≤ 40 := by have := alone_length a es; omega
    simp only [List.length_cons] at h7 g2 g3
    repeat' (first
      | refine xw_seq ?_
      | refine xw_block ?_
      | (refine ite_two ?_ ?_ <;> intro _ <;> first | (exfalso; omega) | skip)
      | refine ord_split (by kernel_rfl) ?_
      | (refine xw_ret ?_ <;> try simp only [sq, bl, LQ])
      | ((first | refine xw_reg ?_ | refine xw_regd ?_ | refine xw_if ?_ | refine xw_skip ?_ | refine xw_exit ?_ | refine xw_label ?_ | refine post_ret ?_ | refine post_normal ?_ | refine postE_ret ?_ | refine postE_normal ?_) <;> simp (config := { maxSteps := 3000000 }) (disch := first | assumption | omega | exact VG.okg (by assumption) | (simp only [List.length_set, List.length_append, List.length_cons, List.length_nil, List.length_replicate]; omega)) only [go_sem, ↓reduceIte, Int.reduceLE, Int.reduceLT, Int.reduceToNat, Int.reduceNeg, Int.reduceAdd, Int.reduceSub, Int.reduceMul, Int.reduceEq, Int.reduceNe, Nat.reduceEqDiff, Nat.reduceAdd, Nat.reduceSub, Nat.reduceMul, Nat.reduceLT, Nat.reduceLeDiff, Nat.reduceBEq, Nat.reduceBNe, Tryz.results157, m1, h5, m25, h7, h2, m2, hg, hnb])
      | (((first | refine at_region ?_ | refine at_out ?_ | refine at_cond ?_); split) <;> first | (exfalso; omega; done) | simp (config := { maxSteps := 3000000 }) (disch := first | assumption | omega | exact VG.okg (by assumption) | (simp only [List.length_set, List.length_append, List.length_cons, List.length_nil, List.length_replicate]; omega)) only [go_sem, ↓reduceIte, Int.reduceLE, Int.reduceLT, Int.reduceToNat, Int.reduceNeg, Int.reduceAdd, Int.reduceSub, Int.reduceMul, Int.reduceEq, Int.reduceNe, Nat.reduceEqDiff, Nat.reduceAdd, Nat.reduceSub, Nat.reduceMul, Nat.reduceLT, Nat.reduceLeDiff, Nat.reduceBEq, Nat.reduceBNe, Tryz.results157, m1, h5, m25, h7, h2, m2, hg, hnb] | skip))
    refine xw_loopR (fun (y : Int × Nat × List Int × List Int × List Int) s => s.m 11 = some (.arr v 1 (y.2.2.2.2.map encI)) ∧ s.ρ 5 = .ref 11 v 0 n.toNat ∧ s.m 25 = some (.arr y.2.1 1 ((y.2.2.1 ++ y.2.2.2.1).map encI)) ∧ s.ρ 7 = .ref 25 y.2.1 y.2.2.1.length y.2.2.2.1.length ∧
      s.ρ 2 = .ptr 2 0 0 0 ∧ s.m 2 = some (.box 0 [I n, LE es]) ∧ s.ρ 9 = LI (nbS a es) ∧ s.ρ 10 = I y.1 ∧ s.ρ 8 = I a ∧ 0 ≤ y.1 ∧ y.1 ≤ (nbS a es).length ∧ BfsAt n es t a y.1.toNat y.2.2.2.2 y.2.2.2.1 ∧
      y.2.2.1.length + y.2.2.2.1.length ≤ 1048576 ∧ y.2.2.1.length + y.2.2.2.1.length + und y.2.2.2.2 ≤ 100 ∧ y.2.2.2.1.length + und y.2.2.2.2 = q.length + und out)
      (fun y => ((nbS a es).length - y.1).toNat) (0, w, pre ++ [a], q, out) ?_ ?_
    · refine ⟨by simp [upd, m1], by simp [upd, h5], by simp [upd, m25], by simp [upd], by simp [upd, h2], by simp [upd, m2], by simp [upd], by simp [upd], by simp [upd], by simp, by simp, hat, ?_, ?_, rfl⟩
      · simp only [List.length_append, List.length_cons, List.length_nil]; omega
      · simp only [List.length_append, List.length_cons, List.length_nil]; omega
    rintro ⟨i, w', pr, q', ou⟩ ⟨ρ, m⟩ ⟨m1, h5, m25, h7, h2, m2, h9, h10, h8, f0, f1, f2, f3, f4, f5⟩
    simp only at m1 h5 m25 h7 h2 m2 h9 h10 h8 f0 f1 f2 f3 f4 f5
    have hol := f2.bfs.len
    by_cases hj : i < (nbS a es).length
    · have hadj := (mem_nbS ho).1 (getD_mem (d := 0) (show i.toNat < (nbS a es).length by omega))
      have hok := hadj.ok ho
      have hge : 0 ≤ ou.getD a.toNat 0 := f2.a0.2.2
      have hgu : ou.getD a.toNat 0 + und ou ≤ n - 1 := f2.bfs.top a ha.1 ha.2.1
      have hi1' : (i + 1).toNat = i.toNat + 1 := by omega
      repeat' (first
        | refine xw_seq ?_
        | refine xw_block ?_
        | (refine ite_two ?_ ?_ <;> intro _ <;> first | (exfalso; omega) | skip)
        | refine ord_split (by kernel_rfl) ?_
        | (refine xw_ret ?_ <;> try simp only [sq, bl, LQ])
        | ((first | refine xw_reg ?_ | refine xw_regd ?_ | refine xw_if ?_ | refine xw_skip ?_ | refine xw_exit ?_ | refine xw_label ?_ | refine post_ret ?_ | refine post_normal ?_ | refine postE_ret ?_ | refine postE_normal ?_) <;> simp (config := { maxSteps := 3000000 }) (disch := first | assumption | omega | exact VG.okg (by assumption) | (simp only [List.length_set, List.length_append, List.length_cons, List.length_nil, List.length_replicate]; omega)) only [go_sem, ↓reduceIte, Int.reduceLE, Int.reduceLT, Int.reduceToNat, Int.reduceNeg, Int.reduceAdd, Int.reduceSub, Int.reduceMul, Int.reduceEq, Int.reduceNe, Nat.reduceEqDiff, Nat.reduceAdd, Nat.reduceSub, Nat.reduceMul, Nat.reduceLT, Nat.reduceLeDiff, Nat.reduceBEq, Nat.reduceBNe, Tryz.results157, m1, h5, m25, h7, h2, m2, h9, h10, h8])
        | (((first | refine at_region ?_ | refine at_out ?_ | refine at_cond ?_); split) <;> first | (exfalso; omega; done) | simp (config := { maxSteps := 3000000 }) (disch := first | assumption | omega | exact VG.okg (by assumption) | (simp only [List.length_set, List.length_append, List.length_cons, List.length_nil, List.length_replicate]; omega)) only [go_sem, ↓reduceIte, Int.reduceLE, Int.reduceLT, Int.reduceToNat, Int.reduceNeg, Int.reduceAdd, Int.reduceSub, Int.reduceMul, Int.reduceEq, Int.reduceNe, Nat.reduceEqDiff, Nat.reduceAdd, Nat.reduceSub, Nat.reduceMul, Nat.reduceLT, Nat.reduceLeDiff, Nat.reduceBEq, Nat.reduceBNe, Tryz.results157, m1, h5, m25, h7, h2, m2, h9, h10, h8] | skip))
      · have hx : gI ou ((nbS a es).getD i.toNat 0) < 0 := by assumption
        obtain ⟨k1, k2⟩ := f2.find ho (by omega) hx
        have k3 : und (ou.set ((nbS a es).getD i.toNat 0).toNat (ou.getD a.toNat 0 + 1)) + 1 = und ou := k2
        refine ⟨i + 1, [], q' ++ [(nbS a es).getD i.toNat 0], by simp, rfl, by simp, rfl, by omega, by omega, by rw [hi1']; exact k1, ?_, ?_, ?_, by omega⟩
        all_goals simp only [List.length_append, List.length_cons, List.length_nil]
        all_goals omega
      · have hx : 0 ≤ gI ou ((nbS a es).getD i.toNat 0) := by unfold gI; omega
        exact ⟨i + 1, pr, q', rfl, rfl, rfl, rfl, by omega, by omega, by rw [hi1']; exact f2.skip ho (by omega) hx, by omega, by omega, by omega, by omega⟩
    · repeat' (first
        | refine xw_seq ?_
        | refine xw_block ?_
        | (refine ite_two ?_ ?_ <;> intro _ <;> first | (exfalso; omega) | skip)
        | refine ord_split (by kernel_rfl) ?_
        | (refine xw_ret ?_ <;> try simp only [sq, bl, LQ])
        | ((first | refine xw_reg ?_ | refine xw_regd ?_ | refine xw_if ?_ | refine xw_skip ?_ | refine xw_exit ?_ | refine xw_label ?_ | refine post_ret ?_ | refine post_normal ?_ | refine postE_ret ?_ | refine postE_normal ?_) <;> simp (config := { maxSteps := 3000000 }) (disch := first | assumption | omega | exact VG.okg (by assumption) | (simp only [List.length_set, List.length_append, List.length_cons, List.length_nil, List.length_replicate]; omega)) only [go_sem, ↓reduceIte, Int.reduceLE, Int.reduceLT, Int.reduceToNat, Int.reduceNeg, Int.reduceAdd, Int.reduceSub, Int.reduceMul, Int.reduceEq, Int.reduceNe, Nat.reduceEqDiff, Nat.reduceAdd, Nat.reduceSub, Nat.reduceMul, Nat.reduceLT, Nat.reduceLeDiff, Nat.reduceBEq, Nat.reduceBNe, Tryz.results157, m1, h5, m25, h7, h2, m2, h9, h10, h8])
        | (((first | refine at_region ?_ | refine at_out ?_ | refine at_cond ?_); split) <;> first | (exfalso; omega; done) | simp (config := { maxSteps := 3000000 }) (disch := first | assumption | omega | exact VG.okg (by assumption) | (simp only [List.length_set, List.length_append, List.length_cons, List.length_nil, List.length_replicate]; omega)) only [go_sem, ↓reduceIte, Int.reduceLE, Int.reduceLT, Int.reduceToNat, Int.reduceNeg, Int.reduceAdd, Int.reduceSub, Int.reduceMul, Int.reduceEq, Int.reduceNe, Nat.reduceEqDiff, Nat.reduceAdd, Nat.reduceSub, Nat.reduceMul, Nat.reduceLT, Nat.reduceLeDiff, Nat.reduceBEq, Nat.reduceBNe, Tryz.results157, m1, h5, m25, h7, h2, m2, h9, h10, h8] | skip))
      obtain ⟨k1, k2⟩ := f2.stop ho (by omega)
      exact ⟨pr, q', rfl, rfl, rfl, k1, k2, by omega, by omega, by omega⟩
theorem gpath_head (es : List (Int × Int)) (far : List Int) (k : Nat) (x : Int) : gpath es far k x = [x] ++ (gpath es far k x).tail := by
  cases k <;> rfl
theorem dst_le {n : Int} {es : List (Int × Int)} {t x : Int} (ho : ∀ e ∈ es, okE n e) (hn : 0 ≤ n) : dst n es t x ≤ n := by
  by_cases hc : Conn es t x
  · have ho' : ∀ e ∈ es, okE ((n.toNat : Nat) : Int) e := fun e he => by have := ho e he; unfold okE at this ⊢; omega
    have := (dst_spec ho hc).2.2 _ (Rk.all ho' hc)
    omega
  · unfold dst; rw [if_neg hc]; omega
@[go_sem] theorem c_PathBetween (n x y : Int) (es : List (Int × Int)) (hl : es.length ≤ 1048576) : KP 44 [GL n es, I x, I y] [] =
    some (if VG n es ∧ 0 ≤ x ∧ x < n ∧ 0 ≤ y ∧ y < n ∧ Conn es x y then (.tup [.ref 2000 0 0 (pathL n es x y).length, B true], [], [.arr 0 1 ((pathL n es x y).map encI)]) else (.tup [.i .emp, B false], [], [])) := by
  by_cases h : VG n es ∧ 0 ≤ x ∧ x < n ∧ 0 ≤ y ∧ y < n ∧ Conn es x y
  rotate_left
  · rw [if_neg h]
    refine xw_call (fn := Tryz.f44) rfl Tryz.func44 rfl ⟨Nat.le_of_ble_eq_true rfl, rfl, rfl⟩ ?_
    repeat' (first
      | refine xw_seq ?_
      | refine xw_block ?_
      | (refine ite_two ?_ ?_ <;> intro _ <;> first | (exfalso; omega) | skip)
      | refine ord_split (by kernel_rfl) ?_
      | (refine xw_ret ?_ <;> try simp only [sq, bl, LQ])
      | ((first | refine xw_reg ?_ | refine xw_regd ?_ | refine xw_if ?_ | refine xw_skip ?_ | refine xw_exit ?_ | refine xw_label ?_ | refine post_ret ?_ | refine post_normal ?_ | refine postE_ret ?_ | refine postE_normal ?_) <;> simp (config := { maxSteps := 3000000 }) (disch := first | assumption | omega | exact VG.okg (by assumption) | (simp only [List.length_set, List.length_append, List.length_cons, List.length_nil, List.length_replicate]; omega)) only [go_sem, ↓reduceIte, Int.reduceLE, Int.reduceLT, Int.reduceToNat, Int.reduceNeg, Int.reduceAdd, Int.reduceSub, Int.reduceMul, Int.reduceEq, Int.reduceNe, Nat.reduceEqDiff, Nat.reduceAdd, Nat.reduceSub, Nat.reduceMul, Nat.reduceLT, Nat.reduceLeDiff, Nat.reduceBEq, Nat.reduceBNe, Tryz.results44])
      | (((first | refine at_region ?_ | refine at_out ?_ | refine at_cond ?_); split) <;> first | (exfalso; omega; done) | simp (config := { maxSteps := 3000000 }) (disch := first | assumption | omega | exact VG.okg (by assumption) | (simp only [List.length_set, List.length_append, List.length_cons, List.length_nil, List.length_replicate]; omega)) only [go_sem, ↓reduceIte, Int.reduceLE, Int.reduceLT, Int.reduceToNat, Int.reduceNeg, Int.reduceAdd, Int.reduceSub, Int.reduceMul, Int.reduceEq, Int.reduceNe, Nat.reduceEqDiff, Nat.reduceAdd, Nat.reduceSub, Nat.reduceMul, Nat.reduceLT, Nat.reduceLeDiff, Nat.reduceBEq, Nat.reduceBNe, Tryz.results44] | skip))
    all_goals grind
  rw [if_pos h]
  obtain ⟨hV, hx0, hx1, hy0, hy1, hc⟩ := h
  have ho := hV.okg.ok
  have hn16 := hV.2.1
  have hle := hV.okg.len
  have hfar := c_far n y es hV ⟨hy0, hy1⟩
  have hdl : (dstL n es y).length = n.toNat := dstL_length
  have hdx := dst_le (t := y) (x := x) ho (show 0 ≤ n by omega)
  refine xw_call (fn := Tryz.f44) rfl Tryz.func44 rfl ⟨Nat.le_of_ble_eq_true rfl, rfl, rfl⟩ ?_
  repeat' (first
    | refine xw_seq ?_
    | refine xw_block ?_
    | (refine ite_two ?_ ?_ <;> intro _ <;> first | (exfalso; omega) | skip)
    | refine ord_split (by kernel_rfl) ?_
    | (refine xw_ret ?_ <;> try simp only [sq, bl, LQ])
    | ((first | refine xw_reg ?_ | refine xw_regd ?_ | refine xw_if ?_ | refine xw_skip ?_ | refine xw_exit ?_ | refine xw_label ?_ | refine post_ret ?_ | refine post_normal ?_ | refine postE_ret ?_ | refine postE_normal ?_) <;> simp (config := { maxSteps := 3000000 }) (disch := first | assumption | omega | exact VG.okg (by assumption) | (simp only [List.length_set, List.length_append, List.length_cons, List.length_nil, List.length_replicate]; omega)) only [go_sem, ↓reduceIte, Int.reduceLE, Int.reduceLT, Int.reduceToNat, Int.reduceNeg, Int.reduceAdd, Int.reduceSub, Int.reduceMul, Int.reduceEq, Int.reduceNe, Nat.reduceEqDiff, Nat.reduceAdd, Nat.reduceSub, Nat.reduceMul, Nat.reduceLT, Nat.reduceLeDiff, Nat.reduceBEq, Nat.reduceBNe, Tryz.results44, hfar])
    | (((first | refine at_region ?_ | refine at_out ?_ | refine at_cond ?_); split) <;> first | (exfalso; omega; done) | simp (config := { maxSteps := 3000000 }) (disch := first | assumption | omega | exact VG.okg (by assumption) | (simp only [List.length_set, List.length_append, List.length_cons, List.length_nil, List.length_replicate]; omega)) only [go_sem, ↓reduceIte, Int.reduceLE, Int.reduceLT, Int.reduceToNat, Int.reduceNeg, Int.reduceAdd, Int.reduceSub, Int.reduceMul, Int.reduceEq, Int.reduceNe, Nat.reduceEqDiff, Nat.reduceAdd, Nat.reduceSub, Nat.reduceMul, Nat.reduceLT, Nat.reduceLeDiff, Nat.reduceBEq, Nat.reduceBNe, Tryz.results44, hfar] | skip))
  refine xw_loopR (fun (u : Int × Nat × List Int) s => s.m 18 = some (.arr u.2.1 1 (u.2.2.map encI)) ∧ s.ρ 8 = .ref 18 u.2.1 0 u.2.2.length ∧ s.ρ 1 = I u.1 ∧ s.ρ 2 = I y ∧ s.ρ 9 = LI (dstL n es y) ∧ s.ρ 3 = .ptr 3 0 0 0 ∧ s.m 3 = some (.box 0 [I n, LE es]) ∧
    0 ≤ u.1 ∧ u.1 < n ∧ Conn es y u.1 ∧ (u.2.2.length : Int) + dst n es y u.1 = dst n es y x + 1 ∧ pathL n es x y = u.2.2 ++ (gpath es (dstL n es y) (dst n es y u.1).toNat u.1).tail) (fun u => (dst n es y u.1).toNat) (x, 0, [x]) ?_ ?_
  · refine ⟨by simp [upd, encI], by simp [upd], by simp [upd], by simp [upd], by simp [upd], by simp [upd], by simp [upd], hx0, hx1, hc.symm, by simp; omega, ?_⟩
    exact gpath_head ..
  rintro ⟨z, w, xs⟩ ⟨ρ, m⟩ ⟨m18, h8, h1, h2, h9, h3, m3, g0, g1, g2, g3, g4⟩
  simp only at m18 h8 h1 h2 h9 h3 m3 g0 g1 g2 g3 g4
  have hd0 := (dst_spec ho g2).1
  have hnb := c_neighbors n z es (by omega)
  have hnbl : (nbS z es).length ≤ 40 := by have := alone_length z es; omega
  by_cases hzy : z = y
  · subst hzy
    have h0 := dst_self (t := z) ho (show 0 ≤ n by omega)
    rw [h0] at g4
    repeat' (first
      | refine xw_seq ?_
      | refine xw_block ?_
      | (refine ite_two ?_ ?_ <;> intro _ <;> first | (exfalso; omega) | skip)
      | refine ord_split (by kernel_rfl) ?_
      | (refine xw_ret ?_ <;> try simp only [sq, bl, LQ])
      | ((first | refine xw_reg ?_ | refine xw_regd ?_ | refine xw_if ?_ | refine xw_skip ?_ | refine xw_exit ?_ | refine xw_label ?_ | refine post_ret ?_ | refine post_normal ?_ | refine postE_ret ?_ | refine postE_normal ?_) <;> simp (config := { maxSteps := 3000000 }) (disch := first | assumption | omega | exact VG.okg (by assumption) | (simp only [List.length_set, List.length_append, List.length_cons, List.length_nil, List.length_replicate]; omega)) only [go_sem, ↓reduceIte, Int.reduceLE, Int.reduceLT, Int.reduceToNat, Int.reduceNeg, Int.reduceAdd, Int.reduceSub, Int.reduceMul, Int.reduceEq, Int.reduceNe, Nat.reduceEqDiff, Nat.reduceAdd, Nat.reduceSub, Nat.reduceMul, Nat.reduceLT, Nat.reduceLeDiff, Nat.reduceBEq, Nat.reduceBNe, Tryz.results44, m18, h8, h1, h2, h9, h3, m3])
      | (((first | refine at_region ?_ | refine at_out ?_ | refine at_cond ?_); split) <;> first | (exfalso; omega; done) | simp (config := { maxSteps := 3000000 }) (disch := first | assumption | omega | exact VG.okg (by assumption) | (simp only [List.length_set, List.length_append, List.length_cons, List.length_nil, List.length_replicate]; omega)) only [go_sem, ↓reduceIte, Int.reduceLE, Int.reduceLT, Int.reduceToNat, Int.reduceNeg, Int.reduceAdd, Int.reduceSub, Int.reduceMul, Int.reduceEq, Int.reduceNe, Nat.reduceEqDiff, Nat.reduceAdd, Nat.reduceSub, Nat.reduceMul, Nat.reduceLT, Nat.reduceLeDiff, Nat.reduceBEq, Nat.reduceBNe, Tryz.results44, m18, h8, h1, h2, h9, h3, m3] | skip))
    have e1 : pathL n es x z = xs := by rw [g4]; simp [gpath]
    rw [e1]
    exact ⟨rfl, rfl⟩
  have hne : dst n es y z ≠ 0 := fun h => hzy (dst_zero ho g2 h)
  obtain ⟨s1, s2, s3, s4⟩ := nxtN_spec ho (show 0 ≤ n by omega) g2 hne
  have hgz : (dstL n es y).getD z.toNat 0 = dst n es y z := dstL_get g0 g1
  have hlez := dst_le (t := y) (x := z) ho (show 0 ≤ n by omega)
  repeat' (first
    | refine xw_seq ?_
    | refine xw_block ?_
    | (refine ite_two ?_ ?_ <;> intro _ <;> first | (exfalso; omega) | skip)
    | refine ord_split (by kernel_rfl) ?_
    | (refine xw_ret ?_ <;> try simp only [sq, bl, LQ])
    | ((first | refine xw_reg ?_ | refine xw_regd ?_ | refine xw_if ?_ | refine xw_skip ?_ | refine xw_exit ?_ | refine xw_label ?_ | refine post_ret ?_ | refine post_normal ?_ | refine postE_ret ?_ | refine postE_normal ?_) <;> simp (config := { maxSteps := 3000000 }) (disch := first | assumption | omega | exact VG.okg (by assumption) | (simp only [List.length_set, List.length_append, List.length_cons, List.length_nil, List.length_replicate]; omega)) only [go_sem, ↓reduceIte, Int.reduceLE, Int.reduceLT, Int.reduceToNat, Int.reduceNeg, Int.reduceAdd, Int.reduceSub, Int.reduceMul, Int.reduceEq, Int.reduceNe, Nat.reduceEqDiff, Nat.reduceAdd, Nat.reduceSub, Nat.reduceMul, Nat.reduceLT, Nat.reduceLeDiff, Nat.reduceBEq, Nat.reduceBNe, Tryz.results44, m18, h8, h1, h2, h9, h3, m3, hnb])
    | (((first | refine at_region ?_ | refine at_out ?_ | refine at_cond ?_); split) <;> first | (exfalso; omega; done) | simp (config := { maxSteps := 3000000 }) (disch := first | assumption | omega | exact VG.okg (by assumption) | (simp only [List.length_set, List.length_append, List.length_cons, List.length_nil, List.length_replicate]; omega)) only [go_sem, ↓reduceIte, Int.reduceLE, Int.reduceLT, Int.reduceToNat, Int.reduceNeg, Int.reduceAdd, Int.reduceSub, Int.reduceMul, Int.reduceEq, Int.reduceNe, Nat.reduceEqDiff, Nat.reduceAdd, Nat.reduceSub, Nat.reduceMul, Nat.reduceLT, Nat.reduceLeDiff, Nat.reduceBEq, Nat.reduceBNe, Tryz.results44, m18, h8, h1, h2, h9, h3, m3, hnb] | skip))
  refine xw_loopR (fun (i : Int) s => s.m 18 = some (.arr w 1 (xs.map encI)) ∧ s.ρ 8 = .ref 18 w 0 xs.length ∧ s.ρ 1 = I z ∧ s.ρ 2 = I y ∧ s.ρ 9 = LI (dstL n es y) ∧ s.ρ 3 = .ptr 3 0 0 0 ∧ s.m 3 = some (.box 0 [I n, LE es]) ∧
    s.ρ 27 = LI (nbS z es) ∧ s.ρ 28 = I (nbS z es).length ∧ s.ρ 29 = I i ∧ 0 ≤ i ∧ i ≤ (nbS z es).length ∧ ∀ e ∈ (nbS z es).take i.toNat, decide (gI (dstL n es y) e = gI (dstL n es y) z - 1) = false) (fun i => ((nbS z es).length - i).toNat) 0
    ⟨by simp [upd, m18], by simp [upd, h8], by simp [upd, h1], by simp [upd, h2], by simp [upd, h9], by simp [upd, h3], by simp [upd, m3], by simp [upd], by simp [upd], by simp [upd], by simp, by simp, by simp⟩ ?_
  rintro i ⟨ρ, m⟩ ⟨m18, h8, h1, h2, h9, h3, m3, h27, h28, h29, f0, f1, f2⟩
  simp only at m18 h8 h1 h2 h9 h3 m3 h27 h28 h29 f0 f1 f2
  by_cases hj : i < (nbS z es).length
  · have hadj := (mem_nbS ho).1 (getD_mem (d := 0) (show i.toNat < (nbS z es).length by omega))
    have hok := hadj.ok ho
    have hgi : (dstL n es y).getD ((nbS z es).getD i.toNat 0).toNat 0 = dst n es y ((nbS z es).getD i.toNat 0) := dstL_get (by omega) (by omega)
    repeat' (first
      | refine xw_seq ?_
      | refine xw_block ?_
      | (refine ite_two ?_ ?_ <;> intro _ <;> first | (exfalso; omega) | skip)
      | refine ord_split (by kernel_rfl) ?_
      | (refine xw_ret ?_ <;> try simp only [sq, bl, LQ])
      | ((first | refine xw_reg ?_ | refine xw_regd ?_ | refine xw_if ?_ | refine xw_skip ?_ | refine xw_exit ?_ | refine xw_label ?_ | refine post_ret ?_ | refine post_normal ?_ | refine postE_ret ?_ | refine postE_normal ?_) <;> simp (config := { maxSteps := 3000000 }) (disch := first | assumption | omega | exact VG.okg (by assumption) | (simp only [List.length_set, List.length_append, List.length_cons, List.length_nil, List.length_replicate]; omega)) only [go_sem, ↓reduceIte, Int.reduceLE, Int.reduceLT, Int.reduceToNat, Int.reduceNeg, Int.reduceAdd, Int.reduceSub, Int.reduceMul, Int.reduceEq, Int.reduceNe, Nat.reduceEqDiff, Nat.reduceAdd, Nat.reduceSub, Nat.reduceMul, Nat.reduceLT, Nat.reduceLeDiff, Nat.reduceBEq, Nat.reduceBNe, Tryz.results44, m18, h8, h1, h2, h9, h3, m3, h27, h28, h29, hgz])
      | (((first | refine at_region ?_ | refine at_out ?_ | refine at_cond ?_); split) <;> first | (exfalso; omega; done) | simp (config := { maxSteps := 3000000 }) (disch := first | assumption | omega | exact VG.okg (by assumption) | (simp only [List.length_set, List.length_append, List.length_cons, List.length_nil, List.length_replicate]; omega)) only [go_sem, ↓reduceIte, Int.reduceLE, Int.reduceLT, Int.reduceToNat, Int.reduceNeg, Int.reduceAdd, Int.reduceSub, Int.reduceMul, Int.reduceEq, Int.reduceNe, Nat.reduceEqDiff, Nat.reduceAdd, Nat.reduceSub, Nat.reduceMul, Nat.reduceLT, Nat.reduceLeDiff, Nat.reduceBEq, Nat.reduceBNe, Tryz.results44, m18, h8, h1, h2, h9, h3, m3, h27, h28, h29, hgz] | skip))
    · have hq : (dstL n es y).getD ((nbS z es).getD i.toNat 0).toNat 0 = dst n es y z - 1 := by assumption
      have hfi := find_at (p := fun e => decide (gI (dstL n es y) e = gI (dstL n es y) z - 1)) (show i.toNat < (nbS z es).length by omega) (by simp only [gI, hq, hgz, decide_eq_true_eq]) f2
      have hnx := s3 _ hfi
      rw [hgi] at hq
      refine ⟨by omega, by omega, g2.step hadj, by omega, ?_, by omega⟩
      have hk : (dst n es y z).toNat = (dst n es y ((nbS z es).getD i.toNat 0)).toNat + 1 := by omega
      rw [g4, hk, gpath, List.tail_cons, hnx, List.append_assoc, ← gpath_head]
    · refine ⟨by omega, by omega, ?_, by omega⟩
      rw [take_int 0 f0 hj]
      intro e he
      rcases List.mem_append.1 he with he | he
      · have := f2 e he
        simpa only [gI, hgz, decide_eq_false_iff_not] using this
      · rw [List.mem_singleton.1 he]; assumption
  · rw [take_all (by omega)] at f2
    obtain ⟨u, hu⟩ := s4
    have := List.find?_some hu
    rw [f2 u (List.mem_of_find?_eq_some hu)] at this
    cases this
theorem c_l2Path (n x y : Int) (es : List (Int × Int)) (h : VG n es ∧ 0 ≤ x ∧ x < n ∧ 0 ≤ y ∧ y < n ∧ Conn es x y) : KP 113 [GL n es, I x, I y] [] =
    some (.ref 2000 0 0 (pathL n es x y).length, [], [.arr 0 1 ((pathL n es x y).map encI)]) := by
  obtain ⟨hV, hx0, hx1, hy0, hy1, hc⟩ := h
  have ho := hV.okg.ok
  have hog := hV.okg
  have hnd := hV.nodup
  have hn16 := hV.2.1
  have hle := hV.okg.len
  have hfar := c_l2From n y es hV ⟨hy0, hy1⟩
  have hdl : (dstL n es y).length = n.toNat := dstL_length
  have hdx := dst_le (t := y) (x := x) ho (show 0 ≤ n by omega)
  refine xw_call (fn := Tryz.f113) rfl Tryz.func113 rfl ⟨Nat.le_of_ble_eq_true rfl, rfl, rfl⟩ ?_
  repeat' (first
    | refine xw_seq ?_
    | refine xw_block ?_
    | (refine ite_two ?_ ?_ <;> intro _ <;> first | (exfalso; omega) | skip)
    | refine ord_split (by kernel_rfl) ?_
    | (refine xw_ret ?_ <;> try simp only [sq, bl, LQ])
    | ((first | refine xw_reg ?_ | refine xw_regd ?_ | refine xw_if ?_ | refine xw_skip ?_ | refine xw_exit ?_ | refine xw_label ?_ | refine post_ret ?_ | refine post_normal ?_ | refine postE_ret ?_ | refine postE_normal ?_) <;> simp (config := { maxSteps := 3000000 }) (disch := first | assumption | omega | exact VG.okg (by assumption) | (simp only [List.length_set, List.length_append, List.length_cons, List.length_nil, List.length_replicate]; omega)) only [go_sem, ↓reduceIte, Int.reduceLE, Int.reduceLT, Int.reduceToNat, Int.reduceNeg, Int.reduceAdd, Int.reduceSub, Int.reduceMul, Int.reduceEq, Int.reduceNe, Nat.reduceEqDiff, Nat.reduceAdd, Nat.reduceSub, Nat.reduceMul, Nat.reduceLT, Nat.reduceLeDiff, Nat.reduceBEq, Nat.reduceBNe, Tryz.results113, hfar])
    | (((first | refine at_region ?_ | refine at_out ?_ | refine at_cond ?_); split) <;> first | (exfalso; omega; done) | simp (config := { maxSteps := 3000000 }) (disch := first | assumption | omega | exact VG.okg (by assumption) | (simp only [List.length_set, List.length_append, List.length_cons, List.length_nil, List.length_replicate]; omega)) only [go_sem, ↓reduceIte, Int.reduceLE, Int.reduceLT, Int.reduceToNat, Int.reduceNeg, Int.reduceAdd, Int.reduceSub, Int.reduceMul, Int.reduceEq, Int.reduceNe, Nat.reduceEqDiff, Nat.reduceAdd, Nat.reduceSub, Nat.reduceMul, Nat.reduceLT, Nat.reduceLeDiff, Nat.reduceBEq, Nat.reduceBNe, Tryz.results113, hfar] | skip))
  refine xw_loopR (fun (u : Int × Nat × List Int) s => s.m 15 = some (.arr u.2.1 1 (u.2.2.map encI)) ∧ s.ρ 8 = .ref 15 u.2.1 0 u.2.2.length ∧ s.ρ 9 = I u.1 ∧ s.ρ 2 = I y ∧ s.ρ 7 = LI (dstL n es y) ∧ s.ρ 3 = .ptr 3 0 0 0 ∧ s.m 3 = some (.box 0 [I n, LE es]) ∧
    0 ≤ u.1 ∧ u.1 < n ∧ Conn es y u.1 ∧ (u.2.2.length : Int) + dst n es y u.1 = dst n es y x ∧ pathL n es x y = u.2.2 ++ gpath es (dstL n es y) (dst n es y u.1).toNat u.1) (fun u => (dst n es y u.1).toNat) (x, 0, []) ?_ ?_
  · exact ⟨rfl, rfl, rfl, rfl, rfl, rfl, rfl, hx0, hx1, hc.symm, by simp, rfl⟩
  rintro ⟨z, w, xs⟩ ⟨ρ, m⟩ ⟨m15, h8, h9, h2, h7, h3, m3, g0, g1, g2, g3, g4⟩
  simp only at m15 h8 h9 h2 h7 h3 m3 g0 g1 g2 g3 g4
  have hd0 := (dst_spec ho g2).1
  have hnb := c_l1Next n z es hog hnd
  have hnbl : (nbS z es).length ≤ 40 := by have := alone_length z es; omega
  have hgz : (dstL n es y).getD z.toNat 0 = dst n es y z := dstL_get g0 g1
  have hlez := dst_le (t := y) (x := z) ho (show 0 ≤ n by omega)
  by_cases h0 : dst n es y z = 0
  · have := dst_zero ho g2 h0
    subst this
    repeat' (first
      | refine xw_seq ?_
      | refine xw_block ?_
      | (refine ite_two ?_ ?_ <;> intro _ <;> first | (exfalso; omega) | skip)
      | refine ord_split (by kernel_rfl) ?_
      | (refine xw_ret ?_ <;> try simp only [sq, bl, LQ])
      | ((first | refine xw_reg ?_ | refine xw_regd ?_ | refine xw_if ?_ | refine xw_skip ?_ | refine xw_exit ?_ | refine xw_label ?_ | refine post_ret ?_ | refine post_normal ?_ | refine postE_ret ?_ | refine postE_normal ?_) <;> simp (config := { maxSteps := 3000000 }) (disch := first | assumption | omega | exact VG.okg (by assumption) | (simp only [List.length_set, List.length_append, List.length_cons, List.length_nil, List.length_replicate]; omega)) only [go_sem, ↓reduceIte, Int.reduceLE, Int.reduceLT, Int.reduceToNat, Int.reduceNeg, Int.reduceAdd, Int.reduceSub, Int.reduceMul, Int.reduceEq, Int.reduceNe, Nat.reduceEqDiff, Nat.reduceAdd, Nat.reduceSub, Nat.reduceMul, Nat.reduceLT, Nat.reduceLeDiff, Nat.reduceBEq, Nat.reduceBNe, Tryz.results113, m15, h8, h9, h2, h7, h3, m3, hgz])
      | (((first | refine at_region ?_ | refine at_out ?_ | refine at_cond ?_); split) <;> first | (exfalso; omega; done) | simp (config := { maxSteps := 3000000 }) (disch := first | assumption | omega | exact VG.okg (by assumption) | (simp only [List.length_set, List.length_append, List.length_cons, List.length_nil, List.length_replicate]; omega)) only [go_sem, ↓reduceIte, Int.reduceLE, Int.reduceLT, Int.reduceToNat, Int.reduceNeg, Int.reduceAdd, Int.reduceSub, Int.reduceMul, Int.reduceEq, Int.reduceNe, Nat.reduceEqDiff, Nat.reduceAdd, Nat.reduceSub, Nat.reduceMul, Nat.reduceLT, Nat.reduceLeDiff, Nat.reduceBEq, Nat.reduceBNe, Tryz.results113, m15, h8, h9, h2, h7, h3, m3, hgz] | skip))
    have e1 : pathL n es x z = xs ++ [z] := by rw [g4, h0]; rfl
    rw [e1]
    simp
  obtain ⟨s1, s2, s3, s4⟩ := nxtN_spec ho (show 0 ≤ n by omega) g2 h0
  repeat' (first
    | refine xw_seq ?_
    | refine xw_block ?_
    | (refine ite_two ?_ ?_ <;> intro _ <;> first | (exfalso; omega) | skip)
    | refine ord_split (by kernel_rfl) ?_
    | (refine xw_ret ?_ <;> try simp only [sq, bl, LQ])
    | ((first | refine xw_reg ?_ | refine xw_regd ?_ | refine xw_if ?_ | refine xw_skip ?_ | refine xw_exit ?_ | refine xw_label ?_ | refine post_ret ?_ | refine post_normal ?_ | refine postE_ret ?_ | refine postE_normal ?_) <;> simp (config := { maxSteps := 3000000 }) (disch := first | assumption | omega | exact VG.okg (by assumption) | (simp only [List.length_set, List.length_append, List.length_cons, List.length_nil, List.length_replicate]; omega)) only [go_sem, ↓reduceIte, Int.reduceLE, Int.reduceLT, Int.reduceToNat, Int.reduceNeg, Int.reduceAdd, Int.reduceSub, Int.reduceMul, Int.reduceEq, Int.reduceNe, Nat.reduceEqDiff, Nat.reduceAdd, Nat.reduceSub, Nat.reduceMul, Nat.reduceLT, Nat.reduceLeDiff, Nat.reduceBEq, Nat.reduceBNe, Tryz.results113, m15, h8, h9, h2, h7, h3, m3, hgz, hnb])
    | (((first | refine at_region ?_ | refine at_out ?_ | refine at_cond ?_); split) <;> first | (exfalso; omega; done) | simp (config := { maxSteps := 3000000 }) (disch := first | assumption | omega | exact VG.okg (by assumption) | (simp only [List.length_set, List.length_append, List.length_cons, List.length_nil, List.length_replicate]; omega)) only [go_sem, ↓reduceIte, Int.reduceLE, Int.reduceLT, Int.reduceToNat, Int.reduceNeg, Int.reduceAdd, Int.reduceSub, Int.reduceMul, Int.reduceEq, Int.reduceNe, Nat.reduceEqDiff, Nat.reduceAdd, Nat.reduceSub, Nat.reduceMul, Nat.reduceLT, Nat.reduceLeDiff, Nat.reduceBEq, Nat.reduceBNe, Tryz.results113, m15, h8, h9, h2, h7, h3, m3, hgz, hnb] | skip))
  refine xw_loopR (fun (i : Int) s => s.m 15 = some (.arr (w + 1) 1 ((xs ++ [z]).map encI)) ∧ s.ρ 8 = .ref 15 (w + 1) 0 (xs.length + 1) ∧ s.ρ 9 = I z ∧ s.ρ 2 = I y ∧ s.ρ 7 = LI (dstL n es y) ∧ s.ρ 3 = .ptr 3 0 0 0 ∧ s.m 3 = some (.box 0 [I n, LE es]) ∧
    s.ρ 10 = LI (nbS z es) ∧ s.ρ 11 = I i ∧ 0 ≤ i ∧ i ≤ (nbS z es).length ∧ ∀ e ∈ (nbS z es).take i.toNat, decide (gI (dstL n es y) e = gI (dstL n es y) z - 1) = false) (fun i => ((nbS z es).length - i).toNat) 0
    ⟨by simp [upd], by simp [upd], by simp [upd, h9], by simp [upd, h2], by simp [upd, h7], by simp [upd, h3], by simp [upd, m3], by simp [upd], by simp [upd], by simp, by simp, by simp⟩ ?_
  rintro i ⟨ρ, m⟩ ⟨m15, h8, h9, h2, h7, h3, m3, h10, h11, f0, f1, f2⟩
  simp only at m15 h8 h9 h2 h7 h3 m3 h10 h11 f0 f1 f2
  by_cases hj : i < (nbS z es).length
  · have hadj := (mem_nbS ho).1 (getD_mem (d := 0) (show i.toNat < (nbS z es).length by omega))
    have hok := hadj.ok ho
    have hgi : (dstL n es y).getD ((nbS z es).getD i.toNat 0).toNat 0 = dst n es y ((nbS z es).getD i.toNat 0) := dstL_get (by omega) (by omega)
    repeat' (first
      | refine xw_seq ?_
      | refine xw_block ?_
      | (refine ite_two ?_ ?_ <;> intro _ <;> first | (exfalso; omega) | skip)
      | refine ord_split (by kernel_rfl) ?_
      | (refine xw_ret ?_ <;> try simp only [sq, bl, LQ])
      | ((first | refine xw_reg ?_ | refine xw_regd ?_ | refine xw_if ?_ | refine xw_skip ?_ | refine xw_exit ?_ | refine xw_label ?_ | refine post_ret ?_ | refine post_normal ?_ | refine postE_ret ?_ | refine postE_normal ?_) <;> simp (config := { maxSteps := 3000000 }) (disch := first | assumption | omega | exact VG.okg (by assumption) | (simp only [List.length_set, List.length_append, List.length_cons, List.length_nil, List.length_replicate]; omega)) only [go_sem, ↓reduceIte, Int.reduceLE, Int.reduceLT, Int.reduceToNat, Int.reduceNeg, Int.reduceAdd, Int.reduceSub, Int.reduceMul, Int.reduceEq, Int.reduceNe, Nat.reduceEqDiff, Nat.reduceAdd, Nat.reduceSub, Nat.reduceMul, Nat.reduceLT, Nat.reduceLeDiff, Nat.reduceBEq, Nat.reduceBNe, Tryz.results113, m15, h8, h9, h2, h7, h3, m3, h10, h11, hgz])
      | (((first | refine at_region ?_ | refine at_out ?_ | refine at_cond ?_); split) <;> first | (exfalso; omega; done) | simp (config := { maxSteps := 3000000 }) (disch := first | assumption | omega | exact VG.okg (by assumption) | (simp only [List.length_set, List.length_append, List.length_cons, List.length_nil, List.length_replicate]; omega)) only [go_sem, ↓reduceIte, Int.reduceLE, Int.reduceLT, Int.reduceToNat, Int.reduceNeg, Int.reduceAdd, Int.reduceSub, Int.reduceMul, Int.reduceEq, Int.reduceNe, Nat.reduceEqDiff, Nat.reduceAdd, Nat.reduceSub, Nat.reduceMul, Nat.reduceLT, Nat.reduceLeDiff, Nat.reduceBEq, Nat.reduceBNe, Tryz.results113, m15, h8, h9, h2, h7, h3, m3, h10, h11, hgz] | skip))
    · have hq : (dstL n es y).getD ((nbS z es).getD i.toNat 0).toNat 0 = dst n es y z - 1 := by assumption
      have hfi := find_at (p := fun e => decide (gI (dstL n es y) e = gI (dstL n es y) z - 1)) (show i.toNat < (nbS z es).length by omega) (by simp only [gI, hq, hgz, decide_eq_true_eq]) f2
      have hnx := s3 _ hfi
      rw [hgi] at hq
      have hk : (dst n es y z).toNat = (dst n es y ((nbS z es).getD i.toNat 0)).toNat + 1 := by omega
      refine ⟨by omega, by omega, g2.step hadj, by omega, ?_, by omega⟩
      rw [g4, hk, gpath, hnx, List.append_assoc]; rfl
    · refine ⟨by omega, by omega, ?_, by omega⟩
      rw [take_int 0 f0 hj]
      intro e he
      rcases List.mem_append.1 he with he | he
      · have := f2 e he
        simpa only [gI, hgz, decide_eq_false_iff_not] using this
      · rw [List.mem_singleton.1 he]; assumption
  · rw [take_all (by omega)] at f2
    obtain ⟨u, hu⟩ := s4
    have := List.find?_some hu
    rw [f2 u (List.mem_of_find?_eq_some hu)] at this
    cases this
@[go_sem] theorem c_sPathBetween (n x y : Int) (es : List (Int × Int)) (hl : es.length ≤ 1048576) : KP 45 [GL n es, I x, I y] [] =
    some (if VG n es ∧ 0 ≤ x ∧ x < n ∧ 0 ≤ y ∧ y < n ∧ Conn es x y then (.tup [LI (pathL n es x y), B true], [], []) else (.tup [.ref 2000 0 0 0, B false], [], [.arr 0 1 []])) := by
  by_cases h : VG n es ∧ 0 ≤ x ∧ x < n ∧ 0 ≤ y ∧ y < n ∧ Conn es x y
  · have hp := c_l2Path n x y es h
    refine xw_call (fn := Tryz.f45) rfl Tryz.func45 rfl ⟨Nat.le_of_ble_eq_true rfl, rfl, rfl⟩ ?_
    repeat' (first
      | refine xw_seq ?_
      | refine xw_block ?_
      | (refine ite_two ?_ ?_ <;> intro _ <;> first | (exfalso; omega) | skip)
      | refine ord_split (by kernel_rfl) ?_
      | (refine xw_ret ?_ <;> try simp only [sq, bl, LQ])
      | ((first | refine xw_reg ?_ | refine xw_regd ?_ | refine xw_if ?_ | refine xw_skip ?_ | refine xw_exit ?_ | refine xw_label ?_ | refine post_ret ?_ | refine post_normal ?_ | refine postE_ret ?_ | refine postE_normal ?_) <;> simp (config := { maxSteps := 3000000 }) (disch := first | assumption | omega | exact VG.okg (by assumption) | (simp only [List.length_set, List.length_append, List.length_cons, List.length_nil, List.length_replicate]; omega)) only [go_sem, ↓reduceIte, Int.reduceLE, Int.reduceLT, Int.reduceToNat, Int.reduceNeg, Int.reduceAdd, Int.reduceSub, Int.reduceMul, Int.reduceEq, Int.reduceNe, Nat.reduceEqDiff, Nat.reduceAdd, Nat.reduceSub, Nat.reduceMul, Nat.reduceLT, Nat.reduceLeDiff, Nat.reduceBEq, Nat.reduceBNe, Tryz.results45, hp])
      | (((first | refine at_region ?_ | refine at_out ?_ | refine at_cond ?_); split) <;> first | (exfalso; omega; done) | simp (config := { maxSteps := 3000000 }) (disch := first | assumption | omega | exact VG.okg (by assumption) | (simp only [List.length_set, List.length_append, List.length_cons, List.length_nil, List.length_replicate]; omega)) only [go_sem, ↓reduceIte, Int.reduceLE, Int.reduceLT, Int.reduceToNat, Int.reduceNeg, Int.reduceAdd, Int.reduceSub, Int.reduceMul, Int.reduceEq, Int.reduceNe, Nat.reduceEqDiff, Nat.reduceAdd, Nat.reduceSub, Nat.reduceMul, Nat.reduceLT, Nat.reduceLeDiff, Nat.reduceBEq, Nat.reduceBNe, Tryz.results45, hp] | skip))
  · rw [if_neg h]
    refine xw_call (fn := Tryz.f45) rfl Tryz.func45 rfl ⟨Nat.le_of_ble_eq_true rfl, rfl, rfl⟩ ?_
    repeat' (first
      | refine xw_seq ?_
      | refine xw_block ?_
      | (refine ite_two ?_ ?_ <;> intro _ <;> first | (exfalso; omega) | skip)
      | refine ord_split (by kernel_rfl) ?_
      | (refine xw_ret ?_ <;> try simp only [sq, bl, LQ])
      | ((first | refine xw_reg ?_ | refine xw_regd ?_ | refine xw_if ?_ | refine xw_skip ?_ | refine xw_exit ?_ | refine xw_label ?_ | refine post_ret ?_ | refine post_normal ?_ | refine postE_ret ?_ | refine postE_normal ?_) <;> simp (config := { maxSteps := 3000000 }) (disch := first | assumption | omega | exact VG.okg (by assumption) | (simp only [List.length_set, List.length_append, List.length_cons, List.length_nil, List.length_replicate]; omega)) only [go_sem, ↓reduceIte, Int.reduceLE, Int.reduceLT, Int.reduceToNat, Int.reduceNeg, Int.reduceAdd, Int.reduceSub, Int.reduceMul, Int.reduceEq, Int.reduceNe, Nat.reduceEqDiff, Nat.reduceAdd, Nat.reduceSub, Nat.reduceMul, Nat.reduceLT, Nat.reduceLeDiff, Nat.reduceBEq, Nat.reduceBNe, Tryz.results45])
      | (((first | refine at_region ?_ | refine at_out ?_ | refine at_cond ?_); split) <;> first | (exfalso; omega; done) | simp (config := { maxSteps := 3000000 }) (disch := first | assumption | omega | exact VG.okg (by assumption) | (simp only [List.length_set, List.length_append, List.length_cons, List.length_nil, List.length_replicate]; omega)) only [go_sem, ↓reduceIte, Int.reduceLE, Int.reduceLT, Int.reduceToNat, Int.reduceNeg, Int.reduceAdd, Int.reduceSub, Int.reduceMul, Int.reduceEq, Int.reduceNe, Nat.reduceEqDiff, Nat.reduceAdd, Nat.reduceSub, Nat.reduceMul, Nat.reduceLT, Nat.reduceLeDiff, Nat.reduceBEq, Nat.reduceBNe, Tryz.results45] | skip))
    all_goals grind
end Go.Proofs.YtdjdgnabcecdlaaGreatDoor.X

/- What functions compute: drawing a graph and two nodes; comparing lists. -/
set_option linter.unusedSimpArgs false
set_option linter.unusedVariables false
set_option maxHeartbeats 2000000
namespace Go.Proofs.YtdjdgnabcecdlaaGreatDoor.X
open Go Go.Proofs
theorem c_l2Two (bs : List Int) (hb : ∀ b ∈ bs, 0 ≤ b ∧ b < 256) (hl : bs.length ≤ 1000000000) :
    ∃ (n : Int) (es : List (Int × Int)) (x y : Int), 0 ≤ n ∧ n ≤ 17 ∧ es.length ≤ 40 ∧ -1 ≤ x ∧ x ≤ 16 ∧ -1 ≤ y ∧ y ≤ 16 ∧ KP 101 [LB bs] [] = some (.tup [GL n es, I x, I y], [], []) := by
  obtain ⟨n, es, x, h1, h2, h3, h4, h5, hnode⟩ := c_l1Node bs hb hl
  obtain ⟨cs, hcs, hopen⟩ := c_l14Open bs hb hl
  obtain ⟨y, hy, hnum⟩ := c_num cs 0 [0, 1, 2, 3, 5, 16, -1] hcs (by omega) (by simp) (by simp)
  have hy' : -1 ≤ y ∧ y ≤ 16 := by
    have : ∀ x ∈ [0, 1, 2, 3, 5, 16, (-1 : Int)], -1 ≤ x ∧ x ≤ 16 := by decide
    exact this y hy
  simp only [List.map_cons, List.map_nil, encI, List.length_cons, List.length_nil, Nat.reduceAdd] at hnum
  obtain ⟨a, ha, _, hpa⟩ := c_pick cs 1 8 hcs (by omega) (by omega)
  obtain ⟨z, hz, hz', hpz⟩ := c_pick cs 2 n hcs (by omega) (by omega)
  by_cases hc : 0 < n ∧ 0 < a
  · obtain ⟨hc1, hc2⟩ := hc
    have := hz (by omega)
    refine ⟨n, es, x, z, h1, h2, h3, h4, h5, by omega, by omega, xw_call (fn := Tryz.f101) rfl Tryz.func101 rfl ⟨Nat.le_of_ble_eq_true rfl, rfl, rfl⟩ ?_⟩
    repeat' (first
      | refine xw_seq ?_
      | refine xw_block ?_
      | (refine ite_two ?_ ?_ <;> intro _ <;> first | (exfalso; omega) | skip)
      | refine ord_split (by kernel_rfl) ?_
      | (refine xw_ret ?_ <;> try simp only [sq, bl, LQ])
      | ((first | refine xw_reg ?_ | refine xw_regd ?_ | refine xw_if ?_ | refine xw_skip ?_ | refine xw_exit ?_ | refine xw_label ?_ | refine post_ret ?_ | refine post_normal ?_ | refine postE_ret ?_ | refine postE_normal ?_) <;> simp (config := { maxSteps := 3000000 }) (disch := first | assumption | omega | exact VG.okg (by assumption) | (simp only [List.length_set, List.length_append, List.length_cons, List.length_nil, List.length_replicate]; omega)) only [go_sem, ↓reduceIte, Int.reduceLE, Int.reduceLT, Int.reduceToNat, Int.reduceNeg, Int.reduceAdd, Int.reduceSub, Int.reduceMul, Int.reduceEq, Int.reduceNe, Nat.reduceEqDiff, Nat.reduceAdd, Nat.reduceSub, Nat.reduceMul, Nat.reduceLT, Nat.reduceLeDiff, Nat.reduceBEq, Nat.reduceBNe, Tryz.results101, hnode, hopen, hnum, hpa, hpz])
      | (((first | refine at_region ?_ | refine at_out ?_ | refine at_cond ?_); split) <;> first | (exfalso; omega; done) | simp (config := { maxSteps := 3000000 }) (disch := first | assumption | omega | exact VG.okg (by assumption) | (simp only [List.length_set, List.length_append, List.length_cons, List.length_nil, List.length_replicate]; omega)) only [go_sem, ↓reduceIte, Int.reduceLE, Int.reduceLT, Int.reduceToNat, Int.reduceNeg, Int.reduceAdd, Int.reduceSub, Int.reduceMul, Int.reduceEq, Int.reduceNe, Nat.reduceEqDiff, Nat.reduceAdd, Nat.reduceSub, Nat.reduceMul, Nat.reduceLT, Nat.reduceLeDiff, Nat.reduceBEq, Nat.reduceBNe, Tryz.results101, hnode, hopen, hnum, hpa, hpz] | skip))
  · refine ⟨n, es, x, y, h1, h2, h3, h4, h5, by omega, by omega, xw_call (fn := Tryz.f101) rfl Tryz.func101 rfl ⟨Nat.le_of_ble_eq_true rfl, rfl, rfl⟩ ?_⟩
    repeat' (first
      | refine xw_seq ?_
      | refine xw_block ?_
      | (refine ite_two ?_ ?_ <;> intro _ <;> first | (exfalso; omega) | skip)
      | refine ord_split (by kernel_rfl) ?_
      | (refine xw_ret ?_ <;> try simp only [sq, bl, LQ])
      | ((first | refine xw_reg ?_ | refine xw_regd ?_ | refine xw_if ?_ | refine xw_skip ?_ | refine xw_exit ?_ | refine xw_label ?_ | refine post_ret ?_ | refine post_normal ?_ | refine postE_ret ?_ | refine postE_normal ?_) <;> simp (config := { maxSteps := 3000000 }) (disch := first | assumption | omega | exact VG.okg (by assumption) | (simp only [List.length_set, List.length_append, List.length_cons, List.length_nil, List.length_replicate]; omega)) only [go_sem, ↓reduceIte, Int.reduceLE, Int.reduceLT, Int.reduceToNat, Int.reduceNeg, Int.reduceAdd, Int.reduceSub, Int.reduceMul, Int.reduceEq, Int.reduceNe, Nat.reduceEqDiff, Nat.reduceAdd, Nat.reduceSub, Nat.reduceMul, Nat.reduceLT, Nat.reduceLeDiff, Nat.reduceBEq, Nat.reduceBNe, Tryz.results101, hnode, hopen, hnum, hpa, hpz])
      | (((first | refine at_region ?_ | refine at_out ?_ | refine at_cond ?_); split) <;> first | (exfalso; omega; done) | simp (config := { maxSteps := 3000000 }) (disch := first | assumption | omega | exact VG.okg (by assumption) | (simp only [List.length_set, List.length_append, List.length_cons, List.length_nil, List.length_replicate]; omega)) only [go_sem, ↓reduceIte, Int.reduceLE, Int.reduceLT, Int.reduceToNat, Int.reduceNeg, Int.reduceAdd, Int.reduceSub, Int.reduceMul, Int.reduceEq, Int.reduceNe, Nat.reduceEqDiff, Nat.reduceAdd, Nat.reduceSub, Nat.reduceMul, Nat.reduceLT, Nat.reduceLeDiff, Nat.reduceBEq, Nat.reduceBNe, Tryz.results101, hnode, hopen, hnum, hpa, hpz] | skip))
theorem c_dyInts (xs ys : List Int) (hl : xs.length ≤ 1048576) : KP 46 [LI xs, LI ys] [] = some (B (decide (xs = ys)), [], []) := by
  refine xw_call (fn := Tryz.f46) rfl Tryz.func46 rfl ⟨Nat.le_of_ble_eq_true rfl, rfl, rfl⟩ ?_
  by_cases hle : xs.length = ys.length
  rotate_left
  · have hne : xs ≠ ys := fun h => hle (by rw [h])
    repeat' (first
      | refine xw_seq ?_
      | refine xw_block ?_
      | (refine ite_two ?_ ?_ <;> intro _ <;> first | (exfalso; omega) | skip)
      | refine ord_split (by kernel_rfl) ?_
      | (refine xw_ret ?_ <;> try simp only [sq, bl, LQ])
      | ((first | refine xw_reg ?_ | refine xw_regd ?_ | refine xw_if ?_ | refine xw_skip ?_ | refine xw_exit ?_ | refine xw_label ?_ | refine post_ret ?_ | refine post_normal ?_ | refine postE_ret ?_ | refine postE_normal ?_) <;> simp (config := { maxSteps := 3000000 }) (disch := first | assumption | omega | exact VG.okg (by assumption) | (simp only [List.length_set, List.length_append, List.length_cons, List.length_nil, List.length_replicate]; omega)) only [go_sem, ↓reduceIte, Int.reduceLE, Int.reduceLT, Int.reduceToNat, Int.reduceNeg, Int.reduceAdd, Int.reduceSub, Int.reduceMul, Int.reduceEq, Int.reduceNe, Nat.reduceEqDiff, Nat.reduceAdd, Nat.reduceSub, Nat.reduceMul, Nat.reduceLT, Nat.reduceLeDiff, Nat.reduceBEq, Nat.reduceBNe, Tryz.results46])
      | (((first | refine at_region ?_ | refine at_out ?_ | refine at_cond ?_); split) <;> first | (exfalso; omega; done) | simp (config := { maxSteps := 3000000 }) (disch := first | assumption | omega | exact VG.okg (by assumption) | (simp only [List.length_set, List.length_append, List.length_cons, List.length_nil, List.length_replicate]; omega)) only [go_sem, ↓reduceIte, Int.reduceLE, Int.reduceLT, Int.reduceToNat, Int.reduceNeg, Int.reduceAdd, Int.reduceSub, Int.reduceMul, Int.reduceEq, Int.reduceNe, Nat.reduceEqDiff, Nat.reduceAdd, Nat.reduceSub, Nat.reduceMul, Nat.reduceLT, Nat.reduceLeDiff, Nat.reduceBEq, Nat.reduceBNe, Tryz.results46] | skip))
    simp [hne]
  repeat' (first
    | refine xw_seq ?_
    | refine xw_block ?_
    | (refine ite_two ?_ ?_ <;> intro _ <;> first | (exfalso; omega) | skip)
    | refine ord_split (by kernel_rfl) ?_
    | (refine xw_ret ?_ <;> try simp only [sq, bl, LQ])
    | ((first | refine xw_reg ?_ | refine xw_regd ?_ | refine xw_if ?_ | refine xw_skip ?_ | refine xw_exit ?_ | refine xw_label ?_ | refine post_ret ?_ | refine post_normal ?_ | refine postE_ret ?_ | refine postE_normal ?_) <;> simp (config := { maxSteps := 3000000 }) (disch := first | assumption | omega | exact VG.okg (by assumption) | (simp only [List.length_set, List.length_append, List.length_cons, List.length_nil, List.length_replicate]; omega)) only [go_sem, ↓reduceIte, Int.reduceLE, Int.reduceLT, Int.reduceToNat, Int.reduceNeg, Int.reduceAdd, Int.reduceSub, Int.reduceMul, Int.reduceEq, Int.reduceNe, Nat.reduceEqDiff, Nat.reduceAdd, Nat.reduceSub, Nat.reduceMul, Nat.reduceLT, Nat.reduceLeDiff, Nat.reduceBEq, Nat.reduceBNe, Tryz.results46])
    | (((first | refine at_region ?_ | refine at_out ?_ | refine at_cond ?_); split) <;> first | (exfalso; omega; done) | simp (config := { maxSteps := 3000000 }) (disch := first | assumption | omega | exact VG.okg (by assumption) | (simp only [List.length_set, List.length_append, List.length_cons, List.length_nil, List.length_replicate]; omega)) only [go_sem, ↓reduceIte, Int.reduceLE, Int.reduceLT, Int.reduceToNat, Int.reduceNeg, Int.reduceAdd, Int.reduceSub, Int.reduceMul, Int.reduceEq, Int.reduceNe, Nat.reduceEqDiff, Nat.reduceAdd, Nat.reduceSub, Nat.reduceMul, Nat.reduceLT, Nat.reduceLeDiff, Nat.reduceBEq, Nat.reduceBNe, Tryz.results46] | skip))
  refine xw_loopR (fun (i : Int) s => s.ρ 0 = LI xs ∧ s.ρ 1 = LI ys ∧ s.ρ 5 = I i ∧ 0 ≤ i ∧ i ≤ xs.length ∧ xs.take i.toNat = ys.take i.toNat) (fun i => (xs.length - i).toNat) 0 ⟨rfl, rfl, rfl, by simp, by simp, by simp⟩ ?_
  rintro i ⟨ρ, m⟩ ⟨h0, h1, h5, g0, g1, g2⟩
  simp only at h0 h1 h5
  repeat' (first
    | refine xw_seq ?_
    | refine xw_block ?_
    | (refine ite_two ?_ ?_ <;> intro _ <;> first | (exfalso; omega) | skip)
    | refine ord_split (by kernel_rfl) ?_
    | (refine xw_ret ?_ <;> try simp only [sq, bl, LQ])
    | ((first | refine xw_reg ?_ | refine xw_regd ?_ | refine xw_if ?_ | refine xw_skip ?_ | refine xw_exit ?_ | refine xw_label ?_ | refine post_ret ?_ | refine post_normal ?_ | refine postE_ret ?_ | refine postE_normal ?_) <;> simp (config := { maxSteps := 3000000 }) (disch := first | assumption | omega | exact VG.okg (by assumption) | (simp only [List.length_set, List.length_append, List.length_cons, List.length_nil, List.length_replicate]; omega)) only [go_sem, ↓reduceIte, Int.reduceLE, Int.reduceLT, Int.reduceToNat, Int.reduceNeg, Int.reduceAdd, Int.reduceSub, Int.reduceMul, Int.reduceEq, Int.reduceNe, Nat.reduceEqDiff, Nat.reduceAdd, Nat.reduceSub, Nat.reduceMul, Nat.reduceLT, Nat.reduceLeDiff, Nat.reduceBEq, Nat.reduceBNe, Tryz.results46, h0, h1, h5])
    | (((first | refine at_region ?_ | refine at_out ?_ | refine at_cond ?_); split) <;> first | (exfalso; omega; done) | simp (config := { maxSteps := 3000000 }) (disch := first | assumption | omega | exact VG.okg (by assumption) | (simp only [List.length_set, List.length_append, List.length_cons, List.length_nil, List.length_replicate]; omega)) only [go_sem, ↓reduceIte, Int.reduceLE, Int.reduceLT, Int.reduceToNat, Int.reduceNeg, Int.reduceAdd, Int.reduceSub, Int.reduceMul, Int.reduceEq, Int.reduceNe, Nat.reduceEqDiff, Nat.reduceAdd, Nat.reduceSub, Nat.reduceMul, Nat.reduceLT, Nat.reduceLeDiff, Nat.reduceBEq, Nat.reduceBNe, Tryz.results46, h0, h1, h5] | skip))
  · refine ⟨by omega, by omega, ?_, by omega⟩
    rw [take_int 0 g0 (by omega), take_int 0 g0 (by omega), g2]
    grind
  · rename_i h
    symm; rw [decide_eq_false_iff_not]
    intro he
    exact h (by rw [he])
  · symm; rw [decide_eq_true_iff]
    rw [take_all (by omega), take_all (by omega)] at g2
    exact g2
theorem c_dyInts_nil : KP 46 [.i (.lst []), .i (.lst [])] [] = some (B true, [], []) :=
  c_dyInts [] [] (by simp)
theorem c_DrawPathBetween (bs : List Int) (hb : ∀ b ∈ bs, 0 ≤ b ∧ b < 256) (hl : bs.length ≤ 1000000000) :
    ∃ (n : Int) (es : List (Int × Int)) (x y : Int), 0 ≤ n ∧ n ≤ 17 ∧ es.length ≤ 40 ∧ -1 ≤ x ∧ x ≤ 16 ∧ -1 ≤ y ∧ y ≤ 16 ∧ KP 43 [LB bs] [] = some (.tup [GL n es, I x, I y], [], []) := by
  obtain ⟨n, es, x, y, h1, h2, h3, h4, h5, h6, h7, hd⟩ := c_l2Two bs hb hl
  refine ⟨n, es, x, y, h1, h2, h3, h4, h5, h6, h7, xw_call (fn := Tryz.f43) rfl Tryz.func43 rfl ⟨Nat.le_of_ble_eq_true rfl, rfl, rfl⟩ ?_⟩
  repeat' (first
    | refine xw_seq ?_
    | refine xw_block ?_
    | (refine ite_two ?_ ?_ <;> intro _ <;> first | (exfalso; omega) | skip)
    | refine ord_split (by kernel_rfl) ?_
    | (refine xw_ret ?_ <;> try simp only [sq, bl, LQ])
    | ((first | refine xw_reg ?_ | refine xw_regd ?_ | refine xw_if ?_ | refine xw_skip ?_ | refine xw_exit ?_ | refine xw_label ?_ | refine post_ret ?_ | refine post_normal ?_ | refine postE_ret ?_ | refine postE_normal ?_) <;> simp (config := { maxSteps := 3000000 }) (disch := first | assumption | omega | exact VG.okg (by assumption) | (simp only [List.length_set, List.length_append, List.length_cons, List.length_nil, List.length_replicate]; omega)) only [go_sem, ↓reduceIte, Int.reduceLE, Int.reduceLT, Int.reduceToNat, Int.reduceNeg, Int.reduceAdd, Int.reduceSub, Int.reduceMul, Int.reduceEq, Int.reduceNe, Nat.reduceEqDiff, Nat.reduceAdd, Nat.reduceSub, Nat.reduceMul, Nat.reduceLT, Nat.reduceLeDiff, Nat.reduceBEq, Nat.reduceBNe, Tryz.results43, hd])
    | (((first | refine at_region ?_ | refine at_out ?_ | refine at_cond ?_); split) <;> first | (exfalso; omega; done) | simp (config := { maxSteps := 3000000 }) (disch := first | assumption | omega | exact VG.okg (by assumption) | (simp only [List.length_set, List.length_append, List.length_cons, List.length_nil, List.length_replicate]; omega)) only [go_sem, ↓reduceIte, Int.reduceLE, Int.reduceLT, Int.reduceToNat, Int.reduceNeg, Int.reduceAdd, Int.reduceSub, Int.reduceMul, Int.reduceEq, Int.reduceNe, Nat.reduceEqDiff, Nat.reduceAdd, Nat.reduceSub, Nat.reduceMul, Nat.reduceLT, Nat.reduceLeDiff, Nat.reduceBEq, Nat.reduceBNe, Tryz.results43, hd] | skip))
end Go.Proofs.YtdjdgnabcecdlaaGreatDoor.X
