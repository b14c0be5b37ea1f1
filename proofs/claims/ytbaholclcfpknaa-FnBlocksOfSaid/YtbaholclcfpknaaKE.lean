/- Graphs and paths. -/
import Derived.Test.YtbaholclcfpknaaKD
/- Distances by a search in breadth: plain law. -/
set_option linter.unusedVariables false
namespace Go.Proofs.Ytbaholclcfpknaa.X
open Go

/-- The value at a node. -/
abbrev gI (l : List Int) (x : Int) : Int := l.getD x.toNat 0
/-- How many nodes are not found yet. -/
def und (out : List Int) : Nat := (out.filter fun d => decide (d < 0)).length
/-- A search in breadth from a node: what is found, what is to be looked at. -/
structure Bfs (n : Int) (es : List (Int × Int)) (t : Int) (out q : List Int) : Prop where
  len : out.length = n.toNat
  t0 : 0 ≤ t ∧ t < n
  src : gI out t = 0
  low : ∀ x, 0 ≤ x → x < n → -1 ≤ gI out x
  reach : ∀ x, 0 ≤ x → x < n → 0 ≤ gI out x → Rk es t (gI out x).toNat x
  que : ∀ x ∈ q, 0 ≤ x ∧ x < n ∧ 0 ≤ gI out x
  sorted : q.Pairwise fun a b => gI out a ≤ gI out b
  near : ∀ a ∈ q, ∀ x, 0 ≤ x → x < n → gI out x ≤ gI out a + 1
  top : ∀ x, 0 ≤ x → x < n → gI out x + und out ≤ n - 1
/-- All but some nodes have been looked at. -/
def Done (n : Int) (es : List (Int × Int)) (out : List Int) (ex : Int → Prop) : Prop := ∀ x, 0 ≤ x → x < n → 0 ≤ gI out x → ¬ ex x → ∀ y, Adj es x y → 0 ≤ gI out y ∧ gI out y ≤ gI out x + 1

/-- While the neighbors of a node are looked at. -/
structure BfsAt (n : Int) (es : List (Int × Int)) (t a : Int) (i : Nat) (out q : List Int) : Prop where
  bfs : Bfs n es t out q
  a0 : 0 ≤ a ∧ a < n ∧ 0 ≤ gI out a
  hq : ∀ y ∈ q, gI out a ≤ gI out y
  hn : ∀ y, 0 ≤ y → y < n → gI out y ≤ gI out a + 1
  done : Done n es out (fun x => x ∈ q ∨ x = a)
  seen : ∀ y ∈ (nbS a es).take i, 0 ≤ gI out y ∧ gI out y ≤ gI out a + 1
theorem BfsAt.skip {n : Int} {es : List (Int × Int)} {t a : Int} {i : Nat} {out q : List Int} (ho : ∀ e ∈ es, okE n e) (h : BfsAt n es t a i out q) (hi : i < (nbS a es).length) (hx : 0 ≤ gI out ((nbS a es).getD i 0)) : BfsAt n es t a (i + 1) out q := by
  have hadj := (mem_nbS ho).1 (getD_mem (d := 0) hi)
  have hok := hadj.ok ho
  refine ⟨h.bfs, h.a0, h.hq, h.hn, h.done, fun y hy => ?_⟩
  have htk : (nbS a es).take (i + 1) = (nbS a es).take i ++ [(nbS a es).getD i 0] := by rw [List.take_add_one]; simp [hi]
  rw [htk] at hy
  rcases List.mem_append.1 hy with hy | hy
  · exact h.seen y hy
  · rw [List.mem_singleton.1 hy]; exact ⟨hx, h.hn _ (by omega) (by omega)⟩
open Classical in
/-- The distance from a node, or -1. -/
noncomputable def dst (n : Int) (es : List (Int × Int)) (t x : Int) : Int := if Conn es t x then (((List.range (n.toNat + 1)).find? fun k => decide (Rk es t k x)).getD 0 : Nat) else -1
open Classical in
theorem dst_eq {n : Int} {es : List (Int × Int)} {t x : Int} {k : Nat} (hk : Rk es t k x) (hm : ∀ j, Rk es t j x → k ≤ j) (ho : ∀ e ∈ es, okE n e) (hn : 0 ≤ n) : dst n es t x = k := by
  unfold dst
  rw [if_pos hk.conn]
  have ho' : ∀ e ∈ es, okE ((n.toNat : Nat) : Int) e := fun e he => by have := ho e he; unfold okE at this ⊢; omega
  have hle := hm _ (Rk.all ho' hk.conn)
  have : (List.range (n.toNat + 1)).find? (fun k => decide (Rk es t k x)) = some k := by
    rw [List.find?_range_eq_some]
    refine ⟨by simpa using hk, List.mem_range.2 (by omega), fun j hj => ?_⟩
    have : ¬ Rk es t j x := fun h => by have := hm j h; omega
    simp [this]
  rw [this]; rfl
open Classical in
noncomputable def dstL (n : Int) (es : List (Int × Int)) (t : Int) : List Int := (iota n).map fun x => dst n es t x
theorem dstL_get {n : Int} {es : List (Int × Int)} {t x : Int} (h0 : 0 ≤ x) (h1 : x < n) : gI (dstL n es t) x = dst n es t x := by
  unfold gI dstL iota
  have : x.toNat < n.toNat := by omega
  simp [this, Int.toNat_of_nonneg h0]
theorem dstL_length {n : Int} {es : List (Int × Int)} {t : Int} : (dstL n es t).length = n.toNat := by simp [dstL, iota]
theorem list_gI {l r : List Int} {n : Int} (hl : l.length = n.toNat) (hr : r.length = n.toNat) (h : ∀ x, 0 ≤ x → x < n → gI l x = gI r x) : l = r := by
  refine List.ext_getElem (by omega) fun i h1 h2 => ?_
  have := h (i : Int) (by omega) (by omega)
  unfold gI at this
  simpa [h1, h2] using this
/-- When nothing is left to be looked at, the distances are found. -/
theorem Bfs.end {n : Int} {es : List (Int × Int)} {t : Int} {out : List Int} (ho : ∀ e ∈ es, okE n e) (h : Bfs n es t out []) (hd : Done n es out (· ∈ ([] : List Int))) : out = dstL n es t := by
  have key : ∀ (k : Nat) (x : Int), Rk es t k x → 0 ≤ x ∧ x < n ∧ 0 ≤ gI out x ∧ gI out x ≤ k := by
    intro k
    induction k with
    | zero => intro x hx; cases hx; exact ⟨h.t0.1, h.t0.2, by rw [h.src]; omega, by rw [h.src]; omega⟩
    | succ k ih =>
      intro x hx
      rcases hx with hx | ⟨z, hz, ha⟩
      · have := ih x hx; omega
      · have h1 := ih z hz
        have h2 := hd z h1.1 h1.2.1 h1.2.2.1 (by simp) x ha
        have h3 := ha.ok ho
        omega
  refine list_gI h.len dstL_length fun x h0 h1 => ?_
  rw [dstL_get h0 h1]
  by_cases hx : 0 ≤ gI out x
  · have hr := h.reach x h0 h1 hx
    rw [dst_eq hr (fun j hj => by have := (key j x hj).2.2.2; omega) ho (by have := h.t0; omega)]
    omega
  · have hlow := h.low x h0 h1
    have : ¬ Conn es t x := fun hc => by
      have ho' : ∀ e ∈ es, okE ((n.toNat : Nat) : Int) e := fun e he => by have := ho e he; unfold okE at this ⊢; omega
      have := (key _ x (Rk.all ho' hc)).2.2.1
      omega
    unfold dst
    rw [if_neg this]; omega

/-! The first of the shortest paths. -/
def nxtN (es : List (Int × Int)) (far : List Int) (x : Int) : Int := ((nbS x es).find? fun y => decide (gI far y = gI far x - 1)).getD x
def gpath (es : List (Int × Int)) (far : List Int) : Nat → Int → List Int
  | 0, x => [x]
  | k + 1, x => x :: gpath es far k (nxtN es far x)
noncomputable def pathL (n : Int) (es : List (Int × Int)) (x y : Int) : List Int := gpath es (dstL n es y) (dst n es y x).toNat x
end Go.Proofs.Ytbaholclcfpknaa.X


/- Shortest paths: plain law. -/
set_option linter.unusedVariables false
namespace Go.Proofs.Ytbaholclcfpknaa.X
open Go

theorem Rk.one {es : List (Int × Int)} {x y : Int} (h : Adj es x y) : Rk es x 1 y := .inr ⟨x, rfl, h⟩
theorem Rk.comp {es : List (Int × Int)} {x y : Int} {j : Nat} (h : Rk es x j y) : ∀ (k : Nat) {z : Int}, Rk es y k z → Rk es x (j + k) z
  | 0, z, hk => by cases hk; exact h
  | k + 1, z, hk => by
    rcases hk with hk | ⟨w, hw, ha⟩
    · exact .inl (Rk.comp h k hk)
    · exact .inr ⟨w, Rk.comp h k hw, ha⟩
theorem Rk.symm {es : List (Int × Int)} {x : Int} : ∀ (k : Nat) {y : Int}, Rk es x k y → Rk es y k x
  | 0, y, h => by cases h; rfl
  | k + 1, y, h => by
    rcases h with h | ⟨z, h, a⟩
    · exact .inl (Rk.symm k h)
    · have := (Rk.one a.symm).comp k (Rk.symm k h)
      rwa [Nat.add_comm 1 k] at this
end Go.Proofs.Ytbaholclcfpknaa.X


/- What functions compute: distances and paths. -/
set_option linter.unusedSimpArgs false
set_option linter.unusedVariables false
set_option maxHeartbeats 2000000
namespace Go.Proofs.Ytbaholclcfpknaa.X
open Go Go.Proofs

end Go.Proofs.Ytbaholclcfpknaa.X



/- The number of connected parts: plain law. -/
set_option linter.unusedVariables false
namespace Go.Proofs.Ytbaholclcfpknaa.X
open Go

/-- Connected alike, if all edges join what is connected. -/
theorem Conn.via {es fs : List (Int × Int)} (h : ∀ e ∈ es, Conn fs e.1 e.2) {x y : Int} (hc : Conn es x y) : Conn fs x y := by
  induction hc with
  | refl => exact .refl _
  | step _ a ih =>
    rcases a with a | a
    · exact ih.trans (h _ a)
    · exact ih.trans (h _ a).symm
theorem Conn.edge {es : List (Int × Int)} {e : Int × Int} (h : e ∈ es) : Conn es e.1 e.2 := .of (.inl h)

def root (es : List (Int × Int)) (x : Nat) : Prop := ∀ y : Nat, y < x → ¬ Conn es (y : Nat) (x : Nat)
/-- The number of connected parts. -/
noncomputable def cnt (n : Int) (es : List (Int × Int)) : Nat := ((List.range n.toNat).filter fun x => decide (least es x = x)).length

theorem Conn.nil {x y : Int} (h : Conn [] x y) : x = y := by
  induction h with
  | refl => rfl
  | step _ a _ => rcases a with a | a <;> simp at a
/-! An edge more, an edge less. -/
theorem cutE_mem {e0 e : Int × Int} {es : List (Int × Int)} : e ∈ cutE e0 es ↔ e ∈ es ∧ e ≠ e0 := by simp [cutE]
/-! A node cut off. -/
end Go.Proofs.Ytbaholclcfpknaa.X


/- What functions compute: distances as the reference has them; paths. -/
set_option linter.unusedSimpArgs false
set_option linter.unusedVariables false
set_option maxHeartbeats 2000000
namespace Go.Proofs.Ytbaholclcfpknaa.X
open Go Go.Proofs

end Go.Proofs.Ytbaholclcfpknaa.X

/- What functions compute: drawing a graph and two nodes; comparing lists. -/
set_option linter.unusedSimpArgs false
set_option linter.unusedVariables false
set_option maxHeartbeats 2000000
namespace Go.Proofs.Ytbaholclcfpknaa.X
open Go Go.Proofs

@[go_sem] theorem c_dyIn (xs : List Int) (v : Int) (hl : xs.length ≤ 1048576) : KP 31 [LI xs, I v] [] = some (B (decide (v ∈ xs)), [], []) := by
  refine xw_call (fn := Try.f31) rfl Try.func31 rfl ⟨Nat.le_of_ble_eq_true rfl, rfl, rfl⟩ ?_
  repeat' (first
    | refine xw_seq ?_
    | refine xw_block ?_
    | (refine ite_two ?_ ?_ <;> intro _ <;> first | (exfalso; omega) | skip)
    | refine ord_split (by kernel_rfl) ?_
    | (refine xw_ret ?_ <;> try simp only [sq, bl, LQ])
    | ((first | refine xw_reg ?_ | refine xw_regd ?_ | refine xw_if ?_ | refine xw_skip ?_ | refine xw_exit ?_ | refine xw_label ?_ | refine post_ret ?_ | refine post_normal ?_ | refine postE_ret ?_ | refine postE_normal ?_) <;> simp (config := { maxSteps := 3000000 }) (disch := first | assumption | omega | exact VG.okg (by assumption) | (simp only [List.length_set, List.length_append, List.length_cons, List.length_nil, List.length_replicate]; omega)) only [go_sem, ↓reduceIte, Int.reduceLE, Int.reduceLT, Int.reduceToNat, Int.reduceNeg, Int.reduceAdd, Int.reduceSub, Int.reduceMul, Int.reduceEq, Int.reduceNe, Nat.reduceEqDiff, Nat.reduceAdd, Nat.reduceSub, Nat.reduceMul, Nat.reduceLT, Nat.reduceLeDiff, Nat.reduceBEq, Nat.reduceBNe, Try.results31])
    | (((first | refine at_region ?_ | refine at_out ?_ | refine at_cond ?_); split) <;> first | (exfalso; omega; done) | simp (config := { maxSteps := 3000000 }) (disch := first | assumption | omega | exact VG.okg (by assumption) | (simp only [List.length_set, List.length_append, List.length_cons, List.length_nil, List.length_replicate]; omega)) only [go_sem, ↓reduceIte, Int.reduceLE, Int.reduceLT, Int.reduceToNat, Int.reduceNeg, Int.reduceAdd, Int.reduceSub, Int.reduceMul, Int.reduceEq, Int.reduceNe, Nat.reduceEqDiff, Nat.reduceAdd, Nat.reduceSub, Nat.reduceMul, Nat.reduceLT, Nat.reduceLeDiff, Nat.reduceBEq, Nat.reduceBNe, Try.results31] | skip))
  refine xw_loopR (fun (i : Int) s => s.ρ 0 = LI xs ∧ s.ρ 1 = I v ∧ s.ρ 5 = I i ∧ 0 ≤ i ∧ i ≤ xs.length ∧ v ∉ xs.take i.toNat) (fun i => (xs.length - i).toNat) 0 ⟨rfl, rfl, rfl, by simp, by simp, by simp⟩ ?_
  rintro i ⟨ρ, m⟩ ⟨h0, h1, h5, g0, g1, g2⟩
  simp only at h0 h1 h5
  repeat' (first
    | refine xw_seq ?_
    | refine xw_block ?_
    | (refine ite_two ?_ ?_ <;> intro _ <;> first | (exfalso; omega) | skip)
    | refine ord_split (by kernel_rfl) ?_
    | (refine xw_ret ?_ <;> try simp only [sq, bl, LQ])
    | ((first | refine xw_reg ?_ | refine xw_regd ?_ | refine xw_if ?_ | refine xw_skip ?_ | refine xw_exit ?_ | refine xw_label ?_ | refine post_ret ?_ | refine post_normal ?_ | refine postE_ret ?_ | refine postE_normal ?_) <;> simp (config := { maxSteps := 3000000 }) (disch := first | assumption | omega | exact VG.okg (by assumption) | (simp only [List.length_set, List.length_append, List.length_cons, List.length_nil, List.length_replicate]; omega)) only [go_sem, ↓reduceIte, Int.reduceLE, Int.reduceLT, Int.reduceToNat, Int.reduceNeg, Int.reduceAdd, Int.reduceSub, Int.reduceMul, Int.reduceEq, Int.reduceNe, Nat.reduceEqDiff, Nat.reduceAdd, Nat.reduceSub, Nat.reduceMul, Nat.reduceLT, Nat.reduceLeDiff, Nat.reduceBEq, Nat.reduceBNe, Try.results31, h0, h1, h5])
    | (((first | refine at_region ?_ | refine at_out ?_ | refine at_cond ?_); split) <;> first | (exfalso; omega; done) | simp (config := { maxSteps := 3000000 }) (disch := first | assumption | omega | exact VG.okg (by assumption) | (simp only [List.length_set, List.length_append, List.length_cons, List.length_nil, List.length_replicate]; omega)) only [go_sem, ↓reduceIte, Int.reduceLE, Int.reduceLT, Int.reduceToNat, Int.reduceNeg, Int.reduceAdd, Int.reduceSub, Int.reduceMul, Int.reduceEq, Int.reduceNe, Nat.reduceEqDiff, Nat.reduceAdd, Nat.reduceSub, Nat.reduceMul, Nat.reduceLT, Nat.reduceLeDiff, Nat.reduceBEq, Nat.reduceBNe, Try.results31, h0, h1, h5] | skip))
  · symm; rw [decide_eq_true_iff]
    have := getD_mem (d := 0) (show i.toNat < xs.length by omega)
    grind
  · refine ⟨by omega, by omega, ?_, by omega⟩
    rw [take_int 0 g0 (by omega)]
    grind
  · rw [take_all (by omega)] at g2
    simp [g2]

end Go.Proofs.Ytbaholclcfpknaa.X
