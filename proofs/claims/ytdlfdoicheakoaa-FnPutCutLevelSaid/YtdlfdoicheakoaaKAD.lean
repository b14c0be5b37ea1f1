/- What functions answer, and the plain laws behind it. -/
import Derived.Test.YtdlfdoicheakoaaKAC
/- Distances by a search in breadth: plain law. -/
set_option linter.unusedVariables false
namespace Go.Proofs.Ytdlfdoicheakoaa.X
open Go
/-- The value at a node. -/
abbrev gI (l : List Int) (x : Int) : Int := l.getD x.toNat 0
theorem gI_set {l : List Int} {x y v : Int} (hx : 0 ≤ x) (hy : 0 ≤ y) (h : y < l.length) : gI (l.set x.toNat v) y = if x = y then v else gI l y := by
  unfold gI
  rw [getD_set (by omega)]
  by_cases e : x = y
  · subst e; simp
  · rw [if_neg (by omega), if_neg e]
/-- How many nodes are not found yet. -/
def und (out : List Int) : Nat := (out.filter fun d => decide (d < 0)).length
/-- A search in breadth from a node: what is found, what is to be looked at. -/
structure Bfs (n : Int) (es : List (Int × Int)) (t : Int) (out q : List Int) : Prop where
  len : out.length = n.toNat
  t0 : 0 ≤ t ∧ t < n
  src : gI out t = 0
  low : ∀ x, 0 ≤ x → x < n → -1 ≤ gI out x
  reach : ∀ x, 0 ≤ x → x < n → 0 ≤ gI out x → Rk es t (gI out x).toNat x
  que : ∀ x ∈ q, 0 ≤ x ∧ x < n ∧ 0 ≤ gI out x
  sorted : q.Pairwise fun a b => gI out a ≤ gI out b
  near : ∀ a ∈ q, ∀ x, 0 ≤ x → x < n → gI out x ≤ gI out a + 1
  top : ∀ x, 0 ≤ x → x < n → gI out x + und out ≤ n - 1
/-- All but some nodes have been looked at. -/
def Done (n : Int) (es : List (Int × Int)) (out : List Int) (ex : Int → Prop) : Prop := ∀ x, 0 ≤ x → x < n → 0 ≤ gI out x → ¬ ex x → ∀ y, Adj es x y → 0 ≤ gI out y ∧ gI out y ≤ gI out x + 1
/-- While the neighbors of a node are looked at. -/
structure BfsAt (n : Int) (es : List (Int × Int)) (t a : Int) (i : Nat) (out q : List Int) : Prop where
  bfs : Bfs n es t out q
  a0 : 0 ≤ a ∧ a < n ∧ 0 ≤ gI out a
  hq : ∀ y ∈ q, gI out a ≤ gI out y
  hn : ∀ y, 0 ≤ y → y < n → gI out y ≤ gI out a + 1
  done : Done n es out (fun x => x ∈ q ∨ x = a)
  seen : ∀ y ∈ (nbS a es).take i, 0 ≤ gI out y ∧ gI out y ≤ gI out a + 1
theorem BfsAt.start {n : Int} {es : List (Int × Int)} {t a : Int} {out q : List Int} (h : Bfs n es t out (a :: q)) (hd : Done n es out (· ∈ a :: q)) : BfsAt n es t a 0 out q := by
  have ha := h.que a (by simp)
  have hs := h.sorted
  rw [List.pairwise_cons] at hs
  refine ⟨⟨h.len, h.t0, h.src, h.low, h.reach, fun x hx => h.que x (by simp [hx]), hs.2, fun b hb => h.near b (by simp [hb]), h.top⟩, ha, hs.1, fun y => h.near a (by simp) y, fun x h0 h1 hx hex => hd x h0 h1 hx fun hm => hex ?_, by simp⟩
  rcases List.mem_cons.1 hm with e | e
  · exact .inr e
  · exact .inl e
theorem BfsAt.skip {n : Int} {es : List (Int × Int)} {t a : Int} {i : Nat} {out q : List Int} (ho : ∀ e ∈ es, okE n e) (h : BfsAt n es t a i out q) (hi : i < (nbS a es).length) (hx : 0 ≤ gI out ((nbS a es).getD i 0)) : BfsAt n es t a (i + 1) out q := by
  have hadj := (mem_nbS ho).1 (getD_mem (d := 0) hi)
  have hok := hadj.ok ho
  refine ⟨h.bfs, h.a0, h.hq, h.hn, h.done, fun y hy => ?_⟩
  have htk : (nbS a es).take (i + 1) = (nbS a es).take i ++ [(nbS a es).getD i 0] := by rw [List.take_add_one]; simp [hi]
  rw [htk] at hy
  rcases List.mem_append.1 hy with hy | hy
  · exact h.seen y hy
  · rw [List.mem_singleton.1 hy]; exact ⟨hx, h.hn _ (by omega) (by omega)⟩
open Classical in
/-- The distance from a node, or -1. -/
noncomputable def dst (n : Int) (es : List (Int × Int)) (t x : Int) : Int := if Conn es t x then (((List.range (n.toNat + 1)).find? fun k => decide (Rk es t k x)).getD 0 : Nat) else -1
open Classical in
theorem dst_eq {n : Int} {es : List (Int × Int)} {t x : Int} {k : Nat} (hk : Rk es t k x) (hm : ∀ j, Rk es t j x → k ≤ j) (ho : ∀ e ∈ es, okE n e) (hn : 0 ≤ n) : dst n es t x = k := by
  unfold dst
  rw [if_pos hk.conn]
  have ho' : ∀ e ∈ es, okE ((n.toNat : Nat) : Int) e := fun e he => by have := ho e he; unfold okE at this ⊢; omega
  have hle := hm _ (Rk.all ho' hk.conn)
  have : (List.range (n.toNat + 1)).find? (fun k => decide (Rk es t k x)) = some k := by
    rw [List.find?_range_eq_some]
    refine ⟨by simpa using hk, List.mem_range.2 (by omega), fun j hj => ?_⟩
    have : ¬ Rk es t j x := fun h => by have := hm j h; omega
    simp [this]
  rw [this]; rfl
open Classical in
theorem dst_spec {n : Int} {es : List (Int × Int)} {t x : Int} (ho : ∀ e ∈ es, okE n e) (hc : Conn es t x) : 0 ≤ dst n es t x ∧ Rk es t (dst n es t x).toNat x ∧ ∀ j, Rk es t j x → dst n es t x ≤ j := by
  unfold dst
  rw [if_pos hc]
  have ho' : ∀ e ∈ es, okE ((n.toNat : Nat) : Int) e := fun e he => by have := ho e he; unfold okE at this ⊢; omega
  have hall := Rk.all ho' hc
  cases hf : (List.range (n.toNat + 1)).find? (fun k => decide (Rk es t k x)) with
  | none =>
    rw [List.find?_eq_none] at hf
    exact absurd hall (by simpa using hf n.toNat (by simp))
  | some k =>
    rw [List.find?_range_eq_some] at hf
    obtain ⟨h1, h2, h3⟩ := hf
    refine ⟨by omega, by simpa using h1, fun j hj => ?_⟩
    simp only [Option.getD_some]
    refine Int.ofNat_le.2 (Nat.le_of_not_lt fun hlt => ?_)
    have := h3 j hlt
    simp [hj] at this
noncomputable def dstL (n : Int) (es : List (Int × Int)) (t : Int) : List Int := (iota n).map fun x => dst n es t x
theorem dstL_get {n : Int} {es : List (Int × Int)} {t x : Int} (h0 : 0 ≤ x) (h1 : x < n) : gI (dstL n es t) x = dst n es t x := by
  unfold gI dstL iota
  have : x.toNat < n.toNat := by omega
  simp [this, Int.toNat_of_nonneg h0]
theorem dstL_length {n : Int} {es : List (Int × Int)} {t : Int} : (dstL n es t).length = n.toNat := by simp [dstL, iota]
theorem list_gI {l r : List Int} {n : Int} (hl : l.length = n.toNat) (hr : r.length = n.toNat) (h : ∀ x, 0 ≤ x → x < n → gI l x = gI r x) : l = r := by
  refine List.ext_getElem (by omega) fun i h1 h2 => ?_
  have := h (i : Int) (by omega) (by omega)
  unfold gI at this
  simpa [h1, h2] using this
/-- When nothing is left to be looked at, the distances are found. -/
theorem Bfs.end {n : Int} {es : List (Int × Int)} {t : Int} {out : List Int} (ho : ∀ e ∈ es, okE n e) (h : Bfs n es t out []) (hd : Done n es out (· ∈ ([] : List Int))) : out = dstL n es t := by
  have key : ∀ (k : Nat) (x : Int), Rk es t k x → 0 ≤ x ∧ x < n ∧ 0 ≤ gI out x ∧ gI out x ≤ k := by
    intro k
    induction k with
    | zero => intro x hx; cases hx; exact ⟨h.t0.1, h.t0.2, by rw [h.src]; omega, by rw [h.src]; omega⟩
    | succ k ih =>
      intro x hx
      rcases hx with hx | ⟨z, hz, ha⟩
      · have := ih x hx; omega
      · have h1 := ih z hz
        have h2 := hd z h1.1 h1.2.1 h1.2.2.1 (by simp) x ha
        have h3 := ha.ok ho
        omega
  refine list_gI h.len dstL_length fun x h0 h1 => ?_
  rw [dstL_get h0 h1]
  by_cases hx : 0 ≤ gI out x
  · have hr := h.reach x h0 h1 hx
    rw [dst_eq hr (fun j hj => by have := (key j x hj).2.2.2; omega) ho (by have := h.t0; omega)]
    omega
  · have hlow := h.low x h0 h1
    have : ¬ Conn es t x := fun hc => by
      have ho' : ∀ e ∈ es, okE ((n.toNat : Nat) : Int) e := fun e he => by have := ho e he; unfold okE at this ⊢; omega
      have := (key _ x (Rk.all ho' hc)).2.2.1
      omega
    unfold dst
    rw [if_neg this]; omega
def nxtN (es : List (Int × Int)) (far : List Int) (x : Int) : Int := ((nbS x es).find? fun y => decide (gI far y = gI far x - 1)).getD x
def gpath (es : List (Int × Int)) (far : List Int) : Nat → Int → List Int
  | 0, x => [x]
  | k + 1, x => x :: gpath es far k (nxtN es far x)
noncomputable def pathL (n : Int) (es : List (Int × Int)) (x y : Int) : List Int := gpath es (dstL n es y) (dst n es y x).toNat x
theorem dst_self {n : Int} {es : List (Int × Int)} {t : Int} (ho : ∀ e ∈ es, okE n e) (hn : 0 ≤ n) : dst n es t t = 0 := dst_eq (k := 0) rfl (fun _ _ => Nat.zero_le _) ho hn
theorem dst_zero {n : Int} {es : List (Int × Int)} {t x : Int} (ho : ∀ e ∈ es, okE n e) (hc : Conn es t x) (h : dst n es t x = 0) : x = t := by
  have := (dst_spec ho hc).2.1
  rw [h] at this
  exact this
/-- From a node one comes one step nearer. -/
theorem dst_near {n : Int} {es : List (Int × Int)} {t x : Int} (ho : ∀ e ∈ es, okE n e) (hn : 0 ≤ n) (hc : Conn es t x) (h : dst n es t x ≠ 0) : ∃ z, Adj es x z ∧ dst n es t z = dst n es t x - 1 := by
  obtain ⟨h0, h1, h2⟩ := dst_spec ho hc
  obtain ⟨k, hk⟩ : ∃ k : Nat, (dst n es t x).toNat = k + 1 := ⟨(dst n es t x).toNat - 1, by omega⟩
  rw [hk] at h1
  rcases h1 with h1 | ⟨z, hz, ha⟩
  · have := h2 k h1; omega
  · refine ⟨z, ha.symm, ?_⟩
    rw [dst_eq hz (fun j hj => ?_) ho hn]
    · omega
    · have := h2 (j + 1) (.inr ⟨z, hj, ha⟩); omega
/-- The distance of neighbors. -/
theorem dst_adj {n : Int} {es : List (Int × Int)} {t x y : Int} (ho : ∀ e ∈ es, okE n e) (hc : Conn es t x) (ha : Adj es x y) : dst n es t y ≤ dst n es t x + 1 := by
  obtain ⟨h0, h1, h2⟩ := dst_spec ho hc
  have := (dst_spec ho (hc.step ha)).2.2 ((dst n es t x).toNat + 1) (.inr ⟨x, h1, ha⟩)
  omega
end Go.Proofs.Ytdlfdoicheakoaa.X

/- What functions compute: distances and paths. -/
set_option linter.unusedSimpArgs false
set_option linter.unusedVariables false
set_option maxHeartbeats 2000000
namespace Go.Proofs.Ytdlfdoicheakoaa.X
open Go Go.Proofs
end Go.Proofs.Ytdlfdoicheakoaa.X

/- What functions compute: distances as the reference has them; paths. -/
set_option linter.unusedSimpArgs false
set_option linter.unusedVariables false
set_option maxHeartbeats 2000000
namespace Go.Proofs.Ytdlfdoicheakoaa.X
open Go Go.Proofs
end Go.Proofs.Ytdlfdoicheakoaa.X

/- What functions compute: drawing a graph and two nodes; comparing lists. -/
set_option linter.unusedSimpArgs false
set_option linter.unusedVariables false
set_option maxHeartbeats 2000000
namespace Go.Proofs.Ytdlfdoicheakoaa.X
open Go Go.Proofs
theorem c_dyInts (xs ys : List Int) (hl : xs.length ≤ 1048576) : KP 37 [LI xs, LI ys] [] = some (B (decide (xs = ys)), [], []) := by
  refine xw_call (fn := Try.f37) rfl Try.func37 rfl ⟨Nat.le_of_ble_eq_true rfl, rfl, rfl⟩ ?_
  by_cases hle : xs.length = ys.length
  rotate_left
  · have hne : xs ≠ ys := fun h => hle (by rw [h])
    repeat'(first|(refine na ?_;constructor)|(refine ite_two ?_ ?_<;>intro _<;>first|(exfalso;omega)|skip)|refine ord_split (by kernel_rfl) ?_|((first|(refine nb ?_;constructor)|refine pn rfl ?_|refine pe rfl ?_|((first|refine at2 ?_|refine at_cond ?_);split<;>first|(exfalso;omega;done)|skip))<;>try simp(config:={maxSteps:=3000000})(disch:=first|assumption|omega|exact VG.okg (by assumption)|(simp only[List.length_set,List.length_append,List.length_cons,List.length_nil,List.length_replicate];omega))only[go_sem,simprocAttr,Try.results37]))
    simp [hne]
  repeat'(first|(refine na ?_;constructor)|(refine ite_two ?_ ?_<;>intro _<;>first|(exfalso;omega)|skip)|refine ord_split (by kernel_rfl) ?_|((first|(refine nb ?_;constructor)|refine pn rfl ?_|refine pe rfl ?_|((first|refine at2 ?_|refine at_cond ?_);split<;>first|(exfalso;omega;done)|skip))<;>try simp(config:={maxSteps:=3000000})(disch:=first|assumption|omega|exact VG.okg (by assumption)|(simp only[List.length_set,List.length_append,List.length_cons,List.length_nil,List.length_replicate];omega))only[go_sem,simprocAttr,Try.results37]))
  refine xw_loopR (fun (i : Int) s => s.ρ 0 = LI xs ∧ s.ρ 1 = LI ys ∧ s.ρ 5 = I i ∧ 0 ≤ i ∧ i ≤ xs.length ∧ xs.take i.toNat = ys.take i.toNat) (fun i => (xs.length - i).toNat) 0 ⟨rfl, rfl, rfl, by simp, by simp, by simp⟩ ?_
  rintro i ⟨ρ, m⟩ ⟨h0, h1, h5, g0, g1, g2⟩
  simp only at h0 h1 h5
  repeat'(first|(refine na ?_;constructor)|(refine ite_two ?_ ?_<;>intro _<;>first|(exfalso;omega)|skip)|refine ord_split (by kernel_rfl) ?_|((first|(refine nb ?_;constructor)|refine pn rfl ?_|refine pe rfl ?_|((first|refine at2 ?_|refine at_cond ?_);split<;>first|(exfalso;omega;done)|skip))<;>try simp(config:={maxSteps:=3000000})(disch:=first|assumption|omega|exact VG.okg (by assumption)|(simp only[List.length_set,List.length_append,List.length_cons,List.length_nil,List.length_replicate];omega))only[go_sem,simprocAttr,Try.results37, h0, h1, h5]))
  · refine ⟨by omega, by omega, ?_, by omega⟩
    rw [take_int 0 g0 (by omega), take_int 0 g0 (by omega), g2]
    grind
  · rename_i h
    symm; rw [decide_eq_false_iff_not]
    intro he
    exact h (by rw [he])
  · symm; rw [decide_eq_true_iff]
    rw [take_all (by omega), take_all (by omega)] at g2
    exact g2
end Go.Proofs.Ytdlfdoicheakoaa.X

/- The number of connected parts: plain law. -/
set_option linter.unusedVariables false
namespace Go.Proofs.Ytdlfdoicheakoaa.X
open Go
theorem conn_cons {es : List (Int × Int)} {a b x y : Int} : Conn ((a, b) :: es) x y ↔ Conn es x y ∨ (Conn es x a ∧ Conn es b y) ∨ (Conn es x b ∧ Conn es a y) := by
  constructor
  · intro h
    induction h with
    | refl => exact .inl (.refl _)
    | step _ ad ih =>
      have key : (∀ {y z : Int}, Adj ((a, b) :: es) y z → Adj es y z ∨ (y = a ∧ z = b) ∨ (y = b ∧ z = a)) := by
        intro y z h
        rcases h with h | h
        · rcases List.mem_cons.1 h with h | h
          · simp only [Prod.mk.injEq] at h; exact .inr (.inl h)
          · exact .inl (.inl h)
        · rcases List.mem_cons.1 h with h | h
          · simp only [Prod.mk.injEq] at h; exact .inr (.inr ⟨h.2, h.1⟩)
          · exact .inl (.inr h)
      rcases key ad with ad | ⟨rfl, rfl⟩ | ⟨rfl, rfl⟩
      · rcases ih with ih | ⟨i1, i2⟩ | ⟨i1, i2⟩
        · exact .inl (.step ih ad)
        · exact .inr (.inl ⟨i1, .step i2 ad⟩)
        · exact .inr (.inr ⟨i1, .step i2 ad⟩)
      · rcases ih with ih | ⟨i1, i2⟩ | ⟨i1, i2⟩
        · exact .inr (.inl ⟨ih, .refl _⟩)
        · exact .inr (.inl ⟨i1, .refl _⟩)
        · exact .inl i1
      · rcases ih with ih | ⟨i1, i2⟩ | ⟨i1, i2⟩
        · exact .inr (.inr ⟨ih, .refl _⟩)
        · exact .inl i1
        · exact .inr (.inr ⟨i1, .refl _⟩)
  · have hm : ∀ e ∈ es, e ∈ (a, b) :: es := fun e he => List.mem_cons_of_mem _ he
    have hab : Conn ((a, b) :: es) a b := .of (.inl (by simp))
    rintro (h | ⟨h1, h2⟩ | ⟨h1, h2⟩)
    · exact h.mono hm
    · exact ((h1.mono hm).trans hab).trans (h2.mono hm)
    · exact ((h1.mono hm).trans hab.symm).trans (h2.mono hm)
/-- Connected alike, if all edges join what is connected. -/
theorem Conn.via {es fs : List (Int × Int)} (h : ∀ e ∈ es, Conn fs e.1 e.2) {x y : Int} (hc : Conn es x y) : Conn fs x y := by
  induction hc with
  | refl => exact .refl _
  | step _ a ih =>
    rcases a with a | a
    · exact ih.trans (h _ a)
    · exact ih.trans (h _ a).symm
theorem Conn.edge {es : List (Int × Int)} {e : Int × Int} (h : e ∈ es) : Conn es e.1 e.2 := .of (.inl h)
def root (es : List (Int × Int)) (x : Nat) : Prop := ∀ y : Nat, y < x → ¬ Conn es (y : Nat) (x : Nat)
theorem least_root {es : List (Int × Int)} {x : Nat} : least es x = x ↔ root es x := by
  obtain ⟨h1, h2, h3⟩ := least_spec es x
  constructor
  · intro h y hy
    exact h3 y (by omega)
  · intro h
    refine Nat.le_antisymm h1 ?_
    refine Nat.le_of_not_lt fun hl => h _ hl h2
/-- The number of connected parts. -/
noncomputable def cnt (n : Int) (es : List (Int × Int)) : Nat := ((List.range n.toNat).filter fun x => decide (least es x = x)).length
theorem filter_without {α : Type} [DecidableEq α] {p : α → Bool} {m : α} : ∀ {l : List α}, l.Nodup → m ∈ l → p m = true → (l.filter fun x => p x && decide (x ≠ m)).length + 1 = (l.filter p).length
  | [], _, h, _ => by simp at h
  | x :: l, hn, hm, hp => by
    rw [List.nodup_cons] at hn
    by_cases hx : x = m
    · subst hx
      have : l.filter (fun y => p y && decide (y ≠ x)) = l.filter p := List.filter_congr fun y hy => by
        have : y ≠ x := fun e => hn.1 (e ▸ hy)
        simp [this]
      simp only [List.filter_cons, hp, ne_eq, not_true_eq_false, decide_false, Bool.and_false, Bool.false_eq_true, if_false, if_true, List.length_cons]
      rw [← this]
    · have hm' : m ∈ l := (List.mem_cons.1 hm).resolve_left fun e => hx e.symm
      have ih := filter_without hn.2 hm' hp
      simp only [List.filter_cons, ne_eq, hx, not_false_eq_true, decide_true, Bool.and_true]
      split
      · simp only [List.length_cons]
        simp only [ne_eq] at ih
        omega
      · simpa only [ne_eq] using ih
theorem cnt_congr {n : Int} {es fs : List (Int × Int)} (h : ∀ x y : Int, Conn es x y ↔ Conn fs x y) : cnt n es = cnt n fs := by
  unfold cnt
  congr 1
  refine List.filter_congr fun x _ => ?_
  rw [decide_eq_decide, least_root, least_root]
  unfold root
  exact forall_congr' fun y => imp_congr_right fun _ => not_congr (h _ _)
theorem filter_le {α : Type} {p q : α → Bool} : ∀ {l : List α}, (∀ x ∈ l, p x = true → q x = true) → (l.filter p).length ≤ (l.filter q).length
  | [], _ => by simp
  | x :: l, h => by
    have ih := filter_le (l := l) (p := p) (q := q) fun y hy => h y (List.mem_cons_of_mem _ hy)
    simp only [List.filter_cons]
    cases hp : p x with
    | true => rw [h x (by simp) hp]; simp only [if_true, List.length_cons]; omega
    | false => simp only [Bool.false_eq_true, if_false]; split <;> (try simp only [List.length_cons]) <;> omega
theorem Conn.nil {x y : Int} (h : Conn [] x y) : x = y := by
  induction h with
  | refl => rfl
  | step _ a _ => rcases a with a | a <;> simp at a
theorem cnt_nil (n : Int) : cnt n [] = n.toNat := by
  unfold cnt
  rw [List.filter_eq_self.2, List.length_range]
  intro x _
  rw [decide_eq_true_eq, least_root]
  intro y hy hc
  have := hc.nil
  omega
theorem cnt_same {n a b : Int} {es : List (Int × Int)} (h : Conn es a b) : cnt n ((a, b) :: es) = cnt n es := by
  refine cnt_congr fun x y => ⟨fun hc => ?_, fun hc => hc.mono fun e he => List.mem_cons_of_mem _ he⟩
  refine hc.via fun e he => ?_
  rcases List.mem_cons.1 he with rfl | he
  · exact h
  · exact .edge he
theorem cnt_less {n a b : Int} {es : List (Int × Int)} (ha : 0 ≤ a ∧ a < n) (hb : 0 ≤ b ∧ b < n) (h : ¬ Conn es a b) : cnt n ((a, b) :: es) + 1 = cnt n es := by
  obtain ⟨x, rfl⟩ := Int.eq_ofNat_of_zero_le ha.1
  obtain ⟨y, rfl⟩ := Int.eq_ofNat_of_zero_le hb.1
  obtain ⟨x1, x2, x3⟩ := least_spec es x
  obtain ⟨y1, y2, y3⟩ := least_spec es y
  have hne : least es x ≠ least es y := fun e => h (least_iff.1 e)
  have hroot : ∀ z : Nat, root ((((x : Nat) : Int), ((y : Nat) : Int)) :: es) z ↔ root es z ∧ z ≠ max (least es x) (least es y) := by
    intro z
    constructor
    · intro hz
      refine ⟨fun w hw hc => hz w hw (conn_cons.2 (.inl hc)), fun e => ?_⟩
      by_cases hl : least es x < least es y
      · have e' : z = least es y := by omega
        subst e'
        exact hz _ hl (conn_cons.2 (.inr (.inl ⟨x2, y2.symm⟩)))
      · have e' : z = least es x := by omega
        subst e'
        exact hz _ (by omega) (conn_cons.2 (.inr (.inr ⟨y2, x2.symm⟩)))
    · rintro ⟨hz, hm⟩ w hw hc
      have hzz := least_root.2 hz
      rcases conn_cons.1 hc with hc | ⟨c1, c2⟩ | ⟨c1, c2⟩
      · exact hz w hw hc
      · have e1 := least_conn c1
        have e2 := least_conn c2
        have := (least_spec es w).1
        omega
      · have e1 := least_conn c1
        have e2 := least_conn c2
        have := (least_spec es w).1
        omega
  have hmx : root es (max (least es x) (least es y)) := by
    by_cases hl : least es x < least es y
    · rw [show max (least es x) (least es y) = least es y by omega]
      exact fun w hw hc => y3 w hw (hc.trans y2)
    · rw [show max (least es x) (least es y) = least es x by omega]
      exact fun w hw hc => x3 w hw (hc.trans x2)
  have hf := filter_without (l := List.range n.toNat) (p := fun z => decide (least es z = z)) (m := max (least es x) (least es y)) List.nodup_range (List.mem_range.2 (by omega)) (decide_eq_true (least_root.2 hmx))
  have hq : ((List.range n.toNat).filter fun z => decide (least ((((x : Nat) : Int), ((y : Nat) : Int)) :: es) z = z)) = (List.range n.toNat).filter fun z => decide (least es z = z) && decide (z ≠ max (least es x) (least es y)) := by
    refine List.filter_congr fun z _ => ?_
    rw [Bool.eq_iff_iff]
    simp only [Bool.and_eq_true, decide_eq_true_eq]
    rw [least_root, least_root]
    exact hroot z
  unfold cnt
  rw [hq]
  exact hf
theorem cutE_mem {e0 e : Int × Int} {es : List (Int × Int)} : e ∈ cutE e0 es ↔ e ∈ es ∧ e ≠ e0 := by simp [cutE]
theorem conn_cut {e : Int × Int} {es : List (Int × Int)} (h : e ∈ es) (x y : Int) : Conn es x y ↔ Conn ((e.1, e.2) :: cutE e es) x y := by
  constructor
  · exact Conn.mono fun f hf => by
      by_cases hq : f = e
      · subst hq; simp
      · exact List.mem_cons_of_mem _ (cutE_mem.2 ⟨hf, hq⟩)
  · exact Conn.mono fun f hf => by
      rcases List.mem_cons.1 hf with rfl | hf
      · exact h
      · exact (cutE_mem.1 hf).1
theorem cnt_cut {n : Int} {e : Int × Int} {es : List (Int × Int)} (h : e ∈ es) (ho : okE n e) : (cnt n (cutE e es) = cnt n es + 1 ∧ ¬ Conn (cutE e es) e.1 e.2) ∨ (cnt n (cutE e es) = cnt n es ∧ Conn (cutE e es) e.1 e.2) := by
  unfold okE at ho
  have e1 := cnt_congr (n := n) (conn_cut h)
  by_cases hc : Conn (cutE e es) e.1 e.2
  · exact .inr ⟨by rw [e1, cnt_same hc], hc⟩
  · exact .inl ⟨by rw [e1, cnt_less (by omega) (by omega) hc], hc⟩
end Go.Proofs.Ytdlfdoicheakoaa.X

/- Shortest paths: plain law. -/
set_option linter.unusedVariables false
namespace Go.Proofs.Ytdlfdoicheakoaa.X
open Go
theorem Rk.one {es : List (Int × Int)} {x y : Int} (h : Adj es x y) : Rk es x 1 y := .inr ⟨x, rfl, h⟩
theorem Rk.comp {es : List (Int × Int)} {x y : Int} {j : Nat} (h : Rk es x j y) : ∀ (k : Nat) {z : Int}, Rk es y k z → Rk es x (j + k) z
  | 0, z, hk => by cases hk; exact h
  | k + 1, z, hk => by
    rcases hk with hk | ⟨w, hw, ha⟩
    · exact .inl (Rk.comp h k hk)
    · exact .inr ⟨w, Rk.comp h k hw, ha⟩
theorem Rk.symm {es : List (Int × Int)} {x : Int} : ∀ (k : Nat) {y : Int}, Rk es x k y → Rk es y k x
  | 0, y, h => by cases h; rfl
  | k + 1, y, h => by
    rcases h with h | ⟨z, h, a⟩
    · exact .inl (Rk.symm k h)
    · have := (Rk.one a.symm).comp k (Rk.symm k h)
      rwa [Nat.add_comm 1 k] at this
end Go.Proofs.Ytdlfdoicheakoaa.X
