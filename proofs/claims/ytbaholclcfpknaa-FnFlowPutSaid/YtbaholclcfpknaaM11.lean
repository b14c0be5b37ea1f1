/- Flows and cuts: plain law. -/
import Derived.Test.YtbaholclcfpknaaM10
set_option linter.unusedVariables false
namespace Go.Proofs.Ytbaholclcfpknaa.X
open Go

section
variable {n : Int} {es : List (Int × Int)} {x y : Int}

theorem cutsz_not {S : Int → Bool} : cutsz (fun v => !S v) es = cutsz S es := by
  unfold cutsz
  congr 1
  refine List.filter_congr fun e _ => ?_
  show ((!S e.1) != (!S e.2)) = (S e.1 != S e.2)
  cases S e.1 <;> cases S e.2 <;> rfl
theorem flow_symm_le (ho : ∀ e ∈ es, okE n e) (hn : es.Nodup) (hx : 0 ≤ x ∧ x < n) (hy : 0 ≤ y ∧ y < n) (hxy : x ≠ y) : flN n es x y ≤ flN n es y x := by
  rw [← flow_cut ho hn hy (fun e => hxy e.symm), ← cutsz_not]
  refine flow_le ho hn hx hxy ?_ ?_
  · simpa using side_y ho hn hy (fun e => hxy e.symm)
  · simpa using side_x ho hy
theorem flow_symm (ho : ∀ e ∈ es, okE n e) (hn : es.Nodup) (hx : 0 ≤ x ∧ x < n) (hy : 0 ≤ y ∧ y < n) (hxy : x ≠ y) : flN n es x y = flN n es y x :=
  Nat.le_antisymm (flow_symm_le ho hn hx hy hxy) (flow_symm_le ho hn hy hx fun e => hxy e.symm)
theorem flow_tri {z : Int} (ho : ∀ e ∈ es, okE n e) (hn : es.Nodup) (hx : 0 ≤ x ∧ x < n) (hxy : x ≠ y) (hz : 0 ≤ z ∧ z < n) (hxz : x ≠ z) (hzy : z ≠ y) : flN n es x z ≤ flN n es x y ∨ flN n es z y ≤ flN n es x y := by
  have hc := flow_cut ho hn hx hxy
  have h1 := side_x (y := y) ho hx
  have h2 := side_y ho hn hx hxy
  by_cases h : z ∈ sideO n es x y
  · right
    rw [← hc]
    exact flow_le ho hn hz hzy (by simpa using h) (by simpa using h2)
  · left
    rw [← hc]
    exact flow_le ho hn hx hxz (by simpa using h1) (by simpa using h)
theorem flow_deg (ho : ∀ e ∈ es, okE n e) (hn : es.Nodup) (hx : 0 ≤ x ∧ x < n) (hy : 0 ≤ y ∧ y < n) (hxy : x ≠ y) : flN n es x y ≤ (nbS x es).length ∧ flN n es x y ≤ (nbS y es).length := by
  refine ⟨(flN_spec ho hn hx hxy).2.2, ?_⟩
  rw [flow_symm ho hn hx hy hxy]
  exact (flN_spec ho hn hy fun e => hxy e.symm).2.2
theorem cutsz_zero {S : Int → Bool} (h : cutsz S es = 0) {a b : Int} (hc : Conn es a b) : S a = S b := by
  have hno : ∀ e ∈ es, S e.1 = S e.2 := fun e he => Classical.byContradiction fun hne => by
    have : e ∈ es.filter fun e => S e.1 != S e.2 := List.mem_filter.2 ⟨he, by simpa using hne⟩
    have := List.length_pos_of_mem this
    unfold cutsz at h
    omega
  induction hc with
  | refl => rfl
  | step _ a ih =>
    rcases a with a | a
    · exact ih.trans (hno _ a)
    · exact ih.trans (hno _ a).symm
open Classical in
theorem cutsz_conn {fs : List (Int × Int)} {e0 : Int × Int} (hs : ∀ e ∈ es, e ≠ e0 → e ∈ fs) (hn : es.Nodup) : cutsz (fun v => decide (Conn fs x v)) es ≤ 1 := by
  have := len_le_of_sub (l := es.filter fun e => decide (Conn fs x e.1) != decide (Conn fs x e.2)) (m := [e0]) (hn.sublist List.filter_sublist) fun e he => by
    obtain ⟨h1, h2⟩ := List.mem_filter.1 he
    by_cases hq : e = e0
    · simp [hq]
    · have hc := Conn.edge (hs e h1 hq)
      have : decide (Conn fs x e.1) = decide (Conn fs x e.2) := decide_eq_decide.2 ⟨fun h => h.trans hc, fun h => h.trans hc.symm⟩
      rw [this] at h2; simp at h2
  exact this
open Classical in
theorem cutsz_conn0 : cutsz (fun v => decide (Conn es x v)) es = 0 := by
  unfold cutsz
  rw [List.length_eq_zero_iff, List.filter_eq_nil_iff]
  intro e he
  have hc := Conn.edge he
  have : decide (Conn es x e.1) = decide (Conn es x e.2) := decide_eq_decide.2 ⟨fun h => h.trans hc, fun h => h.trans hc.symm⟩
  show ¬ (decide (Conn es x e.1) != decide (Conn es x e.2)) = true
  rw [this]; simp
open Classical in
theorem flow_pos (ho : ∀ e ∈ es, okE n e) (hn : es.Nodup) (hx : 0 ≤ x ∧ x < n) (hxy : x ≠ y) : 0 < flN n es x y ↔ Conn es x y := by
  constructor
  · intro h
    refine Classical.byContradiction fun hc => ?_
    have := flow_le ho hn hx hxy (S := fun v => decide (Conn es x v)) (decide_eq_true (.refl x)) (decide_eq_false hc)
    rw [cutsz_conn0] at this
    omega
  · intro h
    refine Classical.byContradiction fun hc => ?_
    have h0 := flow_cut ho hn hx hxy
    rw [show flN n es x y = 0 by omega] at h0
    have := cutsz_zero h0 h
    have h1 := side_x (y := y) ho hx
    have h2 := side_y ho hn hx hxy
    simp [h1, h2] at this
open Classical in
theorem flow_safe (ho : ∀ e ∈ es, okE n e) (hn : es.Nodup) (hx : 0 ≤ x ∧ x < n) (hxy : x ≠ y) : 2 ≤ flN n es x y ↔ Conn (bare es) x y := by
  rw [safe_iff]
  constructor
  · intro h
    refine ⟨(flow_pos ho hn hx hxy).1 (by omega), fun e he => Classical.byContradiction fun hc => ?_⟩
    have h1 := flow_le ho hn hx hxy (S := fun v => decide (Conn (cutE e es) x v)) (decide_eq_true (.refl x)) (decide_eq_false hc)
    have h2 := cutsz_conn (x := x) (es := es) (fs := cutE e es) (e0 := e) (fun f hf hq => cutE_mem.2 ⟨hf, hq⟩) hn
    omega
  · rintro ⟨hc, hs⟩
    refine Classical.byContradiction fun hlt => ?_
    have hp := (flow_pos ho hn hx hxy).2 hc
    have h0 := flow_cut ho hn hx hxy
    have h1 := side_x (y := y) ho hx
    have h2 := side_y ho hn hx hxy
    rw [show flN n es x y = 1 by omega] at h0
    have h1' := decide_eq_true h1
    have h2' := decide_eq_false h2
    generalize hS : (fun v => decide (v ∈ sideO n es x y)) = S at h0
    have e1 : S x = true := by rw [← hS]; exact h1'
    have e2 : S y = false := by rw [← hS]; exact h2'
    obtain ⟨e, he⟩ := List.length_eq_one_iff.1 h0
    have hem : e ∈ es.filter fun e => S e.1 != S e.2 := by rw [he]; simp
    have hz : cutsz S (cutE e es) = 0 := by
      unfold cutsz
      rw [List.length_eq_zero_iff, List.filter_eq_nil_iff]
      intro f hf
      obtain ⟨hf1, hf2⟩ := cutE_mem.1 hf
      intro hcr
      have : f ∈ es.filter fun e => S e.1 != S e.2 := List.mem_filter.2 ⟨hf1, hcr⟩
      rw [he] at this
      exact hf2 (List.mem_singleton.1 this)
    have := cutsz_zero hz (hs e (List.mem_filter.1 hem).1)
    rw [e1, e2] at this
    cases this
end

/-- An edge more between two nodes holds them together by one more. -/
theorem cutsz_put {S : Int → Bool} {e : Int × Int} : ∀ {es : List (Int × Int)}, cutsz S (putE e es) = cutsz S (e :: es)
  | [] => rfl
  | f :: es => by
    have ih := cutsz_put (S := S) (e := e) (es := es)
    rw [putE]
    split
    · rfl
    · unfold cutsz at ih ⊢
      simp only [List.filter_cons] at ih ⊢
      split <;> split <;> simp_all
theorem mem_putE' {e x : Int × Int} {es : List (Int × Int)} : x ∈ putE e es ↔ x = e ∨ x ∈ es := mem_putE
theorem flow_put {n : Int} {es : List (Int × Int)} {x y : Int} {e : Int × Int} (he : (e = (x, y)) ∨ e = (y, x)) (ho : ∀ f ∈ es, okE n f) (hn : es.Nodup) (ho' : ∀ f ∈ putE e es, okE n f) (hn' : (putE e es).Nodup) (hx : 0 ≤ x ∧ x < n) (hxy : x ≠ y) :
    flN n (putE e es) x y = flN n es x y + 1 := by
  have key : ∀ S : Int → Bool, S x = true → S y = false → cutsz S (putE e es) = cutsz S es + 1 := fun S h1 h2 => by
    rw [cutsz_put]
    unfold cutsz
    rw [List.filter_cons_of_pos, List.length_cons]
    rcases he with rfl | rfl <;> simp [h1, h2]
  refine Nat.le_antisymm ?_ ?_
  · have h1 := side_x (y := y) ho hx
    have h2 := side_y ho hn hx hxy
    rw [← flow_cut ho hn hx hxy, ← key _ (by simpa using h1) (by simpa using h2)]
    exact flow_le ho' hn' hx hxy (by simpa using h1) (by simpa using h2)
  · have h1 := side_x (y := y) ho' hx
    have h2 := side_y ho' hn' hx hxy
    have h3 := flow_cut ho' hn' hx hxy
    rw [key _ (by simpa using h1) (by simpa using h2)] at h3
    have := flow_le ho hn hx hxy (S := fun v => decide (v ∈ sideO n (putE e es) x y)) (by simpa using h1) (by simpa using h2)
    omega

/-! Weakest cuts. -/
/-- The least number of ways from the first node. -/
def wk (n : Int) (es : List (Int × Int)) : Nat → Nat
  | 0 => 40
  | k + 1 => min (wk n es k) (flN n es 0 ((k : Nat) + 1 : Int))
theorem wk_le {n : Int} {es : List (Int × Int)} : ∀ {k : Nat} {y : Int}, 1 ≤ y → y ≤ k → wk n es k ≤ flN n es 0 y
  | 0, y, h0, h1 => by omega
  | k + 1, y, h0, h1 => by
    rw [wk]
    by_cases h : y ≤ k
    · have := wk_le (n := n) (es := es) h0 h; omega
    · have : y = (k : Nat) + 1 := by omega
      rw [this]; omega
theorem wk_is {n : Int} {es : List (Int × Int)} : ∀ {k : Nat}, wk n es k = 40 ∨ ∃ y : Int, 1 ≤ y ∧ y ≤ k ∧ wk n es k = flN n es 0 y
  | 0 => .inl rfl
  | k + 1 => by
    rw [wk]
    by_cases h : wk n es k ≤ flN n es 0 ((k : Nat) + 1 : Int)
    · rw [Nat.min_eq_left h]
      rcases wk_is (n := n) (es := es) (k := k) with h1 | ⟨y, a, b, c⟩
      · exact .inl h1
      · exact .inr ⟨y, a, by omega, c⟩
    · rw [Nat.min_eq_right (by omega)]
      exact .inr ⟨(k : Nat) + 1, by omega, by omega, rfl⟩
/-- The weakest cut. -/
def weak (n : Int) (es : List (Int × Int)) : Nat := wk n es (n - 1).toNat
theorem weak_le {n : Int} {es : List (Int × Int)} {x y : Int} (ho : ∀ e ∈ es, okE n e) (hn : es.Nodup) (hx : 0 ≤ x ∧ x < n) (hy : 0 ≤ y ∧ y < n) (hxy : x ≠ y) : weak n es ≤ flN n es x y := by
  have hc := flow_cut ho hn hx hxy
  have h1 := side_x (y := y) ho hx
  have h2 := side_y ho hn hx hxy
  rw [← hc]
  by_cases h0 : (0 : Int) ∈ sideO n es x y
  · have hy0 : y ≠ 0 := fun e => h2 (e ▸ h0)
    refine Nat.le_trans (wk_le (y := y) (by omega) (by omega)) ?_
    exact flow_le ho hn (by omega) (fun e => hy0 e.symm) (by simpa using h0) (by simpa using h2)
  · have hx0 : x ≠ 0 := fun e => h0 (e ▸ h1)
    refine Nat.le_trans (wk_le (y := x) (by omega) (by omega)) ?_
    rw [flow_symm ho hn (by omega) hx (fun e => hx0 e.symm)]
    exact flow_le ho hn hx hx0 (by simpa using h1) (by simpa using h0)
theorem weak_is {n : Int} {es : List (Int × Int)} (ho : ∀ e ∈ es, okE n e) (hn : es.Nodup) (h2 : 2 ≤ n) (h16 : n ≤ 16) : ∃ y : Int, 1 ≤ y ∧ y < n ∧ weak n es = flN n es 0 y := by
  rcases wk_is (n := n) (es := es) (k := (n - 1).toNat) with h | ⟨y, a, b, c⟩
  · have h1 := wk_le (n := n) (es := es) (k := (n - 1).toNat) (y := 1) (by omega) (by omega)
    have h3 := (flN_spec (n := n) (es := es) (x := 0) (y := 1) ho hn (by omega) (by omega)).2.2
    have h4 := deg_le (x := 0) ho hn
    omega
  · exact ⟨y, a, by omega, c⟩
theorem cnt_one {n : Int} {es : List (Int × Int)} (h : 1 ≤ n) : cnt n es = 1 ↔ ∀ v : Int, 0 ≤ v → v < n → Conn es 0 v := by
  have h0 : (0 : Nat) ∈ (List.range n.toNat).filter fun x => decide (least es x = x) := by
    rw [List.mem_filter, List.mem_range, decide_eq_true_eq, least_root]
    exact ⟨by omega, fun y hy => by omega⟩
  constructor
  · intro hc v v0 v1
    obtain ⟨k, rfl⟩ := Int.eq_ofNat_of_zero_le v0
    obtain ⟨l1, l2, l3⟩ := least_spec es k
    obtain ⟨a, ha⟩ := List.length_eq_one_iff.1 hc
    have hm : least es k ∈ (List.range n.toNat).filter fun x => decide (least es x = x) := by
      rw [List.mem_filter, List.mem_range, decide_eq_true_eq, least_root]
      exact ⟨by omega, fun y hy hcc => l3 y hy (hcc.trans l2)⟩
    rw [ha, List.mem_singleton] at h0 hm
    have : least es k = 0 := by omega
    rw [this] at l2
    exact l2
  · intro hall
    have hnd : ((List.range n.toNat).filter fun x => decide (least es x = x)).Nodup := List.nodup_range.sublist List.filter_sublist
    have := len_le_of_sub (m := [0]) hnd fun k hk => by
      rw [List.mem_filter, List.mem_range, decide_eq_true_eq, least_root] at hk
      refine List.mem_singleton.2 (Classical.byContradiction fun hne => ?_)
      exact hk.2 0 (by omega) (hall (k : Nat) (by omega) (by omega))
    have hp := cnt_pos (es := es) h
    have e : cnt n es = ((List.range n.toNat).filter fun x => decide (least es x = x)).length := rfl
    simp only [List.length_cons, List.length_nil] at this
    omega
theorem weak_zero {n : Int} {es : List (Int × Int)} (ho : ∀ e ∈ es, okE n e) (hn : es.Nodup) (h2 : 2 ≤ n) (h16 : n ≤ 16) : weak n es = 0 ↔ 1 < cnt n es := by
  have hp := cnt_pos (n := n) (es := es) (by omega)
  have hone := cnt_one (n := n) (es := es) (by omega)
  constructor
  · intro h
    obtain ⟨y, y0, y1, hy⟩ := weak_is ho hn h2 h16
    refine Classical.byContradiction fun hc => ?_
    have := hone.1 (by omega) y (by omega) y1
    have := (flow_pos (n := n) (x := 0) (y := y) ho hn (by omega) (by omega)).2 this
    omega
  · intro h
    refine Classical.byContradiction fun hw => ?_
    have := hone.2 fun v v0 v1 => by
      by_cases hv : v = 0
      · subst hv; exact .refl _
      · refine (flow_pos (n := n) (x := 0) (y := v) ho hn (by omega) (fun e => hv e.symm)).1 ?_
        have := weak_le (x := 0) (y := v) ho hn (by omega) ⟨v0, v1⟩ (fun e => hv e.symm)
        omega
    omega
theorem weak_one {n : Int} {es : List (Int × Int)} (ho : ∀ e ∈ es, okE n e) (hn : es.Nodup) (h2 : 2 ≤ n) (h16 : n ≤ 16) : weak n es = 1 ↔ cnt n es = 1 ∧ 0 < (brgs es).length := by
  have hp := cnt_pos (n := n) (es := es) (by omega)
  have hz := weak_zero ho hn h2 h16
  have hone := cnt_one (n := n) (es := es) (by omega)
  constructor
  · intro h
    have hc1 : cnt n es = 1 := by omega
    refine ⟨hc1, Classical.byContradiction fun hb => ?_⟩
    obtain ⟨y, y0, y1, hy⟩ := weak_is ho hn h2 h16
    have hns : ¬ Conn (bare es) 0 y := fun hc => by
      have := (flow_safe (n := n) (x := 0) (y := y) ho hn (by omega) (by omega)).2 hc
      omega
    have hnil : brgs es = [] := List.eq_nil_of_length_eq_zero (by omega)
    refine hns ((hone.1 hc1 y (by omega) y1).mono fun e he => mem_bare.2 ⟨he, fun hbr => ?_⟩)
    have := mem_brgs.2 ⟨he, hbr⟩
    rw [hnil] at this; simp at this
  · rintro ⟨hc1, hb⟩
    have hne : weak n es ≠ 0 := fun h => by have := hz.1 h; omega
    obtain ⟨e, he⟩ := List.exists_mem_of_length_pos hb
    obtain ⟨he1, he2⟩ := mem_brgs.1 he
    have hoe := ho e he1
    unfold okE at hoe
    have hw := weak_le (x := e.1) (y := e.2) ho hn (by omega) (by omega) (by omega)
    have hs : ¬ 2 ≤ flN n es e.1 e.2 := fun h => by
      have := (safe_iff.1 ((flow_safe (n := n) (x := e.1) (y := e.2) ho hn (by omega) (by omega)).1 h)).2 e he1
      exact he2 this
    omega

/-! The side of a cut is the least one. -/
end Go.Proofs.Ytbaholclcfpknaa.X
