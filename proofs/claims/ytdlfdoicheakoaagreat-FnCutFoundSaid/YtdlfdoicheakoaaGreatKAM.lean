/- What functions answer, and the plain laws behind it. -/
import Derived.Test.YtdlfdoicheakoaaGreatKAL
import Derived.Test.YtdlfdoicheakoaaGreatKAI
import Derived.Test.YtdlfdoicheakoaaGreatM23
import Derived.Test.YtdlfdoicheakoaaGreatKAH
import Derived.Test.YtdlfdoicheakoaaGreatKAD
import Derived.Test.YtdlfdoicheakoaaGreatKAE
/- Lists without neighbours alike; the nodes of edges: plain law. -/
set_option linter.unusedVariables false
namespace Go.Proofs.YtdlfdoicheakoaaGreat.X
open Go
def ddStep (acc : List Int) (x : Int) : List Int := if acc.getLast? = some x then acc else acc ++ [x]
/-- Of neighbours alike one is kept. -/
def ddS (l : List Int) : List Int := l.foldl ddStep []
theorem ddS_fold (l : List Int) (x : Int) : ddS (l ++ [x]) = ddStep (ddS l) x := by simp [ddS]
theorem snoc_ind {p : List Int → Prop} (h0 : p []) (h1 : ∀ l x, p l → p (l ++ [x])) (l : List Int) : p l := by
  have : ∀ r : List Int, p r.reverse := by
    intro r
    induction r with
    | nil => exact h0
    | cons a r ih => rw [List.reverse_cons]; exact h1 _ _ ih
  have := this l.reverse
  rwa [List.reverse_reverse] at this
theorem ddS_last (l : List Int) : (ddS l).getLast? = l.getLast? := by
  refine snoc_ind (p := fun l => (ddS l).getLast? = l.getLast?) rfl (fun l x ih => ?_) l
  rw [ddS_fold, ddStep]
  split
  · rename_i h; rw [h]; simp
  · simp
theorem ddS_snoc (l : List Int) (x : Int) : ddS (l ++ [x]) = if l.getLast? = some x then ddS l else ddS l ++ [x] := by
  rw [ddS_fold, ddStep, ddS_last]
theorem mem_ddS {l : List Int} {y : Int} : y ∈ ddS l ↔ y ∈ l := by
  refine snoc_ind (p := fun l => y ∈ ddS l ↔ y ∈ l) (by simp [ddS]) (fun l x ih => ?_) l
  rw [ddS_snoc]
  split
  · rename_i h
    rw [ih, List.mem_append, List.mem_singleton]
    refine ⟨.inl, fun k => k.elim id fun e => ?_⟩
    subst e
    exact List.mem_of_getLast? h
  · rw [List.mem_append, List.mem_append, ih]
theorem pair_snoc {r : Int → Int → Prop} {l : List Int} {x : Int} : (l ++ [x]).Pairwise r ↔ l.Pairwise r ∧ ∀ y ∈ l, r y x := by
  rw [List.pairwise_append]
  simp
theorem last_max {l : List Int} (h : l.Pairwise (· ≤ ·)) {z : Int} (hz : l.getLast? = some z) : ∀ y ∈ l, y ≤ z := by
  refine snoc_ind (p := fun l => l.Pairwise (· ≤ ·) → ∀ z, l.getLast? = some z → ∀ y ∈ l, y ≤ z) (fun _ z h => by simp at h) (fun l x ih hp z hz y hy => ?_) l h z hz
  simp at hz
  subst hz
  rw [pair_snoc] at hp
  rcases List.mem_append.1 hy with h | h
  · exact hp.2 y h
  · rw [List.mem_singleton.1 h]; exact Int.le_refl _
theorem ddS_sorted {l : List Int} : l.Pairwise (· ≤ ·) → (ddS l).Pairwise (· < ·) := by
  refine snoc_ind (p := fun l => l.Pairwise (· ≤ ·) → (ddS l).Pairwise (· < ·)) (fun _ => by simp [ddS]) (fun l x ih hp => ?_) l
  rw [ddS_snoc]
  rw [pair_snoc] at hp
  split
  · exact ih hp.1
  · rename_i hne
    rw [pair_snoc]
    refine ⟨ih hp.1, fun y hy => ?_⟩
    rw [mem_ddS] at hy
    have h1 := hp.2 y hy
    refine Classical.byContradiction fun h2 => hne ?_
    have e : y = x := by omega
    subst e
    cases hz : l.getLast? with
    | none => rw [List.getLast?_eq_none_iff] at hz; subst hz; cases hy
    | some z =>
      have h3 := last_max hp.1 hz y hy
      have h4 := hp.2 z (List.mem_of_getLast? hz)
      congr 1; omega
/-- The nodes of edges. -/
def endsL (es : List (Int × Int)) : List Int := es.flatMap fun e => [e.1, e.2]
def nodesL (n : Int) (es : List (Int × Int)) : List Int := (iota n).filter fun v => es.any fun e => decide (On v e)
end Go.Proofs.YtdlfdoicheakoaaGreat.X

/- What functions compute: lists without neighbours alike. -/
set_option linter.unusedSimpArgs false
set_option linter.unusedVariables false
set_option maxHeartbeats 8000000
namespace Go.Proofs.YtdlfdoicheakoaaGreat.X
open Go Go.Proofs
end Go.Proofs.YtdlfdoicheakoaaGreat.X

/- Trees with a root, their tours: plain law. -/
set_option linter.unusedVariables false
namespace Go.Proofs.YtdlfdoicheakoaaGreat.X
open Go
theorem adj_alone {v x y : Int} {es : List (Int × Int)} (h : Adj es x y) (hx : x ≠ v) (hy : y ≠ v) : Adj (alone v es) x y := by
  unfold alone
  rcases h with h | h
  · exact .inl (List.mem_filter.2 ⟨h, by simp [hx, hy]⟩)
  · exact .inr (List.mem_filter.2 ⟨h, by simp [hx, hy]⟩)
/-- Two neighbors of a node are not connected without it. -/
theorem tree_apart {n : Int} {es : List (Int × Int)} (ho : ∀ e ∈ es, okE n e) (ht : Tree n es) {x y z : Int} (hy : Adj es x y) (hz : Adj es x z) (hne : y ≠ z) : ¬ Conn (alone x es) y z := by
  intro hc
  have he := (adj_edge ho).1 hy
  have hb := tree_brg ho ht he.2
  have hzy : Adj (cutE (edgeOf x y) es) x z := by
    refine Classical.byContradiction fun hn => ?_
    have hyo := hy.ok ho
    have hzo := hz.ok ho
    have e1 : (edgeOf x y = (x, y)) ∨ (edgeOf x y = (y, x)) := edgeOf_ends
    rcases adj_cut ho hz hn with ⟨a, b⟩ | ⟨a, b⟩ <;> rcases e1 with e | e <;> rw [e] at a b <;> simp only at a b <;> omega
  have hca : Conn (cutE (edgeOf x y) es) y z := hc.mono (alone_cut (by rcases edgeOf_ends (x := x) (y := y) with e | e <;> rw [e] <;> simp))
  have hxy : Conn (cutE (edgeOf x y) es) x y := (Conn.of hzy).trans hca.symm
  refine hb ?_
  rcases edgeOf_ends (x := x) (y := y) with e | e
  · rw [e] at hxy ⊢; exact hxy
  · rw [e] at hxy ⊢; exact hxy.symm
/-- From a node that is no farther one comes to the root without it. -/
theorem near_alone {n : Int} {es : List (Int × Int)} (ho : ∀ e ∈ es, okE n e) (h0 : 0 ≤ n) {r x : Int} : ∀ (k : Nat) {y : Int}, Conn es r y → dst n es r y = k → y ≠ x → dst n es r y ≤ dst n es r x → Conn (alone x es) y r
  | 0, y, hc, hk, hne, hle => by
    have : y = r := dst_zero ho hc (by omega)
    subst this; exact .refl _
  | k + 1, y, hc, hk, hne, hle => by
    obtain ⟨z, ha, hz⟩ := dst_near ho h0 hc (by omega)
    have hcz := hc.step ha
    have hzx : z ≠ x := fun e => by subst e; omega
    exact (Conn.of (adj_alone ha hne hzx)).trans (near_alone ho h0 k hcz (by omega) hzx (by omega))
/-- Of the neighbors of a node one at most is no farther. -/
theorem tree_up {n : Int} {es : List (Int × Int)} (ho : ∀ e ∈ es, okE n e) (h0 : 0 ≤ n) (ht : Tree n es) {r x y z : Int} (hc : Conn es r x) (hy : Adj es x y) (hz : Adj es x z) (h1 : dst n es r y ≤ dst n es r x) (h2 : dst n es r z ≤ dst n es r x) : y = z := by
  refine Classical.byContradiction fun hne => tree_apart ho ht hy hz hne ?_
  have d1 := (dst_spec (n := n) ho (hc.step hy)).1
  have d2 := (dst_spec (n := n) ho (hc.step hz)).1
  have a1 := near_alone ho h0 (dst n es r y).toNat (hc.step hy) (by omega) (fun e => (hy.ok ho).2.2.2.2 e.symm) h1
  have a2 := near_alone ho h0 (dst n es r z).toNat (hc.step hz) (by omega) (fun e => (hz.ok ho).2.2.2.2 e.symm) h2
  exact a1.trans a2.symm
/-- A neighbor is a step nearer or a step farther. -/
theorem tree_step {n : Int} {es : List (Int × Int)} (ho : ∀ e ∈ es, okE n e) (h0 : 0 ≤ n) (ht : Tree n es) {r x y : Int} (hc : Conn es r x) (hy : Adj es x y) : dst n es r y = dst n es r x - 1 ∨ dst n es r y = dst n es r x + 1 := by
  have a := dst_adj (n := n) ho hc hy
  have b := dst_adj (n := n) ho (hc.step hy) hy.symm
  have hne := (hy.ok ho).2.2.2.2
  by_cases e : dst n es r y = dst n es r x
  · exfalso
    by_cases hz : dst n es r x = 0
    · have h1 := dst_zero ho hc hz
      have h2 := dst_zero ho (hc.step hy) (by omega)
      exact hne (h1.trans h2.symm)
    · obtain ⟨p, hp, hd⟩ := dst_near ho h0 hc hz
      have := tree_up ho h0 ht hc hy hp (by omega) (by omega)
      subst this; omega
  · omega
def kidsL (es : List (Int × Int)) (x p : Int) : List Int := (nbS x es).filter fun y => decide (y ≠ p)
def tourL (es : List (Int × Int)) : Nat → Int → Int → List Int
  | 0, x, _ => [x]
  | f + 1, x, p => x :: (kidsL es x p).flatMap fun y => tourL es f y x ++ [x]
/-- The nodes below a node, and the edges. -/
def subN (es : List (Int × Int)) : Nat → Int → Int → List Int
  | 0, x, _ => [x]
  | f + 1, x, p => x :: (kidsL es x p).flatMap fun y => subN es f y x
def subE (es : List (Int × Int)) : Nat → Int → Int → List (Int × Int)
  | 0, _, _ => []
  | f + 1, x, p => (kidsL es x p).flatMap fun y => edgeOf x y :: subE es f y x
/-- A place in a tree with a root: a node, and the one above it. -/
structure At (n : Int) (es : List (Int × Int)) (r x p : Int) : Prop where
  cn : Conn es r x
  inx : inN n x
  up : (x = r ∧ p = -1) ∨ (Adj es x p ∧ dst n es r p = dst n es r x - 1)
theorem mem_kids {n : Int} {es : List (Int × Int)} (ho : ∀ e ∈ es, okE n e) {x p y : Int} : y ∈ kidsL es x p ↔ Adj es x y ∧ y ≠ p := by
  unfold kidsL
  rw [List.mem_filter, mem_nbS ho, decide_eq_true_eq]
theorem At.kid {n : Int} {es : List (Int × Int)} (ho : ∀ e ∈ es, okE n e) (h0 : 0 ≤ n) (ht : Tree n es) {r x p y : Int} (h : At n es r x p) (hy : y ∈ kidsL es x p) : At n es r y x ∧ dst n es r y = dst n es r x + 1 := by
  obtain ⟨ha, hp⟩ := (mem_kids ho).1 hy
  have hd : dst n es r y = dst n es r x + 1 := by
    rcases tree_step ho h0 ht h.cn ha with e | e
    · exfalso
      rcases h.up with ⟨rfl, -⟩ | ⟨hq, hqd⟩
      · have := (dst_spec (n := n) ho (h.cn.step ha)).1
        rw [dst_self ho h0] at e; omega
      · exact hp (tree_up ho h0 ht h.cn ha hq (by omega) (by omega))
    · exact e
  have hok := ha.ok ho
  exact ⟨⟨h.cn.step ha, ⟨hok.2.2.1, hok.2.2.2.1⟩, .inr ⟨ha.symm, by omega⟩⟩, hd⟩
def stepsL : List Int → List (Int × Int)
  | x :: y :: r => edgeOf x y :: stepsL (y :: r)
  | _ => []
end Go.Proofs.YtdlfdoicheakoaaGreat.X

/- Edges in order. -/
set_option linter.unusedSimpArgs false
set_option linter.unusedVariables false
set_option maxHeartbeats 8000000
namespace Go.Proofs.YtdlfdoicheakoaaGreat.X
open Go Go.Proofs
def sortEs (xs : List (Int × Int)) : List (Int × Int) := xs.mergeSort leE
theorem mem_sortEs {xs : List (Int × Int)} {e : Int × Int} : e ∈ sortEs xs ↔ e ∈ xs := List.mem_mergeSort
theorem leE_of {a b : Int × Int} (h : leE a b = true) (hn : a ≠ b) : lessE a b = true := by
  rw [lessE_iff]
  unfold leE at h
  rw [decide_eq_true_eq] at h
  have : ¬ (a.1 = b.1 ∧ a.2 = b.2) := fun e => hn (Prod.ext e.1 e.2)
  omega
end Go.Proofs.YtdlfdoicheakoaaGreat.X

/- Lists that are tours: plain law. -/
set_option linter.unusedVariables false
namespace Go.Proofs.YtdlfdoicheakoaaGreat.X
open Go
section
variable {α : Type} [DecidableEq α]
def ddSt (acc : List α) (x : α) : List α := if acc.getLast? = some x then acc else acc ++ [x]
def dd (l : List α) : List α := l.foldl ddSt []
theorem dd_fold (l : List α) (x : α) : dd (l ++ [x]) = ddSt (dd l) x := by simp [dd]
omit [DecidableEq α] in
theorem snoc_indA {p : List α → Prop} (h0 : p []) (h1 : ∀ l x, p l → p (l ++ [x])) (l : List α) : p l := by
  have : ∀ r : List α, p r.reverse := by
    intro r
    induction r with
    | nil => exact h0
    | cons a r ih => rw [List.reverse_cons]; exact h1 _ _ ih
  have := this l.reverse
  rwa [List.reverse_reverse] at this
theorem dd_last (l : List α) : (dd l).getLast? = l.getLast? := by
  refine snoc_indA (p := fun l => (dd l).getLast? = l.getLast?) rfl (fun l x ih => ?_) l
  rw [dd_fold, ddSt]
  split
  · rename_i h; rw [h]; simp
  · simp
theorem dd_snoc (l : List α) (x : α) : dd (l ++ [x]) = if l.getLast? = some x then dd l else dd l ++ [x] := by
  rw [dd_fold, ddSt, dd_last]
theorem mem_dd {l : List α} {y : α} : y ∈ dd l ↔ y ∈ l := by
  refine snoc_indA (p := fun l => y ∈ dd l ↔ y ∈ l) (by simp [dd]) (fun l x ih => ?_) l
  rw [dd_snoc]
  split
  · rename_i h
    rw [ih, List.mem_append, List.mem_singleton]
    refine ⟨.inl, fun k => k.elim id fun e => ?_⟩
    subst e
    exact List.mem_of_getLast? h
  · rw [List.mem_append, List.mem_append, ih]
end
abbrev LeS (s : List (Int × Int)) : Prop := s.Pairwise fun a b => leE a b = true
theorem leE_anti {a b : Int × Int} (h : leE a b = true) (k : leE b a = true) : a = b := by
  unfold leE at h k
  rw [decide_eq_true_eq] at h k
  exact Prod.ext (by omega) (by omega)
theorem sortEs_le (xs : List (Int × Int)) : LeS (sortEs xs) := List.pairwise_mergeSort (fun a b c h1 h2 => by unfold leE at *; rw [decide_eq_true_eq] at *; omega) (fun a b => by unfold leE; rw [Bool.or_eq_true, decide_eq_true_eq, decide_eq_true_eq]; omega) xs
theorem leS_snoc {l : List (Int × Int)} {x : Int × Int} : LeS (l ++ [x]) ↔ LeS l ∧ ∀ y ∈ l, leE y x = true := by
  unfold LeS
  rw [List.pairwise_append]
  simp
theorem dd_ord {l : List (Int × Int)} : LeS l → Ord (dd l) := by
  refine snoc_indA (p := fun l => LeS l → Ord (dd l)) (fun _ => by simp [dd, Ord]) (fun l x ih hp => ?_) l
  rw [dd_snoc]
  rw [leS_snoc] at hp
  split
  · exact ih hp.1
  · rename_i hne
    unfold Ord
    rw [List.pairwise_append]
    refine ⟨ih hp.1, by simp, fun y hy z hz => ?_⟩
    rw [List.mem_singleton] at hz
    subst hz
    rw [mem_dd] at hy
    refine leE_of (hp.2 y hy) fun e => hne ?_
    subst e
    rcases List.eq_nil_or_concat l with rfl | ⟨q, w, rfl⟩
    · cases hy
    · rw [List.concat_eq_append] at *
      rw [List.getLast?_append]
      simp only [List.getLast?_singleton, Option.some_or]
      congr 1
      have h1 := hp.2 w (by simp)
      have h2 := (leS_snoc.1 hp.1).2
      rcases List.mem_append.1 hy with h | h
      · exact leE_anti h1 (h2 y h)
      · exact (List.mem_singleton.1 h).symm
/-- The pairs are alike, and no two pairs. -/
def prOk (s : List (Int × Int)) : Prop := ∀ i, i < s.length → (i % 2 = 1 → s.getD (i - 1) (0, 0) = s.getD i (0, 0)) ∧ (i % 2 = 0 → 0 < i → s.getD (i - 1) (0, 0) ≠ s.getD i (0, 0))
theorem steps_len : ∀ l : List Int, (stepsL l).length = l.length - 1
  | [] => rfl
  | [x] => rfl
  | x :: y :: r => by
    have := steps_len (y :: r)
    rw [stepsL, List.length_cons, this]
    simp
theorem steps_get : ∀ {l : List Int} {i : Nat}, i + 1 < l.length → (stepsL l).getD i (0, 0) = edgeOf (l.getD i 0) (l.getD (i + 1) 0)
  | [], i, h => by simp at h
  | [x], i, h => by simp at h
  | x :: y :: r, 0, h => rfl
  | x :: y :: r, i + 1, h => by
    have := steps_get (l := y :: r) (i := i) (by simpa using h)
    rw [stepsL]
    simpa using this
theorem mem_steps {l : List Int} {e : Int × Int} : e ∈ stepsL l ↔ ∃ i, i + 1 < l.length ∧ e = edgeOf (l.getD i 0) (l.getD (i + 1) 0) := by
  constructor
  · intro h
    obtain ⟨i, hi, rfl⟩ := List.mem_iff_getElem.1 h
    have hl := steps_len l
    refine ⟨i, by omega, ?_⟩
    rw [← steps_get (by omega)]
    simp [hi]
  · rintro ⟨i, hi, rfl⟩
    have hl := steps_len l
    rw [← steps_get hi]
    have hi' : i < (stepsL l).length := by omega
    simp only [List.getD, List.getElem?_eq_getElem hi', Option.getD_some]
    exact List.getElem_mem hi'
/-- The edges that a list goes along, and its nodes. -/
def csL (l : List Int) : List (Int × Int) := dd (sortEs (stepsL l))
def vsL (l : List Int) : List Int := ddS (sortI l)
theorem cs_ord (l : List Int) : Ord (csL l) := dd_ord (sortEs_le _)
theorem mem_cs {l : List Int} {e : Int × Int} : e ∈ csL l ↔ e ∈ stepsL l := by unfold csL; rw [mem_dd, mem_sortEs]
theorem vs_sorted (l : List Int) : (vsL l).Pairwise (· < ·) := by
  refine ddS_sorted ?_
  unfold sortI
  have := List.pairwise_mergeSort (le := fun a b : Int => decide (a ≤ b)) (fun a b c => by simp; omega) (fun a b => by simp; omega) l
  exact this.imp (by simp)
theorem mem_vs {l : List Int} {x : Int} : x ∈ vsL l ↔ x ∈ l := by
  unfold vsL sortI
  rw [mem_ddS, List.mem_mergeSort]
/-- A tour. -/
structure TV (l : List Int) : Prop where
  l1 : 1 ≤ l.length
  l31 : l.length ≤ 31
  rg : ∀ x ∈ l, inN 16 x
  cl : l.getD 0 0 = l.getD (l.length - 1) 0
  ne : ∀ i, i + 1 < l.length → l.getD i 0 ≠ l.getD (i + 1) 0
  two : ∀ e ∈ stepsL l, (stepsL l).count e = 2
  cn : (csL l).length + 1 = (vsL l).length
noncomputable instance decTV (l : List Int) : Decidable (TV l) := Classical.propDecidable _
theorem two_perm {s c : List (Int × Int)} (h : ∀ e ∈ s, s.count e = 2) (hn : c.Nodup) (hm : ∀ e, e ∈ c ↔ e ∈ s) : s.Perm (c ++ c) := by
  refine List.perm_iff_count.2 fun e => ?_
  rw [List.count_append]
  by_cases he : e ∈ s
  · rw [h e he, hn.count, if_pos ((hm e).2 he)]
  · rw [List.count_eq_zero.2 he, List.count_eq_zero.2 fun hc => he ((hm e).1 hc)]
theorem cs_two {l : List Int} (h : ∀ e ∈ stepsL l, (stepsL l).count e = 2) : (stepsL l).length = 2 * (csL l).length := by
  have := (two_perm h (cs_ord l).nodup fun e => mem_cs).length_eq
  rw [List.length_append] at this; omega
theorem TV.len {l : List Int} (h : TV l) : l.length = 2 * (csL l).length + 1 := by
  have h1 := cs_two h.two
  rw [steps_len] at h1
  have := h.l1
  omega
theorem TV.at' {l : List Int} (h : TV l) {i : Nat} (hi : i < l.length) : inN 16 (l.getD i 0) := h.rg _ (by
  simp only [List.getD, List.getElem?_eq_getElem hi, Option.getD_some]; exact List.getElem_mem hi)
theorem TV.okE {l : List Int} (h : TV l) : ∀ e ∈ csL l, okE 16 e := fun e he => by
  obtain ⟨i, hi, rfl⟩ := mem_steps.1 (mem_cs.1 he)
  exact edgeOf_ok (h.at' (by omega)) (h.at' hi) (h.ne i hi)
theorem TV.vg {l : List Int} (h : TV l) : VG 16 (csL l) := ⟨by omega, by omega, by have := h.len; have := h.l31; omega, h.okE, cs_ord l⟩
theorem TV.walk {l : List Int} (h : TV l) : Walk (csL l) l := fun i hi => (adj_edge h.okE).2 ⟨h.ne i hi, mem_cs.2 (mem_steps.2 ⟨i, hi, rfl⟩)⟩
theorem TV.conn {l : List Int} (h : TV l) {x : Int} (hx : x ∈ l) : Conn (csL l) (l.getD 0 0) x := by
  obtain ⟨i, hi, rfl⟩ := List.mem_iff_getElem.1 hx
  have := h.walk.conn i hi
  simpa [hi] using this
theorem TV.conn_mem {l : List Int} (h : TV l) {x : Int} (hc : Conn (csL l) (l.getD 0 0) x) : x ∈ l := by
  have hg : ∀ i, i < l.length → l.getD i 0 ∈ l := fun i hi => by
    simp only [List.getD, List.getElem?_eq_getElem hi, Option.getD_some]; exact List.getElem_mem hi
  refine hc.closed (p := fun x => x ∈ l) (fun u v ha _ => ?_) (hg 0 (by have := h.l1; omega))
  have he := ((adj_edge h.okE).1 ha).2
  obtain ⟨i, hi, e⟩ := mem_steps.1 (mem_cs.1 he)
  have h1 := hg i (by omega)
  have h2 := hg (i + 1) hi
  rcases edgeOf_ends (x := u) (y := v) with a | a <;> rcases edgeOf_ends (x := l.getD i 0) (y := l.getD (i + 1) 0) with b | b <;> rw [a, b] at e <;> simp only [Prod.mk.injEq] at e
  · rw [e.2]; exact h2
  · rw [e.2]; exact h1
  · rw [e.1]; exact h1
  · rw [e.1]; exact h2
theorem filt_sum {α : Type} (p : α → Bool) : ∀ l : List α, (l.filter p).length + (l.filter fun x => !p x).length = l.length
  | [] => rfl
  | a :: l => by
    have ih := filt_sum p l
    rw [List.filter_cons, List.filter_cons]
    cases h : p a <;> simp <;> omega
/-- The edges of a tour are a tree. -/
theorem TV.tree {l : List Int} (h : TV l) : Tree 16 (csL l) := by
  have hge := cnt_ge (n := 16) h.okE
  have hl0 : inN 16 (l.getD 0 0) := h.at' (by have := h.l1; omega)
  have hle : cnt 16 (csL l) ≤ ((iota 16).filter fun x => decide (x ∉ vsL l)).length + 1 := by
    unfold cnt
    have := len_le_of_sub (l := ((List.range (16 : Int).toNat).filter fun x => decide (least (csL l) x = x)).map fun x => ((x : Nat) : Int)) (m := ((least (csL l) (l.getD 0 0).toNat : Nat) : Int) :: (iota 16).filter fun x => decide (x ∉ vsL l)) ?_ ?_
    · rw [List.length_map, List.length_cons] at this; exact this
    · exact nodup_map (List.nodup_range.sublist List.filter_sublist) fun x _ y _ e => by omega
    · intro v hv
      obtain ⟨x, hx, rfl⟩ := List.mem_map.1 hv
      obtain ⟨h1, h2⟩ := List.mem_filter.1 hx
      rw [decide_eq_true_eq] at h2
      rw [List.mem_range] at h1
      by_cases hm : ((x : Nat) : Int) ∈ vsL l
      · have hc := h.conn (mem_vs.1 hm)
        have : least (csL l) (l.getD 0 0).toNat = least (csL l) x := least_iff.2 (by rw [Int.toNat_of_nonneg hl0.1]; exact hc)
        rw [this, h2]; simp
      · refine List.mem_cons_of_mem _ (List.mem_filter.2 ⟨mem_iota.2 (by omega), by simpa using hm⟩)
  have hsum : ((iota 16).filter fun x => decide (x ∉ vsL l)).length + (vsL l).length = 16 := by
    have h1 : ((iota 16).filter fun x => decide (x ∈ vsL l)) = vsL l := sorted_ext ((sorted_iota 16).filter _) (vs_sorted l) fun x => by
      rw [List.mem_filter, decide_eq_true_eq, mem_iota]
      exact ⟨fun h => h.2, fun hx => ⟨h.rg x (mem_vs.1 hx), hx⟩⟩
    have h2 := filt_sum (fun x => decide (x ∈ vsL l)) (iota 16)
    have e : ((iota 16).filter fun x => !decide (x ∈ vsL l)) = (iota 16).filter fun x => decide (x ∉ vsL l) := List.filter_congr fun x _ => by simp
    rw [h1, e] at h2
    have h3 : (iota 16).length = 16 := by simp [iota]
    omega
  have hcn := h.cn
  unfold Tree
  have : (16 : Int).toNat = 16 := rfl
  omega
section
variable {n : Int} {es : List (Int × Int)} (ho : ∀ e ∈ es, okE n e) (hn : es.Nodup) (h0 : 0 ≤ n) (ht : Tree n es)
include ho hn h0 ht
omit ho hn h0 ht in
theorem At.top {r : Int} (hr : inN n r) : At n es r r (-1) := ⟨.refl _, hr, .inl ⟨rfl, rfl⟩⟩
omit hn in
end
section
variable {n : Int} {es : List (Int × Int)} (ho : ∀ e ∈ es, okE n e) (h0 : 0 ≤ n) (ht : Tree n es) {l : List Int} (hw : Walk es l)
include ho h0 ht hw
end
/-- The way from the root. -/
structure Stk (n : Int) (es : List (Int × Int)) (r x : Int) (S : List Int) : Prop where
  len : (S.length : Int) = dst n es r x + 1
  last : S.getD (S.length - 1) 0 = x
  ds : ∀ k, k < S.length → Conn es r (S.getD k 0) ∧ dst n es r (S.getD k 0) = k
  adj : ∀ k, k + 1 < S.length → Adj es (S.getD (k + 1) 0) (S.getD k 0)
section
variable {n : Int} {es : List (Int × Int)} (ho : ∀ e ∈ es, okE n e) (h0 : 0 ≤ n) (ht : Tree n es) {r x y : Int} {S : List Int}
include ho h0
theorem Stk.new (hr : r = x) : Stk n es r x [x] := by
  subst hr
  have hd := dst_self (n := n) (t := r) ho h0
  refine ⟨by simp [hd], rfl, fun k hk => ?_, fun k hk => by simp at hk⟩
  have : k = 0 := by simp at hk; omega
  subst this
  exact ⟨.refl _, hd⟩
end
section
variable {n : Int} {es : List (Int × Int)} (ho : ∀ e ∈ es, okE n e) (h0 : 0 ≤ n) (ht : Tree n es) {r x y : Int} {S : List Int}
include ho h0 ht
theorem Stk.step (h : Stk n es r x S) (hc : Conn es r x) (ha : Adj es x y) : (1 < S.length ∧ S.getD (S.length - 2) 0 = y ∧ Stk n es r y (S.take (S.length - 1))) ∨ (¬ (1 < S.length ∧ S.getD (S.length - 2) 0 = y) ∧ Stk n es r y (S ++ [y])) := by
  have hl := h.len
  have hd0 := (dst_spec (n := n) ho hc).1
  have hx := h.ds (S.length - 1) (by omega)
  by_cases hq : 1 < S.length ∧ S.getD (S.length - 2) 0 = y
  · have h2 := h.ds (S.length - 2) (by omega)
    rw [hq.2] at h2
    refine .inl ⟨hq.1, hq.2, ?_, ?_, fun k hk => ?_, fun k hk => ?_⟩
    · rw [List.length_take, h2.2]; omega
    · rw [List.length_take, Nat.min_eq_left (by omega), ← hq.2]
      simp only [List.getD, List.getElem?_take_of_lt (show S.length - 1 - 1 < S.length - 1 by omega)]
      rw [show S.length - 1 - 1 = S.length - 2 by omega]
    · rw [List.length_take] at hk
      have : (S.take (S.length - 1)).getD k 0 = S.getD k 0 := by simp only [List.getD, List.getElem?_take_of_lt (show k < S.length - 1 by omega)]
      rw [this]; exact h.ds k (by omega)
    · rw [List.length_take] at hk
      have e1 : (S.take (S.length - 1)).getD k 0 = S.getD k 0 := by simp only [List.getD, List.getElem?_take_of_lt (show k < S.length - 1 by omega)]
      have e2 : (S.take (S.length - 1)).getD (k + 1) 0 = S.getD (k + 1) 0 := by simp only [List.getD, List.getElem?_take_of_lt (show k + 1 < S.length - 1 by omega)]
      rw [e1, e2]; exact h.adj k (by omega)
  · have hdy : dst n es r y = dst n es r x + 1 := by
      rcases tree_step ho h0 ht hc ha with e | e
      · exfalso
        have hy0 := (dst_spec (n := n) ho (hc.step ha)).1
        have hadj := h.adj (S.length - 2) (by omega)
        rw [show S.length - 2 + 1 = S.length - 1 by omega, h.last] at hadj
        have hds := (h.ds (S.length - 2) (by omega)).2
        exact hq ⟨by omega, tree_up ho h0 ht hc hadj ha (by omega) (by omega)⟩
      · exact e
    refine .inr ⟨hq, by rw [List.length_append, hdy]; simp; omega, by simp, fun k hk => ?_, fun k hk => ?_⟩
    · rw [List.length_append] at hk
      simp only [List.length_cons, List.length_nil] at hk
      by_cases hk2 : k < S.length
      · have : (S ++ [y]).getD k 0 = S.getD k 0 := by simp only [List.getD, List.getElem?_append_left hk2]
        rw [this]; exact h.ds k hk2
      · have hk3 : k = S.length := by omega
        subst hk3
        have : (S ++ [y]).getD S.length 0 = y := by simp
        rw [this]; exact ⟨hc.step ha, by omega⟩
    · rw [List.length_append] at hk
      simp only [List.length_cons, List.length_nil] at hk
      have e1 : (S ++ [y]).getD k 0 = S.getD k 0 := by simp only [List.getD, List.getElem?_append_left (show k < S.length by omega)]
      rw [e1]
      by_cases hk2 : k + 1 < S.length
      · have : (S ++ [y]).getD (k + 1) 0 = S.getD (k + 1) 0 := by simp only [List.getD, List.getElem?_append_left hk2]
        rw [this]; exact h.adj k hk2
      · have hk3 : k + 1 = S.length := by omega
        have : (S ++ [y]).getD (k + 1) 0 = y := by rw [hk3]; simp
        rw [this, show k = S.length - 1 by omega, h.last]; exact ha.symm
end
end Go.Proofs.YtdlfdoicheakoaaGreat.X

/- What functions compute: lists that may be tours. -/
set_option linter.unusedSimpArgs false
set_option linter.unusedVariables false
set_option maxHeartbeats 8000000
set_option maxRecDepth 100000
namespace Go.Proofs.YtdlfdoicheakoaaGreat.X
open Go Go.Proofs
/-- The place of a number, or -1. -/
def findI (xs : List Int) (x : Int) : Int := if x ∈ xs then (xs.idxOf x : Int) else -1
/-- Each step is an edge. -/
def stOk (l : List Int) : Prop := ∀ i, i + 1 < l.length → eOk (l.getD i 0) (l.getD (i + 1) 0)
noncomputable instance decStOk (l : List Int) : Decidable (stOk l) := Classical.propDecidable _
end Go.Proofs.YtdlfdoicheakoaaGreat.X

/- What functions compute: lists that may be tours, as the reference sees them. -/
set_option linter.unusedSimpArgs false
set_option linter.unusedVariables false
set_option maxHeartbeats 8000000
set_option maxRecDepth 100000
namespace Go.Proofs.YtdlfdoicheakoaaGreat.X
open Go Go.Proofs
end Go.Proofs.YtdlfdoicheakoaaGreat.X
