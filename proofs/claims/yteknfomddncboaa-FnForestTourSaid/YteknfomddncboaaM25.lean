/- Lists that are tours: plain law. -/
import Derived.Test.YteknfomddncboaaM24
import Derived.Test.YteknfomddncboaaM19
import Derived.Test.YteknfomddncboaaC68
set_option linter.unusedVariables false
namespace Go.Proofs.Yteknfomddncboaa.X
open Go
section
variable {α : Type} [DecidableEq α]
def ddSt (acc : List α) (x : α) : List α := if acc.getLast? = some x then acc else acc ++ [x]
def dd (l : List α) : List α := l.foldl ddSt []
theorem dd_fold (l : List α) (x : α) : dd (l ++ [x]) = ddSt (dd l) x := by simp [dd]
omit [DecidableEq α] in
theorem snoc_indA {p : List α → Prop} (h0 : p []) (h1 : ∀ l x, p l → p (l ++ [x])) (l : List α) : p l := by
  have : ∀ r : List α, p r.reverse := by
    intro r
    induction r with
    | nil => exact h0
    | cons a r ih => rw [List.reverse_cons]; exact h1 _ _ ih
  have := this l.reverse
  rwa [List.reverse_reverse] at this
theorem dd_last (l : List α) : (dd l).getLast? = l.getLast? := by
  refine snoc_indA (p := fun l => (dd l).getLast? = l.getLast?) rfl (fun l x ih => ?_) l
  rw [dd_fold, ddSt]
  split
  · rename_i h; rw [h]; simp
  · simp
theorem dd_snoc (l : List α) (x : α) : dd (l ++ [x]) = if l.getLast? = some x then dd l else dd l ++ [x] := by
  rw [dd_fold, ddSt, dd_last]
theorem mem_dd {l : List α} {y : α} : y ∈ dd l ↔ y ∈ l := by
  refine snoc_indA (p := fun l => y ∈ dd l ↔ y ∈ l) (by simp [dd]) (fun l x ih => ?_) l
  rw [dd_snoc]
  split
  · rename_i h
    rw [ih, List.mem_append, List.mem_singleton]
    refine ⟨.inl, fun k => k.elim id fun e => ?_⟩
    subst e
    exact List.mem_of_getLast? h
  · rw [List.mem_append, List.mem_append, ih]
end
abbrev LeS (s : List (Int × Int)) : Prop := s.Pairwise fun a b => leE a b = true
theorem leE_anti {a b : Int × Int} (h : leE a b = true) (k : leE b a = true) : a = b := by
  unfold leE at h k
  rw [decide_eq_true_eq] at h k
  exact Prod.ext (by omega) (by omega)
theorem sortEs_le (xs : List (Int × Int)) : LeS (sortEs xs) := List.pairwise_mergeSort (fun a b c h1 h2 => by unfold leE at *; rw [decide_eq_true_eq] at *; omega) (fun a b => by unfold leE; rw [Bool.or_eq_true, decide_eq_true_eq, decide_eq_true_eq]; omega) xs
theorem leS_snoc {l : List (Int × Int)} {x : Int × Int} : LeS (l ++ [x]) ↔ LeS l ∧ ∀ y ∈ l, leE y x = true := by
  unfold LeS
  rw [List.pairwise_append]
  simp
theorem dd_ord {l : List (Int × Int)} : LeS l → Ord (dd l) := by
  refine snoc_indA (p := fun l => LeS l → Ord (dd l)) (fun _ => by simp [dd, Ord]) (fun l x ih hp => ?_) l
  rw [dd_snoc]
  rw [leS_snoc] at hp
  split
  · exact ih hp.1
  · rename_i hne
    unfold Ord
    rw [List.pairwise_append]
    refine ⟨ih hp.1, by simp, fun y hy z hz => ?_⟩
    rw [List.mem_singleton] at hz
    subst hz
    rw [mem_dd] at hy
    refine leE_of (hp.2 y hy) fun e => hne ?_
    subst e
    rcases List.eq_nil_or_concat l with rfl | ⟨q, w, rfl⟩
    · cases hy
    · rw [List.concat_eq_append] at *
      rw [List.getLast?_append]
      simp only [List.getLast?_singleton, Option.some_or]
      congr 1
      have h1 := hp.2 w (by simp)
      have h2 := (leS_snoc.1 hp.1).2
      rcases List.mem_append.1 hy with h | h
      · exact leE_anti h1 (h2 y h)
      · exact (List.mem_singleton.1 h).symm
/-- The pairs are alike, and no two pairs. -/
def prOk (s : List (Int × Int)) : Prop := ∀ i, i < s.length → (i % 2 = 1 → s.getD (i - 1) (0, 0) = s.getD i (0, 0)) ∧ (i % 2 = 0 → 0 < i → s.getD (i - 1) (0, 0) ≠ s.getD i (0, 0))
theorem pr_cons {a b : Int × Int} {r : List (Int × Int)} : prOk (a :: b :: r) ↔ a = b ∧ (r ≠ [] → b ≠ r.getD 0 (0, 0)) ∧ prOk r := by
  constructor
  · intro h
    refine ⟨by simpa using (h 1 (by simp)).1 rfl, fun hr => ?_, fun i hi => ?_⟩
    · have hl : 0 < r.length := List.length_pos_iff.2 hr
      simpa using (h 2 (by simp; omega)).2 rfl (by omega)
    · have := h (i + 2) (by simp; omega)
      refine ⟨fun h1 => ?_, fun h1 h2 => ?_⟩
      · have := this.1 (by omega)
        obtain ⟨j, rfl⟩ : ∃ j, i = j + 1 := ⟨i - 1, by omega⟩
        simpa using this
      · have := this.2 (by omega) (by omega)
        obtain ⟨j, rfl⟩ : ∃ j, i = j + 1 := ⟨i - 1, by omega⟩
        simpa using this
  · rintro ⟨h1, h2, h3⟩ i hi
    match i, hi with
    | 0, _ => simp
    | 1, _ => simpa using h1
    | 2, hi =>
      refine ⟨fun h => by omega, fun _ _ => ?_⟩
      have hr : r ≠ [] := fun e => by subst e; simp at hi
      simpa using h2 hr
    | i + 3, hi =>
      have := h3 (i + 1) (by simp at hi; omega)
      refine ⟨fun h => ?_, fun h h0 => ?_⟩
      · simpa using this.1 (by omega)
      · simpa using this.2 (by omega) (by omega)
theorem two_cons {a b : Int × Int} {r : List (Int × Int)} (hs : LeS (a :: b :: r)) : (∀ e ∈ a :: b :: r, (a :: b :: r).count e = 2) ↔ a = b ∧ (r ≠ [] → b ≠ r.getD 0 (0, 0)) ∧ ∀ e ∈ r, r.count e = 2 := by
  unfold LeS at hs
  rw [List.pairwise_cons, List.pairwise_cons] at hs
  obtain ⟨h1, h2, h3⟩ := hs
  constructor
  · intro h
    have ha := h a (by simp)
    rw [List.count_cons_self] at ha
    have hm : a ∈ b :: r := List.count_pos_iff.1 (by omega)
    have hab : a = b := by
      rcases List.mem_cons.1 hm with e | e
      · exact e
      · exact leE_anti (h1 b (by simp)) (h2 a e)
    subst hab
    rw [List.count_cons_self] at ha
    have hnr : a ∉ r := fun hm => by have := List.count_pos_iff.2 hm; omega
    refine ⟨rfl, fun hr e => hnr ?_, fun e he => ?_⟩
    · cases r with
      | nil => exact absurd rfl hr
      | cons c r => rw [e]; simp
    · have hne : a ≠ e := fun q => hnr (q ▸ he)
      have := h e (List.mem_cons_of_mem _ (List.mem_cons_of_mem _ he))
      rwa [List.count_cons_of_ne hne, List.count_cons_of_ne hne] at this
  · rintro ⟨rfl, h4, h5⟩
    have hnr : a ∉ r := by
      cases r with
      | nil => simp
      | cons c r =>
        intro hm
        have hne := h4 (by simp)
        simp only [List.getD_cons_zero] at hne
        rcases List.mem_cons.1 hm with e | e
        · exact hne e
        · exact hne (leE_anti (h2 c (by simp)) ((List.pairwise_cons.1 h3).1 a e))
    intro e he
    by_cases q : a = e
    · subst q
      rw [List.count_cons_self, List.count_cons_self, List.count_eq_zero.2 hnr]
    · rw [List.count_cons_of_ne q, List.count_cons_of_ne q]
      refine h5 e ?_
      rcases List.mem_cons.1 he with e1 | he
      · exact absurd e1.symm q
      · rcases List.mem_cons.1 he with e1 | he
        · exact absurd e1.symm q
        · exact he
theorem pr_iff : ∀ (k : Nat) {s : List (Int × Int)}, s.length ≤ k → LeS s → ((prOk s ∧ s.length % 2 = 0) ↔ ∀ e ∈ s, s.count e = 2)
  | _, [], _, _ => ⟨fun _ => by simp, fun _ => ⟨fun i hi => by simp at hi, rfl⟩⟩
  | _, [a], _, _ => by
    constructor
    · rintro ⟨-, h⟩; simp at h
    · intro h; have := h a (by simp); simp at this
  | 0, a :: b :: r, h, _ => by simp at h
  | k + 1, a :: b :: r, h, hs => by
    have ih := pr_iff k (s := r) (by simp at h; omega) (List.pairwise_cons.1 (List.pairwise_cons.1 hs).2).2
    rw [two_cons hs, pr_cons, ← ih]
    simp only [List.length_cons]
    constructor
    · rintro ⟨⟨a1, a2, a3⟩, a4⟩; exact ⟨a1, a2, a3, by omega⟩
    · rintro ⟨a1, a2, a3, a4⟩; exact ⟨⟨a1, a2, a3⟩, by omega⟩
theorem steps_len : ∀ l : List Int, (stepsL l).length = l.length - 1
  | [] => rfl
  | [x] => rfl
  | x :: y :: r => by
    have := steps_len (y :: r)
    rw [stepsL, List.length_cons, this]
    simp
theorem steps_get : ∀ {l : List Int} {i : Nat}, i + 1 < l.length → (stepsL l).getD i (0, 0) = edgeOf (l.getD i 0) (l.getD (i + 1) 0)
  | [], i, h => by simp at h
  | [x], i, h => by simp at h
  | x :: y :: r, 0, h => rfl
  | x :: y :: r, i + 1, h => by
    have := steps_get (l := y :: r) (i := i) (by simpa using h)
    rw [stepsL]
    simpa using this
theorem steps_take : ∀ {l : List Int} {i : Nat}, i + 1 < l.length → stepsL (l.take (i + 2)) = stepsL (l.take (i + 1)) ++ [edgeOf (l.getD i 0) (l.getD (i + 1) 0)]
  | [], i, h => by simp at h
  | [x], i, h => by simp at h
  | x :: y :: r, 0, h => rfl
  | x :: y :: r, i + 1, h => by
    have := steps_take (l := y :: r) (i := i) (by simpa using h)
    have e1 : (x :: y :: r).take (i + 1 + 2) = x :: y :: r.take (i + 1) := rfl
    have e2 : (x :: y :: r).take (i + 1 + 1) = x :: y :: r.take i := rfl
    have e3 : (y :: r).take (i + 2) = y :: r.take (i + 1) := rfl
    have e4 : (y :: r).take (i + 1) = y :: r.take i := rfl
    rw [e3, e4] at this
    rw [e1, e2, stepsL, stepsL, this]
    simp
theorem mem_steps {l : List Int} {e : Int × Int} : e ∈ stepsL l ↔ ∃ i, i + 1 < l.length ∧ e = edgeOf (l.getD i 0) (l.getD (i + 1) 0) := by
  constructor
  · intro h
    obtain ⟨i, hi, rfl⟩ := List.mem_iff_getElem.1 h
    have hl := steps_len l
    refine ⟨i, by omega, ?_⟩
    rw [← steps_get (by omega)]
    simp [hi]
  · rintro ⟨i, hi, rfl⟩
    have hl := steps_len l
    rw [← steps_get hi]
    have hi' : i < (stepsL l).length := by omega
    simp only [List.getD, List.getElem?_eq_getElem hi', Option.getD_some]
    exact List.getElem_mem hi'
/-- The edges that a list goes along, and its nodes. -/
def csL (l : List Int) : List (Int × Int) := dd (sortEs (stepsL l))
def vsL (l : List Int) : List Int := ddS (sortI l)
theorem cs_ord (l : List Int) : Ord (csL l) := dd_ord (sortEs_le _)
theorem mem_cs {l : List Int} {e : Int × Int} : e ∈ csL l ↔ e ∈ stepsL l := by unfold csL; rw [mem_dd, mem_sortEs]
theorem vs_sorted (l : List Int) : (vsL l).Pairwise (· < ·) := by
  refine ddS_sorted ?_
  unfold sortI
  have := List.pairwise_mergeSort (le := fun a b : Int => decide (a ≤ b)) (fun a b c => by simp; omega) (fun a b => by simp; omega) l
  exact this.imp (by simp)
theorem vs_nodup (l : List Int) : (vsL l).Nodup := (vs_sorted l).imp fun h => by omega
theorem mem_vs {l : List Int} {x : Int} : x ∈ vsL l ↔ x ∈ l := by
  unfold vsL sortI
  rw [mem_ddS, List.mem_mergeSort]
/-- A tour. -/
structure TV (l : List Int) : Prop where
  l1 : 1 ≤ l.length
  l31 : l.length ≤ 31
  rg : ∀ x ∈ l, inN 16 x
  cl : l.getD 0 0 = l.getD (l.length - 1) 0
  ne : ∀ i, i + 1 < l.length → l.getD i 0 ≠ l.getD (i + 1) 0
  two : ∀ e ∈ stepsL l, (stepsL l).count e = 2
  cn : (csL l).length + 1 = (vsL l).length
noncomputable instance decTV (l : List Int) : Decidable (TV l) := Classical.propDecidable _
theorem two_perm {s c : List (Int × Int)} (h : ∀ e ∈ s, s.count e = 2) (hn : c.Nodup) (hm : ∀ e, e ∈ c ↔ e ∈ s) : s.Perm (c ++ c) := by
  refine List.perm_iff_count.2 fun e => ?_
  rw [List.count_append]
  by_cases he : e ∈ s
  · rw [h e he, hn.count, if_pos ((hm e).2 he)]
  · rw [List.count_eq_zero.2 he, List.count_eq_zero.2 fun hc => he ((hm e).1 hc)]
theorem cs_two {l : List Int} (h : ∀ e ∈ stepsL l, (stepsL l).count e = 2) : (stepsL l).length = 2 * (csL l).length := by
  have := (two_perm h (cs_ord l).nodup fun e => mem_cs).length_eq
  rw [List.length_append] at this; omega
theorem TV.len {l : List Int} (h : TV l) : l.length = 2 * (csL l).length + 1 := by
  have h1 := cs_two h.two
  rw [steps_len] at h1
  have := h.l1
  omega
theorem TV.at' {l : List Int} (h : TV l) {i : Nat} (hi : i < l.length) : inN 16 (l.getD i 0) := h.rg _ (by
  simp only [List.getD, List.getElem?_eq_getElem hi, Option.getD_some]; exact List.getElem_mem hi)
theorem TV.okE {l : List Int} (h : TV l) : ∀ e ∈ csL l, okE 16 e := fun e he => by
  obtain ⟨i, hi, rfl⟩ := mem_steps.1 (mem_cs.1 he)
  exact edgeOf_ok (h.at' (by omega)) (h.at' hi) (h.ne i hi)
theorem TV.vg {l : List Int} (h : TV l) : VG 16 (csL l) := ⟨by omega, by omega, by have := h.len; have := h.l31; omega, h.okE, cs_ord l⟩
theorem TV.walk {l : List Int} (h : TV l) : Walk (csL l) l := fun i hi => (adj_edge h.okE).2 ⟨h.ne i hi, mem_cs.2 (mem_steps.2 ⟨i, hi, rfl⟩)⟩
theorem TV.conn {l : List Int} (h : TV l) {x : Int} (hx : x ∈ l) : Conn (csL l) (l.getD 0 0) x := by
  obtain ⟨i, hi, rfl⟩ := List.mem_iff_getElem.1 hx
  have := h.walk.conn i hi
  simpa [hi] using this
theorem TV.conn_mem {l : List Int} (h : TV l) {x : Int} (hc : Conn (csL l) (l.getD 0 0) x) : x ∈ l := by
  have hg : ∀ i, i < l.length → l.getD i 0 ∈ l := fun i hi => by
    simp only [List.getD, List.getElem?_eq_getElem hi, Option.getD_some]; exact List.getElem_mem hi
  refine hc.closed (p := fun x => x ∈ l) (fun u v ha _ => ?_) (hg 0 (by have := h.l1; omega))
  have he := ((adj_edge h.okE).1 ha).2
  obtain ⟨i, hi, e⟩ := mem_steps.1 (mem_cs.1 he)
  have h1 := hg i (by omega)
  have h2 := hg (i + 1) hi
  rcases edgeOf_ends (x := u) (y := v) with a | a <;> rcases edgeOf_ends (x := l.getD i 0) (y := l.getD (i + 1) 0) with b | b <;> rw [a, b] at e <;> simp only [Prod.mk.injEq] at e
  · rw [e.2]; exact h2
  · rw [e.2]; exact h1
  · rw [e.1]; exact h1
  · rw [e.1]; exact h2
theorem filt_sum {α : Type} (p : α → Bool) : ∀ l : List α, (l.filter p).length + (l.filter fun x => !p x).length = l.length
  | [] => rfl
  | a :: l => by
    have ih := filt_sum p l
    rw [List.filter_cons, List.filter_cons]
    cases h : p a <;> simp <;> omega
/-- The edges of a tour are a tree. -/
theorem TV.tree {l : List Int} (h : TV l) : Tree 16 (csL l) := by
  have hge := cnt_ge (n := 16) h.okE
  have hl0 : inN 16 (l.getD 0 0) := h.at' (by have := h.l1; omega)
  have hle : cnt 16 (csL l) ≤ ((iota 16).filter fun x => decide (x ∉ vsL l)).length + 1 := by
    unfold cnt
    have := len_le_of_sub (l := ((List.range (16 : Int).toNat).filter fun x => decide (least (csL l) x = x)).map fun x => ((x : Nat) : Int)) (m := ((least (csL l) (l.getD 0 0).toNat : Nat) : Int) :: (iota 16).filter fun x => decide (x ∉ vsL l)) ?_ ?_
    · rw [List.length_map, List.length_cons] at this; exact this
    · exact nodup_map (List.nodup_range.sublist List.filter_sublist) fun x _ y _ e => by omega
    · intro v hv
      obtain ⟨x, hx, rfl⟩ := List.mem_map.1 hv
      obtain ⟨h1, h2⟩ := List.mem_filter.1 hx
      rw [decide_eq_true_eq] at h2
      rw [List.mem_range] at h1
      by_cases hm : ((x : Nat) : Int) ∈ vsL l
      · have hc := h.conn (mem_vs.1 hm)
        have : least (csL l) (l.getD 0 0).toNat = least (csL l) x := least_iff.2 (by rw [Int.toNat_of_nonneg hl0.1]; exact hc)
        rw [this, h2]; simp
      · refine List.mem_cons_of_mem _ (List.mem_filter.2 ⟨mem_iota.2 (by omega), by simpa using hm⟩)
  have hsum : ((iota 16).filter fun x => decide (x ∉ vsL l)).length + (vsL l).length = 16 := by
    have h1 : ((iota 16).filter fun x => decide (x ∈ vsL l)) = vsL l := sorted_ext ((sorted_iota 16).filter _) (vs_sorted l) fun x => by
      rw [List.mem_filter, decide_eq_true_eq, mem_iota]
      exact ⟨fun h => h.2, fun hx => ⟨h.rg x (mem_vs.1 hx), hx⟩⟩
    have h2 := filt_sum (fun x => decide (x ∈ vsL l)) (iota 16)
    have e : ((iota 16).filter fun x => !decide (x ∈ vsL l)) = (iota 16).filter fun x => decide (x ∉ vsL l) := List.filter_congr fun x _ => by simp
    rw [h1, e] at h2
    have h3 : (iota 16).length = 16 := by simp [iota]
    omega
  have hcn := h.cn
  unfold Tree
  have : (16 : Int).toNat = 16 := rfl
  omega
section
variable {n : Int} {es : List (Int × Int)} (ho : ∀ e ∈ es, okE n e) (hn : es.Nodup) (h0 : 0 ≤ n) (ht : Tree n es)
include ho hn h0 ht
omit ho hn h0 ht in
theorem At.top {r : Int} (hr : inN n r) : At n es r r (-1) := ⟨.refl _, hr, .inl ⟨rfl, rfl⟩⟩
omit hn in
theorem sub_in {r : Int} {f : Nat} {x p z : Int} (h : At n es r x p) (hf : n - dst n es r x ≤ f) (hz : z ∈ subN es f x p) : inN n z := by
  have hc := conn_of_alone ((mem_sub ho h0 ht f h hf).1 hz)
  rcases hc.ok ho with e | ⟨-, -, a, b⟩
  · rw [← e]; exact h.inx
  · exact ⟨a, b⟩
theorem sub_len {r : Int} {f : Nat} {x p : Int} (h : At n es r x p) (hf : n - dst n es r x ≤ f) : (subN es f x p).length ≤ n.toNat := by
  have := len_le_of_sub (m := iota n) (sub_nodup ho hn h0 ht f h hf) fun z hz => mem_iota.2 (sub_in ho h0 ht h hf hz)
  have h3 : (iota n).length = n.toNat := by simp [iota]
  omega
theorem tour_cs {r : Int} {f : Nat} {x p : Int} (h : At n es r x p) (hf : n - dst n es r x ≤ f) : csL (tourL es f x p) = sortEs (subE es f x p) :=
  ord_ext (cs_ord _) (sortEs_ord (subE_nodup ho hn h0 ht f h hf)) fun e => by
    rw [mem_cs, (tour_steps f).mem_iff, mem_sortEs, List.mem_append, or_self]
theorem tour_vs {r : Int} {f : Nat} {x p : Int} (h : At n es r x p) (hf : n - dst n es r x ≤ f) : (vsL (tourL es f x p)).length = (subN es f x p).length := by
  refine Nat.le_antisymm (len_le_of_sub (vs_nodup _) fun z hz => (mem_tour f).1 (mem_vs.1 hz)) (len_le_of_sub (sub_nodup ho hn h0 ht f h hf) fun z hz => mem_vs.2 ((mem_tour f).2 hz))
theorem tour_tv (h16 : n ≤ 16) {r : Int} {f : Nat} {x p : Int} (h : At n es r x p) (hf : n - dst n es r x ≤ f) : TV (tourL es f x p) := by
  have hl := tour_len (es := es) f (x := x) (p := p)
  have hs := sub_len ho hn h0 ht h hf
  have hpos : 0 < (subN es f x p).length := by cases f <;> simp [subN]
  have hnd := subE_nodup ho hn h0 ht f h hf
  refine ⟨by omega, by omega, fun z hz => ?_, ?_, fun i hi => ?_, fun e he => ?_, ?_⟩
  · have := sub_in ho h0 ht h hf ((mem_tour f).1 hz)
    exact ⟨this.1, by have := this.2; omega⟩
  · obtain ⟨q, hq⟩ := tour_head (es := es) f (x := x) (p := p)
    obtain ⟨u, hu⟩ := tour_last (es := es) f (x := x) (p := p)
    have e1 : (tourL es f x p).getD 0 0 = x := by rw [hq]; rfl
    have e2 : (tourL es f x p).getD ((tourL es f x p).length - 1) 0 = x := by rw [hu]; simp
    rw [e1, e2]
  · have he := subE_sub ho f (List.mem_append.1 ((tour_steps f).mem_iff.1 (mem_steps.2 ⟨i, hi, rfl⟩)) |>.elim id id)
    intro e
    have := ho _ he
    unfold okE at this
    rcases edgeOf_ends (x := (tourL es f x p).getD i 0) (y := (tourL es f x p).getD (i + 1) 0) with a | a <;> rw [a] at this <;> simp only at this <;> omega
  · have h1 := (tour_steps (es := es) f (x := x) (p := p)).count_eq e
    have h2 : e ∈ subE es f x p := List.mem_append.1 ((tour_steps f).mem_iff.1 he) |>.elim id id
    rw [h1, List.count_append, hnd.count, if_pos h2]
  · rw [tour_cs ho hn h0 ht h hf, tour_vs ho hn h0 ht h hf, sortEs_length, subE_len]
end
section
variable {n : Int} {es : List (Int × Int)} (ho : ∀ e ∈ es, okE n e) (h0 : 0 ≤ n) (ht : Tree n es) {l : List Int} (hw : Walk es l)
include ho h0 ht hw
theorem up_before : ∀ (j : Nat), j < l.length → ∀ p, Adj es (l.getD j 0) p → dst n es (l.getD 0 0) p = dst n es (l.getD 0 0) (l.getD j 0) - 1 → p ∈ l.take j
  | 0, hj, p, ha, hd => by
    exfalso
    have := (dst_spec (n := n) ho (Conn.of ha)).1
    rw [dst_self ho h0] at hd; omega
  | j + 1, hj, p, ha, hd => by
    have hc := hw.conn j (by omega)
    have hs := hw j hj
    by_cases hm : l.getD (j + 1) 0 ∈ l.take (j + 1)
    · obtain ⟨k, hk, he⟩ := List.mem_iff_getElem.1 hm
      rw [List.length_take] at hk
      rw [List.getElem_take] at he
      have he' : l.getD k 0 = l.getD (j + 1) 0 := by rw [← he]; simp [show k < l.length by omega]
      have hkj : k < j + 1 := by omega
      have := up_before k (by omega) p (by rw [he']; exact ha) (by rw [he']; exact hd)
      exact (List.take_subset_take_left l (by omega)) this
    · have hnew : dst n es (l.getD 0 0) (l.getD (j + 1) 0) = dst n es (l.getD 0 0) (l.getD j 0) + 1 := by
        rcases tree_step ho h0 ht hc hs with e | e
        · exact absurd ((List.take_subset_take_left l (by omega)) (up_before j (by omega) _ hs e)) hm
        · exact e
      have : p = l.getD j 0 := tree_up ho h0 ht (hc.step hs) ha hs.symm (by omega) (by omega)
      rw [this]
      have hj' : j < l.length := by omega
      rw [List.mem_take_iff_getElem]
      exact ⟨j, by omega, by simp [hj']⟩
termination_by j => j
decreasing_by all_goals omega
theorem walk_new {j : Nat} (hj : j + 1 < l.length) (hm : l.getD (j + 1) 0 ∉ l.take (j + 1)) : dst n es (l.getD 0 0) (l.getD (j + 1) 0) = dst n es (l.getD 0 0) (l.getD j 0) + 1 := by
  rcases tree_step ho h0 ht (hw.conn j (by omega)) (hw j hj) with e | e
  · exact absurd ((List.take_subset_take_left l (by omega)) (up_before ho h0 ht hw j (by omega) _ (hw j hj) e)) hm
  · exact e
end
/-- The way from the root. -/
structure Stk (n : Int) (es : List (Int × Int)) (r x : Int) (S : List Int) : Prop where
  len : (S.length : Int) = dst n es r x + 1
  last : S.getD (S.length - 1) 0 = x
  ds : ∀ k, k < S.length → Conn es r (S.getD k 0) ∧ dst n es r (S.getD k 0) = k
  adj : ∀ k, k + 1 < S.length → Adj es (S.getD (k + 1) 0) (S.getD k 0)
section
variable {n : Int} {es : List (Int × Int)} (ho : ∀ e ∈ es, okE n e) (h0 : 0 ≤ n) (ht : Tree n es) {r x y : Int} {S : List Int}
include ho h0
end
section
variable {n : Int} {es : List (Int × Int)} (ho : ∀ e ∈ es, okE n e) (h0 : 0 ≤ n) (ht : Tree n es) {r x y : Int} {S : List Int}
include ho h0 ht
theorem Stk.step (h : Stk n es r x S) (hc : Conn es r x) (ha : Adj es x y) : (1 < S.length ∧ S.getD (S.length - 2) 0 = y ∧ Stk n es r y (S.take (S.length - 1))) ∨ (¬ (1 < S.length ∧ S.getD (S.length - 2) 0 = y) ∧ Stk n es r y (S ++ [y])) := by
  have hl := h.len
  have hd0 := (dst_spec (n := n) ho hc).1
  have hx := h.ds (S.length - 1) (by omega)
  by_cases hq : 1 < S.length ∧ S.getD (S.length - 2) 0 = y
  · have h2 := h.ds (S.length - 2) (by omega)
    rw [hq.2] at h2
    refine .inl ⟨hq.1, hq.2, ?_, ?_, fun k hk => ?_, fun k hk => ?_⟩
    · rw [List.length_take, h2.2]; omega
    · rw [List.length_take, Nat.min_eq_left (by omega), ← hq.2]
      simp only [List.getD, List.getElem?_take_of_lt (show S.length - 1 - 1 < S.length - 1 by omega)]
      rw [show S.length - 1 - 1 = S.length - 2 by omega]
    · rw [List.length_take] at hk
      have : (S.take (S.length - 1)).getD k 0 = S.getD k 0 := by simp only [List.getD, List.getElem?_take_of_lt (show k < S.length - 1 by omega)]
      rw [this]; exact h.ds k (by omega)
    · rw [List.length_take] at hk
      have e1 : (S.take (S.length - 1)).getD k 0 = S.getD k 0 := by simp only [List.getD, List.getElem?_take_of_lt (show k < S.length - 1 by omega)]
      have e2 : (S.take (S.length - 1)).getD (k + 1) 0 = S.getD (k + 1) 0 := by simp only [List.getD, List.getElem?_take_of_lt (show k + 1 < S.length - 1 by omega)]
      rw [e1, e2]; exact h.adj k (by omega)
  · have hdy : dst n es r y = dst n es r x + 1 := by
      rcases tree_step ho h0 ht hc ha with e | e
      · exfalso
        have hy0 := (dst_spec (n := n) ho (hc.step ha)).1
        have hadj := h.adj (S.length - 2) (by omega)
        rw [show S.length - 2 + 1 = S.length - 1 by omega, h.last] at hadj
        have hds := (h.ds (S.length - 2) (by omega)).2
        exact hq ⟨by omega, tree_up ho h0 ht hc hadj ha (by omega) (by omega)⟩
      · exact e
    refine .inr ⟨hq, by rw [List.length_append, hdy]; simp; omega, by simp, fun k hk => ?_, fun k hk => ?_⟩
    · rw [List.length_append] at hk
      simp only [List.length_cons, List.length_nil] at hk
      by_cases hk2 : k < S.length
      · have : (S ++ [y]).getD k 0 = S.getD k 0 := by simp only [List.getD, List.getElem?_append_left hk2]
        rw [this]; exact h.ds k hk2
      · have hk3 : k = S.length := by omega
        subst hk3
        have : (S ++ [y]).getD S.length 0 = y := by simp
        rw [this]; exact ⟨hc.step ha, by omega⟩
    · rw [List.length_append] at hk
      simp only [List.length_cons, List.length_nil] at hk
      have e1 : (S ++ [y]).getD k 0 = S.getD k 0 := by simp only [List.getD, List.getElem?_append_left (show k < S.length by omega)]
      rw [e1]
      by_cases hk2 : k + 1 < S.length
      · have : (S ++ [y]).getD (k + 1) 0 = S.getD (k + 1) 0 := by simp only [List.getD, List.getElem?_append_left hk2]
        rw [this]; exact h.adj k hk2
      · have hk3 : k + 1 = S.length := by omega
        have : (S ++ [y]).getD (k + 1) 0 = y := by rw [hk3]; simp
        rw [this, show k = S.length - 1 by omega, h.last]; exact ha.symm
end
end Go.Proofs.Yteknfomddncboaa.X
