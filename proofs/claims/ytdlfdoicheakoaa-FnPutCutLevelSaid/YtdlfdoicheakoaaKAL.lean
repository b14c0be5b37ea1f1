/- What functions answer, and the plain laws behind it. -/
import Derived.Test.YtdlfdoicheakoaaKAK
import Derived.Test.YtdlfdoicheakoaaKAF
import Derived.Test.YtdlfdoicheakoaaKAJ
import Derived.Test.YtdlfdoicheakoaaKAI
/- Lists that are tours: plain law. -/
set_option linter.unusedVariables false
namespace Go.Proofs.Ytdlfdoicheakoaa.X
open Go
section
variable {α : Type} [DecidableEq α]
def ddSt (acc : List α) (x : α) : List α := if acc.getLast? = some x then acc else acc ++ [x]
def dd (l : List α) : List α := l.foldl ddSt []
theorem dd_fold (l : List α) (x : α) : dd (l ++ [x]) = ddSt (dd l) x := by simp [dd]
omit [DecidableEq α] in
theorem snoc_indA {p : List α → Prop} (h0 : p []) (h1 : ∀ l x, p l → p (l ++ [x])) (l : List α) : p l := by
  have : ∀ r : List α, p r.reverse := by
    intro r
    induction r with
    | nil => exact h0
    | cons a r ih => rw [List.reverse_cons]; exact h1 _ _ ih
  have := this l.reverse
  rwa [List.reverse_reverse] at this
theorem dd_last (l : List α) : (dd l).getLast? = l.getLast? := by
  refine snoc_indA (p := fun l => (dd l).getLast? = l.getLast?) rfl (fun l x ih => ?_) l
  rw [dd_fold, ddSt]
  split
  · rename_i h; rw [h]; simp
  · simp
theorem dd_snoc (l : List α) (x : α) : dd (l ++ [x]) = if l.getLast? = some x then dd l else dd l ++ [x] := by
  rw [dd_fold, ddSt, dd_last]
theorem mem_dd {l : List α} {y : α} : y ∈ dd l ↔ y ∈ l := by
  refine snoc_indA (p := fun l => y ∈ dd l ↔ y ∈ l) (by simp [dd]) (fun l x ih => ?_) l
  rw [dd_snoc]
  split
  · rename_i h
    rw [ih, List.mem_append, List.mem_singleton]
    refine ⟨.inl, fun k => k.elim id fun e => ?_⟩
    subst e
    exact List.mem_of_getLast? h
  · rw [List.mem_append, List.mem_append, ih]
end
abbrev LeS (s : List (Int × Int)) : Prop := s.Pairwise fun a b => leE a b = true
theorem leE_anti {a b : Int × Int} (h : leE a b = true) (k : leE b a = true) : a = b := by
  unfold leE at h k
  rw [decide_eq_true_eq] at h k
  exact Prod.ext (by omega) (by omega)
theorem sortEs_le (xs : List (Int × Int)) : LeS (sortEs xs) := List.pairwise_mergeSort (fun a b c h1 h2 => by unfold leE at *; rw [decide_eq_true_eq] at *; omega) (fun a b => by unfold leE; rw [Bool.or_eq_true, decide_eq_true_eq, decide_eq_true_eq]; omega) xs
theorem leS_snoc {l : List (Int × Int)} {x : Int × Int} : LeS (l ++ [x]) ↔ LeS l ∧ ∀ y ∈ l, leE y x = true := by
  unfold LeS
  rw [List.pairwise_append]
  simp
theorem dd_ord {l : List (Int × Int)} : LeS l → Ord (dd l) := by
  refine snoc_indA (p := fun l => LeS l → Ord (dd l)) (fun _ => by simp [dd, Ord]) (fun l x ih hp => ?_) l
  rw [dd_snoc]
  rw [leS_snoc] at hp
  split
  · exact ih hp.1
  · rename_i hne
    unfold Ord
    rw [List.pairwise_append]
    refine ⟨ih hp.1, by simp, fun y hy z hz => ?_⟩
    rw [List.mem_singleton] at hz
    subst hz
    rw [mem_dd] at hy
    refine leE_of (hp.2 y hy) fun e => hne ?_
    subst e
    rcases List.eq_nil_or_concat l with rfl | ⟨q, w, rfl⟩
    · cases hy
    · rw [List.concat_eq_append] at *
      rw [List.getLast?_append]
      simp only [List.getLast?_singleton, Option.some_or]
      congr 1
      have h1 := hp.2 w (by simp)
      have h2 := (leS_snoc.1 hp.1).2
      rcases List.mem_append.1 hy with h | h
      · exact leE_anti h1 (h2 y h)
      · exact (List.mem_singleton.1 h).symm
/-- The pairs are alike, and no two pairs. -/
def prOk (s : List (Int × Int)) : Prop := ∀ i, i < s.length → (i % 2 = 1 → s.getD (i - 1) (0, 0) = s.getD i (0, 0)) ∧ (i % 2 = 0 → 0 < i → s.getD (i - 1) (0, 0) ≠ s.getD i (0, 0))
theorem steps_len : ∀ l : List Int, (stepsL l).length = l.length - 1
  | [] => rfl
  | [x] => rfl
  | x :: y :: r => by
    have := steps_len (y :: r)
    rw [stepsL, List.length_cons, this]
    simp
theorem steps_get : ∀ {l : List Int} {i : Nat}, i + 1 < l.length → (stepsL l).getD i (0, 0) = edgeOf (l.getD i 0) (l.getD (i + 1) 0)
  | [], i, h => by simp at h
  | [x], i, h => by simp at h
  | x :: y :: r, 0, h => rfl
  | x :: y :: r, i + 1, h => by
    have := steps_get (l := y :: r) (i := i) (by simpa using h)
    rw [stepsL]
    simpa using this
theorem mem_steps {l : List Int} {e : Int × Int} : e ∈ stepsL l ↔ ∃ i, i + 1 < l.length ∧ e = edgeOf (l.getD i 0) (l.getD (i + 1) 0) := by
  constructor
  · intro h
    obtain ⟨i, hi, rfl⟩ := List.mem_iff_getElem.1 h
    have hl := steps_len l
    refine ⟨i, by omega, ?_⟩
    rw [← steps_get (by omega)]
    simp [hi]
  · rintro ⟨i, hi, rfl⟩
    have hl := steps_len l
    rw [← steps_get hi]
    have hi' : i < (stepsL l).length := by omega
    simp only [List.getD, List.getElem?_eq_getElem hi', Option.getD_some]
    exact List.getElem_mem hi'
/-- The edges that a list goes along, and its nodes. -/
def csL (l : List Int) : List (Int × Int) := dd (sortEs (stepsL l))
def vsL (l : List Int) : List Int := ddS (sortI l)
theorem cs_ord (l : List Int) : Ord (csL l) := dd_ord (sortEs_le _)
theorem mem_cs {l : List Int} {e : Int × Int} : e ∈ csL l ↔ e ∈ stepsL l := by unfold csL; rw [mem_dd, mem_sortEs]
theorem vs_sorted (l : List Int) : (vsL l).Pairwise (· < ·) := by
  refine ddS_sorted ?_
  unfold sortI
  have := List.pairwise_mergeSort (le := fun a b : Int => decide (a ≤ b)) (fun a b c => by simp; omega) (fun a b => by simp; omega) l
  exact this.imp (by simp)
theorem mem_vs {l : List Int} {x : Int} : x ∈ vsL l ↔ x ∈ l := by
  unfold vsL sortI
  rw [mem_ddS, List.mem_mergeSort]
/-- A tour. -/
structure TV (l : List Int) : Prop where
  l1 : 1 ≤ l.length
  l31 : l.length ≤ 31
  rg : ∀ x ∈ l, inN 16 x
  cl : l.getD 0 0 = l.getD (l.length - 1) 0
  ne : ∀ i, i + 1 < l.length → l.getD i 0 ≠ l.getD (i + 1) 0
  two : ∀ e ∈ stepsL l, (stepsL l).count e = 2
  cn : (csL l).length + 1 = (vsL l).length
noncomputable instance decTV (l : List Int) : Decidable (TV l) := Classical.propDecidable _
theorem two_perm {s c : List (Int × Int)} (h : ∀ e ∈ s, s.count e = 2) (hn : c.Nodup) (hm : ∀ e, e ∈ c ↔ e ∈ s) : s.Perm (c ++ c) := by
  refine List.perm_iff_count.2 fun e => ?_
  rw [List.count_append]
  by_cases he : e ∈ s
  · rw [h e he, hn.count, if_pos ((hm e).2 he)]
  · rw [List.count_eq_zero.2 he, List.count_eq_zero.2 fun hc => he ((hm e).1 hc)]
theorem cs_two {l : List Int} (h : ∀ e ∈ stepsL l, (stepsL l).count e = 2) : (stepsL l).length = 2 * (csL l).length := by
  have := (two_perm h (cs_ord l).nodup fun e => mem_cs).length_eq
  rw [List.length_append] at this; omega
theorem TV.len {l : List Int} (h : TV l) : l.length = 2 * (csL l).length + 1 := by
  have h1 := cs_two h.two
  rw [steps_len] at h1
  have := h.l1
  omega
theorem TV.at' {l : List Int} (h : TV l) {i : Nat} (hi : i < l.length) : inN 16 (l.getD i 0) := h.rg _ (by
  simp only [List.getD, List.getElem?_eq_getElem hi, Option.getD_some]; exact List.getElem_mem hi)
theorem TV.okE {l : List Int} (h : TV l) : ∀ e ∈ csL l, okE 16 e := fun e he => by
  obtain ⟨i, hi, rfl⟩ := mem_steps.1 (mem_cs.1 he)
  exact edgeOf_ok (h.at' (by omega)) (h.at' hi) (h.ne i hi)
theorem TV.vg {l : List Int} (h : TV l) : VG 16 (csL l) := ⟨by omega, by omega, by have := h.len; have := h.l31; omega, h.okE, cs_ord l⟩
theorem TV.walk {l : List Int} (h : TV l) : Walk (csL l) l := fun i hi => (adj_edge h.okE).2 ⟨h.ne i hi, mem_cs.2 (mem_steps.2 ⟨i, hi, rfl⟩)⟩
theorem TV.conn {l : List Int} (h : TV l) {x : Int} (hx : x ∈ l) : Conn (csL l) (l.getD 0 0) x := by
  obtain ⟨i, hi, rfl⟩ := List.mem_iff_getElem.1 hx
  have := h.walk.conn i hi
  simpa [hi] using this
theorem TV.conn_mem {l : List Int} (h : TV l) {x : Int} (hc : Conn (csL l) (l.getD 0 0) x) : x ∈ l := by
  have hg : ∀ i, i < l.length → l.getD i 0 ∈ l := fun i hi => by
    simp only [List.getD, List.getElem?_eq_getElem hi, Option.getD_some]; exact List.getElem_mem hi
  refine hc.closed (p := fun x => x ∈ l) (fun u v ha _ => ?_) (hg 0 (by have := h.l1; omega))
  have he := ((adj_edge h.okE).1 ha).2
  obtain ⟨i, hi, e⟩ := mem_steps.1 (mem_cs.1 he)
  have h1 := hg i (by omega)
  have h2 := hg (i + 1) hi
  rcases edgeOf_ends (x := u) (y := v) with a | a <;> rcases edgeOf_ends (x := l.getD i 0) (y := l.getD (i + 1) 0) with b | b <;> rw [a, b] at e <;> simp only [Prod.mk.injEq] at e
  · rw [e.2]; exact h2
  · rw [e.2]; exact h1
  · rw [e.1]; exact h1
  · rw [e.1]; exact h2
theorem filt_sum {α : Type} (p : α → Bool) : ∀ l : List α, (l.filter p).length + (l.filter fun x => !p x).length = l.length
  | [] => rfl
  | a :: l => by
    have ih := filt_sum p l
    rw [List.filter_cons, List.filter_cons]
    cases h : p a <;> simp <;> omega
/-- The edges of a tour are a tree. -/
theorem TV.tree {l : List Int} (h : TV l) : Tree 16 (csL l) := by
  have hge := cnt_ge (n := 16) h.okE
  have hl0 : inN 16 (l.getD 0 0) := h.at' (by have := h.l1; omega)
  have hle : cnt 16 (csL l) ≤ ((iota 16).filter fun x => decide (x ∉ vsL l)).length + 1 := by
    unfold cnt
    have := len_le_of_sub (l := ((List.range (16 : Int).toNat).filter fun x => decide (least (csL l) x = x)).map fun x => ((x : Nat) : Int)) (m := ((least (csL l) (l.getD 0 0).toNat : Nat) : Int) :: (iota 16).filter fun x => decide (x ∉ vsL l)) ?_ ?_
    · rw [List.length_map, List.length_cons] at this; exact this
    · exact nodup_map (List.nodup_range.sublist List.filter_sublist) fun x _ y _ e => by omega
    · intro v hv
      obtain ⟨x, hx, rfl⟩ := List.mem_map.1 hv
      obtain ⟨h1, h2⟩ := List.mem_filter.1 hx
      rw [decide_eq_true_eq] at h2
      rw [List.mem_range] at h1
      by_cases hm : ((x : Nat) : Int) ∈ vsL l
      · have hc := h.conn (mem_vs.1 hm)
        have : least (csL l) (l.getD 0 0).toNat = least (csL l) x := least_iff.2 (by rw [Int.toNat_of_nonneg hl0.1]; exact hc)
        rw [this, h2]; simp
      · refine List.mem_cons_of_mem _ (List.mem_filter.2 ⟨mem_iota.2 (by omega), by simpa using hm⟩)
  have hsum : ((iota 16).filter fun x => decide (x ∉ vsL l)).length + (vsL l).length = 16 := by
    have h1 : ((iota 16).filter fun x => decide (x ∈ vsL l)) = vsL l := sorted_ext ((sorted_iota 16).filter _) (vs_sorted l) fun x => by
      rw [List.mem_filter, decide_eq_true_eq, mem_iota]
      exact ⟨fun h => h.2, fun hx => ⟨h.rg x (mem_vs.1 hx), hx⟩⟩
    have h2 := filt_sum (fun x => decide (x ∈ vsL l)) (iota 16)
    have e : ((iota 16).filter fun x => !decide (x ∈ vsL l)) = (iota 16).filter fun x => decide (x ∉ vsL l) := List.filter_congr fun x _ => by simp
    rw [h1, e] at h2
    have h3 : (iota 16).length = 16 := by simp [iota]
    omega
  have hcn := h.cn
  unfold Tree
  have : (16 : Int).toNat = 16 := rfl
  omega
section
variable {n : Int} {es : List (Int × Int)} (ho : ∀ e ∈ es, okE n e) (hn : es.Nodup) (h0 : 0 ≤ n) (ht : Tree n es)
include ho hn h0 ht
omit ho hn h0 ht in
theorem At.top {r : Int} (hr : inN n r) : At n es r r (-1) := ⟨.refl _, hr, .inl ⟨rfl, rfl⟩⟩
omit hn in
end
section
variable {n : Int} {es : List (Int × Int)} (ho : ∀ e ∈ es, okE n e) (h0 : 0 ≤ n) (ht : Tree n es) {l : List Int} (hw : Walk es l)
include ho h0 ht hw
end
/-- The way from the root. -/
structure Stk (n : Int) (es : List (Int × Int)) (r x : Int) (S : List Int) : Prop where
  len : (S.length : Int) = dst n es r x + 1
  last : S.getD (S.length - 1) 0 = x
  ds : ∀ k, k < S.length → Conn es r (S.getD k 0) ∧ dst n es r (S.getD k 0) = k
  adj : ∀ k, k + 1 < S.length → Adj es (S.getD (k + 1) 0) (S.getD k 0)
section
variable {n : Int} {es : List (Int × Int)} (ho : ∀ e ∈ es, okE n e) (h0 : 0 ≤ n) (ht : Tree n es) {r x y : Int} {S : List Int}
include ho h0
theorem Stk.new (hr : r = x) : Stk n es r x [x] := by
  subst hr
  have hd := dst_self (n := n) (t := r) ho h0
  refine ⟨by simp [hd], rfl, fun k hk => ?_, fun k hk => by simp at hk⟩
  have : k = 0 := by simp at hk; omega
  subst this
  exact ⟨.refl _, hd⟩
end
section
variable {n : Int} {es : List (Int × Int)} (ho : ∀ e ∈ es, okE n e) (h0 : 0 ≤ n) (ht : Tree n es) {r x y : Int} {S : List Int}
include ho h0 ht
theorem Stk.step (h : Stk n es r x S) (hc : Conn es r x) (ha : Adj es x y) : (1 < S.length ∧ S.getD (S.length - 2) 0 = y ∧ Stk n es r y (S.take (S.length - 1))) ∨ (¬ (1 < S.length ∧ S.getD (S.length - 2) 0 = y) ∧ Stk n es r y (S ++ [y])) := by
  have hl := h.len
  have hd0 := (dst_spec (n := n) ho hc).1
  have hx := h.ds (S.length - 1) (by omega)
  by_cases hq : 1 < S.length ∧ S.getD (S.length - 2) 0 = y
  · have h2 := h.ds (S.length - 2) (by omega)
    rw [hq.2] at h2
    refine .inl ⟨hq.1, hq.2, ?_, ?_, fun k hk => ?_, fun k hk => ?_⟩
    · rw [List.length_take, h2.2]; omega
    · rw [List.length_take, Nat.min_eq_left (by omega), ← hq.2]
      simp only [List.getD, List.getElem?_take_of_lt (show S.length - 1 - 1 < S.length - 1 by omega)]
      rw [show S.length - 1 - 1 = S.length - 2 by omega]
    · rw [List.length_take] at hk
      have : (S.take (S.length - 1)).getD k 0 = S.getD k 0 := by simp only [List.getD, List.getElem?_take_of_lt (show k < S.length - 1 by omega)]
      rw [this]; exact h.ds k (by omega)
    · rw [List.length_take] at hk
      have e1 : (S.take (S.length - 1)).getD k 0 = S.getD k 0 := by simp only [List.getD, List.getElem?_take_of_lt (show k < S.length - 1 by omega)]
      have e2 : (S.take (S.length - 1)).getD (k + 1) 0 = S.getD (k + 1) 0 := by simp only [List.getD, List.getElem?_take_of_lt (show k + 1 < S.length - 1 by omega)]
      rw [e1, e2]; exact h.adj k (by omega)
  · have hdy : dst n es r y = dst n es r x + 1 := by
      rcases tree_step ho h0 ht hc ha with e | e
      · exfalso
        have hy0 := (dst_spec (n := n) ho (hc.step ha)).1
        have hadj := h.adj (S.length - 2) (by omega)
        rw [show S.length - 2 + 1 = S.length - 1 by omega, h.last] at hadj
        have hds := (h.ds (S.length - 2) (by omega)).2
        exact hq ⟨by omega, tree_up ho h0 ht hc hadj ha (by omega) (by omega)⟩
      · exact e
    refine .inr ⟨hq, by rw [List.length_append, hdy]; simp; omega, by simp, fun k hk => ?_, fun k hk => ?_⟩
    · rw [List.length_append] at hk
      simp only [List.length_cons, List.length_nil] at hk
      by_cases hk2 : k < S.length
      · have : (S ++ [y]).getD k 0 = S.getD k 0 := by simp only [List.getD, List.getElem?_append_left hk2]
        rw [this]; exact h.ds k hk2
      · have hk3 : k = S.length := by omega
        subst hk3
        have : (S ++ [y]).getD S.length 0 = y := by simp
        rw [this]; exact ⟨hc.step ha, by omega⟩
    · rw [List.length_append] at hk
      simp only [List.length_cons, List.length_nil] at hk
      have e1 : (S ++ [y]).getD k 0 = S.getD k 0 := by simp only [List.getD, List.getElem?_append_left (show k < S.length by omega)]
      rw [e1]
      by_cases hk2 : k + 1 < S.length
      · have : (S ++ [y]).getD (k + 1) 0 = S.getD (k + 1) 0 := by simp only [List.getD, List.getElem?_append_left hk2]
        rw [this]; exact h.adj k hk2
      · have hk3 : k + 1 = S.length := by omega
        have : (S ++ [y]).getD (k + 1) 0 = y := by rw [hk3]; simp
        rw [this, show k = S.length - 1 by omega, h.last]; exact ha.symm
end
end Go.Proofs.Ytdlfdoicheakoaa.X

/- What functions compute: lists that may be tours. -/
set_option linter.unusedSimpArgs false
set_option linter.unusedVariables false
set_option maxHeartbeats 8000000
set_option maxRecDepth 100000
namespace Go.Proofs.Ytdlfdoicheakoaa.X
open Go Go.Proofs
/-- The place of a number, or -1. -/
def findI (xs : List Int) (x : Int) : Int := if x ∈ xs then (xs.idxOf x : Int) else -1
/-- Each step is an edge. -/
def stOk (l : List Int) : Prop := ∀ i, i + 1 < l.length → eOk (l.getD i 0) (l.getD (i + 1) 0)
noncomputable instance decStOk (l : List Int) : Decidable (stOk l) := Classical.propDecidable _
end Go.Proofs.Ytdlfdoicheakoaa.X

/- What functions compute: lists that may be tours, as the reference sees them. -/
set_option linter.unusedSimpArgs false
set_option linter.unusedVariables false
set_option maxHeartbeats 8000000
set_option maxRecDepth 100000
namespace Go.Proofs.Ytdlfdoicheakoaa.X
open Go Go.Proofs
end Go.Proofs.Ytdlfdoicheakoaa.X

/- What functions compute: the reference's levels: an edge is put, an edge is cut out. -/
set_option linter.unusedSimpArgs false
set_option linter.unusedVariables false
set_option maxHeartbeats 16000000
set_option maxRecDepth 100000
namespace Go.Proofs.Ytdlfdoicheakoaa.X
open Go Go.Proofs
theorem c_l7At (n k : Int) (f : Bool) (ts : List Tl) (hl : ts.length ≤ 1000) : KP 84 [LvP n ts, I k, B f] [] = some (.agg [I n, .ref 2000 0 0 (abT ts k f).length], [], [.arr 0 2 ((abT ts k f).map encE)]) := by
  have l1 := esT_len' ts
  have l2 := lvT_len ts
  have l3 := trT_len ts
  refine xw_call (fn := Try.f84) rfl Try.func84 rfl ⟨Nat.le_of_ble_eq_true rfl, rfl, rfl⟩ ?_
  repeat'(first|(refine na ?_;constructor)|(refine ite_two ?_ ?_<;>intro _<;>first|(exfalso;omega)|skip)|refine ord_split (by kernel_rfl) ?_|((first|(refine nb ?_;constructor)|refine pn rfl ?_|refine pe rfl ?_|((first|refine at2 ?_|refine at_cond ?_);split<;>first|(exfalso;omega;done)|skip))<;>try simp(config:={maxSteps:=3000000})(disch:=first|assumption|omega|exact VG.okg (by assumption)|(simp only[List.length_set,List.length_append,List.length_cons,List.length_nil,List.length_replicate];omega))only[go_sem,simprocAttr,Try.results84]))
  refine xw_loopR (fun (x : Int × Nat) s => s.m 3 = some (.box 0 [I n, LE (esT ts), LI (lvT ts), LT (trT ts)]) ∧ s.ρ 3 = .ptr 3 0 0 0 ∧ s.m 7 = some (.box 0 [I n, .ref 12 x.2 0 (abT (ts.take x.1.toNat) k f).length]) ∧ s.ρ 7 = .ptr 7 0 0 0 ∧ s.m 12 = some (.arr x.2 2 ((abT (ts.take x.1.toNat) k f).map encE)) ∧ s.ρ 6 = .ptr 6 0 0 0 ∧ s.m 6 = some (.box 0 [I 0, .i .emp]) ∧
    s.ρ 8 = I x.1 ∧ s.ρ 1 = I k ∧ s.ρ 2 = B f ∧ 0 ≤ x.1 ∧ x.1 ≤ ts.length) (fun x => (ts.length - x.1).toNat) (0, 0) ?_ ?_
  · exact ⟨rfl, rfl, rfl, rfl, rfl, rfl, rfl, rfl, rfl, rfl, by simp, by simp⟩
  rintro ⟨i, w⟩ ⟨ρ, m⟩ ⟨m3, e3, m7, e7, m12, e6, m6, e8, e1, e2, g0, g1⟩
  simp only at m3 e3 m7 e7 m12 e6 m6 e8 e1 e2 g0 g1
  by_cases hi : i < ts.length
  rotate_left
  · rw [take_all (by omega)] at m7 m12
    repeat'(first|(refine na ?_;constructor)|(refine ite_two ?_ ?_<;>intro _<;>first|(exfalso;omega)|skip)|refine ord_split (by kernel_rfl) ?_|((first|(refine nb ?_;constructor)|refine pn rfl ?_|refine pe rfl ?_|((first|refine at2 ?_|refine at_cond ?_);split<;>first|(exfalso;omega;done)|skip))<;>try simp(config:={maxSteps:=3000000})(disch:=first|assumption|omega|exact VG.okg (by assumption)|(simp only[List.length_set,List.length_append,List.length_cons,List.length_nil,List.length_replicate];omega))only[go_sem,simprocAttr,Try.results84, m3, e3, m7, e7, m12, e6, m6, e8, e1, e2, l1]))
  have hE := getTe ts i.toNat (by omega)
  have hL := getTl ts i.toNat (by omega)
  have hT := getTt ts i.toNat (by omega)
  have hsn := abT_snoc (k := k) (f := f) g0 hi
  have hxl := abT_len (ts.take i.toNat) k f
  rw [List.length_take] at hxl
  generalize abT (ts.take i.toNat) k f = xs at *
  generalize ts.getD i.toNat dT = t at hE hL hT hsn
  obtain ⟨⟨a, b⟩, l, q⟩ := t
  simp only at hE hL hT hsn
  have hdec : abP k f ((a, b), l, q) = (decide (k ≤ l) && (!f || q)) := rfl
  rw [hdec] at hsn
  by_cases hk : k ≤ l
  · have hkd := decide_eq_true hk
    rw [hkd] at hsn
    cases f <;> cases q
    · have hsn' : abT (ts.take (i + 1).toNat) k false = xs ++ [(a, b)] := hsn
      repeat'(first|(refine na ?_;constructor)|(refine ite_two ?_ ?_<;>intro _<;>first|(exfalso;omega)|skip)|refine ord_split (by kernel_rfl) ?_|((first|(refine nb ?_;constructor)|refine pn rfl ?_|refine pe rfl ?_|((first|refine at2 ?_|refine at_cond ?_);split<;>first|(exfalso;omega;done)|skip))<;>try simp(config:={maxSteps:=3000000})(disch:=first|assumption|omega|exact VG.okg (by assumption)|(simp only[List.length_set,List.length_append,List.length_cons,List.length_nil,List.length_replicate];omega))only[go_sem,simprocAttr,Try.results84, m3, e3, m7, e7, m12, e6, m6, e8, e1, e2, hE, hL, hT, l1]))
      exact ⟨i + 1, w + 1, by rw [hsn']; simp, rfl, by rw [hsn'], rfl, by omega, by omega, by omega⟩
    · have hsn' : abT (ts.take (i + 1).toNat) k false = xs ++ [(a, b)] := hsn
      repeat'(first|(refine na ?_;constructor)|(refine ite_two ?_ ?_<;>intro _<;>first|(exfalso;omega)|skip)|refine ord_split (by kernel_rfl) ?_|((first|(refine nb ?_;constructor)|refine pn rfl ?_|refine pe rfl ?_|((first|refine at2 ?_|refine at_cond ?_);split<;>first|(exfalso;omega;done)|skip))<;>try simp(config:={maxSteps:=3000000})(disch:=first|assumption|omega|exact VG.okg (by assumption)|(simp only[List.length_set,List.length_append,List.length_cons,List.length_nil,List.length_replicate];omega))only[go_sem,simprocAttr,Try.results84, m3, e3, m7, e7, m12, e6, m6, e8, e1, e2, hE, hL, hT, l1]))
      exact ⟨i + 1, w + 1, by rw [hsn']; simp, rfl, by rw [hsn'], rfl, by omega, by omega, by omega⟩
    · have hsn' : abT (ts.take (i + 1).toNat) k true = xs := hsn.trans (List.append_nil _)
      repeat'(first|(refine na ?_;constructor)|(refine ite_two ?_ ?_<;>intro _<;>first|(exfalso;omega)|skip)|refine ord_split (by kernel_rfl) ?_|((first|(refine nb ?_;constructor)|refine pn rfl ?_|refine pe rfl ?_|((first|refine at2 ?_|refine at_cond ?_);split<;>first|(exfalso;omega;done)|skip))<;>try simp(config:={maxSteps:=3000000})(disch:=first|assumption|omega|exact VG.okg (by assumption)|(simp only[List.length_set,List.length_append,List.length_cons,List.length_nil,List.length_replicate];omega))only[go_sem,simprocAttr,Try.results84, m3, e3, m7, e7, m12, e6, m6, e8, e1, e2, hE, hL, hT, l1]))
      exact ⟨i + 1, w, by rw [hsn'], rfl, by rw [hsn'], rfl, by omega, by omega, by omega⟩
    · have hsn' : abT (ts.take (i + 1).toNat) k true = xs ++ [(a, b)] := hsn
      repeat'(first|(refine na ?_;constructor)|(refine ite_two ?_ ?_<;>intro _<;>first|(exfalso;omega)|skip)|refine ord_split (by kernel_rfl) ?_|((first|(refine nb ?_;constructor)|refine pn rfl ?_|refine pe rfl ?_|((first|refine at2 ?_|refine at_cond ?_);split<;>first|(exfalso;omega;done)|skip))<;>try simp(config:={maxSteps:=3000000})(disch:=first|assumption|omega|exact VG.okg (by assumption)|(simp only[List.length_set,List.length_append,List.length_cons,List.length_nil,List.length_replicate];omega))only[go_sem,simprocAttr,Try.results84, m3, e3, m7, e7, m12, e6, m6, e8, e1, e2, hE, hL, hT, l1]))
      exact ⟨i + 1, w + 1, by rw [hsn']; simp, rfl, by rw [hsn'], rfl, by omega, by omega, by omega⟩
  · have hkd := decide_eq_false hk
    rw [hkd] at hsn
    simp only [Bool.false_and, Bool.false_eq_true, if_false, List.append_nil] at hsn
    repeat'(first|(refine na ?_;constructor)|(refine ite_two ?_ ?_<;>intro _<;>first|(exfalso;omega)|skip)|refine ord_split (by kernel_rfl) ?_|((first|(refine nb ?_;constructor)|refine pn rfl ?_|refine pe rfl ?_|((first|refine at2 ?_|refine at_cond ?_);split<;>first|(exfalso;omega;done)|skip))<;>try simp(config:={maxSteps:=3000000})(disch:=first|assumption|omega|exact VG.okg (by assumption)|(simp only[List.length_set,List.length_append,List.length_cons,List.length_nil,List.length_replicate];omega))only[go_sem,simprocAttr,Try.results84, m3, e3, m7, e7, m12, e6, m6, e8, e1, e2, hE, hL, hT, l1]))
    exact ⟨i + 1, w, by rw [hsn], rfl, by rw [hsn], rfl, by omega, by omega, by omega⟩
theorem c_l7Most (n k : Int) (h0 : 0 ≤ n ∧ n ≤ 1000) (hk : 0 ≤ k ∧ k ≤ 10) : KP 89 [I n, I k] [] = some (I (n / 2 ^ k.toNat), [], []) := by
  refine xw_call (fn := Try.f89) rfl Try.func89 rfl ⟨Nat.le_of_ble_eq_true rfl, rfl, rfl⟩ ?_
  repeat'(first|(refine na ?_;constructor)|(refine ite_two ?_ ?_<;>intro _<;>first|(exfalso;omega)|skip)|refine ord_split (by kernel_rfl) ?_|((first|(refine nb ?_;constructor)|refine pn rfl ?_|refine pe rfl ?_|((first|refine at2 ?_|refine at_cond ?_);split<;>first|(exfalso;omega;done)|skip))<;>try simp(config:={maxSteps:=3000000})(disch:=first|assumption|omega|exact VG.okg (by assumption)|(simp only[List.length_set,List.length_append,List.length_cons,List.length_nil,List.length_replicate];omega))only[go_sem,simprocAttr,Try.results89]))
  refine xw_loopR (fun (i : Int) s => s.ρ 0 = I (n / 2 ^ i.toNat) ∧ s.ρ 1 = I k ∧ s.ρ 5 = I i ∧ 0 ≤ i ∧ i ≤ k) (fun i => (k - i).toNat) 0 ⟨by simp [upd, initP], rfl, rfl, by omega, hk.1⟩ ?_
  rintro i ⟨ρ, m⟩ ⟨e0, e1, e5, g0, g1⟩
  simp only at e0 e1 e5 g0 g1
  have hq0 : 0 ≤ n / 2 ^ i.toNat := Int.ediv_nonneg h0.1 (Int.pow_nonneg (by omega))
  have hq1 : n / 2 ^ i.toNat ≤ n := Int.ediv_le_self _ h0.1
  by_cases hi : i < k
  · have hnx : n / 2 ^ (i + 1).toNat = (n / 2 ^ i.toNat) / 2 := by
      rw [show (i + 1).toNat = i.toNat + 1 by omega, Int.pow_succ, Int.ediv_ediv_of_nonneg (Int.pow_nonneg (by omega))]
    have htd := Int.tdiv_eq_ediv_of_nonneg (b := 2) hq0
    generalize n / 2 ^ i.toNat = q at *
    repeat'(first|(refine na ?_;constructor)|(refine ite_two ?_ ?_<;>intro _<;>first|(exfalso;omega)|skip)|refine ord_split (by kernel_rfl) ?_|((first|(refine nb ?_;constructor)|refine pn rfl ?_|refine pe rfl ?_|((first|refine at2 ?_|refine at_cond ?_);split<;>first|(exfalso;omega;done)|skip))<;>try simp(config:={maxSteps:=3000000})(disch:=first|assumption|omega|exact VG.okg (by assumption)|(simp only[List.length_set,List.length_append,List.length_cons,List.length_nil,List.length_replicate];omega))only[go_sem,simprocAttr,Try.results89, e0, e1, e5, htd]))
    exact ⟨i + 1, by rw [hnx], rfl, by omega, by omega, by omega⟩
  · have hik : i = k := by omega
    subst hik
    repeat'(first|(refine na ?_;constructor)|(refine ite_two ?_ ?_<;>intro _<;>first|(exfalso;omega)|skip)|refine ord_split (by kernel_rfl) ?_|((first|(refine nb ?_;constructor)|refine pn rfl ?_|refine pe rfl ?_|((first|refine at2 ?_|refine at_cond ?_);split<;>first|(exfalso;omega;done)|skip))<;>try simp(config:={maxSteps:=3000000})(disch:=first|assumption|omega|exact VG.okg (by assumption)|(simp only[List.length_set,List.length_append,List.length_cons,List.length_nil,List.length_replicate];omega))only[go_sem,simprocAttr,Try.results89, e0, e1, e5]))
end Go.Proofs.Ytdlfdoicheakoaa.X

/- What functions compute: the tour of a tree. -/
set_option linter.unusedSimpArgs false
set_option linter.unusedVariables false
set_option maxHeartbeats 8000000
set_option maxRecDepth 100000
namespace Go.Proofs.Ytdlfdoicheakoaa.X
open Go Go.Proofs
/-- A tour so far: the neighbors up to a place have been gone to. -/
def tkL (es : List (Int × Int)) (f : Nat) (x p : Int) (ys : List Int) : List Int := x :: ys.flatMap fun y => if y = p then [] else tourL es f y x ++ [x]
end Go.Proofs.Ytdlfdoicheakoaa.X

/- What functions compute: whether a list is a tour. -/
set_option linter.unusedSimpArgs false
set_option linter.unusedVariables false
set_option maxHeartbeats 8000000
set_option maxRecDepth 100000
namespace Go.Proofs.Ytdlfdoicheakoaa.X
open Go Go.Proofs
end Go.Proofs.Ytdlfdoicheakoaa.X

/- What functions compute: whether a list is a tour, as the reference sees it. -/
set_option linter.unusedSimpArgs false
set_option linter.unusedVariables false
set_option maxHeartbeats 8000000
set_option maxRecDepth 100000
namespace Go.Proofs.Ytdlfdoicheakoaa.X
open Go Go.Proofs
end Go.Proofs.Ytdlfdoicheakoaa.X

/- What functions compute: tours of trees, edges of tours. -/
set_option linter.unusedSimpArgs false
set_option linter.unusedVariables false
set_option maxHeartbeats 8000000
set_option maxRecDepth 100000
namespace Go.Proofs.Ytdlfdoicheakoaa.X
open Go Go.Proofs
/-- A tree with a node in it. -/
def TO (n : Int) (es : List (Int × Int)) (r : Int) : Prop := VG n es ∧ inN n r ∧ Tree n es
noncomputable instance decTree (n : Int) (es : List (Int × Int)) : Decidable (Tree n es) := Classical.propDecidable _
noncomputable instance decTO (n : Int) (es : List (Int × Int)) (r : Int) : Decidable (TO n es r) := Classical.propDecidable _
abbrev toL (n : Int) (es : List (Int × Int)) (r : Int) : List Int := tourL es n.toNat r (-1)
theorem TO.at' {n : Int} {es : List (Int × Int)} {r : Int} (h : TO n es r) : At n es r r (-1) ∧ n - dst n es r r ≤ n.toNat := by
  have h0 : 0 ≤ n := by have := h.1.1; omega
  exact ⟨⟨.refl _, h.2.1, .inl ⟨rfl, rfl⟩⟩, by rw [dst_self h.1.okg.ok h0]; omega⟩
theorem c_l6Forest (n : Int) (es : List (Int × Int)) (h : OKG n es) : KP 85 [GL n es] [] = some (B (decide (Tree n es)), [], []) := by
  have hf := c_l2Forest n es h
  have htr := tree_forest (n := n) h.ok
  have hlen := h.len
  have hfl := (forest_sub h.ok).length_le
  have e : decide (Tree n es) = decide (((forestL es).length : Int) = es.length) := decide_eq_decide.2 (by rw [← htr]; omega)
  rw [e]
  refine xw_call (fn := Try.f85) rfl Try.func85 rfl ⟨Nat.le_of_ble_eq_true rfl, rfl, rfl⟩ ?_
  repeat'(first|(refine na ?_;constructor)|(refine ite_two ?_ ?_<;>intro _<;>first|(exfalso;omega)|skip)|refine ord_split (by kernel_rfl) ?_|((first|(refine nb ?_;constructor)|refine pn rfl ?_|refine pe rfl ?_|((first|refine at2 ?_|refine at_cond ?_);split<;>first|(exfalso;omega;done)|skip))<;>try simp(config:={maxSteps:=3000000})(disch:=first|assumption|omega|exact VG.okg (by assumption)|(simp only[List.length_set,List.length_append,List.length_cons,List.length_nil,List.length_replicate];omega))only[go_sem,simprocAttr,Try.results85, hf]))
end Go.Proofs.Ytdlfdoicheakoaa.X
