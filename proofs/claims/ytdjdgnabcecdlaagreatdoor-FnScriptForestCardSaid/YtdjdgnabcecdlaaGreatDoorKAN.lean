/- What functions answer, and the plain laws behind it. -/
import Derived.Test.YtdjdgnabcecdlaaGreatDoorKAG
import Derived.Test.YtdjdgnabcecdlaaGreatDoorKAC
import Derived.Test.YtdjdgnabcecdlaaGreatDoorKAF
import Derived.Test.YtdjdgnabcecdlaaGreatDoorKAM
/- Blocks: plain law. -/
set_option linter.unusedVariables false
namespace Go.Proofs.YtdjdgnabcecdlaaGreatDoor.X
open Go
/-- Two edges with a node in common whose other nodes are connected without it. -/
def Near (es : List (Int × Int)) (e f : Int × Int) : Prop := ∃ v x y, ((e.1 = v ∧ e.2 = x) ∨ (e.2 = v ∧ e.1 = x)) ∧ ((f.1 = v ∧ f.2 = y) ∨ (f.2 = v ∧ f.1 = y)) ∧ x ≠ y ∧ Conn (alone v es) x y
noncomputable instance decNear (es : List (Int × Int)) (e f : Int × Int) : Decidable (Near es e f) := Classical.propDecidable _
theorem Near.symm {es : List (Int × Int)} {e f : Int × Int} : Near es e f → Near es f e := fun ⟨v, x, y, h1, h2, h3, h4⟩ => ⟨v, y, x, h2, h1, fun h => h3 h.symm, h4.symm⟩
abbrev eAt (es : List (Int × Int)) (i : Int) : Int × Int := es.getD i.toNat (0, 0)
/-- Places of edges that are near each other. -/
noncomputable def relL (es : List (Int × Int)) : List (Int × Int) := ((iota es.length).flatMap fun i => (iota i).map fun k => (k, i)).filter fun q => decide (Near es (eAt es q.1) (eAt es q.2))
theorem mem_relL {es : List (Int × Int)} {k i : Int} : (k, i) ∈ relL es ↔ 0 ≤ k ∧ k < i ∧ i < es.length ∧ Near es (eAt es k) (eAt es i) := by
  simp only [relL, List.mem_filter, List.mem_flatMap, List.mem_map, decide_eq_true_eq, Prod.mk.injEq, mem_iota]
  constructor
  · rintro ⟨⟨i', h1, k', h2, rfl, rfl⟩, h3⟩; exact ⟨by omega, by omega, by omega, h3⟩
  · rintro ⟨h1, h2, h3, h4⟩; exact ⟨⟨i, by omega, k, by omega, rfl, rfl⟩, h4⟩
/-- For each edge the place of the first edge of its block. -/
noncomputable def blkL (es : List (Int × Int)) : List Int := lab es.length (relL es)
/-- Edges of one block. -/
def Blk (es : List (Int × Int)) (e f : Int × Int) : Prop := ∃ i k : Int, (0 ≤ i ∧ i < es.length) ∧ (0 ≤ k ∧ k < es.length) ∧ eAt es i = e ∧ eAt es k = f ∧ Conn (relL es) i k
theorem eAt_inj {es : List (Int × Int)} (hn : es.Nodup) {i k : Int} (hi : 0 ≤ i ∧ i < es.length) (hk : 0 ≤ k ∧ k < es.length) (h : eAt es i = eAt es k) : i = k := by
  have h1 : i.toNat < es.length := by omega
  have h2 : k.toNat < es.length := by omega
  simp only [eAt, List.getD, List.getElem?_eq_getElem h1, List.getElem?_eq_getElem h2, Option.getD_some] at h
  have := (List.getElem_inj hn).1 h
  omega
theorem eAt_mem {es : List (Int × Int)} {i : Int} (hi : 0 ≤ i ∧ i < es.length) : eAt es i ∈ es := getD_mem (by omega)
theorem eAt_of {es : List (Int × Int)} {e : Int × Int} (h : e ∈ es) : ∃ i : Int, (0 ≤ i ∧ i < es.length) ∧ eAt es i = e := by
  obtain ⟨i, hi, he⟩ := List.mem_iff_getElem.1 h
  exact ⟨i, by omega, by simp [eAt, hi, he]⟩
section
variable {n : Int} {es : List (Int × Int)}
theorem Blk.refl {e : Int × Int} (h : e ∈ es) : Blk es e e := by
  obtain ⟨i, hi, he⟩ := eAt_of h
  exact ⟨i, i, hi, hi, he, he, .refl i⟩
theorem Blk.symm {e f : Int × Int} : Blk es e f → Blk es f e := fun ⟨i, k, h1, h2, h3, h4, h5⟩ => ⟨k, i, h2, h1, h4, h3, h5.symm⟩
theorem Blk.trans (hn : es.Nodup) {e f g : Int × Int} : Blk es e f → Blk es f g → Blk es e g := fun ⟨i, k, h1, h2, h3, h4, h5⟩ ⟨i', k', g1, g2, g3, g4, g5⟩ => by
  have := eAt_inj hn h2 g1 (h4.trans g3.symm)
  subst this
  exact ⟨i, k', h1, g2, h3, g4, h5.trans g5⟩
theorem Blk.near {e f : Int × Int} (he : e ∈ es) (hf : f ∈ es) (h : Near es e f) : Blk es e f := by
  obtain ⟨i, hi, rfl⟩ := eAt_of he
  obtain ⟨k, hk, rfl⟩ := eAt_of hf
  refine ⟨i, k, hi, hk, rfl, rfl, ?_⟩
  by_cases h1 : i < k
  · exact .of (.inl (mem_relL.2 ⟨hi.1, h1, hk.2, h⟩))
  · by_cases h2 : k < i
    · exact .of (.inr (mem_relL.2 ⟨hk.1, h2, hi.2, h.symm⟩))
    · have : i = k := by omega
      subst this; exact .refl i
theorem Blk.mem {e f : Int × Int} : Blk es e f → e ∈ es ∧ f ∈ es := fun ⟨i, k, h1, h2, h3, h4, _⟩ => ⟨h3 ▸ eAt_mem h1, h4 ▸ eAt_mem h2⟩
/-- A node of an edge. -/
def On (v : Int) (e : Int × Int) : Prop := e.1 = v ∨ e.2 = v
instance (v : Int) (e : Int × Int) : Decidable (On v e) := by unfold On; infer_instance
theorem On.conn {e : Int × Int} (he : e ∈ es) {v a b : Int} (ha : On a e) (hb : On b e) (hav : a ≠ v) (hbv : b ≠ v) : Conn (alone v es) a b := by
  by_cases hab : a = b
  · subst hab; exact .refl a
  · have hm : ∀ x y, e.1 = x → e.2 = y → x ≠ v → y ≠ v → e ∈ alone v es := fun x y h1 h2 h3 h4 => by
      unfold alone
      rw [List.mem_filter]
      refine ⟨he, decide_eq_true ⟨?_, ?_⟩⟩ <;> simp_all
    rcases ha with ha | ha <;> rcases hb with hb | hb
    · exact absurd (ha.symm.trans hb) hab
    · exact .of (.inl (by rw [← ha, ← hb]; exact hm a b ha hb hav hbv))
    · exact .of (.inr (by rw [← ha, ← hb]; exact hm b a hb ha hbv hav))
    · exact absurd (ha.symm.trans hb) hab
theorem On.other (ho : ∀ e ∈ es, okE n e) {e : Int × Int} (he : e ∈ es) (v : Int) : ∃ a, On a e ∧ a ≠ v := by
  have := ho e he
  unfold okE at this
  by_cases h : e.1 = v
  · exact ⟨e.2, .inr rfl, by omega⟩
  · exact ⟨e.1, .inl rfl, h⟩
theorem On.ends {e : Int × Int} {v : Int} (h : On v e) : ∃ x, (e.1 = v ∧ e.2 = x) ∨ (e.2 = v ∧ e.1 = x) := h.elim (fun h => ⟨e.2, .inl ⟨h, rfl⟩⟩) fun h => ⟨e.1, .inr ⟨h, rfl⟩⟩
theorem On.adj {e : Int × Int} (he : e ∈ es) {v x : Int} (h : (e.1 = v ∧ e.2 = x) ∨ (e.2 = v ∧ e.1 = x)) : Adj es v x := by
  rcases h with ⟨rfl, rfl⟩ | ⟨rfl, rfl⟩
  · exact .inl he
  · exact .inr he
end
/-- Two labels made one. -/
def joinL (out : List Int) (a b : Int) : List Int := out.map fun x => if x = max (out.getD a.toNat 0) (out.getD b.toNat 0) then min (out.getD a.toNat 0) (out.getD b.toNat 0) else x
def comV (e f : Int × Int) : Option (Int × Int × Int) :=
  if e.1 = f.1 then some (e.1, e.2, f.2) else if e.1 = f.2 then some (e.1, e.2, f.1) else if e.2 = f.1 then some (e.2, e.1, f.2) else if e.2 = f.2 then some (e.2, e.1, f.1) else none
noncomputable def relK (es : List (Int × Int)) (i k : Int) : List (Int × Int) := (relL es).filter fun q => decide (q.2 < i ∨ (q.2 = i ∧ q.1 < k))
end Go.Proofs.YtdjdgnabcecdlaaGreatDoor.X

/- Lists without neighbours alike; the nodes of edges: plain law. -/
set_option linter.unusedVariables false
namespace Go.Proofs.YtdjdgnabcecdlaaGreatDoor.X
open Go
def ddStep (acc : List Int) (x : Int) : List Int := if acc.getLast? = some x then acc else acc ++ [x]
/-- Of neighbours alike one is kept. -/
def ddS (l : List Int) : List Int := l.foldl ddStep []
theorem ddS_fold (l : List Int) (x : Int) : ddS (l ++ [x]) = ddStep (ddS l) x := by simp [ddS]
theorem snoc_ind {p : List Int → Prop} (h0 : p []) (h1 : ∀ l x, p l → p (l ++ [x])) (l : List Int) : p l := by
  have : ∀ r : List Int, p r.reverse := by
    intro r
    induction r with
    | nil => exact h0
    | cons a r ih => rw [List.reverse_cons]; exact h1 _ _ ih
  have := this l.reverse
  rwa [List.reverse_reverse] at this
theorem ddS_last (l : List Int) : (ddS l).getLast? = l.getLast? := by
  refine snoc_ind (p := fun l => (ddS l).getLast? = l.getLast?) rfl (fun l x ih => ?_) l
  rw [ddS_fold, ddStep]
  split
  · rename_i h; rw [h]; simp
  · simp
theorem ddS_snoc (l : List Int) (x : Int) : ddS (l ++ [x]) = if l.getLast? = some x then ddS l else ddS l ++ [x] := by
  rw [ddS_fold, ddStep, ddS_last]
theorem mem_ddS {l : List Int} {y : Int} : y ∈ ddS l ↔ y ∈ l := by
  refine snoc_ind (p := fun l => y ∈ ddS l ↔ y ∈ l) (by simp [ddS]) (fun l x ih => ?_) l
  rw [ddS_snoc]
  split
  · rename_i h
    rw [ih, List.mem_append, List.mem_singleton]
    refine ⟨.inl, fun k => k.elim id fun e => ?_⟩
    subst e
    exact List.mem_of_getLast? h
  · rw [List.mem_append, List.mem_append, ih]
theorem pair_snoc {r : Int → Int → Prop} {l : List Int} {x : Int} : (l ++ [x]).Pairwise r ↔ l.Pairwise r ∧ ∀ y ∈ l, r y x := by
  rw [List.pairwise_append]
  simp
theorem last_max {l : List Int} (h : l.Pairwise (· ≤ ·)) {z : Int} (hz : l.getLast? = some z) : ∀ y ∈ l, y ≤ z := by
  refine snoc_ind (p := fun l => l.Pairwise (· ≤ ·) → ∀ z, l.getLast? = some z → ∀ y ∈ l, y ≤ z) (fun _ z h => by simp at h) (fun l x ih hp z hz y hy => ?_) l h z hz
  simp at hz
  subst hz
  rw [pair_snoc] at hp
  rcases List.mem_append.1 hy with h | h
  · exact hp.2 y h
  · rw [List.mem_singleton.1 h]; exact Int.le_refl _
theorem ddS_sorted {l : List Int} : l.Pairwise (· ≤ ·) → (ddS l).Pairwise (· < ·) := by
  refine snoc_ind (p := fun l => l.Pairwise (· ≤ ·) → (ddS l).Pairwise (· < ·)) (fun _ => by simp [ddS]) (fun l x ih hp => ?_) l
  rw [ddS_snoc]
  rw [pair_snoc] at hp
  split
  · exact ih hp.1
  · rename_i hne
    rw [pair_snoc]
    refine ⟨ih hp.1, fun y hy => ?_⟩
    rw [mem_ddS] at hy
    have h1 := hp.2 y hy
    refine Classical.byContradiction fun h2 => hne ?_
    have e : y = x := by omega
    subst e
    cases hz : l.getLast? with
    | none => rw [List.getLast?_eq_none_iff] at hz; subst hz; cases hy
    | some z =>
      have h3 := last_max hp.1 hz y hy
      have h4 := hp.2 z (List.mem_of_getLast? hz)
      congr 1; omega
/-- The nodes of edges. -/
def endsL (es : List (Int × Int)) : List Int := es.flatMap fun e => [e.1, e.2]
def nodesL (n : Int) (es : List (Int × Int)) : List Int := (iota n).filter fun v => es.any fun e => decide (On v e)
end Go.Proofs.YtdjdgnabcecdlaaGreatDoor.X

/- Edges in order. -/
set_option linter.unusedSimpArgs false
set_option linter.unusedVariables false
set_option maxHeartbeats 8000000
namespace Go.Proofs.YtdjdgnabcecdlaaGreatDoor.X
open Go Go.Proofs
def sortEs (xs : List (Int × Int)) : List (Int × Int) := xs.mergeSort leE
theorem sortEs_length (xs : List (Int × Int)) : (sortEs xs).length = xs.length := List.length_mergeSort _
theorem mem_sortEs {xs : List (Int × Int)} {e : Int × Int} : e ∈ sortEs xs ↔ e ∈ xs := List.mem_mergeSort
theorem leE_of {a b : Int × Int} (h : leE a b = true) (hn : a ≠ b) : lessE a b = true := by
  rw [lessE_iff]
  unfold leE at h
  rw [decide_eq_true_eq] at h
  have : ¬ (a.1 = b.1 ∧ a.2 = b.2) := fun e => hn (Prod.ext e.1 e.2)
  omega
theorem sortEs_ord {xs : List (Int × Int)} (h : xs.Nodup) : Ord (sortEs xs) := by
  have h1 : (sortEs xs).Pairwise fun a b => leE a b = true := List.pairwise_mergeSort (fun a b c h1 h2 => by unfold leE at *; rw [decide_eq_true_eq] at *; omega) (fun a b => by unfold leE; rw [Bool.or_eq_true, decide_eq_true_eq, decide_eq_true_eq]; omega) xs
  have h2 : (sortEs xs).Nodup := (List.mergeSort_perm xs leE).nodup_iff.2 h
  unfold Ord
  exact (h1.and h2).imp fun h => leE_of h.1 h.2
theorem lessE_irrefl {a : Int × Int} : ¬ lessE a a = true := by rw [lessE_iff]; omega
theorem ord_ext : ∀ {l r : List (Int × Int)}, Ord l → Ord r → (∀ x, x ∈ l ↔ x ∈ r) → l = r
  | [], [], _, _, _ => rfl
  | [], y :: r, _, _, h => by have := (h y).2 (by simp); simp at this
  | x :: l, [], _, _, h => by have := (h x).1 (by simp); simp at this
  | x :: l, y :: r, hl, hr, h => by
    unfold Ord at hl hr
    rw [List.pairwise_cons] at hl hr
    have hxy : x = y := by
      rcases List.mem_cons.1 ((h x).1 (by simp)) with e | e
      · exact e
      · rcases List.mem_cons.1 ((h y).2 (by simp)) with e' | e'
        · exact e'.symm
        · exact absurd (lessE_trans (hl.1 y e') (hr.1 x e)) lessE_irrefl
    subst hxy
    rw [ord_ext (l := l) (r := r) hl.2 hr.2 fun z => ?_]
    constructor
    · intro hz
      rcases List.mem_cons.1 ((h z).1 (by simp [hz])) with e | e
      · exact absurd (hl.1 z hz) (e ▸ lessE_irrefl)
      · exact e
    · intro hz
      rcases List.mem_cons.1 ((h z).2 (by simp [hz])) with e | e
      · exact absurd (hr.1 z hz) (e ▸ lessE_irrefl)
      · exact e
end Go.Proofs.YtdjdgnabcecdlaaGreatDoor.X

/- Lists that are tours: plain law. -/
set_option linter.unusedVariables false
namespace Go.Proofs.YtdjdgnabcecdlaaGreatDoor.X
open Go
section
variable {α : Type} [DecidableEq α]
def ddSt (acc : List α) (x : α) : List α := if acc.getLast? = some x then acc else acc ++ [x]
def dd (l : List α) : List α := l.foldl ddSt []
theorem dd_fold (l : List α) (x : α) : dd (l ++ [x]) = ddSt (dd l) x := by simp [dd]
omit [DecidableEq α] in
theorem snoc_indA {p : List α → Prop} (h0 : p []) (h1 : ∀ l x, p l → p (l ++ [x])) (l : List α) : p l := by
  have : ∀ r : List α, p r.reverse := by
    intro r
    induction r with
    | nil => exact h0
    | cons a r ih => rw [List.reverse_cons]; exact h1 _ _ ih
  have := this l.reverse
  rwa [List.reverse_reverse] at this
theorem dd_last (l : List α) : (dd l).getLast? = l.getLast? := by
  refine snoc_indA (p := fun l => (dd l).getLast? = l.getLast?) rfl (fun l x ih => ?_) l
  rw [dd_fold, ddSt]
  split
  · rename_i h; rw [h]; simp
  · simp
theorem dd_snoc (l : List α) (x : α) : dd (l ++ [x]) = if l.getLast? = some x then dd l else dd l ++ [x] := by
  rw [dd_fold, ddSt, dd_last]
theorem mem_dd {l : List α} {y : α} : y ∈ dd l ↔ y ∈ l := by
  refine snoc_indA (p := fun l => y ∈ dd l ↔ y ∈ l) (by simp [dd]) (fun l x ih => ?_) l
  rw [dd_snoc]
  split
  · rename_i h
    rw [ih, List.mem_append, List.mem_singleton]
    refine ⟨.inl, fun k => k.elim id fun e => ?_⟩
    subst e
    exact List.mem_of_getLast? h
  · rw [List.mem_append, List.mem_append, ih]
end
abbrev LeS (s : List (Int × Int)) : Prop := s.Pairwise fun a b => leE a b = true
theorem leE_anti {a b : Int × Int} (h : leE a b = true) (k : leE b a = true) : a = b := by
  unfold leE at h k
  rw [decide_eq_true_eq] at h k
  exact Prod.ext (by omega) (by omega)
theorem sortEs_le (xs : List (Int × Int)) : LeS (sortEs xs) := List.pairwise_mergeSort (fun a b c h1 h2 => by unfold leE at *; rw [decide_eq_true_eq] at *; omega) (fun a b => by unfold leE; rw [Bool.or_eq_true, decide_eq_true_eq, decide_eq_true_eq]; omega) xs
theorem leS_snoc {l : List (Int × Int)} {x : Int × Int} : LeS (l ++ [x]) ↔ LeS l ∧ ∀ y ∈ l, leE y x = true := by
  unfold LeS
  rw [List.pairwise_append]
  simp
theorem dd_ord {l : List (Int × Int)} : LeS l → Ord (dd l) := by
  refine snoc_indA (p := fun l => LeS l → Ord (dd l)) (fun _ => by simp [dd, Ord]) (fun l x ih hp => ?_) l
  rw [dd_snoc]
  rw [leS_snoc] at hp
  split
  · exact ih hp.1
  · rename_i hne
    unfold Ord
    rw [List.pairwise_append]
    refine ⟨ih hp.1, by simp, fun y hy z hz => ?_⟩
    rw [List.mem_singleton] at hz
    subst hz
    rw [mem_dd] at hy
    refine leE_of (hp.2 y hy) fun e => hne ?_
    subst e
    rcases List.eq_nil_or_concat l with rfl | ⟨q, w, rfl⟩
    · cases hy
    · rw [List.concat_eq_append] at *
      rw [List.getLast?_append]
      simp only [List.getLast?_singleton, Option.some_or]
      congr 1
      have h1 := hp.2 w (by simp)
      have h2 := (leS_snoc.1 hp.1).2
      rcases List.mem_append.1 hy with h | h
      · exact leE_anti h1 (h2 y h)
      · exact (List.mem_singleton.1 h).symm
/-- The pairs are alike, and no two pairs. -/
def prOk (s : List (Int × Int)) : Prop := ∀ i, i < s.length → (i % 2 = 1 → s.getD (i - 1) (0, 0) = s.getD i (0, 0)) ∧ (i % 2 = 0 → 0 < i → s.getD (i - 1) (0, 0) ≠ s.getD i (0, 0))
theorem steps_len : ∀ l : List Int, (stepsL l).length = l.length - 1
  | [] => rfl
  | [x] => rfl
  | x :: y :: r => by
    have := steps_len (y :: r)
    rw [stepsL, List.length_cons, this]
    simp
theorem steps_get : ∀ {l : List Int} {i : Nat}, i + 1 < l.length → (stepsL l).getD i (0, 0) = edgeOf (l.getD i 0) (l.getD (i + 1) 0)
  | [], i, h => by simp at h
  | [x], i, h => by simp at h
  | x :: y :: r, 0, h => rfl
  | x :: y :: r, i + 1, h => by
    have := steps_get (l := y :: r) (i := i) (by simpa using h)
    rw [stepsL]
    simpa using this
theorem mem_steps {l : List Int} {e : Int × Int} : e ∈ stepsL l ↔ ∃ i, i + 1 < l.length ∧ e = edgeOf (l.getD i 0) (l.getD (i + 1) 0) := by
  constructor
  · intro h
    obtain ⟨i, hi, rfl⟩ := List.mem_iff_getElem.1 h
    have hl := steps_len l
    refine ⟨i, by omega, ?_⟩
    rw [← steps_get (by omega)]
    simp [hi]
  · rintro ⟨i, hi, rfl⟩
    have hl := steps_len l
    rw [← steps_get hi]
    have hi' : i < (stepsL l).length := by omega
    simp only [List.getD, List.getElem?_eq_getElem hi', Option.getD_some]
    exact List.getElem_mem hi'
/-- The edges that a list goes along, and its nodes. -/
def csL (l : List Int) : List (Int × Int) := dd (sortEs (stepsL l))
def vsL (l : List Int) : List Int := ddS (sortI l)
theorem cs_ord (l : List Int) : Ord (csL l) := dd_ord (sortEs_le _)
theorem mem_cs {l : List Int} {e : Int × Int} : e ∈ csL l ↔ e ∈ stepsL l := by unfold csL; rw [mem_dd, mem_sortEs]
theorem vs_sorted (l : List Int) : (vsL l).Pairwise (· < ·) := by
  refine ddS_sorted ?_
  unfold sortI
  have := List.pairwise_mergeSort (le := fun a b : Int => decide (a ≤ b)) (fun a b c => by simp; omega) (fun a b => by simp; omega) l
  exact this.imp (by simp)
theorem vs_nodup (l : List Int) : (vsL l).Nodup := (vs_sorted l).imp fun h => by omega
theorem mem_vs {l : List Int} {x : Int} : x ∈ vsL l ↔ x ∈ l := by
  unfold vsL sortI
  rw [mem_ddS, List.mem_mergeSort]
/-- A tour. -/
structure TV (l : List Int) : Prop where
  l1 : 1 ≤ l.length
  l31 : l.length ≤ 31
  rg : ∀ x ∈ l, inN 16 x
  cl : l.getD 0 0 = l.getD (l.length - 1) 0
  ne : ∀ i, i + 1 < l.length → l.getD i 0 ≠ l.getD (i + 1) 0
  two : ∀ e ∈ stepsL l, (stepsL l).count e = 2
  cn : (csL l).length + 1 = (vsL l).length
noncomputable instance decTV (l : List Int) : Decidable (TV l) := Classical.propDecidable _
theorem two_perm {s c : List (Int × Int)} (h : ∀ e ∈ s, s.count e = 2) (hn : c.Nodup) (hm : ∀ e, e ∈ c ↔ e ∈ s) : s.Perm (c ++ c) := by
  refine List.perm_iff_count.2 fun e => ?_
  rw [List.count_append]
  by_cases he : e ∈ s
  · rw [h e he, hn.count, if_pos ((hm e).2 he)]
  · rw [List.count_eq_zero.2 he, List.count_eq_zero.2 fun hc => he ((hm e).1 hc)]
theorem cs_two {l : List Int} (h : ∀ e ∈ stepsL l, (stepsL l).count e = 2) : (stepsL l).length = 2 * (csL l).length := by
  have := (two_perm h (cs_ord l).nodup fun e => mem_cs).length_eq
  rw [List.length_append] at this; omega
theorem TV.len {l : List Int} (h : TV l) : l.length = 2 * (csL l).length + 1 := by
  have h1 := cs_two h.two
  rw [steps_len] at h1
  have := h.l1
  omega
theorem TV.at' {l : List Int} (h : TV l) {i : Nat} (hi : i < l.length) : inN 16 (l.getD i 0) := h.rg _ (by
  simp only [List.getD, List.getElem?_eq_getElem hi, Option.getD_some]; exact List.getElem_mem hi)
theorem TV.okE {l : List Int} (h : TV l) : ∀ e ∈ csL l, okE 16 e := fun e he => by
  obtain ⟨i, hi, rfl⟩ := mem_steps.1 (mem_cs.1 he)
  exact edgeOf_ok (h.at' (by omega)) (h.at' hi) (h.ne i hi)
theorem TV.vg {l : List Int} (h : TV l) : VG 16 (csL l) := ⟨by omega, by omega, by have := h.len; have := h.l31; omega, h.okE, cs_ord l⟩
theorem TV.walk {l : List Int} (h : TV l) : Walk (csL l) l := fun i hi => (adj_edge h.okE).2 ⟨h.ne i hi, mem_cs.2 (mem_steps.2 ⟨i, hi, rfl⟩)⟩
theorem TV.conn {l : List Int} (h : TV l) {x : Int} (hx : x ∈ l) : Conn (csL l) (l.getD 0 0) x := by
  obtain ⟨i, hi, rfl⟩ := List.mem_iff_getElem.1 hx
  have := h.walk.conn i hi
  simpa [hi] using this
theorem TV.conn_mem {l : List Int} (h : TV l) {x : Int} (hc : Conn (csL l) (l.getD 0 0) x) : x ∈ l := by
  have hg : ∀ i, i < l.length → l.getD i 0 ∈ l := fun i hi => by
    simp only [List.getD, List.getElem?_eq_getElem hi, Option.getD_some]; exact List.getElem_mem hi
  refine hc.closed (p := fun x => x ∈ l) (fun u v ha _ => ?_) (hg 0 (by have := h.l1; omega))
  have he := ((adj_edge h.okE).1 ha).2
  obtain ⟨i, hi, e⟩ := mem_steps.1 (mem_cs.1 he)
  have h1 := hg i (by omega)
  have h2 := hg (i + 1) hi
  rcases edgeOf_ends (x := u) (y := v) with a | a <;> rcases edgeOf_ends (x := l.getD i 0) (y := l.getD (i + 1) 0) with b | b <;> rw [a, b] at e <;> simp only [Prod.mk.injEq] at e
  · rw [e.2]; exact h2
  · rw [e.2]; exact h1
  · rw [e.1]; exact h1
  · rw [e.1]; exact h2
theorem filt_sum {α : Type} (p : α → Bool) : ∀ l : List α, (l.filter p).length + (l.filter fun x => !p x).length = l.length
  | [] => rfl
  | a :: l => by
    have ih := filt_sum p l
    rw [List.filter_cons, List.filter_cons]
    cases h : p a <;> simp <;> omega
/-- The edges of a tour are a tree. -/
theorem TV.tree {l : List Int} (h : TV l) : Tree 16 (csL l) := by
  have hge := cnt_ge (n := 16) h.okE
  have hl0 : inN 16 (l.getD 0 0) := h.at' (by have := h.l1; omega)
  have hle : cnt 16 (csL l) ≤ ((iota 16).filter fun x => decide (x ∉ vsL l)).length + 1 := by
    unfold cnt
    have := len_le_of_sub (l := ((List.range (16 : Int).toNat).filter fun x => decide (least (csL l) x = x)).map fun x => ((x : Nat) : Int)) (m := ((least (csL l) (l.getD 0 0).toNat : Nat) : Int) :: (iota 16).filter fun x => decide (x ∉ vsL l)) ?_ ?_
    · rw [List.length_map, List.length_cons] at this; exact this
    · exact nodup_map (List.nodup_range.sublist List.filter_sublist) fun x _ y _ e => by omega
    · intro v hv
      obtain ⟨x, hx, rfl⟩ := List.mem_map.1 hv
      obtain ⟨h1, h2⟩ := List.mem_filter.1 hx
      rw [decide_eq_true_eq] at h2
      rw [List.mem_range] at h1
      by_cases hm : ((x : Nat) : Int) ∈ vsL l
      · have hc := h.conn (mem_vs.1 hm)
        have : least (csL l) (l.getD 0 0).toNat = least (csL l) x := least_iff.2 (by rw [Int.toNat_of_nonneg hl0.1]; exact hc)
        rw [this, h2]; simp
      · refine List.mem_cons_of_mem _ (List.mem_filter.2 ⟨mem_iota.2 (by omega), by simpa using hm⟩)
  have hsum : ((iota 16).filter fun x => decide (x ∉ vsL l)).length + (vsL l).length = 16 := by
    have h1 : ((iota 16).filter fun x => decide (x ∈ vsL l)) = vsL l := sorted_ext ((sorted_iota 16).filter _) (vs_sorted l) fun x => by
      rw [List.mem_filter, decide_eq_true_eq, mem_iota]
      exact ⟨fun h => h.2, fun hx => ⟨h.rg x (mem_vs.1 hx), hx⟩⟩
    have h2 := filt_sum (fun x => decide (x ∈ vsL l)) (iota 16)
    have e : ((iota 16).filter fun x => !decide (x ∈ vsL l)) = (iota 16).filter fun x => decide (x ∉ vsL l) := List.filter_congr fun x _ => by simp
    rw [h1, e] at h2
    have h3 : (iota 16).length = 16 := by simp [iota]
    omega
  have hcn := h.cn
  unfold Tree
  have : (16 : Int).toNat = 16 := rfl
  omega
section
variable {n : Int} {es : List (Int × Int)} (ho : ∀ e ∈ es, okE n e) (hn : es.Nodup) (h0 : 0 ≤ n) (ht : Tree n es)
include ho hn h0 ht
omit ho hn h0 ht in
theorem At.top {r : Int} (hr : inN n r) : At n es r r (-1) := ⟨.refl _, hr, .inl ⟨rfl, rfl⟩⟩
omit hn in
theorem sub_in {r : Int} {f : Nat} {x p z : Int} (h : At n es r x p) (hf : n - dst n es r x ≤ f) (hz : z ∈ subN es f x p) : inN n z := by
  have hc := conn_of_alone ((mem_sub ho h0 ht f h hf).1 hz)
  rcases hc.ok ho with e | ⟨-, -, a, b⟩
  · rw [← e]; exact h.inx
  · exact ⟨a, b⟩
theorem sub_len {r : Int} {f : Nat} {x p : Int} (h : At n es r x p) (hf : n - dst n es r x ≤ f) : (subN es f x p).length ≤ n.toNat := by
  have := len_le_of_sub (m := iota n) (sub_nodup ho hn h0 ht f h hf) fun z hz => mem_iota.2 (sub_in ho h0 ht h hf hz)
  have h3 : (iota n).length = n.toNat := by simp [iota]
  omega
theorem tour_cs {r : Int} {f : Nat} {x p : Int} (h : At n es r x p) (hf : n - dst n es r x ≤ f) : csL (tourL es f x p) = sortEs (subE es f x p) :=
  ord_ext (cs_ord _) (sortEs_ord (subE_nodup ho hn h0 ht f h hf)) fun e => by
    rw [mem_cs, (tour_steps f).mem_iff, mem_sortEs, List.mem_append, or_self]
theorem tour_vs {r : Int} {f : Nat} {x p : Int} (h : At n es r x p) (hf : n - dst n es r x ≤ f) : (vsL (tourL es f x p)).length = (subN es f x p).length := by
  refine Nat.le_antisymm (len_le_of_sub (vs_nodup _) fun z hz => (mem_tour f).1 (mem_vs.1 hz)) (len_le_of_sub (sub_nodup ho hn h0 ht f h hf) fun z hz => mem_vs.2 ((mem_tour f).2 hz))
theorem tour_tv (h16 : n ≤ 16) {r : Int} {f : Nat} {x p : Int} (h : At n es r x p) (hf : n - dst n es r x ≤ f) : TV (tourL es f x p) := by
  have hl := tour_len (es := es) f (x := x) (p := p)
  have hs := sub_len ho hn h0 ht h hf
  have hpos : 0 < (subN es f x p).length := by cases f <;> simp [subN]
  have hnd := subE_nodup ho hn h0 ht f h hf
  refine ⟨by omega, by omega, fun z hz => ?_, ?_, fun i hi => ?_, fun e he => ?_, ?_⟩
  · have := sub_in ho h0 ht h hf ((mem_tour f).1 hz)
    exact ⟨this.1, by have := this.2; omega⟩
  · obtain ⟨q, hq⟩ := tour_head (es := es) f (x := x) (p := p)
    obtain ⟨u, hu⟩ := tour_last (es := es) f (x := x) (p := p)
    have e1 : (tourL es f x p).getD 0 0 = x := by rw [hq]; rfl
    have e2 : (tourL es f x p).getD ((tourL es f x p).length - 1) 0 = x := by rw [hu]; simp
    rw [e1, e2]
  · have he := subE_sub ho f (List.mem_append.1 ((tour_steps f).mem_iff.1 (mem_steps.2 ⟨i, hi, rfl⟩)) |>.elim id id)
    intro e
    have := ho _ he
    unfold okE at this
    rcases edgeOf_ends (x := (tourL es f x p).getD i 0) (y := (tourL es f x p).getD (i + 1) 0) with a | a <;> rw [a] at this <;> simp only at this <;> omega
  · have h1 := (tour_steps (es := es) f (x := x) (p := p)).count_eq e
    have h2 : e ∈ subE es f x p := List.mem_append.1 ((tour_steps f).mem_iff.1 he) |>.elim id id
    rw [h1, List.count_append, hnd.count, if_pos h2]
  · rw [tour_cs ho hn h0 ht h hf, tour_vs ho hn h0 ht h hf, sortEs_length, subE_len]
end
section
variable {n : Int} {es : List (Int × Int)} (ho : ∀ e ∈ es, okE n e) (h0 : 0 ≤ n) (ht : Tree n es) {l : List Int} (hw : Walk es l)
include ho h0 ht hw
end
/-- The way from the root. -/
structure Stk (n : Int) (es : List (Int × Int)) (r x : Int) (S : List Int) : Prop where
  len : (S.length : Int) = dst n es r x + 1
  last : S.getD (S.length - 1) 0 = x
  ds : ∀ k, k < S.length → Conn es r (S.getD k 0) ∧ dst n es r (S.getD k 0) = k
  adj : ∀ k, k + 1 < S.length → Adj es (S.getD (k + 1) 0) (S.getD k 0)
section
variable {n : Int} {es : List (Int × Int)} (ho : ∀ e ∈ es, okE n e) (h0 : 0 ≤ n) (ht : Tree n es) {r x y : Int} {S : List Int}
include ho h0
end
section
variable {n : Int} {es : List (Int × Int)} (ho : ∀ e ∈ es, okE n e) (h0 : 0 ≤ n) (ht : Tree n es) {r x y : Int} {S : List Int}
include ho h0 ht
theorem Stk.step (h : Stk n es r x S) (hc : Conn es r x) (ha : Adj es x y) : (1 < S.length ∧ S.getD (S.length - 2) 0 = y ∧ Stk n es r y (S.take (S.length - 1))) ∨ (¬ (1 < S.length ∧ S.getD (S.length - 2) 0 = y) ∧ Stk n es r y (S ++ [y])) := by
  have hl := h.len
  have hd0 := (dst_spec (n := n) ho hc).1
  have hx := h.ds (S.length - 1) (by omega)
  by_cases hq : 1 < S.length ∧ S.getD (S.length - 2) 0 = y
  · have h2 := h.ds (S.length - 2) (by omega)
    rw [hq.2] at h2
    refine .inl ⟨hq.1, hq.2, ?_, ?_, fun k hk => ?_, fun k hk => ?_⟩
    · rw [List.length_take, h2.2]; omega
    · rw [List.length_take, Nat.min_eq_left (by omega), ← hq.2]
      simp only [List.getD, List.getElem?_take_of_lt (show S.length - 1 - 1 < S.length - 1 by omega)]
      rw [show S.length - 1 - 1 = S.length - 2 by omega]
    · rw [List.length_take] at hk
      have : (S.take (S.length - 1)).getD k 0 = S.getD k 0 := by simp only [List.getD, List.getElem?_take_of_lt (show k < S.length - 1 by omega)]
      rw [this]; exact h.ds k (by omega)
    · rw [List.length_take] at hk
      have e1 : (S.take (S.length - 1)).getD k 0 = S.getD k 0 := by simp only [List.getD, List.getElem?_take_of_lt (show k < S.length - 1 by omega)]
      have e2 : (S.take (S.length - 1)).getD (k + 1) 0 = S.getD (k + 1) 0 := by simp only [List.getD, List.getElem?_take_of_lt (show k + 1 < S.length - 1 by omega)]
      rw [e1, e2]; exact h.adj k (by omega)
  · have hdy : dst n es r y = dst n es r x + 1 := by
      rcases tree_step ho h0 ht hc ha with e | e
      · exfalso
        have hy0 := (dst_spec (n := n) ho (hc.step ha)).1
        have hadj := h.adj (S.length - 2) (by omega)
        rw [show S.length - 2 + 1 = S.length - 1 by omega, h.last] at hadj
        have hds := (h.ds (S.length - 2) (by omega)).2
        exact hq ⟨by omega, tree_up ho h0 ht hc hadj ha (by omega) (by omega)⟩
      · exact e
    refine .inr ⟨hq, by rw [List.length_append, hdy]; simp; omega, by simp, fun k hk => ?_, fun k hk => ?_⟩
    · rw [List.length_append] at hk
      simp only [List.length_cons, List.length_nil] at hk
      by_cases hk2 : k < S.length
      · have : (S ++ [y]).getD k 0 = S.getD k 0 := by simp only [List.getD, List.getElem?_append_left hk2]
        rw [this]; exact h.ds k hk2
      · have hk3 : k = S.length := by omega
        subst hk3
        have : (S ++ [y]).getD S.length 0 = y := by simp
        rw [this]; exact ⟨hc.step ha, by omega⟩
    · rw [List.length_append] at hk
      simp only [List.length_cons, List.length_nil] at hk
      have e1 : (S ++ [y]).getD k 0 = S.getD k 0 := by simp only [List.getD, List.getElem?_append_left (show k < S.length by omega)]
      rw [e1]
      by_cases hk2 : k + 1 < S.length
      · have : (S ++ [y]).getD (k + 1) 0 = S.getD (k + 1) 0 := by simp only [List.getD, List.getElem?_append_left hk2]
        rw [this]; exact h.adj k hk2
      · have hk3 : k + 1 = S.length := by omega
        have : (S ++ [y]).getD (k + 1) 0 = y := by rw [hk3]; simp
        rw [this, show k = S.length - 1 by omega, h.last]; exact ha.symm
end
end Go.Proofs.YtdjdgnabcecdlaaGreatDoor.X
