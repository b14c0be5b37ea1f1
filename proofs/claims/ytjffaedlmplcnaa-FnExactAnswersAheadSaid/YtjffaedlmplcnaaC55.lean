/- Operations, the lives of edges: plain law. -/
import Derived.Test.YtjffaedlmplcnaaM21
import Derived.Test.YtjffaedlmplcnaaC46
set_option linter.unusedSimpArgs false
set_option linter.unusedVariables false
set_option maxHeartbeats 4000000
namespace Go.Proofs.Ytjffaedlmplcnaa.X
open Go Go.Proofs
abbrev Op3 := Int × Int × Int
def opE (o : Op3) : Int × Int := o.2
noncomputable def opS (n : Int) (es : List (Int × Int)) (o : Op3) : Option (List (Int × Int)) :=
  if o.1 = 1 then (if PutOK n es o.2 then some (putE o.2 es) else none)
  else if o.1 = 2 then (if o.2 ∈ es then some (cutE o.2 es) else none)
  else if o.1 = 3 then (if 0 ≤ o.2.1 ∧ o.2.1 < o.2.2 ∧ o.2.2 < n then some es else none) else none
noncomputable def runS (n : Int) (ops : List Op3) : Option (List (Int × Int)) := ops.foldl (fun s o => s.bind fun es => opS n es o) (some [])
theorem runS_nil (n : Int) : runS n [] = some [] := rfl
theorem runS_snoc (n : Int) (ops : List Op3) (o : Op3) : runS n (ops ++ [o]) = (runS n ops).bind fun es => opS n es o := by unfold runS; rw [List.foldl_append]; rfl
theorem fold_none (n : Int) : ∀ ops : List Op3, ops.foldl (fun s o => s.bind fun es => opS n es o) none = none
  | [] => rfl
  | o :: ops => by rw [List.foldl_cons]; exact fold_none n ops
theorem runS_pre {n : Int} {ops : List Op3} (h : (runS n ops).isSome) (t : Nat) : (runS n (ops.take t)).isSome := by
  cases hr : runS n (ops.take t) with
  | some es => rfl
  | none =>
    rw [← List.take_append_drop t ops] at h
    unfold runS at h hr
    rw [List.foldl_append, hr, fold_none] at h
    exact h
theorem VG.put {n : Int} {es : List (Int × Int)} {e : Int × Int} (h : PutOK n es e) : VG n (putE e es) := h.2.2
theorem opS_vg {n : Int} {es fs : List (Int × Int)} {o : Op3} (hV : VG n es) (h : opS n es o = some fs) : VG n fs := by
  unfold opS at h
  repeat' split at h
  all_goals first
    | (cases h; done)
    | (cases h; rename_i hp; exact hp.2.2)
    | (cases h; exact hV)
    | (cases h; exact hV.sub List.filter_sublist)
theorem runS_vg {n : Int} (h1 : 1 ≤ n) (h2 : n ≤ 16) : ∀ {k : Nat} {ops : List Op3} {es : List (Int × Int)}, ops.length = k → runS n ops = some es → VG n es := by
  intro k
  induction k with
  | zero =>
    intro ops es hk h
    have : ops = [] := List.length_eq_zero_iff.1 hk
    subst this
    cases h
    exact ⟨h1, h2, by simp, by simp, by simp [Ord]⟩
  | succ k ih =>
    intro ops es hk h
    have hne : ops ≠ [] := fun e => by rw [e] at hk; simp at hk
    rw [← List.dropLast_concat_getLast hne, runS_snoc] at h
    cases hr : runS n ops.dropLast with
    | none => rw [hr] at h; cases h
    | some fs => rw [hr] at h; exact opS_vg (ih (by simp [hk]) hr) h
/-- An edge is there that was put, and not cut since. -/
theorem mem_run {n : Int} {ops : List Op3} (h : (runS n ops).isSome) : ∀ {t : Nat} {es : List (Int × Int)}, t ≤ ops.length → runS n (ops.take t) = some es → ∀ e, e ∈ es ↔ ∃ i, i < t ∧ ops[i]? = some (1, e) ∧ ∀ j, i < j → j < t → ops[j]? ≠ some (2, e) := by
  intro t
  induction t with
  | zero =>
    intro es _ hr e
    rw [List.take_zero, runS_nil] at hr
    cases hr
    simp
  | succ t ih =>
    intro es ht hr e
    have hlt : t < ops.length := by omega
    rw [List.take_add_one, List.getElem?_eq_getElem hlt] at hr
    simp only [Option.toList] at hr
    rw [runS_snoc] at hr
    cases hr0 : runS n (ops.take t) with
    | none => rw [hr0] at hr; cases hr
    | some fs =>
      rw [hr0] at hr
      simp only [Option.bind_some] at hr
      have hi := ih (by omega) hr0 e
      have hot : ops[t]? = some ops[t] := List.getElem?_eq_getElem hlt
      generalize ops[t] = o at hr hot
      obtain ⟨kd, f⟩ := o
      unfold opS at hr
      simp only at hr
      by_cases k1 : kd = 1
      · subst k1
        rw [if_pos rfl] at hr
        split at hr
        · cases hr
          rw [mem_putE, hi]
          constructor
          · rintro (rfl | ⟨i, i1, i2, i3⟩)
            · exact ⟨t, by omega, hot, fun j j1 j2 => by omega⟩
            · refine ⟨i, by omega, i2, fun j j1 j2 hj => ?_⟩
              by_cases e : j = t
              · subst e; rw [hot] at hj; cases hj
              · exact i3 j j1 (by omega) hj
          · rintro ⟨i, i1, i2, i3⟩
            by_cases e : i = t
            · subst e; rw [hot] at i2; cases i2; exact .inl rfl
            · exact .inr ⟨i, by omega, i2, fun j j1 j2 => i3 j j1 (by omega)⟩
        · cases hr
      · rw [if_neg k1] at hr
        by_cases k2 : kd = 2
        · subst k2
          rw [if_pos rfl] at hr
          split at hr
          · cases hr
            rw [cutE_mem, hi]
            constructor
            · rintro ⟨⟨i, i1, i2, i3⟩, hne⟩
              refine ⟨i, by omega, i2, fun j j1 j2 hj => ?_⟩
              by_cases e : j = t
              · subst e; rw [hot] at hj; cases hj; exact hne rfl
              · exact i3 j j1 (by omega) hj
            · rintro ⟨i, i1, i2, i3⟩
              have hit : i ≠ t := fun e => by subst e; rw [hot] at i2; cases i2
              refine ⟨⟨i, by omega, i2, fun j j1 j2 => i3 j j1 (by omega)⟩, fun e => ?_⟩
              exact i3 t (by omega) (by omega) (by rw [hot, e])
          · cases hr
        · rw [if_neg k2] at hr
          split at hr
          · split at hr
            · cases hr
              rw [hi]
              constructor
              · rintro ⟨i, i1, i2, i3⟩
                refine ⟨i, by omega, i2, fun j j1 j2 hj => ?_⟩
                by_cases e : j = t
                · subst e; rw [hot] at hj; cases hj; exact k2 rfl
                · exact i3 j j1 (by omega) hj
              · rintro ⟨i, i1, i2, i3⟩
                have hit : i ≠ t := fun e => by subst e; rw [hot] at i2; cases i2; exact k1 rfl
                exact ⟨i, by omega, i2, fun j j1 j2 => i3 j j1 (by omega)⟩
            · cases hr
          · cases hr
/-- The life of an edge: the edge, from, to. -/
abbrev Lf := (Int × Int) × Int × Int
def endE (ops : List Op3) (i : Nat) (e : Int × Int) : Nat := i + 1 + (ops.drop (i + 1)).findIdx fun o => decide (o = (2, e))
def livesS (ops : List Op3) : List Lf := (List.range ops.length).flatMap fun (i : Nat) => match ops[i]? with | some (k, e) => if k = 1 then [(e, (i : Int), (endE ops i e : Int))] else [] | none => []
def atL (t : Int) (l : Lf) : Bool := decide (l.2.1 ≤ t ∧ t < l.2.2)
/-- The edges that are there in front of an operation. -/
def aliveL (lvs : List Lf) (t : Int) : List (Int × Int) := (lvs.filter (atL t)).map (·.1)
theorem mem_alive {lvs : List Lf} {t : Int} {e : Int × Int} : e ∈ aliveL lvs t ↔ ∃ f g, (e, f, g) ∈ lvs ∧ f ≤ t ∧ t < g := by
  unfold aliveL atL
  simp only [List.mem_map, List.mem_filter, decide_eq_true_eq]
  constructor
  · rintro ⟨⟨e, f, g⟩, ⟨h1, h2⟩, rfl⟩; exact ⟨f, g, h1, h2⟩
  · rintro ⟨f, g, h1, h2⟩; exact ⟨(e, f, g), ⟨h1, h2⟩, rfl⟩
theorem mem_livesS {ops : List Op3} {e : Int × Int} {f g : Int} : (e, f, g) ∈ livesS ops ↔ ∃ i : Nat, ops[i]? = some (1, e) ∧ f = i ∧ g = endE ops i e := by
  unfold livesS
  rw [List.mem_flatMap]
  constructor
  · rintro ⟨i, hi, h⟩
    split at h
    · rename_i k e' he
      split at h
      · rename_i hk
        subst hk
        rw [List.mem_singleton] at h
        cases h
        exact ⟨i, he, rfl, rfl⟩
      · simp at h
    · simp at h
  · rintro ⟨i, hi, rfl, rfl⟩
    have hl := (List.getElem?_eq_some_iff.1 hi).1
    refine ⟨i, by simp [hl], ?_⟩
    rw [hi]; simp
theorem endE_le {ops : List Op3} {i : Nat} {e : Int × Int} (h : i < ops.length) : endE ops i e ≤ ops.length := by
  unfold endE
  have := List.findIdx_le_length (xs := ops.drop (i + 1)) (p := fun o => decide (o = (2, e)))
  rw [List.length_drop] at this; omega
theorem endE_lt {ops : List Op3} {i t : Nat} {e : Int × Int} (h : t < endE ops i e) : ∀ j, i < j → j ≤ t → ops[j]? ≠ some (2, e) := by
  intro j h1 h2 hj
  unfold endE at h
  have hl := (List.getElem?_eq_some_iff.1 hj).1
  have := List.not_of_lt_findIdx (xs := ops.drop (i + 1)) (p := fun o => decide (o = (2, e))) (i := j - (i + 1)) (by omega)
  rw [List.getElem_drop] at this
  have e1 : i + 1 + (j - (i + 1)) = j := by omega
  simp only [e1, decide_eq_false_iff_not] at this
  rw [List.getElem?_eq_getElem hl] at hj
  simp only [Option.some.injEq] at hj
  simp [hj] at this
theorem lt_endE {ops : List Op3} {i t : Nat} {e : Int × Int} (ht : t < ops.length) (h1 : i < t ∨ i = t) (h : ∀ j, i < j → j ≤ t → ops[j]? ≠ some (2, e)) : t < endE ops i e := by
  refine Classical.byContradiction fun hn => ?_
  have hlt : (ops.drop (i + 1)).findIdx (fun o => decide (o = (2, e))) < (ops.drop (i + 1)).length := by
    unfold endE at hn; rw [List.length_drop]; omega
  have hp := List.findIdx_getElem (w := hlt)
  simp only [decide_eq_true_eq] at hp
  unfold endE at hn
  refine h (i + 1 + (ops.drop (i + 1)).findIdx fun o => decide (o = (2, e))) (by omega) (by omega) ?_
  rw [List.getElem_drop] at hp
  rw [List.length_drop] at hlt
  rw [List.getElem?_eq_getElem (by omega), hp]
/-- In front of a question the edges are those whose lives it is within. -/
theorem alive_run {n : Int} {ops : List Op3} (h : (runS n ops).isSome) {t : Nat} {o : Int × Int} (ht : ops[t]? = some (3, o)) {es : List (Int × Int)} (hr : runS n (ops.take t) = some es) : ∀ e, e ∈ aliveL (livesS ops) t ↔ e ∈ es := by
  intro e
  have hl := (List.getElem?_eq_some_iff.1 ht).1
  rw [mem_run h (by omega) hr, mem_alive]
  constructor
  · rintro ⟨f, g, hm, h1, h2⟩
    obtain ⟨i, i1, rfl, rfl⟩ := mem_livesS.1 hm
    have hne : i ≠ t := fun e => by subst e; rw [ht] at i1; cases i1
    exact ⟨i, by omega, i1, fun j j1 j2 => endE_lt (t := t) (by omega) j j1 (by omega)⟩
  · rintro ⟨i, i1, i2, i3⟩
    refine ⟨i, endE ops i e, mem_livesS.2 ⟨i, i2, rfl, rfl⟩, by omega, ?_⟩
    have := lt_endE (t := t) (e := e) hl (.inl i1) fun j j1 j2 hj => by
      by_cases q : j = t
      · subst q; rw [ht] at hj; cases hj
      · exact i3 j j1 (by omega) hj
    omega
theorem lives_bd {ops : List Op3} {l : Lf} (h : l ∈ livesS ops) : 0 ≤ l.2.1 ∧ l.2.1 < l.2.2 ∧ l.2.2 ≤ ops.length := by
  obtain ⟨e, f, g⟩ := l
  obtain ⟨i, i1, rfl, rfl⟩ := mem_livesS.1 h
  have hl := (List.getElem?_eq_some_iff.1 i1).1
  have := endE_le (e := e) hl
  have h2 : i + 1 ≤ endE ops i e := by unfold endE; omega
  simp only
  omega
/-- What is united in a span, and what is left for its halves. -/
def covS (lo hi : Int) (l : Lf) : Bool := decide (l.2.1 ≤ lo ∧ hi ≤ l.2.2)
def leftS (lo hi : Int) (l : Lf) : Bool := !covS lo hi l && decide (l.2.1 < hi ∧ lo < l.2.2)
theorem alive_part {lvs : List Lf} {lo hi t : Int} (h0 : lo ≤ t) (h1 : t < hi) {es : List (Int × Int)} {e : Int × Int} : e ∈ es ++ aliveL lvs t ↔ e ∈ (((lvs.filter (covS lo hi)).map (·.1)).reverse ++ es) ++ aliveL (lvs.filter (leftS lo hi)) t := by
  simp only [List.mem_append, mem_alive, List.mem_reverse, List.mem_map, List.mem_filter]
  constructor
  · rintro (h | ⟨f, g, h, h2, h3⟩)
    · exact .inl (.inr h)
    · by_cases c : f ≤ lo ∧ hi ≤ g
      · exact .inl (.inl ⟨(e, f, g), ⟨h, by simp [covS, c]⟩, rfl⟩)
      · refine .inr ⟨f, g, ⟨h, ?_⟩, h2, h3⟩
        have : covS lo hi (e, f, g) = false := by simpa [covS] using c
        simp only [leftS, this, Bool.not_false, Bool.true_and, decide_eq_true_eq]
        omega
  · rintro ((⟨⟨e', f, g⟩, ⟨h, h2⟩, rfl⟩ | h) | ⟨f, g, ⟨h, h2⟩, h3, h4⟩)
    · simp only [covS, decide_eq_true_eq] at h2
      exact .inr ⟨f, g, h, by omega, by omega⟩
    · exact .inl h
    · exact .inr ⟨f, g, h, h3, h4⟩
/-- The answers to the questions in a span. -/
noncomputable def ansS (ops : List Op3) (lvs : List Lf) (es : List (Int × Int)) (lo : Int) (k : Nat) : List Bool := (List.range k).flatMap fun (i : Nat) => match ops[lo.toNat + i]? with | some (kd, a, b) => if kd = 3 then [decide (Conn (es ++ aliveL lvs (lo + i)) a b)] else [] | none => []
theorem conn_congr {es fs : List (Int × Int)} (h : ∀ e, e ∈ es ↔ e ∈ fs) {x y : Int} : Conn es x y ↔ Conn fs x y := ⟨Conn.mono fun e => (h e).1, Conn.mono fun e => (h e).2⟩
theorem ansS_part (ops : List Op3) (lvs : List Lf) (es : List (Int × Int)) {lo hi : Int} (h : lo < hi) : ansS ops lvs es lo (hi - lo).toNat = ansS ops (lvs.filter (leftS lo hi)) (((lvs.filter (covS lo hi)).map (·.1)).reverse ++ es) lo (hi - lo).toNat := by
  unfold ansS
  have hm : ∀ i ∈ List.range (hi - lo).toNat, i < (hi - lo).toNat := fun i hi => List.mem_range.1 hi
  generalize List.range (hi - lo).toNat = l at hm
  induction l with
  | nil => rfl
  | cons i l ih =>
    rw [List.flatMap_cons, List.flatMap_cons, ih fun j hj => hm j (List.mem_cons_of_mem _ hj)]
    congr 1
    have hi' := hm i (by simp)
    split
    · split
      · rw [decide_eq_decide.2 (conn_congr fun e => alive_part (lvs := lvs) (lo := lo) (hi := hi) (t := lo + i) (es := es) (by omega) (by omega))]
      · rfl
    · rfl
theorem flatMap_eq {α β : Type} {f g : α → List β} : ∀ {l : List α}, (∀ x ∈ l, f x = g x) → l.flatMap f = l.flatMap g
  | [], _ => rfl
  | a :: l, h => by rw [List.flatMap_cons, List.flatMap_cons, h a (by simp), flatMap_eq fun x hx => h x (List.mem_cons_of_mem _ hx)]
theorem ansS_split (ops : List Op3) (lvs : List Lf) (es : List (Int × Int)) {lo mid hi : Int} (h0 : 0 ≤ lo) (h1 : lo ≤ mid) (h2 : mid ≤ hi) : ansS ops lvs es lo (hi - lo).toNat = ansS ops lvs es lo (mid - lo).toNat ++ ansS ops lvs es mid (hi - mid).toNat := by
  unfold ansS
  have e : (hi - lo).toNat = (mid - lo).toNat + (hi - mid).toNat := by omega
  rw [e, List.range_add, List.flatMap_append, List.flatMap_map]
  congr 1
  refine flatMap_eq fun i hi => ?_
  have e1 : lo.toNat + ((mid - lo).toNat + i) = mid.toNat + i := by omega
  have e2 : lo + (((mid - lo).toNat + i : Nat) : Int) = mid + i := by omega
  rw [e1, e2]
def workS (lvs : List Lf) (lo hi : Int) : Int := (lvs.map fun l => spanN (hi - lo).toNat lo hi l.2.1 l.2.2).sum
theorem workS_nil (lo hi : Int) : workS [] lo hi = 0 := rfl
end Go.Proofs.Ytjffaedlmplcnaa.X
