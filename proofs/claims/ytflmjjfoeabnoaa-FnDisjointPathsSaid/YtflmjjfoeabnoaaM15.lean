/- Paths along units, as the reference looks for them; edges that are used: plain law. -/
import Derived.Test.YtflmjjfoeabnoaaM12
set_option linter.unusedVariables false
namespace Go.Proofs.Ytflmjjfoeabnoaa.X
open Go

theorem fold_skip {g : Int → Int → Bool} {a : Int} : ∀ {vs : List Int} {st : List Int × List Int}, vs.foldl (look g a) st = (vs.filter fun v => g a v).foldl (look g a) st
  | [], st => rfl
  | v :: vs, st => by
    rw [List.foldl_cons, List.filter_cons]
    cases h : g a v with
    | true => simp only [if_true, List.foldl_cons]; exact fold_skip
    | false =>
      have e : look g a st v = st := by unfold look; rw [if_neg (fun k => by rw [h] at k; exact absurd k.2 (by decide))]
      rw [e]
      simp only [Bool.false_eq_true, if_false]
      exact fold_skip
section
variable {n : Int} {es : List (Int × Int)}
theorem units_next {F : Un} (ho : ∀ e ∈ es, okE n e) (hn : es.Nodup) (hF : OKF es F) (a : Int) : ((iota n).filter fun v => F a v) = (nbS a es).filter fun v => F a v := by
  refine sorted_ext ((sorted_iota n).sublist List.filter_sublist) ((sorted_nbS ho hn a).sublist List.filter_sublist) fun v => ?_
  rw [List.mem_filter, List.mem_filter, mem_iota, mem_nbS ho]
  constructor
  · rintro ⟨_, h⟩; exact ⟨hF.adj a v h, h⟩
  · rintro ⟨h1, h⟩
    have := h1.ok ho
    exact ⟨⟨by omega, by omega⟩, h⟩
theorem units_fold {F : Un} (ho : ∀ e ∈ es, okE n e) (hn : es.Nodup) (hF : OKF es F) (a : Int) (st : List Int × List Int) : (iota n).foldl (look F a) st = (nbS a es).foldl (look F a) st := by
  rw [fold_skip, units_next ho hn hF, ← fold_skip]
/-- An edge along which no unit goes. -/
def Free (F : Un) (e : Int × Int) : Prop := F e.1 e.2 = false ∧ F e.2 e.1 = false
theorem Free.edge {F : Un} {a b : Int} (h1 : F a b = false) (h2 : F b a = false) : Free F (edgeOf a b) := by
  rcases edgeOf_ends (x := a) (y := b) with h | h
  · rw [h]; exact ⟨h1, h2⟩
  · rw [h]; exact ⟨h2, h1⟩
theorem Free.drop {F : Un} {p : List Int} {e : Int × Int} (h : Free F e) : Free (dropP F p) e := ⟨dropP_off h.1, dropP_off h.2⟩
/-- A step of a way uses an edge that is not free, and makes it free. -/
theorem way_used {F : Un} {p : List Int} (hF : OKF es F) {x y : Int} (hw : Way es F x y p) {i : Nat} (hi : i + 1 < p.length) : ¬ Free F (edgeOf (p.getD i 0) (p.getD (i + 1) 0)) ∧ Free (dropP F p) (edgeOf (p.getD i 0) (p.getD (i + 1) 0)) := by
  have hg := (hw.st i hi).2
  refine ⟨fun h => ?_, Free.edge (dropP_step hi) (dropP_off (hF.one _ _ hg))⟩
  rcases edgeOf_ends (x := p.getD i 0) (y := p.getD (i + 1) 0) with k | k
  · rw [k] at h
    have := h.1
    simp only at this
    rw [hg] at this; cases this
  · rw [k] at h
    have := h.2
    simp only at this
    rw [hg] at this; cases this
theorem edgeOf_same {a b c d : Int} (h : edgeOf a b = edgeOf c d) : (a = c ∧ b = d) ∨ (a = d ∧ b = c) := by
  unfold edgeOf at h
  split at h <;> split at h <;> simp only [Prod.mk.injEq] at h <;> omega
/-- The steps of a way are different edges. -/
theorem way_steps {p : List Int} (hd : p.Nodup) {i j : Nat} (hij : i < j) (hj : j + 1 < p.length) : edgeOf (p.getD i 0) (p.getD (i + 1) 0) ≠ edgeOf (p.getD j 0) (p.getD (j + 1) 0) := fun h => by
  have hinj : ∀ s t, s < p.length → t < p.length → p.getD s 0 = p.getD t 0 → s = t := fun s t hs ht hq => by
    simp only [List.getD, List.getElem?_eq_getElem hs, List.getElem?_eq_getElem ht, Option.getD_some] at hq
    exact (List.getElem_inj hd).1 hq
  rcases edgeOf_same h with ⟨h1, h2⟩ | ⟨h1, h2⟩
  · have := hinj _ _ (by omega) (by omega) h1; omega
  · have := hinj _ _ (by omega) (by omega) h1; omega
end
end Go.Proofs.Ytflmjjfoeabnoaa.X
