/- What functions answer, and the plain laws behind it. -/
import Derived.Test.YtdlfdoicheakoaaKAC
import Derived.Test.YtdlfdoicheakoaaKAG
import Derived.Test.YtdlfdoicheakoaaC27
import Derived.Test.YtdlfdoicheakoaaKAD
import Derived.Test.YtdlfdoicheakoaaM12
/- What functions compute: the reference's flows between nodes, sides and sizes of cuts. -/
set_option linter.unusedSimpArgs false
set_option linter.unusedVariables false
set_option maxHeartbeats 8000000
namespace Go.Proofs.Ytdlfdoicheakoaa.X
open Go Go.Proofs
end Go.Proofs.Ytdlfdoicheakoaa.X

/- Rows of rows of numbers. -/
set_option linter.unusedSimpArgs false
set_option linter.unusedVariables false
set_option maxHeartbeats 4000000
namespace Go.Proofs.Ytdlfdoicheakoaa.X
open Go Go.Proofs
/-- Rows of rows of numbers. -/
def encL (p : List Int) : List IV := [.lst (p.map encI)]
abbrev LL (ps : List (List Int)) : PV := .i (.lst (ps.map encL))
theorem getLs (ps : List (List Int)) (i : Nat) (h : i < ps.length) : (ps.map encL)[i]? = some [.lst ((ps.getD i []).map encI)] := by simp [encL, h]
theorem appLs (ps : List (List Int)) (p : List Int) : ps.map encL ++ [[.lst (p.map encI)]] = (ps ++ [p]).map encL := by simp [encL]
attribute [go_sem] getLs appLs
end Go.Proofs.Ytdlfdoicheakoaa.X

/- Paths along units, as the reference looks for them; edges that are used: plain law. -/
set_option linter.unusedVariables false
namespace Go.Proofs.Ytdlfdoicheakoaa.X
open Go
theorem fold_skip {g : Int → Int → Bool} {a : Int} : ∀ {vs : List Int} {st : List Int × List Int}, vs.foldl (look g a) st = (vs.filter fun v => g a v).foldl (look g a) st
  | [], st => rfl
  | v :: vs, st => by
    rw [List.foldl_cons, List.filter_cons]
    cases h : g a v with
    | true => simp only [if_true, List.foldl_cons]; exact fold_skip
    | false =>
      have e : look g a st v = st := by unfold look; rw [if_neg (fun k => by rw [h] at k; exact absurd k.2 (by decide))]
      rw [e]
      simp only [Bool.false_eq_true, if_false]
      exact fold_skip
section
variable {n : Int} {es : List (Int × Int)}
theorem units_next {F : Un} (ho : ∀ e ∈ es, okE n e) (hn : es.Nodup) (hF : OKF es F) (a : Int) : ((iota n).filter fun v => F a v) = (nbS a es).filter fun v => F a v := by
  refine sorted_ext ((sorted_iota n).sublist List.filter_sublist) ((sorted_nbS ho hn a).sublist List.filter_sublist) fun v => ?_
  rw [List.mem_filter, List.mem_filter, mem_iota, mem_nbS ho]
  constructor
  · rintro ⟨_, h⟩; exact ⟨hF.adj a v h, h⟩
  · rintro ⟨h1, h⟩
    have := h1.ok ho
    exact ⟨⟨by omega, by omega⟩, h⟩
theorem units_fold {F : Un} (ho : ∀ e ∈ es, okE n e) (hn : es.Nodup) (hF : OKF es F) (a : Int) (st : List Int × List Int) : (iota n).foldl (look F a) st = (nbS a es).foldl (look F a) st := by
  rw [fold_skip, units_next ho hn hF, ← fold_skip]
/-- An edge along which no unit goes. -/
def Free (F : Un) (e : Int × Int) : Prop := F e.1 e.2 = false ∧ F e.2 e.1 = false
theorem Free.edge {F : Un} {a b : Int} (h1 : F a b = false) (h2 : F b a = false) : Free F (edgeOf a b) := by
  rcases edgeOf_ends (x := a) (y := b) with h | h
  · rw [h]; exact ⟨h1, h2⟩
  · rw [h]; exact ⟨h2, h1⟩
theorem Free.drop {F : Un} {p : List Int} {e : Int × Int} (h : Free F e) : Free (dropP F p) e := ⟨dropP_off h.1, dropP_off h.2⟩
end
end Go.Proofs.Ytdlfdoicheakoaa.X
