/- What functions answer, and the plain laws behind it. -/
import Derived.Test.YtdlfdoicheakoaaKAF
import Derived.Test.YtdlfdoicheakoaaKAE
import Derived.Test.YtdlfdoicheakoaaKAD
/- What functions compute: numbers of paths, sides and sizes of cuts. -/
set_option linter.unusedSimpArgs false
set_option linter.unusedVariables false
set_option maxHeartbeats 8000000
namespace Go.Proofs.Ytdlfdoicheakoaa.X
open Go Go.Proofs
def Pr (n x y : Int) (es : List (Int × Int)) : Prop := VG n es ∧ (0 ≤ x ∧ x < n) ∧ (0 ≤ y ∧ y < n) ∧ x ≠ y
noncomputable instance (n x y : Int) (es : List (Int × Int)) : Decidable (Pr n x y es) := by unfold Pr; infer_instance
@[go_sem] theorem c_isPair (n x y : Int) (es : List (Int × Int)) (hl : es.length ≤ 1048576) : KP 59 [GL n es, I x, I y] [] = some (B (decide (Pr n x y es)), [], []) := by
  unfold Pr
  refine gc Try.func59 ?_
  have Fz:=fz1 Try.results59
  repeat'(first|exact trivial|refine go1 ?_|(refine go2 ?_ ?_<;>intro _<;>try(exfalso;omega))|(refine go4 ?_;split<;>((try(exfalso;omega));try refine go3 ?_)))
  all_goals grind
@[go_sem] theorem c_l10Right (n x y : Int) (es : List (Int × Int)) (hl : es.length ≤ 1048576) : KP 54 [GL n es, I x, I y] [] = some (B (decide (Pr n x y es)), [], []) := by
  unfold Pr
  refine gc Try.func54 ?_
  have Fz:=fz1 Try.results54
  repeat'(first|exact trivial|refine go1 ?_|(refine go2 ?_ ?_<;>intro _<;>try(exfalso;omega))|(refine go4 ?_;split<;>((try(exfalso;omega));try refine go3 ?_)))
  all_goals grind
/-- The side of a cut, in order. -/
def sideL (n : Int) (es : List (Int × Int)) (x y : Int) : List Int := (iota n).filter fun v => decide (v ∈ sideO n es x y)
theorem getT_set {l : List Bool} {i j : Nat} {x : Bool} (h : j < l.length) : (l.set i x).getD j false = if i = j then x else l.getD j false := by
  simp only [List.getD_eq_getElem?_getD, List.getElem?_set]
  split
  · rename_i e; subst e; simp [h]
  · rfl
/-- Different nodes. -/
def Nds (n : Int) (xs : List Int) : Prop := (∀ v ∈ xs, 0 ≤ v ∧ v < n) ∧ xs.Nodup
instance (n : Int) (xs : List Int) : Decidable (Nds n xs) := by unfold Nds; infer_instance
def inS (xs : List Int) : Int → Bool := fun v => decide (v ∈ xs)
end Go.Proofs.Ytdlfdoicheakoaa.X

/- What functions compute: draws of graphs with more edges. -/
set_option linter.unusedSimpArgs false
set_option linter.unusedVariables false
set_option maxHeartbeats 8000000
namespace Go.Proofs.Ytdlfdoicheakoaa.X
open Go Go.Proofs
end Go.Proofs.Ytdlfdoicheakoaa.X
