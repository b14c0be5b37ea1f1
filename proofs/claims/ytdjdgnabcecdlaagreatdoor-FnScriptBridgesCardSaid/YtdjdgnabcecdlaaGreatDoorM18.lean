/- Cut nodes by low points: plain law. -/
import Derived.Test.YtdjdgnabcecdlaaGreatDoorM16
import Derived.Test.YtdjdgnabcecdlaaGreatDoorM17
set_option linter.unusedVariables false
namespace Go.Proofs.YtdjdgnabcecdlaaGreatDoor.X
open Go
/-- What a search in depth leaves. -/
structure Dfs (n : Int) (es : List (Int × Int)) (S : Sr) : Prop where
  bd : ∃ N : Int, ∀ u, inR n u → gI S.num u ≤ N
  pa : ∀ u, inR n u → gI S.par u = -1 ∨ (inR n (gI S.par u) ∧ gI S.num (gI S.par u) < gI S.num u ∧ u ∈ nbS (gI S.par u) es)
  inj : ∀ u w, inR n u → inR n w → gI S.num u = gI S.num w → u = w
  an : ∀ x, inR n x → ∀ w ∈ nbS x es, gI S.num x < gI S.num w → Anc n S.par x w
  lo : ∀ u, inR n u → gI S.low u = lowOf S u (nbS u es)
namespace Dfs
variable {n : Int} {es : List (Int × Int)} {S : Sr}
theorem above (D : Dfs n es S) {a u : Int} (h : Anc n S.par a u) (hne : a ≠ u) : inR n (gI S.par u) ∧ Anc n S.par a (gI S.par u) := by
  cases h with
  | refl => exact absurd rfl hne
  | up hu hp h => exact ⟨hp, h⟩
theorem comp (D : Dfs n es S) {a b u : Int} (ha : Anc n S.par a u) (hb : Anc n S.par b u) : Anc n S.par a b ∨ Anc n S.par b a := by
  induction ha with
  | refl => exact .inr hb
  | up hu hp h ih =>
    cases hb with
    | refl => exact .inl (.up hu hp h)
    | up _ _ hb => exact ih hb
theorem kid (D : Dfs n es S) {v z : Int} (h : Anc n S.par v z) (hne : z ≠ v) (hv : inR n v) : ∃ i, inR n i ∧ gI S.par i = v ∧ Anc n S.par i z := by
  induction h with
  | refl => exact absurd rfl hne
  | @up u hu hp h ih =>
    by_cases e : gI S.par u = v
    · exact ⟨u, hu, e, .refl⟩
    · obtain ⟨i, h1, h2, h3⟩ := ih e
      exact ⟨i, h1, h2, .up hu hp h3⟩
end Dfs
end Go.Proofs.YtdjdgnabcecdlaaGreatDoor.X
