/- What functions compute: rooted trees of a forest. -/
import Derived.Test.YtdjdgnabcecdlaaGreatDoorKE
import Derived.Test.YtdjdgnabcecdlaaGreatDoorC21
import Derived.Test.YtdjdgnabcecdlaaGreatDoorM21
set_option linter.unusedSimpArgs false
set_option linter.unusedVariables false
set_option maxHeartbeats 8000000
set_option maxRecDepth 100000
namespace Go.Proofs.YtdjdgnabcecdlaaGreatDoor.X
open Go Go.Proofs
/-- The label of a node. -/
noncomputable def lbl (es : List (Int × Int)) (x : Int) : Int := (least es x.toNat : Nat)
theorem lbl_at {n x : Int} {es : List (Int × Int)} (hx : inN n x) : (lab n es).getD x.toNat 0 = lbl es x := lab_get (by omega)
theorem lbl_spec {n x : Int} {es : List (Int × Int)} (hx : inN n x) : inN n (lbl es x) ∧ Conn es x (lbl es x) ∧ lbl es x ≤ x := by
  obtain ⟨h1, h2, -⟩ := least_spec es x.toNat
  have e : ((x.toNat : Nat) : Int) = x := Int.toNat_of_nonneg hx.1
  rw [e] at h2
  unfold lbl
  exact ⟨by omega, h2.symm, by omega⟩
theorem lbl_iff {n x y : Int} {es : List (Int × Int)} (hx : inN n x) (hy : inN n y) : lbl es x = lbl es y ↔ Conn es x y := by
  have := lab_iff (es := es) hx hy
  rwa [lbl_at hx, lbl_at hy] at this
/-- The node above a node. -/
noncomputable def upN (n : Int) (es : List (Int × Int)) (x : Int) : Int := if lbl es x = x then -1 else (pathL n (forestL es) x (lbl es x)).getD 1 0
noncomputable def wtN (es : List (Int × Int)) (x : Int) : Int := if lbl es x = x then 0 else 1
noncomputable def upsL (n : Int) (es : List (Int × Int)) (i : Int) : List Int := (iota i).map (upN n es)
noncomputable def wtsL (es : List (Int × Int)) (i : Int) : List Int := (iota i).map (wtN es)
abbrev RP (ps ws : List Int) : PV := .agg [LI ps, LI ws]
end Go.Proofs.YtdjdgnabcecdlaaGreatDoor.X
