/- Paths without common edges: plain law. -/
import Derived.Test.YtbaholclcfpknaaM10
set_option linter.unusedVariables false
namespace Go.Proofs.Ytbaholclcfpknaa.X
open Go

/-- Units without one, and without those along a row of nodes. -/
def dropF (F : Un) (a b : Int) : Un := fun c d => if c = a ∧ d = b then false else F c d
def dropP (F : Un) : List Int → Un
  | a :: b :: r => dropP (dropF F a b) (b :: r)
  | _ => F
theorem OKF.sub {es : List (Int × Int)} {F G : Un} (h : OKF es F) (hs : ∀ a b, G a b = true → F a b = true) : OKF es G :=
  ⟨fun a b k => h.adj a b (hs a b k), fun a b k => by
    cases q : G b a with
    | false => rfl
    | true => have := h.one a b (hs a b k); rw [hs b a q] at this; cases this⟩
/-- The units that paths have left. -/
def dpF (n : Int) (es : List (Int × Int)) (x y : Int) : Nat → Un
  | 0 => flU n es x y
  | k + 1 => dropP (dpF n es x y k) (wayL n (bfs n es (dpF n es x y k) x).1 x y)
def dpP (n : Int) (es : List (Int × Int)) (x y : Int) (k : Nat) : List Int := wayL n (bfs n es (dpF n es x y k) x).1 x y
section
variable {n : Int} {es : List (Int × Int)} {x y : Int}
/-- The edges that do not lead out of a set. -/
def keepS (S : Int → Bool) (es : List (Int × Int)) : List (Int × Int) := es.filter fun e => S e.1 == S e.2
end
end Go.Proofs.Ytbaholclcfpknaa.X

