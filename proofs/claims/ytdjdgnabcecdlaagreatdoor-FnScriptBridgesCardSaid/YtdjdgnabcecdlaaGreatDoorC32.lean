/- What functions compute: searches in depth, as the reference has them: the loop's step. -/
import Derived.Test.YtdjdgnabcecdlaaGreatDoorC31
import Derived.Test.YtdjdgnabcecdlaaGreatDoorM13
set_option linter.unusedSimpArgs false
set_option linter.unusedVariables false
set_option maxHeartbeats 8000000
namespace Go.Proofs.YtdjdgnabcecdlaaGreatDoor.X
open Go Go.Proofs
/-- The first loop's body. -/
def loopOf : Code → Option Code
  | .seq a b => match loopOf a with
    | some x => some x
    | none => loopOf b
  | .block _ b => loopOf b
  | .loop b => some b
  | .cond _ a b => match loopOf a with
    | some x => some x
    | none => loopOf b
  | _ => none
/-- What stands at the loop. -/
def L4F (n : Int) (es : List (Int × Int)) (v p j : Int) (u : Sr × Int) (s : St) : Prop :=
  s.m 1000 = some (arrS u.1.num) ∧ s.m 1001 = some (arrS u.1.par) ∧ s.m 1002 = some (arrS u.1.low) ∧ s.ρ 8 = .ptr 8 0 0 0 ∧ s.m 8 = some (.box 0 [.ref 1000 0 0 n.toNat, .ref 1001 0 0 n.toNat, .ref 1002 0 0 n.toNat]) ∧ s.ρ 5 = .ptr 5 0 0 0 ∧ s.m 5 = some (.box 0 [I n, LE es]) ∧ s.ρ 10 = .ptr 10 0 0 0 ∧ s.m 10 = some (.box 0 [.i .emp, .i .emp, .i .emp]) ∧ s.ρ 1 = I v ∧ s.ρ 2 = I p ∧ s.ρ 4 = I u.2 ∧ s.ρ 12 = LI (nbS v es) ∧ s.ρ 13 = I j
end Go.Proofs.YtdjdgnabcecdlaaGreatDoor.X
