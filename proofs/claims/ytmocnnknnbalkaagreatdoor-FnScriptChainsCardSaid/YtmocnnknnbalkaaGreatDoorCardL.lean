/- What the tied cards ask of the translation. -/
import Derived.Test.YtmocnnknnbalkaaGreatDoorCards
import Derived.SevenTiedAt
import Derived.KernelRfl
namespace Go.Proofs.YtmocnnknnbalkaaGreatDoor.X
open Go
def mainW (ws : List (List Char)) : Option (Bool × List Char) :=
  match ws with
  | h :: s :: _ => if !isSumSigns s then none else if h == "harness".toList then some (true, s) else if h == "ownmain".toList then some (false, s) else none
  | _ => none
theorem main_of {P : Program} {x : Option (Bool × List Char)} (h : ∃ l, P.initOrder = String.ofList l ∧ mainW (wordsSigns l) = x) : P.mainIs = x := by
  obtain ⟨l, hl, rfl⟩ := h
  unfold Program.mainIs
  rw [hl, String.toList_ofList]
  rfl
set_option maxRecDepth 100000 in
theorem main_is : Tryz.prog.mainIs = some (true, Rows.fnScriptChainsCard.stood.harness.2.toList) := main_of ⟨_, rfl, by kernel_rfl⟩
theorem looks_is : true = Tryz.prog.looks [] := by kernel_rfl
end Go.Proofs.YtmocnnknnbalkaaGreatDoor.X
