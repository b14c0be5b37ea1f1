/-
  DERIVED. GIVEN WITH THE SEED: THE CARDS: each row of YtmocnnknnbalkaaGreatDoorRows.lean that lists a variable, with what it lists TIED to the program's text (the seventh form; the later family's looks); each row that meets fmt, with fmt's text TOLD by the authors' own Lean function (tested against real Go, not proved from fmt's source: count such statements apart). THE CARD IS WHAT COUNTS. Prove the row's statement (the work); the ties are given (YtmocnnknnbalkaaGreatDoorTie.lean); close each card by the builder's one call (the guide's Derived/Test/ToyasCard.lean, 'card_holds'). Laid BY PROGRAM, IN A SANDBOX (cutbox-door.mjs). By AI agents, Wed Nov 11 2026. No macro, syntax, notation, axiom, sorry.
-/
import Derived.Test.YtmocnnknnbalkaaGreatDoorRows
import GoSem.ClaimSeven
namespace Go.Proofs.YtmocnnknnbalkaaGreatDoor
namespace Rows

/-- THE TIED CARD OF 'laws.FnScriptChains'. -/
def fnScriptChainsCard : Claim7 := { stood := { row := fnScriptChainsRow, standIns := [], harness := (true, "7246d6b2244c0742565bbddea5e15c2ca2d5af997af77376d4d0962ae9fa7806"), looks := true }, kinds := [], alts := [], laidByText := true, laidKinds := [.data, .data, .data, .data, .sentinel, .sentinel, .pinned], laidTests := true, laidLooks := .later }
def FnScriptChainsCardSaid : Prop := Claim7.holds Tryz.pinned (.plain (OpenSpec.ofChange fnScriptChainsSpec)) fnScriptChainsCard

/-- THE SECOND FORM's CARD OF 'laws.FnScriptChains'. -/
def fnScriptChainsUptoCard : Claim7 := { stood := { row := fnScriptChainsUptoRow, standIns := [], harness := (true, "7246d6b2244c0742565bbddea5e15c2ca2d5af997af77376d4d0962ae9fa7806"), looks := true }, kinds := [], alts := [], laidByText := true, laidKinds := [.data, .data, .data, .data, .sentinel, .sentinel, .pinned], laidTests := true, laidLooks := .later }
def FnScriptChainsUptoCardSaid : Prop := Claim7.holds Tryz.pinned (.plain (OpenSpec.upto fnScriptChainsSpec)) fnScriptChainsUptoCard
end Rows
end Go.Proofs.YtmocnnknnbalkaaGreatDoor
