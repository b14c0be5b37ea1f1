/-
  DERIVED. GIVEN WITH THE SEED: THE CARDS: each row of YtdjdgnabcecdlaaGreatDoorRows.lean that lists a variable, with what it lists TIED to the program's text (the seventh form; the later family's looks); each row that meets fmt, with fmt's text TOLD by the authors' own Lean function (tested against real Go, not proved from fmt's source: count such statements apart). THE CARD IS WHAT COUNTS. Prove the row's statement (the work); the ties are given (YtdjdgnabcecdlaaGreatDoorTie.lean); close each card by the builder's one call (the guide's Derived/Test/ToyasCard.lean, 'card_holds'). Laid BY PROGRAM, IN A SANDBOX (cutbox-door.mjs). By AI agents, Wed Nov 11 2026. No macro, syntax, notation, axiom, sorry.
-/
import Derived.Test.YtdjdgnabcecdlaaGreatDoorRows
import GoSem.ClaimSeven
namespace Go.Proofs.YtdjdgnabcecdlaaGreatDoor
namespace Rows

/-- THE TIED CARD OF 'laws.FnScriptFlow'. -/
def fnScriptFlowCard : Claim7 := { stood := { row := fnScriptFlowRow, standIns := [], harness := (true, "b87efbde265647663a3e1b7a35a8e3129a2da4d7167694f0b93c81b9f1caede1"), looks := true }, kinds := [], alts := [], laidByText := true, laidKinds := [.data, .data, .data, .data, .sentinel, .sentinel, .pinned], laidTests := true, laidLooks := .later }
def FnScriptFlowCardSaid : Prop := Claim7.holds Tryz.pinned (.plain (OpenSpec.ofChange fnScriptFlowSpec)) fnScriptFlowCard

/-- THE TIED CARD OF 'laws.FnScriptShow'. -/
def fnScriptShowCard : Claim7 := { stood := { row := fnScriptShowRow, standIns := [], harness := (true, "b87efbde265647663a3e1b7a35a8e3129a2da4d7167694f0b93c81b9f1caede1"), looks := true }, kinds := [], alts := [], laidByText := true, laidKinds := [.data, .data, .data, .data, .sentinel, .sentinel, .pinned], laidTests := true, laidLooks := .later }
def FnScriptShowCardSaid : Prop := Claim7.holds Tryz.pinned (.plain (OpenSpec.ofChange fnScriptShowSpec)) fnScriptShowCard

/-- THE TIED CARD OF 'laws.FnScriptPut'. -/
def fnScriptPutCard : Claim7 := { stood := { row := fnScriptPutRow, standIns := [], harness := (true, "b87efbde265647663a3e1b7a35a8e3129a2da4d7167694f0b93c81b9f1caede1"), looks := true }, kinds := [], alts := [], laidByText := true, laidKinds := [.data, .data, .data, .data, .sentinel, .sentinel, .pinned], laidTests := true, laidLooks := .later }
def FnScriptPutCardSaid : Prop := Claim7.holds Tryz.pinned (.plain (OpenSpec.ofChange fnScriptPutSpec)) fnScriptPutCard

/-- THE TIED CARD OF 'laws.FnScriptCut'. -/
def fnScriptCutCard : Claim7 := { stood := { row := fnScriptCutRow, standIns := [], harness := (true, "b87efbde265647663a3e1b7a35a8e3129a2da4d7167694f0b93c81b9f1caede1"), looks := true }, kinds := [], alts := [], laidByText := true, laidKinds := [.data, .data, .data, .data, .sentinel, .sentinel, .pinned], laidTests := true, laidLooks := .later }
def FnScriptCutCardSaid : Prop := Claim7.holds Tryz.pinned (.plain (OpenSpec.ofChange fnScriptCutSpec)) fnScriptCutCard

/-- THE TIED CARD OF 'laws.FnScriptForest'. -/
def fnScriptForestCard : Claim7 := { stood := { row := fnScriptForestRow, standIns := [], harness := (true, "b87efbde265647663a3e1b7a35a8e3129a2da4d7167694f0b93c81b9f1caede1"), looks := true }, kinds := [], alts := [], laidByText := true, laidKinds := [.data, .data, .data, .data, .sentinel, .sentinel, .pinned], laidTests := true, laidLooks := .later }
def FnScriptForestCardSaid : Prop := Claim7.holds Tryz.pinned (.plain (OpenSpec.ofChange fnScriptForestSpec)) fnScriptForestCard

/-- THE TIED CARD OF 'laws.FnScriptBetween'. -/
def fnScriptBetweenCard : Claim7 := { stood := { row := fnScriptBetweenRow, standIns := [], harness := (true, "b87efbde265647663a3e1b7a35a8e3129a2da4d7167694f0b93c81b9f1caede1"), looks := true }, kinds := [], alts := [], laidByText := true, laidKinds := [.data, .data, .data, .data, .sentinel, .sentinel, .pinned], laidTests := true, laidLooks := .later }
def FnScriptBetweenCardSaid : Prop := Claim7.holds Tryz.pinned (.plain (OpenSpec.ofChange fnScriptBetweenSpec)) fnScriptBetweenCard

/-- THE TIED CARD OF 'laws.FnScriptPath'. -/
def fnScriptPathCard : Claim7 := { stood := { row := fnScriptPathRow, standIns := [], harness := (true, "b87efbde265647663a3e1b7a35a8e3129a2da4d7167694f0b93c81b9f1caede1"), looks := true }, kinds := [], alts := [], laidByText := true, laidKinds := [.data, .data, .data, .data, .sentinel, .sentinel, .pinned], laidTests := true, laidLooks := .later }
def FnScriptPathCardSaid : Prop := Claim7.holds Tryz.pinned (.plain (OpenSpec.ofChange fnScriptPathSpec)) fnScriptPathCard

/-- THE TIED CARD OF 'laws.FnScriptChains'. -/
def fnScriptChainsCard : Claim7 := { stood := { row := fnScriptChainsRow, standIns := [], harness := (true, "b87efbde265647663a3e1b7a35a8e3129a2da4d7167694f0b93c81b9f1caede1"), looks := true }, kinds := [], alts := [], laidByText := true, laidKinds := [.data, .data, .data, .data, .sentinel, .sentinel, .pinned], laidTests := true, laidLooks := .later }
def FnScriptChainsCardSaid : Prop := Claim7.holds Tryz.pinned (.plain (OpenSpec.ofChange fnScriptChainsSpec)) fnScriptChainsCard

/-- THE TIED CARD OF 'laws.FnScriptBridges'. -/
def fnScriptBridgesCard : Claim7 := { stood := { row := fnScriptBridgesRow, standIns := [], harness := (true, "b87efbde265647663a3e1b7a35a8e3129a2da4d7167694f0b93c81b9f1caede1"), looks := true }, kinds := [], alts := [], laidByText := true, laidKinds := [.data, .data, .data, .data, .sentinel, .sentinel, .pinned], laidTests := true, laidLooks := .later }
def FnScriptBridgesCardSaid : Prop := Claim7.holds Tryz.pinned (.plain (OpenSpec.ofChange fnScriptBridgesSpec)) fnScriptBridgesCard

/-- THE TIED CARD OF 'laws.FnScriptBlocks'. -/
def fnScriptBlocksCard : Claim7 := { stood := { row := fnScriptBlocksRow, standIns := [], harness := (true, "b87efbde265647663a3e1b7a35a8e3129a2da4d7167694f0b93c81b9f1caede1"), looks := true }, kinds := [], alts := [], laidByText := true, laidKinds := [.data, .data, .data, .data, .sentinel, .sentinel, .pinned], laidTests := true, laidLooks := .later }
def FnScriptBlocksCardSaid : Prop := Claim7.holds Tryz.pinned (.plain (OpenSpec.ofChange fnScriptBlocksSpec)) fnScriptBlocksCard

/-- THE SECOND FORM's CARD OF 'laws.FnScriptFlow'. -/
def fnScriptFlowUptoCard : Claim7 := { stood := { row := fnScriptFlowUptoRow, standIns := [], harness := (true, "b87efbde265647663a3e1b7a35a8e3129a2da4d7167694f0b93c81b9f1caede1"), looks := true }, kinds := [], alts := [], laidByText := true, laidKinds := [.data, .data, .data, .data, .sentinel, .sentinel, .pinned], laidTests := true, laidLooks := .later }
def FnScriptFlowUptoCardSaid : Prop := Claim7.holds Tryz.pinned (.plain (OpenSpec.upto fnScriptFlowSpec)) fnScriptFlowUptoCard

/-- THE SECOND FORM's CARD OF 'laws.FnScriptShow'. -/
def fnScriptShowUptoCard : Claim7 := { stood := { row := fnScriptShowUptoRow, standIns := [], harness := (true, "b87efbde265647663a3e1b7a35a8e3129a2da4d7167694f0b93c81b9f1caede1"), looks := true }, kinds := [], alts := [], laidByText := true, laidKinds := [.data, .data, .data, .data, .sentinel, .sentinel, .pinned], laidTests := true, laidLooks := .later }
def FnScriptShowUptoCardSaid : Prop := Claim7.holds Tryz.pinned (.plain (OpenSpec.upto fnScriptShowSpec)) fnScriptShowUptoCard

/-- THE SECOND FORM's CARD OF 'laws.FnScriptPut'. -/
def fnScriptPutUptoCard : Claim7 := { stood := { row := fnScriptPutUptoRow, standIns := [], harness := (true, "b87efbde265647663a3e1b7a35a8e3129a2da4d7167694f0b93c81b9f1caede1"), looks := true }, kinds := [], alts := [], laidByText := true, laidKinds := [.data, .data, .data, .data, .sentinel, .sentinel, .pinned], laidTests := true, laidLooks := .later }
def FnScriptPutUptoCardSaid : Prop := Claim7.holds Tryz.pinned (.plain (OpenSpec.upto fnScriptPutSpec)) fnScriptPutUptoCard

/-- THE SECOND FORM's CARD OF 'laws.FnScriptCut'. -/
def fnScriptCutUptoCard : Claim7 := { stood := { row := fnScriptCutUptoRow, standIns := [], harness := (true, "b87efbde265647663a3e1b7a35a8e3129a2da4d7167694f0b93c81b9f1caede1"), looks := true }, kinds := [], alts := [], laidByText := true, laidKinds := [.data, .data, .data, .data, .sentinel, .sentinel, .pinned], laidTests := true, laidLooks := .later }
def FnScriptCutUptoCardSaid : Prop := Claim7.holds Tryz.pinned (.plain (OpenSpec.upto fnScriptCutSpec)) fnScriptCutUptoCard

/-- THE SECOND FORM's CARD OF 'laws.FnScriptForest'. -/
def fnScriptForestUptoCard : Claim7 := { stood := { row := fnScriptForestUptoRow, standIns := [], harness := (true, "b87efbde265647663a3e1b7a35a8e3129a2da4d7167694f0b93c81b9f1caede1"), looks := true }, kinds := [], alts := [], laidByText := true, laidKinds := [.data, .data, .data, .data, .sentinel, .sentinel, .pinned], laidTests := true, laidLooks := .later }
def FnScriptForestUptoCardSaid : Prop := Claim7.holds Tryz.pinned (.plain (OpenSpec.upto fnScriptForestSpec)) fnScriptForestUptoCard

/-- THE SECOND FORM's CARD OF 'laws.FnScriptBetween'. -/
def fnScriptBetweenUptoCard : Claim7 := { stood := { row := fnScriptBetweenUptoRow, standIns := [], harness := (true, "b87efbde265647663a3e1b7a35a8e3129a2da4d7167694f0b93c81b9f1caede1"), looks := true }, kinds := [], alts := [], laidByText := true, laidKinds := [.data, .data, .data, .data, .sentinel, .sentinel, .pinned], laidTests := true, laidLooks := .later }
def FnScriptBetweenUptoCardSaid : Prop := Claim7.holds Tryz.pinned (.plain (OpenSpec.upto fnScriptBetweenSpec)) fnScriptBetweenUptoCard

/-- THE SECOND FORM's CARD OF 'laws.FnScriptPath'. -/
def fnScriptPathUptoCard : Claim7 := { stood := { row := fnScriptPathUptoRow, standIns := [], harness := (true, "b87efbde265647663a3e1b7a35a8e3129a2da4d7167694f0b93c81b9f1caede1"), looks := true }, kinds := [], alts := [], laidByText := true, laidKinds := [.data, .data, .data, .data, .sentinel, .sentinel, .pinned], laidTests := true, laidLooks := .later }
def FnScriptPathUptoCardSaid : Prop := Claim7.holds Tryz.pinned (.plain (OpenSpec.upto fnScriptPathSpec)) fnScriptPathUptoCard

/-- THE SECOND FORM's CARD OF 'laws.FnScriptChains'. -/
def fnScriptChainsUptoCard : Claim7 := { stood := { row := fnScriptChainsUptoRow, standIns := [], harness := (true, "b87efbde265647663a3e1b7a35a8e3129a2da4d7167694f0b93c81b9f1caede1"), looks := true }, kinds := [], alts := [], laidByText := true, laidKinds := [.data, .data, .data, .data, .sentinel, .sentinel, .pinned], laidTests := true, laidLooks := .later }
def FnScriptChainsUptoCardSaid : Prop := Claim7.holds Tryz.pinned (.plain (OpenSpec.upto fnScriptChainsSpec)) fnScriptChainsUptoCard

/-- THE SECOND FORM's CARD OF 'laws.FnScriptBridges'. -/
def fnScriptBridgesUptoCard : Claim7 := { stood := { row := fnScriptBridgesUptoRow, standIns := [], harness := (true, "b87efbde265647663a3e1b7a35a8e3129a2da4d7167694f0b93c81b9f1caede1"), looks := true }, kinds := [], alts := [], laidByText := true, laidKinds := [.data, .data, .data, .data, .sentinel, .sentinel, .pinned], laidTests := true, laidLooks := .later }
def FnScriptBridgesUptoCardSaid : Prop := Claim7.holds Tryz.pinned (.plain (OpenSpec.upto fnScriptBridgesSpec)) fnScriptBridgesUptoCard

/-- THE SECOND FORM's CARD OF 'laws.FnScriptBlocks'. -/
def fnScriptBlocksUptoCard : Claim7 := { stood := { row := fnScriptBlocksUptoRow, standIns := [], harness := (true, "b87efbde265647663a3e1b7a35a8e3129a2da4d7167694f0b93c81b9f1caede1"), looks := true }, kinds := [], alts := [], laidByText := true, laidKinds := [.data, .data, .data, .data, .sentinel, .sentinel, .pinned], laidTests := true, laidLooks := .later }
def FnScriptBlocksUptoCardSaid : Prop := Claim7.holds Tryz.pinned (.plain (OpenSpec.upto fnScriptBlocksSpec)) fnScriptBlocksUptoCard
end Rows
end Go.Proofs.YtdjdgnabcecdlaaGreatDoor
