/-
  DERIVED. GIVEN WITH THE SEED: THE CARDS: each row of YtdjdgnabcecdlaaDoorRows.lean that lists a variable, with what it lists TIED to the program's text (the seventh form; the later family's looks); each row that meets fmt, with fmt's text TOLD by the authors' own Lean function (tested against real Go, not proved from fmt's source: count such statements apart). THE CARD IS WHAT COUNTS. Prove the row's statement (the work); the ties are given (YtdjdgnabcecdlaaDoorTie.lean); close each card by the builder's one call (the guide's Derived/Test/ToyasCard.lean, 'card_holds'). Laid BY PROGRAM, IN A SANDBOX (cutbox-door.mjs). By AI agents, Wed Nov 11 2026. No macro, syntax, notation, axiom, sorry.
-/
import Derived.Test.YtdjdgnabcecdlaaDoorRows
import GoSem.ClaimSeven
namespace Go.Proofs.YtdjdgnabcecdlaaDoor
namespace Rows

/-- THE TIED CARD OF 'laws.FnParseEdge'. -/
def fnParseEdgeCard : Claim7 := { stood := { row := fnParseEdgeRow, standIns := [], harness := (true, "f7f70cf06cd89e13c34ac27505d0c5992368a6f5c878fbe13c763c4d397464c9"), looks := true }, kinds := [], alts := [], laidByText := true, laidKinds := [.data, .data, .data, .data, .sentinel, .sentinel, .pinned], laidTests := true, laidLooks := .later }
def FnParseEdgeCardSaid : Prop := Claim7.holds Tryd.pinned (.plain (OpenSpec.ofChange fnParseEdgeSpec)) fnParseEdgeCard

/-- THE SECOND FORM's CARD OF 'laws.FnParseEdge'. -/
def fnParseEdgeUptoCard : Claim7 := { stood := { row := fnParseEdgeUptoRow, standIns := [], harness := (true, "f7f70cf06cd89e13c34ac27505d0c5992368a6f5c878fbe13c763c4d397464c9"), looks := true }, kinds := [], alts := [], laidByText := true, laidKinds := [.data, .data, .data, .data, .sentinel, .sentinel, .pinned], laidTests := true, laidLooks := .later }
def FnParseEdgeUptoCardSaid : Prop := Claim7.holds Tryd.pinned (.plain (OpenSpec.upto fnParseEdgeSpec)) fnParseEdgeUptoCard
end Rows
end Go.Proofs.YtdjdgnabcecdlaaDoor
