/- A world that holds what the rows list: the witness's. -/
import Derived.Test.YtnaaceooknghjaaGreatDoorRows
import Derived.WalkKit
import Derived.ProofKit
import Derived.OpenShut
import Derived.Deep.DeepHandedRow
import Derived.Deep.DeepWitnessRowRef
import Derived.LaidMore
namespace Go.Proofs.YtnaaceooknghjaaGreatDoor.X
open Go Go.RowKit
theorem own_knob:ownKnob Tryz.prog.godebug=none:=by kernel_rfl
noncomputable def laidWorld (os:Os):World:=
 { World.doorLaid Tryz.prog 72 os with heap:=(World.doorLaid Tryz.prog 72 os).heap.modify 1 fun
  | .cells _ t frozen=>.cells (Go.Pinned.utf8FirstZ.map fun(n:Nat)=>Value.int .u8 (n:Int)).toArray t frozen
  | o=>o }
abbrev argS:Array Value:=#[.slice none 0 0,.slice none 0 0]
theorem laid_met (os:Os):laidMet Tryz.prog Rows.fnScriptPrefixRow.laid ((laidWorld os).forCall (fun _ _=>0) ⟨#[],argS,[]⟩).memory:=
 laidMet_of_run' 8 (by kernel_rfl) (by kernel_rfl)
theorem laid_refs (os:Os):((laidWorld os).forCall (fun _ _=>0) ⟨#[],argS,[]⟩).variablesRefB Tryz.prog=true:=by kernel_rfl
theorem laid_tail (os:Os):(((laidWorld os).forCall (fun _ _=>0) ⟨#[],argS,[]⟩).heap.toList.drop Tryz.prog.globals.size).take ((begin Tryz.prog (fun _ _=>0) default).world.heap.size-Tryz.prog.globals.size)=
 (begin Tryz.prog (fun _ _=>0) default).world.heap.toList.drop Tryz.prog.globals.size:=by kernel_rfl
theorem reads_nil (os:Os) {H:Type} (enc:TypeId×Value→H):∃places,DataW.whole enc Tryz.prog ((laidWorld os).forCall (fun _ _=>0) ⟨#[],argS,[]⟩).memory [24,24] [] false argS.toList 8=some ([.nil,.nil],[],places):=
 ⟨[],by kernel_rfl⟩
end Go.Proofs.YtnaaceooknghjaaGreatDoor.X
