/- What the tied cards ask of the translation. -/
import Derived.Test.YtnaaceooknghjaaGreatDoorCards
import Derived.SevenTiedAt
import Derived.KernelRfl
namespace Go.Proofs.YtnaaceooknghjaaGreatDoor.X
open Go
def kh4 (ws:List (List Char)):Option (Bool×List Char):=
 match ws with
 | h::s::_=>if !isSumSigns s then none else if h == "harness".toList then some (true,s) else if h == "ownmain".toList then some (false,s) else none
 | _=>none
theorem kc7 {P:Program} {x:Option (Bool×List Char)} (h:∃l,P.initOrder=String.ofList l∧kh4 (wordsSigns l)=x):P.mainIs=x:=by
 obtain⟨l,hl,rfl⟩:=h
 unfold Program.mainIs
 rw[hl,String.toList_ofList]
 rfl
set_option maxRecDepth 100000 in
theorem main_is:Tryz.prog.mainIs=some (true,Rows.fnExactRunScriptCard.stood.harness.2.toList):=kc7 ⟨_,rfl,by kernel_rfl⟩
theorem looks_is:true=Tryz.prog.looks []:=by kernel_rfl
end Go.Proofs.YtnaaceooknghjaaGreatDoor.X
