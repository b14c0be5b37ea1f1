/- The tied card of the law FnScriptChains: for every input it returns true, and its argument reads afterwards as before; what its row lists is tied to the program's text. -/
import Derived.Test.YtmocnnknnbalkaaGreatDoorFnScriptChainsS
import Derived.Test.YtmocnnknnbalkaaGreatDoorCards
import Derived.Test.YtmocnnknnbalkaaGreatDoorTie
import Derived.Test.YtmocnnknnbalkaaGreatDoorCardL
import Derived.SevenTiedAt
import Derived.KernelRfl
namespace Go.Proofs.YtmocnnknnbalkaaGreatDoor.fnScriptChains
theorem plain (f : FuncId) (fn : Func) (hf : Tryz.pinned.checked.prog.funcNamed "loop.example/dynamicbridges/laws.FnScriptChains" = some f) (hfn : Tryz.pinned.checked.prog.funcs[f]? = some fn) :
    true = Tryz.pinned.checked.prog.looks [] ∧ ∀ (j : Nat) t, fn.params[j]? = some t → Tryz.pinned.checked.prog.wantsStandIn t = false := by
  obtain rfl : f = 3 := Option.some.inj ((show Tryz.prog.funcNamed "loop.example/dynamicbridges/laws.FnScriptChains" = some 3 by kernel_rfl).symm.trans hf) |>.symm
  obtain rfl : fn = Tryz.f3 := (Option.some.inj (Tryz.func3.symm.trans hfn)).symm
  refine ⟨X.looks_is, fun j t ht => ?_⟩
  rw [Tryz.params3] at ht
  obtain rfl : t = 22 := by simpa using Array.mem_of_getElem? ht
  exact (show Tryz.prog.wantsStandIn 22 = false by kernel_rfl)
set_option maxRecDepth 100000 in
theorem card : Rows.FnScriptChainsCardSaid :=
  Claim7.holds_tied_plain_at .later [] _ _ _ _ said (fun _ h => by cases h) (by kernel_rfl) (fun _ h => by cases h) fnScriptChains_row_tie rfl ⟨rfl, rfl⟩ X.main_is rfl plain (by kernel_rfl)
end Go.Proofs.YtmocnnknnbalkaaGreatDoor.fnScriptChains
namespace Go.Proofs.YtmocnnknnbalkaaGreatDoor
theorem fnScriptChains_proved : Rows.FnScriptChainsCardSaid := fnScriptChains.card
#print axioms fnScriptChains_proved
end Go.Proofs.YtmocnnknnbalkaaGreatDoor
