/- The tied card of the law FnScriptPrefix: for every input it returns true, and its argument reads afterwards as before; what its row lists is tied to the program's text. -/
import Derived.Test.YtnaaceooknghjaaGreatDoorFnScriptPrefixS
import Derived.Test.YtnaaceooknghjaaGreatDoorCards
import Derived.Test.YtnaaceooknghjaaGreatDoorTie
import Derived.Test.YtnaaceooknghjaaGreatDoorCardL
import Derived.SevenTiedAt
import Derived.KernelRfl
namespace Go.Proofs.YtnaaceooknghjaaGreatDoor.fnScriptPrefix
theorem plain (f : FuncId) (fn : Func) (hf : Tryz.pinned.checked.prog.funcNamed "loop.example/dynamicbridges/laws.FnScriptPrefix" = some f) (hfn : Tryz.pinned.checked.prog.funcs[f]? = some fn) :
    true = Tryz.pinned.checked.prog.looks [] ∧ ∀ (j : Nat) t, fn.params[j]? = some t → Tryz.pinned.checked.prog.wantsStandIn t = false := by
  obtain rfl : f = 4 := Option.some.inj ((show Tryz.prog.funcNamed "loop.example/dynamicbridges/laws.FnScriptPrefix" = some 4 by kernel_rfl).symm.trans hf) |>.symm
  obtain rfl : fn = Tryz.f4 := (Option.some.inj (Tryz.func4.symm.trans hfn)).symm
  refine ⟨X.looks_is, fun j t ht => ?_⟩
  rw [Tryz.params4] at ht
  have hm := Array.mem_of_getElem? ht
  obtain rfl : t = 24 := by simpa using hm
  exact (show Tryz.prog.wantsStandIn 24 = false by kernel_rfl)
set_option maxRecDepth 100000 in
theorem card : Rows.FnScriptPrefixCardSaid :=
  Claim7.holds_tied_plain_at .later [] _ _ _ _ said (fun _ h => by cases h) (by kernel_rfl) (fun _ h => by cases h) fnScriptPrefix_row_tie rfl ⟨rfl, rfl⟩ X.main_is rfl plain (by kernel_rfl)
end Go.Proofs.YtnaaceooknghjaaGreatDoor.fnScriptPrefix
namespace Go.Proofs.YtnaaceooknghjaaGreatDoor
theorem fnScriptPrefix_proved : Rows.FnScriptPrefixCardSaid := fnScriptPrefix.card
#print axioms fnScriptPrefix_proved
end Go.Proofs.YtnaaceooknghjaaGreatDoor
