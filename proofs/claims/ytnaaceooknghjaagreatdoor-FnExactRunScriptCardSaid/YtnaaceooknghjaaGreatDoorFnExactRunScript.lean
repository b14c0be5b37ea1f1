/- The tied card of the law FnExactRunScript: for every input it returns true, and its argument reads afterwards as before; what its row lists is tied to the program's text. -/
import Derived.Test.YtnaaceooknghjaaGreatDoorFnExactRunScriptS
import Derived.Test.YtnaaceooknghjaaGreatDoorCards
import Derived.Test.YtnaaceooknghjaaGreatDoorTie
import Derived.Test.YtnaaceooknghjaaGreatDoorCardL
import Derived.SevenTiedAt
import Derived.KernelRfl
namespace Go.Proofs.YtnaaceooknghjaaGreatDoor.fnExactRunScript
theorem plain (f : FuncId) (fn : Func) (hf : Tryz.pinned.checked.prog.funcNamed "loop.example/dynamicbridges/laws.FnExactRunScript" = some f) (hfn : Tryz.pinned.checked.prog.funcs[f]? = some fn) :
    true = Tryz.pinned.checked.prog.looks [] ∧ ∀ (j : Nat) t, fn.params[j]? = some t → Tryz.pinned.checked.prog.wantsStandIn t = false := by
  obtain rfl : f = 3 := Option.some.inj ((show Tryz.prog.funcNamed "loop.example/dynamicbridges/laws.FnExactRunScript" = some 3 by kernel_rfl).symm.trans hf) |>.symm
  obtain rfl : fn = Tryz.f3 := (Option.some.inj (Tryz.func3.symm.trans hfn)).symm
  refine ⟨X.looks_is, fun j t ht => ?_⟩
  rw [Tryz.params3] at ht
  obtain rfl : t = 9 := by simpa using Array.mem_of_getElem? ht
  exact (show Tryz.prog.wantsStandIn 9 = false by kernel_rfl)
set_option maxRecDepth 100000 in
theorem card : Rows.FnExactRunScriptCardSaid :=
  Claim7.holds_tied_plain_at .later [] _ _ _ _ said (fun _ h => by cases h) (by kernel_rfl) (fun _ h => by cases h) fnExactRunScript_row_tie rfl ⟨rfl, rfl⟩ X.main_is rfl plain (by kernel_rfl)
end Go.Proofs.YtnaaceooknghjaaGreatDoor.fnExactRunScript
namespace Go.Proofs.YtnaaceooknghjaaGreatDoor
theorem fnExactRunScript_proved : Rows.FnExactRunScriptCardSaid := fnExactRunScript.card
#print axioms fnExactRunScript_proved
end Go.Proofs.YtnaaceooknghjaaGreatDoor
