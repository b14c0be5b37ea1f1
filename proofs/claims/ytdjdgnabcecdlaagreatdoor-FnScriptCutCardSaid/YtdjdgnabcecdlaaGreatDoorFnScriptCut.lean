/- The tied card of the law FnScriptCut: for every input it returns true, and its argument reads afterwards as before; what its row lists is tied to the program's text. -/
import Derived.Test.YtdjdgnabcecdlaaGreatDoorFnScriptCutS
import Derived.Test.YtdjdgnabcecdlaaGreatDoorCards
import Derived.Test.YtdjdgnabcecdlaaGreatDoorTie
import Derived.Test.YtdjdgnabcecdlaaGreatDoorCardL
import Derived.SevenTiedAt
import Derived.KernelRfl
namespace Go.Proofs.YtdjdgnabcecdlaaGreatDoor.fnScriptCut
theorem plain (f : FuncId) (fn : Func) (hf : Tryz.pinned.checked.prog.funcNamed "loop.example/dynamicbridges/laws.FnScriptCut" = some f) (hfn : Tryz.pinned.checked.prog.funcs[f]? = some fn) :
    true = Tryz.pinned.checked.prog.looks [] ∧ ∀ (j : Nat) t, fn.params[j]? = some t → Tryz.pinned.checked.prog.wantsStandIn t = false := by
  obtain rfl : f = 6 := Option.some.inj ((show Tryz.prog.funcNamed "loop.example/dynamicbridges/laws.FnScriptCut" = some 6 by kernel_rfl).symm.trans hf) |>.symm
  obtain rfl : fn = Tryz.f6 := (Option.some.inj (Tryz.func6.symm.trans hfn)).symm
  refine ⟨X.looks_is, fun j t ht => ?_⟩
  rw [Tryz.params6] at ht
  obtain rfl : t = 22 := by simpa using Array.mem_of_getElem? ht
  exact (show Tryz.prog.wantsStandIn 22 = false by kernel_rfl)
set_option maxRecDepth 100000 in
theorem card : Rows.FnScriptCutCardSaid :=
  Claim7.holds_tied_plain_at .later [] _ _ _ _ said (fun _ h => by cases h) (by kernel_rfl) (fun _ h => by cases h) fnScriptCut_row_tie rfl ⟨rfl, rfl⟩ X.main_is rfl plain (by kernel_rfl)
end Go.Proofs.YtdjdgnabcecdlaaGreatDoor.fnScriptCut
namespace Go.Proofs.YtdjdgnabcecdlaaGreatDoor
theorem fnScriptCut_proved : Rows.FnScriptCutCardSaid := fnScriptCut.card
#print axioms fnScriptCut_proved
end Go.Proofs.YtdjdgnabcecdlaaGreatDoor
