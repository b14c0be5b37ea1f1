/- The tied card of the law FnParseEdge: for every input it returns true, and its argument reads afterwards as before; what its row lists is tied to the program's text. -/
import Derived.Test.YtdjdgnabcecdlaaDoorFnParseEdgeS
import Derived.Test.YtdjdgnabcecdlaaDoorCards
import Derived.Test.YtdjdgnabcecdlaaDoorTie
import Derived.Test.YtdjdgnabcecdlaaDoorCardL
import Derived.SevenTiedAt
import Derived.KernelRfl
namespace Go.Proofs.YtdjdgnabcecdlaaDoor.fnParseEdge
theorem plain (f : FuncId) (fn : Func) (hf : Tryd.pinned.checked.prog.funcNamed "loop.example/dynamicbridges/laws.FnParseEdge" = some f) (hfn : Tryd.pinned.checked.prog.funcs[f]? = some fn) :
    true = Tryd.pinned.checked.prog.looks [] ∧ ∀ (j : Nat) t, fn.params[j]? = some t → Tryd.pinned.checked.prog.wantsStandIn t = false := by
  obtain rfl : f = 3 := Option.some.inj ((show Tryd.prog.funcNamed "loop.example/dynamicbridges/laws.FnParseEdge" = some 3 by kernel_rfl).symm.trans hf) |>.symm
  obtain rfl : fn = Tryd.f3 := (Option.some.inj (Tryd.func3.symm.trans hfn)).symm
  refine ⟨X.looks_is, fun j t ht => ?_⟩
  rw [Tryd.params3] at ht
  obtain rfl : t = 22 := by simpa using Array.mem_of_getElem? ht
  exact (show Tryd.prog.wantsStandIn 22 = false by kernel_rfl)
set_option maxRecDepth 100000 in
theorem card : Rows.FnParseEdgeCardSaid :=
  Claim7.holds_tied_plain_at .later [] _ _ _ _ said (fun _ h => by cases h) (by kernel_rfl) (fun _ h => by cases h) fnParseEdge_row_tie rfl ⟨rfl, rfl⟩ X.main_is rfl plain (by kernel_rfl)
end Go.Proofs.YtdjdgnabcecdlaaDoor.fnParseEdge
namespace Go.Proofs.YtdjdgnabcecdlaaDoor
theorem fnParseEdge_proved : Rows.FnParseEdgeCardSaid := fnParseEdge.card
#print axioms fnParseEdge_proved
end Go.Proofs.YtdjdgnabcecdlaaDoor
