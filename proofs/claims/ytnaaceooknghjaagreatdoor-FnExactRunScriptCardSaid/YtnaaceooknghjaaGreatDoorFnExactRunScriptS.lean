/- For every input the law FnExactRunScript returns true, and its arguments read afterwards as before; the row lists variables of the library, and the card ties them to the program's text. No further condition: every argument is covered. -/
import Derived.Test.YtnaaceooknghjaaGreatDoorRows
import Derived.Test.YtnaaceooknghjaaGreatDoorL71
import Derived.Test.YtnaaceooknghjaaGreatDoorLaw
import Derived.Test.YtnaaceooknghjaaGreatDoorLaid
import Derived.Test.YtnaaceooknghjaaGreatDoorVWof
import Derived.WalkKit
import Derived.ProofKit
import Derived.OpenShut
import Derived.Below
import Derived.ChangeMaps5
namespace Go.Proofs.YtnaaceooknghjaaGreatDoor.fnExactRunScript
open X (IsRow)
open Go.ChangeMaps (open_string shut_string)
open Go.ChangeShapes Go.WideShapes Go.ChangeAt Go.RowKit
set_option linter.unusedVariables false

theorem laidOut : laidOutB Tryz.prog = true := by kernel_rfl
theorem walk (a0 : ByteArray) (w : World) (vw : X.VW w) :
    Calls Tryz.prog 3 #[.string a0] w fun e w' => e = .returned (.bool true) ∧ Below w.heap.size w w' := by
  exact X.law_walkS X.law_ExactRunScript a0 w vw

set_option maxRecDepth 100000 in
theorem lifted (os : Os) (started : os.Started) (H : Type) (enc : TypeId × Value → H) (F : Stop.Interp) :
    ReturnsInHanded {} Tryz.checked os 3 .any ((OpenSpec.ofChange Rows.fnExactRunScriptSpec).preRow enc Tryz.prog Tryz.f3 Rows.fnExactRunScriptRow.domain false Rows.fnExactRunScriptRow.laid) (((OpenSpec.ofChange Rows.fnExactRunScriptSpec).at F).post enc Tryz.prog Tryz.f3 false true false false) := by
  obtain ⟨places, hx⟩ := X.reads_nil os enc
  refine returnsInHanded_of_row (C := Tryz.checked) (s := OpenSpec.ofChange Rows.fnExactRunScriptSpec) X.own_knob started (by kernel_rfl) Tryz.func3
    (witness_row_atRef (enc := enc) (C := Tryz.checked) false (X.laidWorld os) X.argS rfl (X.laid_refs os) (X.laid_tail os) (by kernel_rfl)
      (OpenSpec.preRow_of_cond 8 hx (by kernel_rfl) (fun k hk => by cases hk) (by kernel_rfl) (X.laid_met os))) ?_
  intro W base args ds gs before hval0 hW _ _ _ hL _ _
  have vw : X.VW W := X.vw_of hL
  have hval : ∀ (j : Nat) t v, Tryz.f3.params[j]? = some t → args[j]? = some v → Value.okWide Tryz.prog W .any base t v := hval0
  have hW' := hW
  obtain ⟨p, q, hA0, hV, rfl, hfz, hnd⟩ := hW
  have hA : DataW.TrodAll enc Tryz.prog W 0 (fun _ => true) true Tryz.f3.params.toList args.toList ds p := hA0
  rw [Tryz.params3] at hA hval
  obtain ⟨v0, vs0, d0, ds0, p0, q0, hargs, rfl, rfl, h0, r0⟩ := trodAll_cons hA
  obtain ⟨rfl, rfl, rfl⟩ := trodAll_nil r0
  obtain rfl : args = #[v0] := by cases args; simp_all
  obtain ⟨rfl, rfl⟩ := trodVars_none hV
  obtain ⟨a0, rfl, rfl, rfl, w0⟩ := open_string Tryz.underlying9 (hval 0 9 v0 rfl rfl) h0
  clear hA0 hval0
  refine (walk a0 W vw).mono fun e W' ⟨he, bel⟩ => ?_
  subst he
  exact ⟨_, rfl, _, _, _, [], _, [], hW', trodAll_mk1 (shut_bool Tryz.underlying4 _), (trodAll_cons_mk (shut_string Tryz.underlying9 w0) trodAll_mk0), rfl, bel.frame _, fun h => by cases h⟩

theorem closed : joinedFacts Tryz.prog 3 Tryz.f3 Rows.fnExactRunScriptSpec Rows.fnExactRunScriptRow = true := by
  unfold joinedFacts
  rw [X.may, X.lifts, X.made]
  kernel_rfl
set_option maxRecDepth 100000 in
theorem said : Rows.FnExactRunScriptSaid :=
  OpenClaim.holds_of_cond 3 Tryz.f3 rfl rfl rfl rfl rfl rfl rfl ⟨rfl, rfl, rfl, rfl, rfl⟩ rfl rfl rfl rfl rfl (by kernel_rfl) Tryz.func3 closed
    (of_decide_eq_true (by kernel_rfl)) (by unfold Func.isWrapper; first | (rw [if_pos (by decide +kernel)]; kernel_rfl) | (rw [if_neg (by decide +kernel)]; exact ⟨rfl, rfl⟩))
    (fun os started H enc _ F => by rw [OpenClaim.pre_eq_preRow]; exact lifted os started H enc F)
end Go.Proofs.YtnaaceooknghjaaGreatDoor.fnExactRunScript
