/- For every input the law FnExactAnswersAhead returns true, and its arguments read afterwards as before. No condition: every graph and every number is covered. -/
import Derived.Test.YtjffaedlmplcnaaRows
import Derived.Test.YtjffaedlmplcnaaL74
import Derived.Test.YtjffaedlmplcnaaLawO
import Derived.WalkKit
import Derived.ProofKit
import Derived.OpenShut
import Derived.ShutString
import Derived.ChangeOld
import Derived.Below
namespace Go.Proofs.Ytjffaedlmplcnaa.fnExactAnswersAhead
open Go.ChangeShapes Go.WideShapes Go.ChangeAt Go.RowKit Go.Joins
set_option linter.unusedVariables false

theorem own : ownKnob Try.prog.godebug = none := by kernel_rfl
theorem laidOut : laidOutB Try.prog = true := by kernel_rfl

set_option maxRecDepth 100000 in
theorem lifted (os : Os) (started : os.Started) (H : Type) (enc : TypeId × Value → H) :
    ReturnsInHanded {} Try.checked os 5 .any (Rows.fnExactAnswersAheadSpec.pre6 enc Try.prog Try.f5 Rows.fnExactAnswersAheadRow.domain false) (Rows.fnExactAnswersAheadSpec.post enc Try.prog Try.f5 false true false false) := by
  refine returnsInHanded_of_change (C := Try.checked) own started (by kernel_rfl) Try.func5
    (ChangeSpec.witness6 (enc := enc) (C := Try.checked) false ⟨#[], #[.int .i64 0, .slice none 0 0], []⟩ 8 (by kernel_rfl) (by kernel_rfl) (by kernel_rfl) (by kernel_rfl)) ?_
  intro W base args ds gs before hval0 hW hcnd _
  have hval : ∀ (j : Nat) t v, Try.f5.params[j]? = some t → args[j]? = some v → Value.okWide Try.prog W .any base t v := hval0
  have hW' := hW
  obtain ⟨p, q, hA0, hV, rfl, hfz, hnd⟩ := hW
  have hA : DataW.TrodAll enc Try.prog W 0 (fun _ => true) true Try.f5.params.toList args.toList ds p := hA0
  rw [Try.params5] at hA hval
  obtain ⟨v0, vs0, d0, ds0, p0, q0, hargs0, rfl, rfl, h0, r0⟩ := trodAll_cons hA
  obtain ⟨v1, vs1, d1, ds1, p1, q1, hargs1, rfl, rfl, h1, r1⟩ := trodAll_cons r0
  obtain ⟨rfl, rfl, rfl⟩ := trodAll_nil r1
  obtain rfl : args = #[v0, v1] := by cases args; simp_all
  obtain ⟨rfl, rfl⟩ := trodVars_none hV
  obtain ⟨ops1, F, okq1, okl1, hF, rep1⟩ := X.ops_in Try.underlying57 Try.underlying121 (by kernel_rfl) rfl rfl (by kernel_rfl) (by kernel_rfl) Try.underlying119 rfl rfl (by kernel_rfl) (by kernel_rfl) Try.underlying3 Try.underlying3 Try.underlying3 (hval 1 57 v1 rfl rfl) h1
  obtain ⟨x0, okx0, rep0⟩ := X.int_in F Try.underlying3 (hval 0 3 v0 rfl rfl) h0
  have k0 := h0
  have lt0 : ∀ x ∈ p0, x.block < W.heap.size := by obtain ⟨m, hm⟩ := k0; exact DataW.trod_lt m _ _ _ hm
  have k1 := h1
  have lt1 : ∀ x ∈ p1, x.block < W.heap.size := by obtain ⟨m, hm⟩ := k1; exact DataW.trod_lt m _ _ _ hm
  clear hA0 hval0
  have reps := X.rep_many (F := F) (w := W) (ps := _) (vs := [v0, v1]) (.cons rep0 (.cons rep1 (.nil)))
  refine (X.call_true (X.law_ExactAnswersAhead x0 okx0 ops1 okq1 okl1) hF reps.1 reps.2).mono fun e W' ⟨he, bel⟩ => ?_
  subst he
  exact ⟨_, rfl, _, _, _, [], _, [], hW', trodAll_mk1 (shut_bool Try.underlying4 _), (trodAll_cons_mk (Below.trod laidOut (by kernel_rfl) (of_decide_eq_true (by kernel_rfl)) k0 bel lt0) (trodAll_cons_mk (Below.trod laidOut (by kernel_rfl) (of_decide_eq_true (by kernel_rfl)) k1 bel lt1) trodAll_mk0)), rfl, bel.frame _, fun h => by cases h⟩

theorem closed : joinedFacts Try.prog 5 Try.f5 Rows.fnExactAnswersAheadSpec Rows.fnExactAnswersAheadRow = true := by
  unfold joinedFacts
  rw [X.may, X.lifts, X.made]
  kernel_rfl
theorem over : Rows.fnExactAnswersAheadRow.holds Try.pinned (OpenSpec.ofChange Rows.fnExactAnswersAheadSpec) :=
  OpenClaim.holds_of_wide 5 Try.f5 rfl rfl rfl rfl rfl rfl rfl ⟨rfl, rfl, rfl, rfl, rfl⟩ rfl rfl rfl rfl rfl (by kernel_rfl) Try.func5 closed
    (of_decide_eq_true (by kernel_rfl)) (by unfold Func.isWrapper; first | (rw [if_pos (by decide +kernel)]; kernel_rfl) | (rw [if_neg (by decide +kernel)]; exact ⟨rfl, rfl⟩))
    (fun os started H enc _ => lifted os started H enc)
end Go.Proofs.Ytjffaedlmplcnaa.fnExactAnswersAhead
namespace Go.Proofs.Ytjffaedlmplcnaa
theorem fnExactAnswersAhead_proved : Rows.FnExactAnswersAheadSaid := fnExactAnswersAhead.over
#print axioms fnExactAnswersAhead_proved
end Go.Proofs.Ytjffaedlmplcnaa
