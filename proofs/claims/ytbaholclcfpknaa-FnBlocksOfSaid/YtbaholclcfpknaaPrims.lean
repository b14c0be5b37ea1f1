/- The library functions that are taken as a whole, at this program. -/
import Derived.Test.YtbaholclcfpknaaPrimS
import Derived.Test.YtbaholclcfpknaaShelf
import Derived.Test.YtbaholclcfpknaaInsW
import Derived.Test.YtbaholclcfpknaaSortF
import Derived.WalkKit
import Derived.ProofKit
import Derived.OwnWalk
set_option linter.unusedVariables false
namespace Go.Proofs.Ytbaholclcfpknaa.X
open Go Go.Proofs Go.RowKit

set_option maxRecDepth 100000 in
theorem clone0_104 (ao : Option Addr) (cap : Nat) (w : World) : Calls Try.prog 104 #[.slice ao 0 cap] w fun e w' => ∃ a', e = .returned (.slice a' 0 0) ∧ Below w.heap.size w w' := by
  have he : ∀ w, (binOp .eql 23 (.slice ao 0 cap) (.slice none 0 0)).run Try.prog w = .ok (.bool ao.isNone) w := fun w => run_eql_nilS ao 0 cap Try.underlying23 w
  cases ao with
  | none =>
    simp only [Option.isNone_none] at he
    go_enter Try.func104, Try.ntmps104
    go_wp2
    go_ret
    exact ⟨_, rfl, Below.refl _ _⟩
  | some a =>
    simp only [Option.isNone_some] at he
    go_enter Try.func104, Try.ntmps104
    go_wp2
    go_ret
    exact ⟨_, rfl, (Below.refl _ _).alloc (Nat.le_refl _) _⟩

theorem prims_ok : CallOK Try.prog (primC cfg) := by
  intro f args ps r ps' own h hps
  have h0 : primC cfg f args ps = some (r, ps', own) := h
  simp only [primC, cfg] at h0
  by_cases h65 : f = 65
  · rw [if_pos h65] at h0
    subst h65
    exact ⟨enters_of Try.func65 rfl rfl, fun γ F w vals hi hl hv => sortF_ok h0 hi hl hv⟩
  rw [if_neg h65] at h0
  by_cases h103 : f = 103
  · rw [if_pos h103] at h0
    subst h103
    exact ⟨enters_of Try.func103 rfl rfl, fun γ F w vals hi hl hv => ins_ok (by decide) ins_room_103 ins_grow_103 h0 hi hl hv⟩
  rw [if_neg h103] at h0
  by_cases h104 : f = 104
  · rw [if_pos h104] at h0
    subst h104
    exact ⟨enters_of Try.func104 rfl rfl, fun γ F w vals hi hl hv => clone_ok clone0_104 h0 hi hl hv⟩
  rw [if_neg h104] at h0
  by_cases h147 : f = 147
  · rw [if_pos h147] at h0
    subst h147
    exact ⟨enters_of Try.func147 rfl rfl, fun γ F w vals hi hl hv => sort_ok Try.slices_Sort_int Try.slices_Sort_int_none h0 hi hl hv⟩
  rw [if_neg h147] at h0
  by_cases h190 : f = 190
  · rw [if_pos h190] at h0
    subst h190
    exact ⟨enters_of Try.func190 rfl rfl, fun γ F w vals hi hl hv => mul_ok Try.bits_Mul h0 hi hl hv⟩
  rw [if_neg h190] at h0
  cases h0

theorem KP_ok : CallOK Try.prog KP := KK_ok (by kernel_rfl) prims_ok
end Go.Proofs.Ytbaholclcfpknaa.X
