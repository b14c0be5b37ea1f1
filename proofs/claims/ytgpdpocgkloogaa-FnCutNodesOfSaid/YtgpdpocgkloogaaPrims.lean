/- The library functions that are taken as a whole, at this program. -/
import Derived.Test.YtgpdpocgkloogaaPrimS
import Derived.Test.YtgpdpocgkloogaaShelf
import Derived.WalkKit
import Derived.ProofKit
import Derived.OwnWalk
set_option linter.unusedVariables false
namespace Go.Proofs.Ytgpdpocgkloogaa.X
open Go Go.Proofs Go.RowKit

set_option maxRecDepth 100000 in
theorem clone0_129 (ao : Option Addr) (cap : Nat) (w : World) : Calls Try.prog 129 #[.slice ao 0 cap] w fun e w' => ∃ a', e = .returned (.slice a' 0 0) ∧ Below w.heap.size w w' := by
  have he : ∀ w, (binOp .eql 27 (.slice ao 0 cap) (.slice none 0 0)).run Try.prog w = .ok (.bool ao.isNone) w := fun w => run_eql_nilS ao 0 cap Try.underlying27 w
  cases ao with
  | none =>
    simp only [Option.isNone_none] at he
    go_enter Try.func129, Try.ntmps129
    go_wp2
    go_ret
    exact ⟨_, rfl, Below.refl _ _⟩
  | some a =>
    simp only [Option.isNone_some] at he
    go_enter Try.func129, Try.ntmps129
    go_wp2
    go_ret
    exact ⟨_, rfl, (Below.refl _ _).alloc (Nat.le_refl _) _⟩

theorem prims_ok : CallOK Try.prog (primC cfg) := by
  intro f args ps r ps' own h hps
  have h0 : primC cfg f args ps = some (r, ps', own) := h
  simp only [primC, cfg] at h0
  by_cases h101 : f = 101
  · rw [if_pos h101] at h0
    subst h101
    exact ⟨enters_of Try.func101 rfl rfl, fun γ F w vals hi hl hv => sort_ok Try.slices_Sort_int Try.slices_Sort_int_none h0 hi hl hv⟩
  rw [if_neg h101] at h0
  by_cases h122 : f = 122
  · rw [if_pos h122] at h0
    subst h122
    exact ⟨enters_of Try.func122 rfl rfl, fun γ F w vals hi hl hv => mul_ok Try.bits_Mul h0 hi hl hv⟩
  rw [if_neg h122] at h0
  by_cases h129 : f = 129
  · rw [if_pos h129] at h0
    subst h129
    exact ⟨enters_of Try.func129 rfl rfl, fun γ F w vals hi hl hv => clone_ok clone0_129 h0 hi hl hv⟩
  rw [if_neg h129] at h0
  cases h0

theorem KP_ok : CallOK Try.prog KP := KK_ok (by kernel_rfl) prims_ok
end Go.Proofs.Ytgpdpocgkloogaa.X
