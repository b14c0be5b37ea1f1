/- The library functions that are taken as a whole, at this program. -/
import Derived.Test.YtjffaedlmplcnaaPrimS
import Derived.Test.YtjffaedlmplcnaaShelf
import Derived.Test.YtjffaedlmplcnaaInsW
import Derived.WalkKit
import Derived.ProofKit
import Derived.OwnWalk
set_option linter.unusedVariables false
namespace Go.Proofs.Ytjffaedlmplcnaa.X
open Go Go.Proofs Go.RowKit
set_option maxRecDepth 100000 in
theorem clone0_45 (ao : Option Addr) (cap : Nat) (w : World) : Calls Try.prog 45 #[.slice ao 0 cap] w fun e w' => ∃ a', e = .returned (.slice a' 0 0) ∧ Below w.heap.size w w' := by
  have he : ∀ w, (binOp .eql 26 (.slice ao 0 cap) (.slice none 0 0)).run Try.prog w = .ok (.bool ao.isNone) w := fun w => run_eql_nilS ao 0 cap Try.underlying26 w
  cases ao with
  | none =>
    simp only [Option.isNone_none] at he
    go_enter Try.func45, Try.ntmps45
    go_wp2
    go_ret
    exact ⟨_, rfl, Below.refl _ _⟩
  | some a =>
    simp only [Option.isNone_some] at he
    go_enter Try.func45, Try.ntmps45
    go_wp2
    go_ret
    exact ⟨_, rfl, (Below.refl _ _).alloc (Nat.le_refl _) _⟩
set_option maxRecDepth 100000 in
theorem clone0_47 (ao : Option Addr) (cap : Nat) (w : World) : Calls Try.prog 47 #[.slice ao 0 cap] w fun e w' => ∃ a', e = .returned (.slice a' 0 0) ∧ Below w.heap.size w w' := by
  have he : ∀ w, (binOp .eql 27 (.slice ao 0 cap) (.slice none 0 0)).run Try.prog w = .ok (.bool ao.isNone) w := fun w => run_eql_nilS ao 0 cap Try.underlying27 w
  cases ao with
  | none =>
    simp only [Option.isNone_none] at he
    go_enter Try.func47, Try.ntmps47
    go_wp2
    go_ret
    exact ⟨_, rfl, Below.refl _ _⟩
  | some a =>
    simp only [Option.isNone_some] at he
    go_enter Try.func47, Try.ntmps47
    go_wp2
    go_ret
    exact ⟨_, rfl, (Below.refl _ _).alloc (Nat.le_refl _) _⟩
set_option maxRecDepth 100000 in
theorem clone0_102 (ao : Option Addr) (cap : Nat) (w : World) : Calls Try.prog 102 #[.slice ao 0 cap] w fun e w' => ∃ a', e = .returned (.slice a' 0 0) ∧ Below w.heap.size w w' := by
  have he : ∀ w, (binOp .eql 23 (.slice ao 0 cap) (.slice none 0 0)).run Try.prog w = .ok (.bool ao.isNone) w := fun w => run_eql_nilS ao 0 cap Try.underlying23 w
  cases ao with
  | none =>
    simp only [Option.isNone_none] at he
    go_enter Try.func102, Try.ntmps102
    go_wp2
    go_ret
    exact ⟨_, rfl, Below.refl _ _⟩
  | some a =>
    simp only [Option.isNone_some] at he
    go_enter Try.func102, Try.ntmps102
    go_wp2
    go_ret
    exact ⟨_, rfl, (Below.refl _ _).alloc (Nat.le_refl _) _⟩
theorem prims_ok : CallOK Try.prog (primC cfg) := by
  intro f args ps r ps' own h hps
  have h0 : primC cfg f args ps = some (r, ps', own) := h
  simp only [primC, cfg] at h0
  by_cases h44 : f = 44
  · rw [if_pos h44] at h0
    subst h44
    exact ⟨enters_of Try.func44 rfl rfl, fun γ F w vals hi hl hv => ins_ok (by decide) ins_room_44 ins_grow_44 h0 hi hl hv⟩
  rw [if_neg h44] at h0
  by_cases h45 : f = 45
  · rw [if_pos h45] at h0
    subst h45
    exact ⟨enters_of Try.func45 rfl rfl, fun γ F w vals hi hl hv => clone_ok clone0_45 h0 hi hl hv⟩
  rw [if_neg h45] at h0
  by_cases h46 : f = 46
  · rw [if_pos h46] at h0
    subst h46
    exact ⟨enters_of Try.func46 rfl rfl, fun γ F w vals hi hl hv => ins_ok (by decide) ins_room_46 ins_grow_46 h0 hi hl hv⟩
  rw [if_neg h46] at h0
  by_cases h47 : f = 47
  · rw [if_pos h47] at h0
    subst h47
    exact ⟨enters_of Try.func47 rfl rfl, fun γ F w vals hi hl hv => clone_ok clone0_47 h0 hi hl hv⟩
  rw [if_neg h47] at h0
  by_cases h101 : f = 101
  · rw [if_pos h101] at h0
    subst h101
    exact ⟨enters_of Try.func101 rfl rfl, fun γ F w vals hi hl hv => ins_ok (by decide) ins_room_101 ins_grow_101 h0 hi hl hv⟩
  rw [if_neg h101] at h0
  by_cases h102 : f = 102
  · rw [if_pos h102] at h0
    subst h102
    exact ⟨enters_of Try.func102 rfl rfl, fun γ F w vals hi hl hv => clone_ok clone0_102 h0 hi hl hv⟩
  rw [if_neg h102] at h0
  by_cases h152 : f = 152
  · rw [if_pos h152] at h0
    subst h152
    exact ⟨enters_of Try.func152 rfl rfl, fun γ F w vals hi hl hv => mul_ok Try.bits_Mul h0 hi hl hv⟩
  rw [if_neg h152] at h0
  by_cases h153 : f = 153
  · rw [if_pos h153] at h0
    subst h153
    exact ⟨enters_of Try.func153 rfl rfl, fun γ F w vals hi hl hv => sort_ok Try.slices_Sort_int Try.slices_Sort_int_none h0 hi hl hv⟩
  rw [if_neg h153] at h0
  cases h0
theorem KP_ok : CallOK Try.prog KP := KK_ok (by kernel_rfl) prims_ok
end Go.Proofs.Ytjffaedlmplcnaa.X
