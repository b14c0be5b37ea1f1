/- The library functions that are taken as a whole, at this program. -/
import Derived.Test.YtagpdfbgimnljaaPrimS
import Derived.Test.YtagpdfbgimnljaaShelf
import Derived.Test.YtagpdfbgimnljaaInsW
import Derived.Test.YtagpdfbgimnljaaSortF
import Derived.WalkKit
import Derived.ProofKit
import Derived.OwnWalk
set_option linter.unusedVariables false
namespace Go.Proofs.Ytagpdfbgimnljaa.X
open Go Go.Proofs Go.RowKit
set_option maxRecDepth 100000 in
theorem clone0_97 (ao : Option Addr) (cap : Nat) (w : World) : Calls Try.prog 97 #[.slice ao 0 cap] w fun e w' => ∃ a', e = .returned (.slice a' 0 0) ∧ Below w.heap.size w w' := by
  have he : ∀ w, (binOp .eql 56 (.slice ao 0 cap) (.slice none 0 0)).run Try.prog w = .ok (.bool ao.isNone) w := fun w => run_eql_nilS ao 0 cap Try.underlying56 w
  cases ao with
  | none =>
    simp only [Option.isNone_none] at he
    go_enter Try.func97, Try.ntmps97
    go_wp2
    go_ret
    exact ⟨_, rfl, Below.refl _ _⟩
  | some a =>
    simp only [Option.isNone_some] at he
    go_enter Try.func97, Try.ntmps97
    go_wp2
    go_ret
    exact ⟨_, rfl, (Below.refl _ _).alloc (Nat.le_refl _) _⟩
set_option maxRecDepth 100000 in
theorem clone0_99 (ao : Option Addr) (cap : Nat) (w : World) : Calls Try.prog 99 #[.slice ao 0 cap] w fun e w' => ∃ a', e = .returned (.slice a' 0 0) ∧ Below w.heap.size w w' := by
  have he : ∀ w, (binOp .eql 26 (.slice ao 0 cap) (.slice none 0 0)).run Try.prog w = .ok (.bool ao.isNone) w := fun w => run_eql_nilS ao 0 cap Try.underlying26 w
  cases ao with
  | none =>
    simp only [Option.isNone_none] at he
    go_enter Try.func99, Try.ntmps99
    go_wp2
    go_ret
    exact ⟨_, rfl, Below.refl _ _⟩
  | some a =>
    simp only [Option.isNone_some] at he
    go_enter Try.func99, Try.ntmps99
    go_wp2
    go_ret
    exact ⟨_, rfl, (Below.refl _ _).alloc (Nat.le_refl _) _⟩
set_option maxRecDepth 100000 in
theorem clone0_162 (ao : Option Addr) (cap : Nat) (w : World) : Calls Try.prog 162 #[.slice ao 0 cap] w fun e w' => ∃ a', e = .returned (.slice a' 0 0) ∧ Below w.heap.size w w' := by
  have he : ∀ w, (binOp .eql 50 (.slice ao 0 cap) (.slice none 0 0)).run Try.prog w = .ok (.bool ao.isNone) w := fun w => run_eql_nilS ao 0 cap Try.underlying50 w
  cases ao with
  | none =>
    simp only [Option.isNone_none] at he
    go_enter Try.func162, Try.ntmps162
    go_wp2
    go_ret
    exact ⟨_, rfl, Below.refl _ _⟩
  | some a =>
    simp only [Option.isNone_some] at he
    go_enter Try.func162, Try.ntmps162
    go_wp2
    go_ret
    exact ⟨_, rfl, (Below.refl _ _).alloc (Nat.le_refl _) _⟩
theorem prims_ok : CallOK Try.prog (primC cfg) := by
  intro f args ps r ps' own h hps
  have h0 : primC cfg f args ps = some (r, ps', own) := h
  simp only [primC, cfg] at h0
  by_cases h96 : f = 96
  · rw [if_pos h96] at h0
    subst h96
    exact ⟨enters_of Try.func96 rfl rfl, fun γ F w vals hi hl hv => ins_ok (by decide) ins_room_96 ins_grow_96 h0 hi hl hv⟩
  rw [if_neg h96] at h0
  by_cases h97 : f = 97
  · rw [if_pos h97] at h0
    subst h97
    exact ⟨enters_of Try.func97 rfl rfl, fun γ F w vals hi hl hv => clone_ok clone0_97 h0 hi hl hv⟩
  rw [if_neg h97] at h0
  by_cases h98 : f = 98
  · rw [if_pos h98] at h0
    subst h98
    exact ⟨enters_of Try.func98 rfl rfl, fun γ F w vals hi hl hv => ins_ok (by decide) ins_room_98 ins_grow_98 h0 hi hl hv⟩
  rw [if_neg h98] at h0
  by_cases h99 : f = 99
  · rw [if_pos h99] at h0
    subst h99
    exact ⟨enters_of Try.func99 rfl rfl, fun γ F w vals hi hl hv => clone_ok clone0_99 h0 hi hl hv⟩
  rw [if_neg h99] at h0
  by_cases h138 : f = 138
  · rw [if_pos h138] at h0
    subst h138
    exact ⟨enters_of Try.func138 rfl rfl, fun γ F w vals hi hl hv => sortF_ok h0 hi hl hv⟩
  rw [if_neg h138] at h0
  by_cases h140 : f = 140
  · rw [if_pos h140] at h0
    subst h140
    exact ⟨enters_of Try.func140 rfl rfl, fun γ F w vals hi hl hv => sort_ok Try.slices_Sort_int Try.slices_Sort_int_none h0 hi hl hv⟩
  rw [if_neg h140] at h0
  by_cases h161 : f = 161
  · rw [if_pos h161] at h0
    subst h161
    exact ⟨enters_of Try.func161 rfl rfl, fun γ F w vals hi hl hv => ins_ok (by decide) ins_room_161 ins_grow_161 h0 hi hl hv⟩
  rw [if_neg h161] at h0
  by_cases h162 : f = 162
  · rw [if_pos h162] at h0
    subst h162
    exact ⟨enters_of Try.func162 rfl rfl, fun γ F w vals hi hl hv => clone_ok clone0_162 h0 hi hl hv⟩
  rw [if_neg h162] at h0
  by_cases h224 : f = 224
  · rw [if_pos h224] at h0
    subst h224
    exact ⟨enters_of Try.func224 rfl rfl, fun γ F w vals hi hl hv => mul_ok Try.bits_Mul h0 hi hl hv⟩
  rw [if_neg h224] at h0
  cases h0
theorem KP_ok : CallOK Try.prog KP := KK_ok (by kernel_rfl) prims_ok
end Go.Proofs.Ytagpdfbgimnljaa.X
