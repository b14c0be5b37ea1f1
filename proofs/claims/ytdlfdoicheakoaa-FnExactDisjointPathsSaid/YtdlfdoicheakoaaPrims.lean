/- The library functions that are taken as a whole, at this program. -/
import Derived.Test.YtdlfdoicheakoaaPrimS
import Derived.Test.YtdlfdoicheakoaaShelf
import Derived.Test.YtdlfdoicheakoaaInsW
import Derived.WalkKit
import Derived.ProofKit
import Derived.OwnWalk
set_option linter.unusedVariables false
namespace Go.Proofs.Ytdlfdoicheakoaa.X
open Go Go.Proofs Go.RowKit
set_option maxRecDepth 100000 in
theorem clone0_29 (ao : Option Addr) (cap : Nat) (w : World) : Calls Try.prog 29 #[.slice ao 0 cap] w fun e w' => ∃ a', e = .returned (.slice a' 0 0) ∧ Below w.heap.size w w' := by
  have he : ∀ w, (binOp .eql 26 (.slice ao 0 cap) (.slice none 0 0)).run Try.prog w = .ok (.bool ao.isNone) w := fun w => run_eql_nilS ao 0 cap Try.underlying26 w
  cases ao with
  | none =>
    simp only [Option.isNone_none] at he
    go_enter Try.func29, Try.ntmps29
    go_wp2
    go_ret
    exact ⟨_, rfl, Below.refl _ _⟩
  | some a =>
    simp only [Option.isNone_some] at he
    go_enter Try.func29, Try.ntmps29
    go_wp2
    go_ret
    exact ⟨_, rfl, (Below.refl _ _).alloc (Nat.le_refl _) _⟩
set_option maxRecDepth 100000 in
theorem clone0_31 (ao : Option Addr) (cap : Nat) (w : World) : Calls Try.prog 31 #[.slice ao 0 cap] w fun e w' => ∃ a', e = .returned (.slice a' 0 0) ∧ Below w.heap.size w w' := by
  have he : ∀ w, (binOp .eql 27 (.slice ao 0 cap) (.slice none 0 0)).run Try.prog w = .ok (.bool ao.isNone) w := fun w => run_eql_nilS ao 0 cap Try.underlying27 w
  cases ao with
  | none =>
    simp only [Option.isNone_none] at he
    go_enter Try.func31, Try.ntmps31
    go_wp2
    go_ret
    exact ⟨_, rfl, Below.refl _ _⟩
  | some a =>
    simp only [Option.isNone_some] at he
    go_enter Try.func31, Try.ntmps31
    go_wp2
    go_ret
    exact ⟨_, rfl, (Below.refl _ _).alloc (Nat.le_refl _) _⟩
set_option maxRecDepth 100000 in
theorem clone0_76 (ao : Option Addr) (cap : Nat) (w : World) : Calls Try.prog 76 #[.slice ao 0 cap] w fun e w' => ∃ a', e = .returned (.slice a' 0 0) ∧ Below w.heap.size w w' := by
  have he : ∀ w, (binOp .eql 23 (.slice ao 0 cap) (.slice none 0 0)).run Try.prog w = .ok (.bool ao.isNone) w := fun w => run_eql_nilS ao 0 cap Try.underlying23 w
  cases ao with
  | none =>
    simp only [Option.isNone_none] at he
    go_enter Try.func76, Try.ntmps76
    go_wp2
    go_ret
    exact ⟨_, rfl, Below.refl _ _⟩
  | some a =>
    simp only [Option.isNone_some] at he
    go_enter Try.func76, Try.ntmps76
    go_wp2
    go_ret
    exact ⟨_, rfl, (Below.refl _ _).alloc (Nat.le_refl _) _⟩
theorem prims_ok : CallOK Try.prog (primC cfg) := by
  intro f args ps r ps' own h hps
  have h0 : primC cfg f args ps = some (r, ps', own) := h
  simp only [primC, cfg] at h0
  by_cases h28 : f = 28
  · rw [if_pos h28] at h0
    subst h28
    exact ⟨enters_of Try.func28 rfl rfl, fun γ F w vals hi hl hv => ins_ok (by decide) ins_room_28 ins_grow_28 h0 hi hl hv⟩
  rw [if_neg h28] at h0
  by_cases h29 : f = 29
  · rw [if_pos h29] at h0
    subst h29
    exact ⟨enters_of Try.func29 rfl rfl, fun γ F w vals hi hl hv => clone_ok clone0_29 h0 hi hl hv⟩
  rw [if_neg h29] at h0
  by_cases h30 : f = 30
  · rw [if_pos h30] at h0
    subst h30
    exact ⟨enters_of Try.func30 rfl rfl, fun γ F w vals hi hl hv => ins_ok (by decide) ins_room_30 ins_grow_30 h0 hi hl hv⟩
  rw [if_neg h30] at h0
  by_cases h31 : f = 31
  · rw [if_pos h31] at h0
    subst h31
    exact ⟨enters_of Try.func31 rfl rfl, fun γ F w vals hi hl hv => clone_ok clone0_31 h0 hi hl hv⟩
  rw [if_neg h31] at h0
  by_cases h75 : f = 75
  · rw [if_pos h75] at h0
    subst h75
    exact ⟨enters_of Try.func75 rfl rfl, fun γ F w vals hi hl hv => ins_ok (by decide) ins_room_75 ins_grow_75 h0 hi hl hv⟩
  rw [if_neg h75] at h0
  by_cases h76 : f = 76
  · rw [if_pos h76] at h0
    subst h76
    exact ⟨enters_of Try.func76 rfl rfl, fun γ F w vals hi hl hv => clone_ok clone0_76 h0 hi hl hv⟩
  rw [if_neg h76] at h0
  by_cases h117 : f = 117
  · rw [if_pos h117] at h0
    subst h117
    exact ⟨enters_of Try.func117 rfl rfl, fun γ F w vals hi hl hv => mul_ok Try.bits_Mul h0 hi hl hv⟩
  rw [if_neg h117] at h0
  by_cases h118 : f = 118
  · rw [if_pos h118] at h0
    subst h118
    exact ⟨enters_of Try.func118 rfl rfl, fun γ F w vals hi hl hv => sort_ok Try.slices_Sort_int Try.slices_Sort_int_none h0 hi hl hv⟩
  rw [if_neg h118] at h0
  cases h0
theorem KP_ok : CallOK Try.prog KP := KK_ok (by kernel_rfl) prims_ok
end Go.Proofs.Ytdlfdoicheakoaa.X
