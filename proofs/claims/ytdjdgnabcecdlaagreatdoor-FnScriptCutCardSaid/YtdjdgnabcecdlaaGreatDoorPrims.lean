/- The library functions that are taken as a whole, at this program. -/
import Derived.Test.YtdjdgnabcecdlaaGreatDoorPrimS
import Derived.Test.YtdjdgnabcecdlaaGreatDoorShelf
import Derived.Test.YtdjdgnabcecdlaaGreatDoorInsW
import Derived.WalkKit
import Derived.ProofKit
import Derived.OwnWalk
set_option linter.unusedVariables false
namespace Go.Proofs.YtdjdgnabcecdlaaGreatDoor.X
open Go Go.Proofs Go.RowKit
set_option maxRecDepth 100000 in
theorem clone0_84 (ao : Option Addr) (cap : Nat) (w : World) : Calls Tryz.prog 84 #[.slice ao 0 cap] w fun e w' => ∃ a', e = .returned (.slice a' 0 0) ∧ Below w.heap.size w w' := by
  have he : ∀ w, (binOp .eql 23 (.slice ao 0 cap) (.slice none 0 0)).run Tryz.prog w = .ok (.bool ao.isNone) w := fun w => run_eql_nilS ao 0 cap Tryz.underlying23 w
  cases ao with
  | none =>
    simp only [Option.isNone_none] at he
    go_enter Tryz.func84, Tryz.ntmps84
    go_wp2
    go_ret
    exact ⟨_, rfl, Below.refl _ _⟩
  | some a =>
    simp only [Option.isNone_some] at he
    go_enter Tryz.func84, Tryz.ntmps84
    go_wp2
    go_ret
    exact ⟨_, rfl, (Below.refl _ _).alloc (Nat.le_refl _) _⟩
set_option maxRecDepth 100000 in
theorem clone0_207 (ao : Option Addr) (cap : Nat) (w : World) : Calls Tryz.prog 207 #[.slice ao 0 cap] w fun e w' => ∃ a', e = .returned (.slice a' 0 0) ∧ Below w.heap.size w w' := by
  have he : ∀ w, (binOp .eql 33 (.slice ao 0 cap) (.slice none 0 0)).run Tryz.prog w = .ok (.bool ao.isNone) w := fun w => run_eql_nilS ao 0 cap Tryz.underlying33 w
  cases ao with
  | none =>
    simp only [Option.isNone_none] at he
    go_enter Tryz.func207, Tryz.ntmps207
    go_wp2
    go_ret
    exact ⟨_, rfl, Below.refl _ _⟩
  | some a =>
    simp only [Option.isNone_some] at he
    go_enter Tryz.func207, Tryz.ntmps207
    go_wp2
    go_ret
    exact ⟨_, rfl, (Below.refl _ _).alloc (Nat.le_refl _) _⟩
set_option maxRecDepth 100000 in
theorem clone0_209 (ao : Option Addr) (cap : Nat) (w : World) : Calls Tryz.prog 209 #[.slice ao 0 cap] w fun e w' => ∃ a', e = .returned (.slice a' 0 0) ∧ Below w.heap.size w w' := by
  have he : ∀ w, (binOp .eql 81 (.slice ao 0 cap) (.slice none 0 0)).run Tryz.prog w = .ok (.bool ao.isNone) w := fun w => run_eql_nilS ao 0 cap Tryz.underlying81 w
  cases ao with
  | none =>
    simp only [Option.isNone_none] at he
    go_enter Tryz.func209, Tryz.ntmps209
    go_wp2
    go_ret
    exact ⟨_, rfl, Below.refl _ _⟩
  | some a =>
    simp only [Option.isNone_some] at he
    go_enter Tryz.func209, Tryz.ntmps209
    go_wp2
    go_ret
    exact ⟨_, rfl, (Below.refl _ _).alloc (Nat.le_refl _) _⟩
theorem prims_ok : CallOK Tryz.prog (primC cfg) := by
  intro f args ps r ps' own h hps
  have h0 : primC cfg f args ps = some (r, ps', own) := h
  simp only [primC, cfg] at h0
  by_cases h74 : f = 74
  · rw [if_pos h74] at h0
    subst h74
    exact ⟨enters_of Tryz.func74 rfl rfl, fun γ F w vals hi hl hv => itoa_ok Tryz.strconv_Itoa_small h0 hi hl hv⟩
  rw [if_neg h74] at h0
  by_cases h83 : f = 83
  · rw [if_pos h83] at h0
    subst h83
    exact ⟨enters_of Tryz.func83 rfl rfl, fun γ F w vals hi hl hv => ins_ok (by decide) ins_room_83 ins_grow_83 h0 hi hl hv⟩
  rw [if_neg h83] at h0
  by_cases h84 : f = 84
  · rw [if_pos h84] at h0
    subst h84
    exact ⟨enters_of Tryz.func84 rfl rfl, fun γ F w vals hi hl hv => clone_ok clone0_84 h0 hi hl hv⟩
  rw [if_neg h84] at h0
  by_cases h156 : f = 156
  · rw [if_pos h156] at h0
    subst h156
    exact ⟨enters_of Tryz.func156 rfl rfl, fun γ F w vals hi hl hv => sort_ok Tryz.slices_Sort_int Tryz.slices_Sort_int_none h0 hi hl hv⟩
  rw [if_neg h156] at h0
  by_cases h170 : f = 170
  · rw [if_pos h170] at h0
    subst h170
    exact ⟨enters_of Tryz.func170 rfl rfl, fun γ F w vals hi hl hv => mul_ok Tryz.bits_Mul h0 hi hl hv⟩
  rw [if_neg h170] at h0
  by_cases h172 : f = 172
  · rw [if_pos h172] at h0
    subst h172
    exact ⟨enters_of Tryz.func172 rfl rfl, fun γ F w vals hi hl hv => cnt_ok Tryz.strings_Count_one h0 hi hl hv⟩
  rw [if_neg h172] at h0
  by_cases h205 : f = 205
  · rw [if_pos h205] at h0
    subst h205
    exact ⟨enters_of Tryz.func205 rfl rfl, fun γ F w vals hi hl hv => atoi_ok (fun s n hl h w => (Tryz.strconv_Atoi s n hl h w).mono fun e w' he => ⟨he.1, by obtain ⟨_, t, rfl⟩ := he; exact Lib.bytesWorld_below _ _ _⟩) h0 hi hl hv⟩
  rw [if_neg h205] at h0
  by_cases h206 : f = 206
  · rw [if_pos h206] at h0
    subst h206
    exact ⟨enters_of Tryz.func206 rfl rfl, fun γ F w vals hi hl hv => ins_ok (by decide) ins_room_206 ins_grow_206 h0 hi hl hv⟩
  rw [if_neg h206] at h0
  by_cases h207 : f = 207
  · rw [if_pos h207] at h0
    subst h207
    exact ⟨enters_of Tryz.func207 rfl rfl, fun γ F w vals hi hl hv => clone_ok clone0_207 h0 hi hl hv⟩
  rw [if_neg h207] at h0
  by_cases h208 : f = 208
  · rw [if_pos h208] at h0
    subst h208
    exact ⟨enters_of Tryz.func208 rfl rfl, fun γ F w vals hi hl hv => ins_ok (by decide) ins_room_208 ins_grow_208 h0 hi hl hv⟩
  rw [if_neg h208] at h0
  by_cases h209 : f = 209
  · rw [if_pos h209] at h0
    subst h209
    exact ⟨enters_of Tryz.func209 rfl rfl, fun γ F w vals hi hl hv => clone_ok clone0_209 h0 hi hl hv⟩
  rw [if_neg h209] at h0
  by_cases h233 : f = 233
  · rw [if_pos h233] at h0
    subst h233
    exact ⟨enters_of Tryz.func233 rfl rfl, fun γ F w vals hi hl hv => idx_ok Tryz.stringslite_IndexByte h0 hi hl hv⟩
  rw [if_neg h233] at h0
  cases h0
theorem KP_ok : CallOK Tryz.prog KP := KK_ok (by kernel_rfl) prims_ok
end Go.Proofs.YtdjdgnabcecdlaaGreatDoor.X
