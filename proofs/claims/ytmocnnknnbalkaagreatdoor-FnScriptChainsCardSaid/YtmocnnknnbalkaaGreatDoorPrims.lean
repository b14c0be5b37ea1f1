/- The library functions that are taken as a whole, at this program. -/
import Derived.Test.YtmocnnknnbalkaaGreatDoorPrimS
import Derived.Test.YtmocnnknnbalkaaGreatDoorShelf
import Derived.Test.YtmocnnknnbalkaaGreatDoorInsW
import Derived.WalkKit
import Derived.ProofKit
import Derived.OwnWalk
set_option linter.unusedVariables false
namespace Go.Proofs.YtmocnnknnbalkaaGreatDoor.X
open Go Go.Proofs Go.RowKit
set_option maxRecDepth 100000 in
theorem clone0_58 (ao : Option Addr) (cap : Nat) (w : World) : Calls Tryz.prog 58 #[.slice ao 0 cap] w fun e w' => ∃ a', e = .returned (.slice a' 0 0) ∧ Below w.heap.size w w' := by
  have he : ∀ w, (binOp .eql 23 (.slice ao 0 cap) (.slice none 0 0)).run Tryz.prog w = .ok (.bool ao.isNone) w := fun w => run_eql_nilS ao 0 cap Tryz.underlying23 w
  cases ao with
  | none =>
    simp only [Option.isNone_none] at he
    go_enter Tryz.func58, Tryz.ntmps58
    go_wp2
    go_ret
    exact ⟨_, rfl, Below.refl _ _⟩
  | some a =>
    simp only [Option.isNone_some] at he
    go_enter Tryz.func58, Tryz.ntmps58
    go_wp2
    go_ret
    exact ⟨_, rfl, (Below.refl _ _).alloc (Nat.le_refl _) _⟩
set_option maxRecDepth 100000 in
theorem clone0_109 (ao : Option Addr) (cap : Nat) (w : World) : Calls Tryz.prog 109 #[.slice ao 0 cap] w fun e w' => ∃ a', e = .returned (.slice a' 0 0) ∧ Below w.heap.size w w' := by
  have he : ∀ w, (binOp .eql 32 (.slice ao 0 cap) (.slice none 0 0)).run Tryz.prog w = .ok (.bool ao.isNone) w := fun w => run_eql_nilS ao 0 cap Tryz.underlying32 w
  cases ao with
  | none =>
    simp only [Option.isNone_none] at he
    go_enter Tryz.func109, Tryz.ntmps109
    go_wp2
    go_ret
    exact ⟨_, rfl, Below.refl _ _⟩
  | some a =>
    simp only [Option.isNone_some] at he
    go_enter Tryz.func109, Tryz.ntmps109
    go_wp2
    go_ret
    exact ⟨_, rfl, (Below.refl _ _).alloc (Nat.le_refl _) _⟩
set_option maxRecDepth 100000 in
theorem clone0_111 (ao : Option Addr) (cap : Nat) (w : World) : Calls Tryz.prog 111 #[.slice ao 0 cap] w fun e w' => ∃ a', e = .returned (.slice a' 0 0) ∧ Below w.heap.size w w' := by
  have he : ∀ w, (binOp .eql 40 (.slice ao 0 cap) (.slice none 0 0)).run Tryz.prog w = .ok (.bool ao.isNone) w := fun w => run_eql_nilS ao 0 cap Tryz.underlying40 w
  cases ao with
  | none =>
    simp only [Option.isNone_none] at he
    go_enter Tryz.func111, Tryz.ntmps111
    go_wp2
    go_ret
    exact ⟨_, rfl, Below.refl _ _⟩
  | some a =>
    simp only [Option.isNone_some] at he
    go_enter Tryz.func111, Tryz.ntmps111
    go_wp2
    go_ret
    exact ⟨_, rfl, (Below.refl _ _).alloc (Nat.le_refl _) _⟩
theorem prims_ok : CallOK Tryz.prog (primC cfg) := by
  intro f args ps r ps' own h hps
  have h0 : primC cfg f args ps = some (r, ps', own) := h
  simp only [primC, cfg] at h0
  by_cases h25 : f = 25
  · rw [if_pos h25] at h0
    subst h25
    exact ⟨enters_of Tryz.func25 rfl rfl, fun γ F w vals hi hl hv => itoa_ok Tryz.strconv_Itoa_small h0 hi hl hv⟩
  rw [if_neg h25] at h0
  by_cases h53 : f = 53
  · rw [if_pos h53] at h0
    subst h53
    exact ⟨enters_of Tryz.func53 rfl rfl, fun γ F w vals hi hl hv => sort_ok Tryz.slices_Sort_int Tryz.slices_Sort_int_none h0 hi hl hv⟩
  rw [if_neg h53] at h0
  by_cases h58 : f = 58
  · rw [if_pos h58] at h0
    subst h58
    exact ⟨enters_of Tryz.func58 rfl rfl, fun γ F w vals hi hl hv => clone_ok clone0_58 h0 hi hl hv⟩
  rw [if_neg h58] at h0
  by_cases h62 : f = 62
  · rw [if_pos h62] at h0
    subst h62
    exact ⟨enters_of Tryz.func62 rfl rfl, fun γ F w vals hi hl hv => cnt_ok Tryz.strings_Count_one h0 hi hl hv⟩
  rw [if_neg h62] at h0
  by_cases h105 : f = 105
  · rw [if_pos h105] at h0
    subst h105
    exact ⟨enters_of Tryz.func105 rfl rfl, fun γ F w vals hi hl hv => atoi_ok (fun s n hl h w => (Tryz.strconv_Atoi s n hl h w).mono fun e w' he => ⟨he.1, by obtain ⟨_, t, rfl⟩ := he; exact Lib.bytesWorld_below _ _ _⟩) h0 hi hl hv⟩
  rw [if_neg h105] at h0
  by_cases h108 : f = 108
  · rw [if_pos h108] at h0
    subst h108
    exact ⟨enters_of Tryz.func108 rfl rfl, fun γ F w vals hi hl hv => ins_ok (by decide) ins_room_108 ins_grow_108 h0 hi hl hv⟩
  rw [if_neg h108] at h0
  by_cases h109 : f = 109
  · rw [if_pos h109] at h0
    subst h109
    exact ⟨enters_of Tryz.func109 rfl rfl, fun γ F w vals hi hl hv => clone_ok clone0_109 h0 hi hl hv⟩
  rw [if_neg h109] at h0
  by_cases h110 : f = 110
  · rw [if_pos h110] at h0
    subst h110
    exact ⟨enters_of Tryz.func110 rfl rfl, fun γ F w vals hi hl hv => ins_ok (by decide) ins_room_110 ins_grow_110 h0 hi hl hv⟩
  rw [if_neg h110] at h0
  by_cases h111 : f = 111
  · rw [if_pos h111] at h0
    subst h111
    exact ⟨enters_of Tryz.func111 rfl rfl, fun γ F w vals hi hl hv => clone_ok clone0_111 h0 hi hl hv⟩
  rw [if_neg h111] at h0
  by_cases h145 : f = 145
  · rw [if_pos h145] at h0
    subst h145
    exact ⟨enters_of Tryz.func145 rfl rfl, fun γ F w vals hi hl hv => idx_ok Tryz.stringslite_IndexByte h0 hi hl hv⟩
  rw [if_neg h145] at h0
  by_cases h161 : f = 161
  · rw [if_pos h161] at h0
    subst h161
    exact ⟨enters_of Tryz.func161 rfl rfl, fun γ F w vals hi hl hv => ins_ok (by decide) ins_room_161 ins_grow_161 h0 hi hl hv⟩
  rw [if_neg h161] at h0
  by_cases h193 : f = 193
  · rw [if_pos h193] at h0
    subst h193
    exact ⟨enters_of Tryz.func193 rfl rfl, fun γ F w vals hi hl hv => mul_ok Tryz.bits_Mul h0 hi hl hv⟩
  rw [if_neg h193] at h0
  cases h0
theorem KP_ok : CallOK Tryz.prog KP := KK_ok (by kernel_rfl) prims_ok
end Go.Proofs.YtmocnnknnbalkaaGreatDoor.X
