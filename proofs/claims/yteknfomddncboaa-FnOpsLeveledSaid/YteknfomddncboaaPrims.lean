/- The library functions that are taken as a whole, at this program. -/
import Derived.Test.YteknfomddncboaaPrimS
import Derived.Test.YteknfomddncboaaShelf
import Derived.Test.YteknfomddncboaaInsW
import Derived.Test.YteknfomddncboaaSortF
import Derived.WalkKit
import Derived.ProofKit
import Derived.OwnWalk
set_option linter.unusedVariables false
namespace Go.Proofs.Yteknfomddncboaa.X
open Go Go.Proofs Go.RowKit
set_option maxRecDepth 100000 in
theorem clone0_64 (ao : Option Addr) (cap : Nat) (w : World) : Calls Try.prog 64 #[.slice ao 0 cap] w fun e w' => ∃ a', e = .returned (.slice a' 0 0) ∧ Below w.heap.size w w' := by
  have he : ∀ w, (binOp .eql 56 (.slice ao 0 cap) (.slice none 0 0)).run Try.prog w = .ok (.bool ao.isNone) w := fun w => run_eql_nilS ao 0 cap Try.underlying56 w
  cases ao with
  | none =>
    simp only [Option.isNone_none] at he
    go_enter Try.func64, Try.ntmps64
    go_wp2
    go_ret
    exact ⟨_, rfl, Below.refl _ _⟩
  | some a =>
    simp only [Option.isNone_some] at he
    go_enter Try.func64, Try.ntmps64
    go_wp2
    go_ret
    exact ⟨_, rfl, (Below.refl _ _).alloc (Nat.le_refl _) _⟩
set_option maxRecDepth 100000 in
theorem clone0_66 (ao : Option Addr) (cap : Nat) (w : World) : Calls Try.prog 66 #[.slice ao 0 cap] w fun e w' => ∃ a', e = .returned (.slice a' 0 0) ∧ Below w.heap.size w w' := by
  have he : ∀ w, (binOp .eql 26 (.slice ao 0 cap) (.slice none 0 0)).run Try.prog w = .ok (.bool ao.isNone) w := fun w => run_eql_nilS ao 0 cap Try.underlying26 w
  cases ao with
  | none =>
    simp only [Option.isNone_none] at he
    go_enter Try.func66, Try.ntmps66
    go_wp2
    go_ret
    exact ⟨_, rfl, Below.refl _ _⟩
  | some a =>
    simp only [Option.isNone_some] at he
    go_enter Try.func66, Try.ntmps66
    go_wp2
    go_ret
    exact ⟨_, rfl, (Below.refl _ _).alloc (Nat.le_refl _) _⟩
set_option maxRecDepth 100000 in
theorem clone0_111 (ao : Option Addr) (cap : Nat) (w : World) : Calls Try.prog 111 #[.slice ao 0 cap] w fun e w' => ∃ a', e = .returned (.slice a' 0 0) ∧ Below w.heap.size w w' := by
  have he : ∀ w, (binOp .eql 50 (.slice ao 0 cap) (.slice none 0 0)).run Try.prog w = .ok (.bool ao.isNone) w := fun w => run_eql_nilS ao 0 cap Try.underlying50 w
  cases ao with
  | none =>
    simp only [Option.isNone_none] at he
    go_enter Try.func111, Try.ntmps111
    go_wp2
    go_ret
    exact ⟨_, rfl, Below.refl _ _⟩
  | some a =>
    simp only [Option.isNone_some] at he
    go_enter Try.func111, Try.ntmps111
    go_wp2
    go_ret
    exact ⟨_, rfl, (Below.refl _ _).alloc (Nat.le_refl _) _⟩
theorem prims_ok : CallOK Try.prog (primC cfg) := by
  intro f args ps r ps' own h hps
  have h0 : primC cfg f args ps = some (r, ps', own) := h
  simp only [primC, cfg] at h0
  by_cases h63 : f = 63
  · rw [if_pos h63] at h0
    subst h63
    exact ⟨enters_of Try.func63 rfl rfl, fun γ F w vals hi hl hv => ins_ok (by decide) ins_room_63 ins_grow_63 h0 hi hl hv⟩
  rw [if_neg h63] at h0
  by_cases h64 : f = 64
  · rw [if_pos h64] at h0
    subst h64
    exact ⟨enters_of Try.func64 rfl rfl, fun γ F w vals hi hl hv => clone_ok clone0_64 h0 hi hl hv⟩
  rw [if_neg h64] at h0
  by_cases h65 : f = 65
  · rw [if_pos h65] at h0
    subst h65
    exact ⟨enters_of Try.func65 rfl rfl, fun γ F w vals hi hl hv => ins_ok (by decide) ins_room_65 ins_grow_65 h0 hi hl hv⟩
  rw [if_neg h65] at h0
  by_cases h66 : f = 66
  · rw [if_pos h66] at h0
    subst h66
    exact ⟨enters_of Try.func66 rfl rfl, fun γ F w vals hi hl hv => clone_ok clone0_66 h0 hi hl hv⟩
  rw [if_neg h66] at h0
  by_cases h110 : f = 110
  · rw [if_pos h110] at h0
    subst h110
    exact ⟨enters_of Try.func110 rfl rfl, fun γ F w vals hi hl hv => ins_ok (by decide) ins_room_110 ins_grow_110 h0 hi hl hv⟩
  rw [if_neg h110] at h0
  by_cases h111 : f = 111
  · rw [if_pos h111] at h0
    subst h111
    exact ⟨enters_of Try.func111 rfl rfl, fun γ F w vals hi hl hv => clone_ok clone0_111 h0 hi hl hv⟩
  rw [if_neg h111] at h0
  by_cases h141 : f = 141
  · rw [if_pos h141] at h0
    subst h141
    exact ⟨enters_of Try.func141 rfl rfl, fun γ F w vals hi hl hv => sortF_ok h0 hi hl hv⟩
  rw [if_neg h141] at h0
  by_cases h142 : f = 142
  · rw [if_pos h142] at h0
    subst h142
    exact ⟨enters_of Try.func142 rfl rfl, fun γ F w vals hi hl hv => sort_ok Try.slices_Sort_int Try.slices_Sort_int_none h0 hi hl hv⟩
  rw [if_neg h142] at h0
  by_cases h169 : f = 169
  · rw [if_pos h169] at h0
    subst h169
    exact ⟨enters_of Try.func169 rfl rfl, fun γ F w vals hi hl hv => mul_ok Try.bits_Mul h0 hi hl hv⟩
  rw [if_neg h169] at h0
  cases h0
theorem KP_ok : CallOK Try.prog KP := KK_ok (by kernel_rfl) prims_ok
end Go.Proofs.Yteknfomddncboaa.X
