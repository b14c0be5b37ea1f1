/- The library functions that are taken as a whole, at this program. -/
import Derived.Test.YtdlfdoicheakoaaGreatPrimS
import Derived.Test.YtdlfdoicheakoaaGreatShelf
import Derived.WalkKit
import Derived.ProofKit
import Derived.OwnWalk
set_option linter.unusedVariables false
namespace Go.Proofs.YtdlfdoicheakoaaGreat.X
open Go Go.Proofs Go.RowKit
set_option maxRecDepth 100000 in
theorem clone0_19 (ao : Option Addr) (cap : Nat) (w : World) : Calls Tryz.prog 19 #[.slice ao 0 cap] w fun e w' => ∃ a', e = .returned (.slice a' 0 0) ∧ Below w.heap.size w w' := by
  have he : ∀ w, (binOp .eql 26 (.slice ao 0 cap) (.slice none 0 0)).run Tryz.prog w = .ok (.bool ao.isNone) w := fun w => run_eql_nilS ao 0 cap Tryz.underlying26 w
  cases ao with
  | none =>
    simp only [Option.isNone_none] at he
    go_enter Tryz.func19, Tryz.ntmps19
    go_wp2
    go_ret
    exact ⟨_, rfl, Below.refl _ _⟩
  | some a =>
    simp only [Option.isNone_some] at he
    go_enter Tryz.func19, Tryz.ntmps19
    go_wp2
    go_ret
    exact ⟨_, rfl, (Below.refl _ _).alloc (Nat.le_refl _) _⟩
set_option maxRecDepth 100000 in
theorem clone0_21 (ao : Option Addr) (cap : Nat) (w : World) : Calls Tryz.prog 21 #[.slice ao 0 cap] w fun e w' => ∃ a', e = .returned (.slice a' 0 0) ∧ Below w.heap.size w w' := by
  have he : ∀ w, (binOp .eql 27 (.slice ao 0 cap) (.slice none 0 0)).run Tryz.prog w = .ok (.bool ao.isNone) w := fun w => run_eql_nilS ao 0 cap Tryz.underlying27 w
  cases ao with
  | none =>
    simp only [Option.isNone_none] at he
    go_enter Tryz.func21, Tryz.ntmps21
    go_wp2
    go_ret
    exact ⟨_, rfl, Below.refl _ _⟩
  | some a =>
    simp only [Option.isNone_some] at he
    go_enter Tryz.func21, Tryz.ntmps21
    go_wp2
    go_ret
    exact ⟨_, rfl, (Below.refl _ _).alloc (Nat.le_refl _) _⟩
set_option maxRecDepth 100000 in
theorem clone0_70 (ao : Option Addr) (cap : Nat) (w : World) : Calls Tryz.prog 70 #[.slice ao 0 cap] w fun e w' => ∃ a', e = .returned (.slice a' 0 0) ∧ Below w.heap.size w w' := by
  have he : ∀ w, (binOp .eql 23 (.slice ao 0 cap) (.slice none 0 0)).run Tryz.prog w = .ok (.bool ao.isNone) w := fun w => run_eql_nilS ao 0 cap Tryz.underlying23 w
  cases ao with
  | none =>
    simp only [Option.isNone_none] at he
    go_enter Tryz.func70, Tryz.ntmps70
    go_wp2
    go_ret
    exact ⟨_, rfl, Below.refl _ _⟩
  | some a =>
    simp only [Option.isNone_some] at he
    go_enter Tryz.func70, Tryz.ntmps70
    go_wp2
    go_ret
    exact ⟨_, rfl, (Below.refl _ _).alloc (Nat.le_refl _) _⟩
theorem prims_ok : CallOK Tryz.prog (primC cfg) := by
  intro f args ps r ps' own h hps
  have h0 : primC cfg f args ps = some (r, ps', own) := h
  simp only [primC, cfg] at h0
  by_cases h19 : f = 19
  · rw [if_pos h19] at h0
    subst h19
    exact ⟨enters_of Tryz.func19 rfl rfl, fun γ F w vals hi hl hv => clone_ok clone0_19 h0 hi hl hv⟩
  rw [if_neg h19] at h0
  by_cases h21 : f = 21
  · rw [if_pos h21] at h0
    subst h21
    exact ⟨enters_of Tryz.func21 rfl rfl, fun γ F w vals hi hl hv => clone_ok clone0_21 h0 hi hl hv⟩
  rw [if_neg h21] at h0
  by_cases h70 : f = 70
  · rw [if_pos h70] at h0
    subst h70
    exact ⟨enters_of Tryz.func70 rfl rfl, fun γ F w vals hi hl hv => clone_ok clone0_70 h0 hi hl hv⟩
  rw [if_neg h70] at h0
  by_cases h77 : f = 77
  · rw [if_pos h77] at h0
    subst h77
    exact ⟨enters_of Tryz.func77 rfl rfl, fun γ F w vals hi hl hv => sort_ok Tryz.slices_Sort_int Tryz.slices_Sort_int_none h0 hi hl hv⟩
  rw [if_neg h77] at h0
  by_cases h82 : f = 82
  · rw [if_pos h82] at h0
    subst h82
    exact ⟨enters_of Tryz.func82 rfl rfl, fun γ F w vals hi hl hv => mul_ok Tryz.bits_Mul h0 hi hl hv⟩
  rw [if_neg h82] at h0
  cases h0
theorem KP_ok : CallOK Tryz.prog KP := KK_ok (by kernel_rfl) prims_ok
end Go.Proofs.YtdlfdoicheakoaaGreat.X
