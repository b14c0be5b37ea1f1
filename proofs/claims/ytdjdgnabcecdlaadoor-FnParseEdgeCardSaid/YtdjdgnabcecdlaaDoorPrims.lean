/- The library functions that are taken as a whole, at this program. -/
import Derived.Test.YtdjdgnabcecdlaaDoorPrimS
import Derived.Test.YtdjdgnabcecdlaaDoorShelf
import Derived.Test.YtdjdgnabcecdlaaDoorInsW
import Derived.WalkKit
import Derived.ProofKit
import Derived.OwnWalk
set_option linter.unusedVariables false
namespace Go.Proofs.YtdjdgnabcecdlaaDoor.X
open Go Go.Proofs Go.RowKit
set_option maxRecDepth 100000 in
theorem clone0_20 (ao : Option Addr) (cap : Nat) (w : World) : Calls Tryd.prog 20 #[.slice ao 0 cap] w fun e w' => ∃ a', e = .returned (.slice a' 0 0) ∧ Below w.heap.size w w' := by
  have he : ∀ w, (binOp .eql 29 (.slice ao 0 cap) (.slice none 0 0)).run Tryd.prog w = .ok (.bool ao.isNone) w := fun w => run_eql_nilS ao 0 cap Tryd.underlying29 w
  cases ao with
  | none =>
    simp only [Option.isNone_none] at he
    go_enter Tryd.func20, Tryd.ntmps20
    go_wp2
    go_ret
    exact ⟨_, rfl, Below.refl _ _⟩
  | some a =>
    simp only [Option.isNone_some] at he
    go_enter Tryd.func20, Tryd.ntmps20
    go_wp2
    go_ret
    exact ⟨_, rfl, (Below.refl _ _).alloc (Nat.le_refl _) _⟩
theorem prims_ok : CallOK Tryd.prog (primC cfg) := by
  intro f args ps r ps' own h hps
  have h0 : primC cfg f args ps = some (r, ps', own) := h
  simp only [primC, cfg] at h0
  by_cases h19 : f = 19
  · rw [if_pos h19] at h0
    subst h19
    exact ⟨enters_of Tryd.func19 rfl rfl, fun γ F w vals hi hl hv => ins_ok (by decide) ins_room_19 ins_grow_19 h0 hi hl hv⟩
  rw [if_neg h19] at h0
  by_cases h20 : f = 20
  · rw [if_pos h20] at h0
    subst h20
    exact ⟨enters_of Tryd.func20 rfl rfl, fun γ F w vals hi hl hv => clone_ok clone0_20 h0 hi hl hv⟩
  rw [if_neg h20] at h0
  by_cases h22 : f = 22
  · rw [if_pos h22] at h0
    subst h22
    exact ⟨enters_of Tryd.func22 rfl rfl, fun γ F w vals hi hl hv => itoa_ok Tryd.strconv_Itoa_small h0 hi hl hv⟩
  rw [if_neg h22] at h0
  by_cases h24 : f = 24
  · rw [if_pos h24] at h0
    subst h24
    exact ⟨enters_of Tryd.func24 rfl rfl, fun γ F w vals hi hl hv => atoi_ok (fun s n hl h w => (Tryd.strconv_Atoi s n hl h w).mono fun e w' he => ⟨he.1, by obtain ⟨_, t, rfl⟩ := he; exact Lib.bytesWorld_below _ _ _⟩) h0 hi hl hv⟩
  rw [if_neg h24] at h0
  by_cases h39 : f = 39
  · rw [if_pos h39] at h0
    subst h39
    exact ⟨enters_of Tryd.func39 rfl rfl, fun γ F w vals hi hl hv => sort_ok Tryd.slices_Sort_int Tryd.slices_Sort_int_none h0 hi hl hv⟩
  rw [if_neg h39] at h0
  by_cases h45 : f = 45
  · rw [if_pos h45] at h0
    subst h45
    exact ⟨enters_of Tryd.func45 rfl rfl, fun γ F w vals hi hl hv => cnt_ok Tryd.strings_Count_one h0 hi hl hv⟩
  rw [if_neg h45] at h0
  by_cases h66 : f = 66
  · rw [if_pos h66] at h0
    subst h66
    exact ⟨enters_of Tryd.func66 rfl rfl, fun γ F w vals hi hl hv => idx_ok Tryd.stringslite_IndexByte h0 hi hl hv⟩
  rw [if_neg h66] at h0
  cases h0
theorem KP_ok : CallOK Tryd.prog KP := KK_ok (by kernel_rfl) prims_ok
end Go.Proofs.YtdjdgnabcecdlaaDoor.X
