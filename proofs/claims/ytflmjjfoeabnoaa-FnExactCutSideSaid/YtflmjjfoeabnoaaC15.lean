/- What functions compute: distances as the reference has them; paths. -/
import Derived.Test.YtflmjjfoeabnoaaC14
set_option linter.unusedSimpArgs false
set_option linter.unusedVariables false
set_option maxHeartbeats 2000000
namespace Go.Proofs.Ytflmjjfoeabnoaa.X
open Go Go.Proofs

theorem gpath_length (es : List (Int × Int)) (far : List Int) : ∀ (k : Nat) (x : Int), (gpath es far k x).length = k + 1
  | 0, _ => rfl
  | k + 1, x => by rw [gpath, List.length_cons, gpath_length es far k]
theorem gpath_head (es : List (Int × Int)) (far : List Int) (k : Nat) (x : Int) : gpath es far k x = [x] ++ (gpath es far k x).tail := by
  cases k <;> rfl
theorem dst_le {n : Int} {es : List (Int × Int)} {t x : Int} (ho : ∀ e ∈ es, okE n e) (hn : 0 ≤ n) : dst n es t x ≤ n := by
  by_cases hc : Conn es t x
  · have ho' : ∀ e ∈ es, okE ((n.toNat : Nat) : Int) e := fun e he => by have := ho e he; unfold okE at this ⊢; omega
    have := (dst_spec ho hc).2.2 _ (Rk.all ho' hc)
    omega
  · unfold dst; rw [if_neg hc]; omega

end Go.Proofs.Ytflmjjfoeabnoaa.X