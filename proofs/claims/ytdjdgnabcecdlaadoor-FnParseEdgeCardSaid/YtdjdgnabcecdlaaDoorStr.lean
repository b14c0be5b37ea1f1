/- Strings: how operations on them are rewritten. -/
import Derived.Test.YtdjdgnabcecdlaaDoorRun
import Derived.Test.YtdjdgnabcecdlaaDoorM26
set_option linter.unusedSimpArgs false
set_option linter.unusedVariables false
namespace Go.Proofs.YtdjdgnabcecdlaaDoor.X
open Go
/-- Are two texts the same? -/
def eqS : List UInt8 → List UInt8 → Bool
  | [], [] => true
  | a :: x, b :: y => (a.toNat == b.toNat) && eqS x y
  | _, _ => false
theorem eqS_eq : ∀ {a b : List UInt8}, eqS a b = decide (a = b)
  | [], [] => by simp [eqS]
  | [], b :: y => by simp [eqS]
  | a :: x, [] => by simp [eqS]
  | a :: x, b :: y => by
    rw [eqS, eqS_eq (a := x) (b := y), Bool.eq_iff_iff]
    simp only [Bool.and_eq_true, beq_iff_eq, decide_eq_true_eq, List.cons.injEq]
    exact ⟨fun h => ⟨UInt8.toNat_inj.1 h.1, h.2⟩, fun h => ⟨by rw [h.1], h.2⟩⟩
theorem eqS_refl {a : List UInt8} : eqS a a = true := by rw [eqS_eq]; simp
theorem eqS_ne {a b : List UInt8} (h : a ≠ b) : eqS a b = false := by rw [eqS_eq]; simp [h]
theorem eqS_nn : eqS [] [] = true := rfl
theorem eqS_nc {b : UInt8} {y : List UInt8} : eqS [] (b :: y) = false := rfl
theorem eqS_cn {b : UInt8} {y : List UInt8} : eqS (b :: y) [] = false := rfl
theorem eqS_cc {a b : UInt8} {x y : List UInt8} : eqS (a :: x) (b :: y) = ((a.toNat == b.toNat) && eqS x y) := rfl
theorem bs_size {l : List UInt8} : (ByteArray.mk l.toArray).size = l.length := by simp [ByteArray.size]
theorem bs_app {a b : List UInt8} : (ByteArray.mk a.toArray ++ ByteArray.mk b.toArray) = ByteArray.mk (a ++ b).toArray := by
  apply ByteArray.ext
  simp
theorem bs_ext {a : List UInt8} {i j : Nat} : (ByteArray.mk a.toArray).extract i j = ByteArray.mk ((a.drop i).take (j - i)).toArray := by
  apply ByteArray.ext
  simp [ByteArray.data_extract]
theorem bs_get {a : List UInt8} {i : Nat} : (ByteArray.mk a.toArray)[i]? = a[i]? := by
  rw [show (ByteArray.mk a.toArray)[i]? = (ByteArray.mk a.toArray).data[i]? from by
    simp only [getElem?_def]
    rfl]
  simp
theorem bs_list {a : List UInt8} : (ByteArray.mk a.toArray).toList = a := by
  rw [ByteArray.toList_eq]
section
variable {P : Program} {t : TypeId} {a b : List UInt8}
theorem binV_sadd (h : a.length + b.length ≤ 1000000000) : binV P .add t (S a) (S b) = some (.string ⟨(a ++ b).toArray⟩) := by
  have h2 : ¬ (((ByteArray.mk a.toArray).size + (ByteArray.mk b.toArray).size : Nat) : Int) > IntKind.i64.max := by
    rw [bs_size, bs_size]
    show ¬ _ > (9223372036854775807 : Int)
    omega
  simp only [binV, binOp, Op.stringOp, if_neg h2, bs_app]
  rfl
theorem binV_seql : binV P .eql t (S a) (S b) = some (.bool (eqS a b)) := by
  have : (a == b) = decide (a = b) := by rw [Bool.eq_iff_iff]; simp
  simp only [binV, binOp, Op.stringOp, bs_list, eqS_eq, this]
  rfl
theorem binV_sneq : binV P .neq t (S a) (S b) = some (.bool (!eqS a b)) := by
  have : (a == b) = decide (a = b) := by rw [Bool.eq_iff_iff]; simp
  simp only [binV, binOp, Op.stringOp, bs_list, eqS_eq, this]
  rfl
end
/-- A string as an element. -/
def encS (l : List UInt8) : List IV := [.v (.string ⟨l.toArray⟩)]
theorem getS (xs : List (List UInt8)) (i : Nat) (h : i < xs.length) : (xs.map encS)[i]? = some [.v (.string ⟨(xs.getD i []).toArray⟩)] := by
  simp [encS, h]
theorem appS (xs : List (List UInt8)) (x : List UInt8) : xs.map encS ++ [[.v (.string ⟨x.toArray⟩)]] = (xs ++ [x]).map encS := by simp [encS]
attribute [go_sem] eqS_refl eqS_nn eqS_nc eqS_cn eqS_cc bs_size bs_ext bs_get binV_sadd binV_seql binV_sneq
end Go.Proofs.YtdjdgnabcecdlaaDoor.X
