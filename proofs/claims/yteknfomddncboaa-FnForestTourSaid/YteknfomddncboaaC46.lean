/- What functions compute: an edge is put. -/
import Derived.Test.YteknfomddncboaaC21
set_option linter.unusedSimpArgs false
set_option linter.unusedVariables false
set_option maxHeartbeats 8000000
set_option maxRecDepth 100000
namespace Go.Proofs.Yteknfomddncboaa.X
open Go Go.Proofs
/-- The place of an edge that goes in. -/
def atE (e : Int × Int) (es : List (Int × Int)) (k : Int) : Prop := 0 ≤ k ∧ k ≤ es.length ∧ (∀ i : Nat, (i : Int) < k → lessE (es.getD i (0, 0)) e = true) ∧ ∀ i : Nat, k ≤ (i : Int) → i < es.length → lessE (es.getD i (0, 0)) e = false
/-- What comes back from a slice into which an edge is put. -/
def pP (es : List (Int × Int)) (e : Int × Int) : PV := if es = [] then .i (.lst [encE e]) else .ref 2000 0 0 (es.length + 1)
def pA (es : List (Int × Int)) (e : Int × Int) : List Arr := if es = [] then [] else [.arr 0 2 ((putE e es).map encE)]
theorem imm1_p {es : List (Int × Int)} {e : Int × Int} : imm1 (pA es e) (pP es e) = some (.i (.lst ((putE e es).map encE))) := by
  unfold pA pP
  split
  · rename_i h; subst h; rfl
  · simp only [imm1, List.getElem?_cons_zero, Nat.lt_irrefl, if_false, Nat.sub_self]
    simp [List.take_of_length_le, putE_length]
@[go_sem] theorem imm_p {es : List (Int × Int)} {e : Int × Int} {n : Nat} : imm n (pA es e) (pP es e) = some (.i (.lst ((putE e es).map encE))) := by
  have h := imm1_p (es := es) (e := e)
  unfold pP at h ⊢
  split at h
  · rename_i hz; rw [if_pos hz]; cases n <;> exact h
  · rename_i hz; rw [if_neg hz]; cases n <;> exact h
/-- A graph into which an edge is put. -/
def PutOK (n : Int) (es : List (Int × Int)) (e : Int × Int) : Prop := VG n es ∧ e ∉ es ∧ VG n (putE e es)
noncomputable instance decPutOK (n : Int) (es : List (Int × Int)) (e : Int × Int) : Decidable (PutOK n es e) := Classical.propDecidable _
end Go.Proofs.Yteknfomddncboaa.X
