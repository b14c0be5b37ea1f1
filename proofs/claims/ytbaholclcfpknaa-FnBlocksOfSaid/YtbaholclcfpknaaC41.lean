/- What functions compute: edges of one block. -/
import Derived.Test.YtbaholclcfpknaaC19
import Derived.Test.YtbaholclcfpknaaC34
import Derived.Test.YtbaholclcfpknaaC35
import Derived.Test.YtbaholclcfpknaaC40
set_option linter.unusedSimpArgs false
set_option linter.unusedVariables false
set_option maxHeartbeats 8000000
namespace Go.Proofs.Ytbaholclcfpknaa.X
open Go Go.Proofs

noncomputable instance decBlk (es : List (Int × Int)) (e f : Int × Int) : Decidable (Blk es e f) := Classical.propDecidable _
theorem findE_lt {es : List (Int × Int)} {e : Int × Int} (h : e ∈ es) : 0 ≤ findE es e ∧ findE es e < es.length ∧ eAt es (findE es e) = e := by
  obtain ⟨i, hi, he⟩ := List.mem_iff_getElem.1 h
  have hx : es.idxOf e < es.length := List.idxOf_lt_length_of_mem h
  have hf : findE es e = (es.idxOf e : Int) := by unfold findE; rw [if_pos h]
  rw [hf]
  refine ⟨by omega, by omega, ?_⟩
  unfold eAt
  rw [Int.toNat_natCast]
  simp [hx]
theorem blk_beq {es : List (Int × Int)} (hnd : es.Nodup) {e f : Int × Int} (he : e ∈ es) (hf : f ∈ es) : decide ((blkL es).getD (findE es e).toNat 0 = (blkL es).getD (findE es f).toNat 0) = decide (Blk es e f) := by
  obtain ⟨e0, e1, e2⟩ := findE_lt he
  obtain ⟨f0, f1, f2⟩ := findE_lt hf
  refine decide_eq_decide.2 ⟨fun h => ⟨_, _, ⟨e0, e1⟩, ⟨f0, f1⟩, e2, f2, (blk_iff ⟨e0, e1⟩ ⟨f0, f1⟩).1 h⟩, ?_⟩
  rintro ⟨i, k, h1, h2, h3, h4, h5⟩
  have a1 := eAt_inj hnd ⟨e0, e1⟩ h1 (e2.trans h3.symm)
  have a2 := eAt_inj hnd ⟨f0, f1⟩ h2 (f2.trans h4.symm)
  rw [a1, a2]
  exact (blk_iff h1 h2).2 h5

end Go.Proofs.Ytbaholclcfpknaa.X
