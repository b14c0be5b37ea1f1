/- What functions compute: the tree of bridges. -/
import Derived.Test.YtbaholclcfpknaaC19
import Derived.Test.YtbaholclcfpknaaC20
import Derived.Test.YtbaholclcfpknaaC68
set_option linter.unusedSimpArgs false
set_option linter.unusedVariables false
set_option maxHeartbeats 8000000
set_option maxRecDepth 100000
namespace Go.Proofs.Ytbaholclcfpknaa.X
open Go Go.Proofs

/-! The tree of bridges. -/
noncomputable def treeS (es : List (Int × Int)) : List (Int × Int) := sortEs (treeL es)
noncomputable def treeP (es : List (Int × Int)) (bs : List (Int × Int)) : List (Int × Int) := bs.foldl (fun acc e => putE (treeE es e) acc) []
theorem treeS_len {es : List (Int × Int)} : (treeS es).length = (brgs es).length := by unfold treeS treeL; rw [sortEs_length, List.length_map]
theorem brgs_len {es : List (Int × Int)} : (brgs es).length ≤ es.length := List.length_filter_le _ _
theorem VG.treeS {n : Int} {es : List (Int × Int)} (h : VG n es) : VG n (X.treeS es) := by
  have ho := h.okg.ok
  refine ⟨h.1, h.2.1, ?_, fun f hf => tree_ok ho f (mem_sortEs.1 hf), sortEs_ord (tree_nodup ho h.nodup)⟩
  have := brgs_len (es := es)
  have := h.2.2.1
  rw [treeS_len]; omega
end Go.Proofs.Ytbaholclcfpknaa.X


