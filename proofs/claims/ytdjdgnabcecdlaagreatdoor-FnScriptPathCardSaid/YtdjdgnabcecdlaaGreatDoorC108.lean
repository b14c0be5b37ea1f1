/- What functions compute: scripts that load a graph and give one or two orders. -/
import Derived.Test.YtdjdgnabcecdlaaGreatDoorC107
set_option linter.unusedSimpArgs false
set_option linter.unusedVariables false
set_option maxHeartbeats 8000000
set_option maxRecDepth 100000
namespace Go.Proofs.YtdjdgnabcecdlaaGreatDoor.X
open Go Go.Proofs
theorem gr_no {n : Int} {es : List (Int × Int)} (hV : VG n es) : (10 : UInt8) ∉ ([103, 114, 97, 112, 104, 32] : List UInt8) ++ fmtG n es := by
  obtain ⟨hs, m⟩ := hV.small
  rw [List.mem_append, not_or]
  exact ⟨by decide, fmtG_no m hs (by decide) (by decide) (by decide)⟩
theorem gr_line {n : Int} {es : List (Int × Int)} (hV : VG n es) : LineOK ([103, 114, 97, 112, 104, 32] ++ fmtG n es) 1 .emp .emp .emp [111, 107, 10] n (exI es.length (ldT es)) (eyI es.length (ldT es)) (ezI es.length (ldT es)) :=
  line_graph n es hV rfl 1 .emp .emp .emp [] LV3.emp
/-- One order. -/
theorem script1 {n : Int} {es : List (Int × Int)} (hV : VG n es) {w t : List UInt8} (h10 : (10 : UInt8) ∉ w) (hne : w ≠ []) (hl : w.length ≤ 1000) (ht : t.length ≤ 100000) {n' : Int} {x' y' z' : IV}
    (h : LineOK w n (exI es.length (ldT es)) (eyI es.length (ldT es)) (ezI es.length (ldT es)) t n' x' y' z') :
    KP 18 [S (103 :: 114 :: 97 :: 112 :: 104 :: 32 :: (fmtG n es ++ 10 :: (w ++ [10])))] [] = some (S (111 :: 107 :: 10 :: t), [], []) := by
  have hel := hV.2.2.1
  have hlen := fmtG_len n es
  have e : (103 :: 114 :: 97 :: 112 :: 104 :: 32 :: (fmtG n es ++ 10 :: (w ++ [10])) : List UInt8) = (([103, 114, 97, 112, 104, 32] : List UInt8) ++ fmtG n es) ++ 10 :: (w ++ 10 :: []) := by simp
  have hp : pcs 10 ((([103, 114, 97, 112, 104, 32] : List UInt8) ++ fmtG n es) ++ 10 :: (w ++ 10 :: [])) = [([103, 114, 97, 112, 104, 32] : List UInt8) ++ fmtG n es, w, []] := by
    rw [pcs_app _ (gr_no hV), pcs_app _ h10]; rfl
  rw [e]
  refine c_RunScript _ _ _ hp (by simp only [List.length_append, List.length_cons, List.length_nil]; omega) (by simp) ?_
  exact .line (by simp) (by simp) (by simp) (gr_line hV) (.line hne (by simp) ht h (.skip .nil))
theorem ld3 {n : Int} {es : List (Int × Int)} (hV : VG n es) : LV3 (exI es.length (ldT es)) (eyI es.length (ldT es)) (ezI es.length (ldT es)) (ldT es) :=
  exyz fun h => by rw [List.length_eq_zero_iff.1 h]; rfl
end Go.Proofs.YtdjdgnabcecdlaaGreatDoor.X
