/- The law: a part with a cycle has a round chain. -/
import Derived.Test.YtbaholclcfpknaaC53
set_option linter.unusedSimpArgs false
set_option linter.unusedVariables false
set_option maxHeartbeats 8000000
set_option maxRecDepth 100000
namespace Go.Proofs.Ytbaholclcfpknaa.X
open Go Go.Proofs

theorem mem_rd {n i : Int} {es : List (Int × Int)} (hV : VG n es) (h : i ∈ rdL n es) : 0 ≤ i ∧ i < (chainsL n es).length := by
  unfold rdL at h
  rw [if_pos hV] at h
  exact mem_iota.1 (List.mem_filter.1 h).1
/-- Where a chain begins. -/
noncomputable def hdC (n : Int) (es : List (Int × Int)) (i : Int) : Int := ((chainsL n es).getD i.toNat []).getD 0 0
theorem hdC_at {n i : Int} {es : List (Int × Int)} (hV : VG n es) (h0 : 0 ≤ i) (h1 : i < (chainsL n es).length) : inR n (hdC n es i) ∧ ((chainsL n es).map encL)[i.toNat]? = some [.lst (((chainsL n es).getD i.toNat []).map encI)] ∧ (((chainsL n es).getD i.toNat []).map encI)[0]? = some [.v (.int .i64 (hdC n es i))] := by
  have hi : i.toNat < (chainsL n es).length := by omega
  have hh := chains_head hV.okg.ok hV.nodup (n := n) (by have := hV.1; omega) (i := i.toNat) (by rw [← chains_len]; exact hi)
  refine ⟨?_, getLs _ _ hi, getI _ _ hh.2.2.1⟩
  unfold hdC
  rw [hh.1]; exact hh.2.1

end Go.Proofs.Ytbaholclcfpknaa.X


