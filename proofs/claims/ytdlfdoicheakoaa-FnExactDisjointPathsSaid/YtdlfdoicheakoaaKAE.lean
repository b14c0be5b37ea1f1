/- What functions answer, and the plain laws behind it. -/
import Derived.Test.YtdlfdoicheakoaaKAD
/- What functions compute: bridges, safe parts, nodes and edges by a property. -/
set_option linter.unusedSimpArgs false
set_option linter.unusedVariables false
set_option maxHeartbeats 2000000
namespace Go.Proofs.Ytdlfdoicheakoaa.X
open Go Go.Proofs
theorem OKG.cutE {n : Int} {es : List (Int × Int)} (h : OKG n es) (e : Int × Int) : OKG n (X.cutE e es) := ⟨h.n0, h.n1, Nat.le_trans (cutE_len e es) h.len, fun f hf => h.ok f (cutE_mem.1 hf).1⟩
theorem OKG.bare {n : Int} {es : List (Int × Int)} (h : OKG n es) : OKG n (X.bare es) := ⟨h.n0, h.n1, Nat.le_trans (List.length_filter_le _ _) h.len, fun f hf => h.ok f (mem_bare.1 hf).1⟩
/-- What deleting what does not fulfil something hands back. -/
def delF (p : Int × Int → Bool) (es : List (Int × Int)) : IV := if es = [] then .emp else .lst ((es.filter p).map encE)
theorem delE_not {p : Int × Int → Bool} {es : List (Int × Int)} : delE (fun e => !p e) es = delF p es := by
  unfold delE delF; simp only [Bool.not_not]
theorem frz_delF {p : Int × Int → Bool} {es : List (Int × Int)} {n : Nat} : frz n (.i (delF p es)) = .ret (.lst ((es.filter p).map encE)) := by
  rw [← delE_not, frz_del]; simp only [Bool.not_not]
theorem flat_delF {p : Int × Int → Bool} {es : List (Int × Int)} : (delF p es).flat = true := by rw [← delE_not]; exact flat_del
theorem lenP_delF {p : Int × Int → Bool} {es : List (Int × Int)} : lenP (.i (delF p es)) = some (es.filter p).length := by
  rw [← delE_not, lenP_del]; simp only [Bool.not_not]
theorem iaR_delF {p : Int × Int → Bool} {es : List (Int × Int)} {el : TypeId} {n : Int} (h0 : 0 ≤ n) (h : n < (es.filter p).length) :
    iaR Try.prog (some (.slice el)) (some n) (.i (delF p es)) = iaR Try.prog (some (.slice el)) (some n) (.i (.lst ((es.filter p).map encE))) := by
  have := iaR_del (p := fun e => !p e) (es := es) (el := el) (n := n) h0 (by simpa only [Bool.not_not] using h)
  rw [delE_not] at this
  simpa only [Bool.not_not] using this
attribute [go_sem] frz_delF flat_delF lenP_delF iaR_delF
/-- A list of edges, in whatever form, that can be looked at. -/
structure EQ (x : IV) (es : List (Int × Int)) : Prop extends EL x es where
  len : lenP (.i x) = some es.length
  ia : ∀ (el : TypeId) (i : Int), 0 ≤ i → i < es.length → iaR Try.prog (some (.slice el)) (some i) (.i x) = iaR Try.prog (some (.slice el)) (some i) (.i (.lst (es.map encE)))
theorem EQ.lst (es : List (Int × Int)) : EQ (.lst (es.map encE)) es := ⟨EL.lst es, by simp [lenP], fun _ _ _ _ => rfl⟩
theorem EQ.qe (es : List (Int × Int)) : EQ (qe es) es := ⟨EL.qe es, lenP_qe, fun el i h0 h1 => by
  cases es with
  | nil => simp at h1; omega
  | cons e r => rfl⟩
end Go.Proofs.Ytdlfdoicheakoaa.X

/- Bridges and cut nodes on paths; cycles: plain law. -/
set_option linter.unusedVariables false
namespace Go.Proofs.Ytdlfdoicheakoaa.X
open Go
end Go.Proofs.Ytdlfdoicheakoaa.X
