/- What functions compute: bridges, safe parts, nodes and edges by a property. -/
import Derived.Test.YtagpdfbgimnljaaC17
import Derived.Test.YtagpdfbgimnljaaM7
set_option linter.unusedSimpArgs false
set_option linter.unusedVariables false
set_option maxHeartbeats 2000000
namespace Go.Proofs.Ytagpdfbgimnljaa.X
open Go Go.Proofs

theorem filt_yes {α : Type} {l : List α} {p : α → Bool} {i : Int} {d : α} (h0 : 0 ≤ i) (h1 : i < l.length) (hp : p (l.getD i.toNat d) = true) : (l.take (i + 1).toNat).filter p = (l.take i.toNat).filter p ++ [l.getD i.toNat d] := by
  rw [take_int d h0 h1, List.filter_append, List.filter_cons_of_pos hp]; rfl
theorem filt_no {α : Type} {l : List α} {p : α → Bool} {i : Int} {d : α} (h0 : 0 ≤ i) (h1 : i < l.length) (hp : ¬ p (l.getD i.toNat d) = true) : (l.take (i + 1).toNat).filter p = (l.take i.toNat).filter p := by
  rw [take_int d h0 h1, List.filter_append, List.filter_cons_of_neg hp, List.filter_nil, List.append_nil]
theorem OKG.cutE {n : Int} {es : List (Int × Int)} (h : OKG n es) (e : Int × Int) : OKG n (X.cutE e es) := ⟨h.n0, h.n1, Nat.le_trans (cutE_len e es) h.len, fun f hf => h.ok f (cutE_mem.1 hf).1⟩
theorem OKG.bare {n : Int} {es : List (Int × Int)} (h : OKG n es) : OKG n (X.bare es) := ⟨h.n0, h.n1, Nat.le_trans (List.length_filter_le _ _) h.len, fun f hf => h.ok f (mem_bare.1 hf).1⟩
theorem bare_def {es : List (Int × Int)} : (es.filter fun e => !decide (Brg es e)) = bare es := rfl
theorem brgs_def {es : List (Int × Int)} : (es.filter fun e => decide (Brg es e)) = brgs es := rfl
theorem brg_dec {es : List (Int × Int)} {a b : Int} : (!decide (Conn (cutE (a, b) es) a b)) = decide (Brg es (a, b)) := by
  by_cases h : Conn (cutE (a, b) es) a b
  · have : ¬ Brg es (a, b) := fun k => k h
    rw [decide_eq_true h, decide_eq_false this]; rfl
  · rw [decide_eq_false h, decide_eq_true (show Brg es (a, b) from h)]; rfl

/-- What deleting what does not fulfil something hands back. -/
def delF (p : Int × Int → Bool) (es : List (Int × Int)) : IV := if es = [] then .emp else .lst ((es.filter p).map encE)
theorem delE_not {p : Int × Int → Bool} {es : List (Int × Int)} : delE (fun e => !p e) es = delF p es := by
  unfold delE delF; simp only [Bool.not_not]
theorem frz_delF {p : Int × Int → Bool} {es : List (Int × Int)} {n : Nat} : frz n (.i (delF p es)) = .ret (.lst ((es.filter p).map encE)) := by
  rw [← delE_not, frz_del]; simp only [Bool.not_not]
theorem flat_delF {p : Int × Int → Bool} {es : List (Int × Int)} : (delF p es).flat = true := by rw [← delE_not]; exact flat_del
theorem lenP_delF {p : Int × Int → Bool} {es : List (Int × Int)} : lenP (.i (delF p es)) = some (es.filter p).length := by
  rw [← delE_not, lenP_del]; simp only [Bool.not_not]
theorem iaR_delF {p : Int × Int → Bool} {es : List (Int × Int)} {el : TypeId} {n : Int} (h0 : 0 ≤ n) (h : n < (es.filter p).length) :
    iaR Try.prog (some (.slice el)) (some n) (.i (delF p es)) = iaR Try.prog (some (.slice el)) (some n) (.i (.lst ((es.filter p).map encE))) := by
  have := iaR_del (p := fun e => !p e) (es := es) (el := el) (n := n) h0 (by simpa only [Bool.not_not] using h)
  rw [delE_not] at this
  simpa only [Bool.not_not] using this
attribute [go_sem] frz_delF flat_delF lenP_delF iaR_delF

/-- A list of edges, in whatever form, that can be looked at. -/
structure EQ (x : IV) (es : List (Int × Int)) : Prop extends EL x es where
  len : lenP (.i x) = some es.length
  ia : ∀ (el : TypeId) (i : Int), 0 ≤ i → i < es.length → iaR Try.prog (some (.slice el)) (some i) (.i x) = iaR Try.prog (some (.slice el)) (some i) (.i (.lst (es.map encE)))
theorem EQ.lst (es : List (Int × Int)) : EQ (.lst (es.map encE)) es := ⟨EL.lst es, by simp [lenP], fun _ _ _ _ => rfl⟩
theorem EQ.qe (es : List (Int × Int)) : EQ (qe es) es := ⟨EL.qe es, lenP_qe, fun el i h0 h1 => by
  cases es with
  | nil => simp at h1; omega
  | cons e r => rfl⟩
end Go.Proofs.Ytagpdfbgimnljaa.X

