/- Paths and parts. -/
import Derived.Test.YtjffaedlmplcnaaKE
/- Bridges, forests, paths: plain law. -/
set_option linter.unusedVariables false
namespace Go.Proofs.Ytjffaedlmplcnaa.X
open Go
/-- An edge whose nodes are not connected without it. -/
def Brg (es : List (Int × Int)) (e : Int × Int) : Prop := ¬ Conn (cutE e es) e.1 e.2
noncomputable instance decBrg (es : List (Int × Int)) (e : Int × Int) : Decidable (Brg es e) := Classical.propDecidable _
noncomputable def fstep (acc : List (Int × Int)) (e : Int × Int) : List (Int × Int) := if Conn acc e.1 e.2 then acc else acc ++ [e]
noncomputable def forestL (es : List (Int × Int)) : List (Int × Int) := es.foldl fstep []
theorem cnt_ge {n : Int} : ∀ {es : List (Int × Int)}, (∀ e ∈ es, okE n e) → n.toNat ≤ cnt n es + es.length
  | [], _ => by simp [cnt_nil]
  | e :: es, ho => by
    have ih := cnt_ge (es := es) fun f hf => ho f (List.mem_cons_of_mem _ hf)
    have hok := ho e (by simp)
    unfold okE at hok
    have e1 : ((e.1, e.2) : Int × Int) = e := rfl
    simp only [List.length_cons]
    by_cases hc : Conn es e.1 e.2
    · have := cnt_same (n := n) hc
      rw [e1] at this; omega
    · have := cnt_less (n := n) (a := e.1) (b := e.2) (by omega) (by omega) hc
      rw [e1] at this; omega
/-- Edges all of which are bridges are their own forest. -/
theorem VG.sub {n : Int} {es fs : List (Int × Int)} (h : VG n es) (hs : fs.Sublist es) : VG n fs := by
  obtain ⟨h1, h2, h3, h4, h5⟩ := h
  have := hs.length_le
  exact ⟨h1, h2, by omega, fun e he => h4 e (hs.subset he), List.Pairwise.sublist hs h5⟩
def Walk (es : List (Int × Int)) (p : List Int) : Prop := ∀ i, i + 1 < p.length → Adj es (p.getD i 0) (p.getD (i + 1) 0)
theorem Walk.conn {es : List (Int × Int)} {p : List Int} (h : Walk es p) : ∀ i, i < p.length → Conn es (p.getD 0 0) (p.getD i 0)
  | 0, _ => .refl _
  | i + 1, hi => .step (h.conn i (by omega)) (h i hi)
theorem len_le_of_sub {α : Type} [DecidableEq α] : ∀ {l m : List α}, l.Nodup → (∀ x ∈ l, x ∈ m) → l.length ≤ m.length
  | [], m, _, _ => by simp
  | x :: l, m, hn, h => by
    rw [List.nodup_cons] at hn
    have hx := h x (by simp)
    have ih := len_le_of_sub (l := l) (m := m.erase x) hn.2 fun y hy => by
      have : y ≠ x := fun e => hn.1 (e ▸ hy)
      exact (List.mem_erase_of_ne this).2 (h y (List.mem_cons_of_mem _ hy))
    rw [List.length_erase_of_mem hx] at ih
    have := List.length_pos_of_mem hx
    simp only [List.length_cons]; omega
end Go.Proofs.Ytjffaedlmplcnaa.X

/- What functions compute: the number of parts. -/
set_option linter.unusedSimpArgs false
set_option linter.unusedVariables false
set_option maxHeartbeats 2000000
namespace Go.Proofs.Ytjffaedlmplcnaa.X
open Go Go.Proofs
end Go.Proofs.Ytjffaedlmplcnaa.X

/- Safe parts and the tree of bridges: plain law. -/
set_option linter.unusedVariables false
namespace Go.Proofs.Ytjffaedlmplcnaa.X
open Go
/-- A graph's edges without its bridges. -/
noncomputable def bare (es : List (Int × Int)) : List (Int × Int) := es.filter fun e => !decide (Brg es e)
/-- A graph's bridges. -/
noncomputable def brgs (es : List (Int × Int)) : List (Int × Int) := es.filter fun e => decide (Brg es e)
theorem mem_bare {es : List (Int × Int)} {e : Int × Int} : e ∈ bare es ↔ e ∈ es ∧ ¬ Brg es e := by simp [bare]
theorem VG.bare {n : Int} {es : List (Int × Int)} (h : VG n es) : VG n (X.bare es) := h.sub List.filter_sublist
theorem VG.brgs {n : Int} {es : List (Int × Int)} (h : VG n es) : VG n (X.brgs es) := h.sub List.filter_sublist
/-- The label of a node's safe part. -/
noncomputable def sl (es : List (Int × Int)) (x : Int) : Int := (least (bare es) x.toNat : Nat)
noncomputable def treeE (es : List (Int × Int)) (e : Int × Int) : Int × Int := edgeOf (sl es e.1) (sl es e.2)
/-- The edges between safe parts, in the order of bridges. -/
noncomputable def treeL (es : List (Int × Int)) : List (Int × Int) := (brgs es).map (treeE es)
end Go.Proofs.Ytjffaedlmplcnaa.X

/- What functions compute: bridges, safe parts, nodes and edges by a property. -/
set_option linter.unusedSimpArgs false
set_option linter.unusedVariables false
set_option maxHeartbeats 2000000
namespace Go.Proofs.Ytjffaedlmplcnaa.X
open Go Go.Proofs
theorem OKG.cutE {n : Int} {es : List (Int × Int)} (h : OKG n es) (e : Int × Int) : OKG n (X.cutE e es) := ⟨h.n0, h.n1, Nat.le_trans (cutE_len e es) h.len, fun f hf => h.ok f (cutE_mem.1 hf).1⟩
theorem OKG.bare {n : Int} {es : List (Int × Int)} (h : OKG n es) : OKG n (X.bare es) := ⟨h.n0, h.n1, Nat.le_trans (List.length_filter_le _ _) h.len, fun f hf => h.ok f (mem_bare.1 hf).1⟩
/-- What deleting what does not fulfil something hands back. -/
def delF (p : Int × Int → Bool) (es : List (Int × Int)) : IV := if es = [] then .emp else .lst ((es.filter p).map encE)
theorem delE_not {p : Int × Int → Bool} {es : List (Int × Int)} : delE (fun e => !p e) es = delF p es := by
  unfold delE delF; simp only [Bool.not_not]
theorem frz_delF {p : Int × Int → Bool} {es : List (Int × Int)} {n : Nat} : frz n (.i (delF p es)) = .ret (.lst ((es.filter p).map encE)) := by
  rw [← delE_not, frz_del]; simp only [Bool.not_not]
theorem flat_delF {p : Int × Int → Bool} {es : List (Int × Int)} : (delF p es).flat = true := by rw [← delE_not]; exact flat_del
theorem lenP_delF {p : Int × Int → Bool} {es : List (Int × Int)} : lenP (.i (delF p es)) = some (es.filter p).length := by
  rw [← delE_not, lenP_del]; simp only [Bool.not_not]
theorem iaR_delF {p : Int × Int → Bool} {es : List (Int × Int)} {el : TypeId} {n : Int} (h0 : 0 ≤ n) (h : n < (es.filter p).length) :
    iaR Try.prog (some (.slice el)) (some n) (.i (delF p es)) = iaR Try.prog (some (.slice el)) (some n) (.i (.lst ((es.filter p).map encE))) := by
  have := iaR_del (p := fun e => !p e) (es := es) (el := el) (n := n) h0 (by simpa only [Bool.not_not] using h)
  rw [delE_not] at this
  simpa only [Bool.not_not] using this
attribute [go_sem] frz_delF flat_delF lenP_delF iaR_delF
/-- A list of edges, in whatever form, that can be looked at. -/
structure EQ (x : IV) (es : List (Int × Int)) : Prop extends EL x es where
  len : lenP (.i x) = some es.length
  ia : ∀ (el : TypeId) (i : Int), 0 ≤ i → i < es.length → iaR Try.prog (some (.slice el)) (some i) (.i x) = iaR Try.prog (some (.slice el)) (some i) (.i (.lst (es.map encE)))
theorem EQ.lst (es : List (Int × Int)) : EQ (.lst (es.map encE)) es := ⟨EL.lst es, by simp [lenP], fun _ _ _ _ => rfl⟩
theorem EQ.qe (es : List (Int × Int)) : EQ (qe es) es := ⟨EL.qe es, lenP_qe, fun el i h0 h1 => by
  cases es with
  | nil => simp at h1; omega
  | cons e r => rfl⟩
end Go.Proofs.Ytjffaedlmplcnaa.X
