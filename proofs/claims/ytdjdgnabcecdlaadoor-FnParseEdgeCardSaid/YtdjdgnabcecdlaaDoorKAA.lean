/- What functions answer, and the plain laws behind it. -/
import Derived.Test.YtdjdgnabcecdlaaDoorC2
/- What functions compute: edges in order. -/
set_option linter.unusedSimpArgs false
set_option linter.unusedVariables false
set_option maxHeartbeats 2000000
namespace Go.Proofs.YtdjdgnabcecdlaaDoor.X
open Go Go.Proofs
/-- Edges in order with one more. -/
def putE (e : Int × Int) : List (Int × Int) → List (Int × Int)
  | [] => [e]
  | x :: r => if lessE e x then e :: x :: r else x :: putE e r
/-- The same, from the front. -/
def putS (e : Int × Int) (done : Bool) (acc : List (Int × Int)) (x : Int × Int) : Bool × List (Int × Int) :=
  if !done && lessE e x then (true, acc ++ [e, x]) else (done, acc ++ [x])
theorem putE_length (e : Int × Int) : ∀ es : List (Int × Int), (putE e es).length = es.length + 1
  | [] => rfl
  | x :: r => by
    simp only [putE]
    split
    · rfl
    · simp [putE_length e r]
end Go.Proofs.YtdjdgnabcecdlaaDoor.X

/- What functions compute: drawing a graph. -/
set_option linter.unusedSimpArgs false
set_option linter.unusedVariables false
set_option maxHeartbeats 2000000
namespace Go.Proofs.YtdjdgnabcecdlaaDoor.X
open Go Go.Proofs
def Ord (es : List (Int × Int)) : Prop := es.Pairwise fun a b => lessE a b = true
theorem lessE_iff {a b : Int × Int} : lessE a b = true ↔ a.1 < b.1 ∨ a.1 = b.1 ∧ a.2 < b.2 := by simp [lessE]
theorem lessE_trans {a b c : Int × Int} (h : lessE a b = true) (k : lessE b c = true) : lessE a c = true := by
  rw [lessE_iff] at *; omega
theorem lessE_total {a b : Int × Int} (h : lessE a b = false) (hn : a ≠ b) : lessE b a = true := by
  have h' : ¬ lessE a b = true := by simp [h]
  rw [lessE_iff] at *
  have : ¬ (a.1 = b.1 ∧ a.2 = b.2) := fun e => hn (Prod.ext e.1 e.2)
  omega
theorem mem_putE {e x : Int × Int} : ∀ {es : List (Int × Int)}, x ∈ putE e es ↔ x = e ∨ x ∈ es
  | [] => by simp [putE]
  | y :: r => by
    simp only [putE]
    split
    · simp
    · simp only [List.mem_cons, mem_putE (es := r)]
      constructor
      · rintro (h | h | h) <;> simp [h]
      · rintro (h | h | h) <;> simp [h]
theorem Ord.put {e : Int × Int} : ∀ {es : List (Int × Int)}, Ord es → e ∉ es → Ord (putE e es)
  | [], _, _ => by simp [Ord, putE]
  | x :: r, h, hn => by
    simp only [Ord, List.pairwise_cons] at h
    simp only [List.mem_cons, not_or] at hn
    simp only [putE]
    split
    · rename_i hl
      simp only [Ord, List.pairwise_cons]
      refine ⟨fun y hy => ?_, h.1, h.2⟩
      rcases List.mem_cons.1 hy with rfl | hy
      · exact hl
      · exact lessE_trans hl (h.1 y hy)
    · rename_i hl
      have hl' : lessE e x = false := by simpa using hl
      simp only [Ord, List.pairwise_cons]
      refine ⟨fun y hy => ?_, Ord.put h.2 hn.2⟩
      rcases mem_putE.1 hy with rfl | hy
      · exact lessE_total hl' hn.1
      · exact h.1 y hy
/-- Edges as they are handed back: none, or a list. -/
def qe (es : List (Int × Int)) : IV := if es = [] then .emp else .lst (es.map encE)
theorem frz_qe {n : Nat} {es : List (Int × Int)} : frz n (.i (qe es)) = .ret (.lst (es.map encE)) := by
  cases es with
  | nil => cases n <;> rfl
  | cons e r => cases n <;> rfl
theorem flat_qe {es : List (Int × Int)} : (qe es).flat = true := by cases es <;> rfl
theorem lenP_qe {es : List (Int × Int)} : lenP (.i (qe es)) = some es.length := by
  cases es with
  | nil => rfl
  | cons e r => simp [lenP, qe]
attribute [go_sem] frz_qe flat_qe lenP_qe
end Go.Proofs.YtdjdgnabcecdlaaDoor.X

/- What functions compute: graphs that may be wrong. -/
set_option linter.unusedSimpArgs false
set_option linter.unusedVariables false
set_option maxHeartbeats 2000000
namespace Go.Proofs.YtdjdgnabcecdlaaDoor.X
open Go Go.Proofs
abbrev GL (n : Int) (es : List (Int × Int)) : PV := .agg [I n, LE es]
/-- A list of edges, in whatever form. -/
structure EL (x : IV) (es : List (Int × Int)) : Prop where
  f : ∀ n, frz n (.i x) = .ret (.lst (es.map encE))
  fl : x.flat = true
theorem EL.qe (es : List (Int × Int)) : EL (qe es) es := ⟨fun _ => frz_qe, flat_qe⟩
theorem EL.lst (es : List (Int × Int)) : EL (.lst (es.map encE)) es := ⟨fun n => by cases n <;> rfl, rfl⟩
end Go.Proofs.YtdjdgnabcecdlaaDoor.X

/- What functions compute: a graph and a node. -/
set_option linter.unusedSimpArgs false
set_option linter.unusedVariables false
set_option maxHeartbeats 2000000
namespace Go.Proofs.YtdjdgnabcecdlaaDoor.X
open Go Go.Proofs
end Go.Proofs.YtdjdgnabcecdlaaDoor.X

/- What functions compute: valid graphs, as the reference says it. -/
set_option linter.unusedSimpArgs false
set_option linter.unusedVariables false
set_option maxHeartbeats 2000000
namespace Go.Proofs.YtdjdgnabcecdlaaDoor.X
open Go Go.Proofs
def okE (n : Int) (e : Int × Int) : Prop := 0 ≤ e.1 ∧ e.1 < e.2 ∧ e.2 < n
/-- A valid graph. -/
def VG (n : Int) (es : List (Int × Int)) : Prop := 1 ≤ n ∧ n ≤ 16 ∧ es.length ≤ 40 ∧ (∀ e ∈ es, okE n e) ∧ Ord es
noncomputable instance (n : Int) (es : List (Int × Int)) : Decidable (VG n es) := Classical.propDecidable _
theorem Ord.snoc {xs : List (Int × Int)} {y z : Int × Int} (h : Ord (xs ++ [y])) (k : lessE y z = true) : Ord (xs ++ [y] ++ [z]) := by
  simp only [Ord, List.pairwise_append, List.mem_append, List.mem_singleton] at *
  refine ⟨h, List.pairwise_singleton _ _, fun a ha b hb => ?_⟩
  subst hb
  rcases ha with ha | rfl
  · exact lessE_trans (h.2.2 a ha y rfl) k
  · exact k
theorem Ord.pre {xs ys : List (Int × Int)} (h : Ord (xs ++ ys)) : Ord xs := by
  simp only [Ord, List.pairwise_append] at *
  exact h.1
theorem take_at {α : Type} {l : List α} {i : Nat} {x : α} (h : l[i]? = some x) : l.take (i + 1) = l.take i ++ [x] := by
  rw [List.take_add_one, h]; rfl
theorem Ord.take_at {es : List (Int × Int)} {i : Nat} {y z : Int × Int} (hy : es[i]? = some y) (hz : es[i + 1]? = some z) (h : Ord (es.take (i + 1))) : Ord (es.take (i + 2)) ↔ lessE y z = true := by
  rw [X.take_at hz, X.take_at hy]
  rw [X.take_at hy] at h
  constructor
  · intro k
    simp only [Ord, List.pairwise_append, List.mem_append, List.mem_singleton] at k
    exact k.2.2 y (.inr rfl) z rfl
  · exact h.snoc
theorem VG.take {n : Int} {es : List (Int × Int)} (h : VG n es) (i : Nat) : (∀ e ∈ es.take i, okE n e) ∧ Ord (es.take i) := by
  obtain ⟨_, _, _, h1, h2⟩ := h
  refine ⟨fun e he => h1 e (List.mem_of_mem_take he), ?_⟩
  rw [← List.take_append_drop i es] at h2
  exact h2.pre
end Go.Proofs.YtdjdgnabcecdlaaDoor.X
