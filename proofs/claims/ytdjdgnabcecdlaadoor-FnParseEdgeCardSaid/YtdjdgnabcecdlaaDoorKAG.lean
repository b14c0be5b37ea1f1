/- What functions answer, and the plain laws behind it. -/
import Derived.Test.YtdjdgnabcecdlaaDoorKAB
import Derived.Test.YtdjdgnabcecdlaaDoorC22
import Derived.Test.YtdjdgnabcecdlaaDoorC46
import Derived.Test.YtdjdgnabcecdlaaDoorM23
import Derived.Test.YtdjdgnabcecdlaaDoorKAC
import Derived.Test.YtdjdgnabcecdlaaDoorKAE
import Derived.Test.YtdjdgnabcecdlaaDoorM21
/- What functions compute: graphs with levels, whether they are valid. -/
set_option linter.unusedSimpArgs false
set_option linter.unusedVariables false
set_option maxHeartbeats 8000000
set_option maxRecDepth 100000
namespace Go.Proofs.YtdjdgnabcecdlaaDoor.X
open Go Go.Proofs
def lvT (ts : List Tl) : List Int := ts.map (·.2.1)
def trT (ts : List Tl) : List Bool := ts.map (·.2.2)
abbrev LvP (n : Int) (ts : List Tl) : PV := .agg [I n, LE (esT ts), LI (lvT ts), LT (trT ts)]
abbrev dT : Tl := ((0, 0), 0, false)
end Go.Proofs.YtdjdgnabcecdlaaDoor.X

/- What functions compute: rooted trees of a forest. -/
set_option linter.unusedSimpArgs false
set_option linter.unusedVariables false
set_option maxHeartbeats 8000000
set_option maxRecDepth 100000
namespace Go.Proofs.YtdjdgnabcecdlaaDoor.X
open Go Go.Proofs
/-- The label of a node. -/
noncomputable def lbl (es : List (Int × Int)) (x : Int) : Int := (least es x.toNat : Nat)
/-- The node above a node. -/
noncomputable def upN (n : Int) (es : List (Int × Int)) (x : Int) : Int := if lbl es x = x then -1 else (pathL n (forestL es) x (lbl es x)).getD 1 0
noncomputable def wtN (es : List (Int × Int)) (x : Int) : Int := if lbl es x = x then 0 else 1
noncomputable def upsL (n : Int) (es : List (Int × Int)) (i : Int) : List Int := (iota i).map (upN n es)
noncomputable def wtsL (es : List (Int × Int)) (i : Int) : List Int := (iota i).map (wtN es)
abbrev RP (ps ws : List Int) : PV := .agg [LI ps, LI ws]
end Go.Proofs.YtdjdgnabcecdlaaDoor.X

/- What functions compute: whether a graph with levels is valid. -/
set_option linter.unusedSimpArgs false
set_option linter.unusedVariables false
set_option maxHeartbeats 8000000
set_option maxRecDepth 100000
namespace Go.Proofs.YtdjdgnabcecdlaaDoor.X
open Go Go.Proofs
/-- How many labels are a number. -/
def cntsL (n : Int) (ls : List Int) : List Int := (iota n).map fun x => ((ls.filter fun y => decide (y = x)).length : Int)
/-- What is valid at a level. -/
def szOk (n k : Int) (es : List (Int × Int)) : Prop := ∀ x, inN n x → 1 < szC n es x → szC n es x ≤ n / 2 ^ k.toNat
def lvAt (n : Int) (ts : List Tl) (k : Int) : Prop := Tree n (abT ts k true) ∧ lab n (abT ts k true) = lab n (abT ts k false) ∧ szOk n k (abT ts k false)
end Go.Proofs.YtdjdgnabcecdlaaDoor.X

/- What functions compute: whether a graph with levels is valid (the whole). -/
set_option linter.unusedSimpArgs false
set_option linter.unusedVariables false
set_option maxHeartbeats 8000000
set_option maxRecDepth 100000
namespace Go.Proofs.YtdjdgnabcecdlaaDoor.X
open Go Go.Proofs
noncomputable instance decLV (n : Int) (ts : List Tl) : Decidable (LV n ts) := Classical.propDecidable _
end Go.Proofs.YtdjdgnabcecdlaaDoor.X

/- What functions compute: copies of rows of numbers and of truth values, what goes in and out. -/
set_option linter.unusedSimpArgs false
set_option linter.unusedVariables false
set_option maxHeartbeats 8000000
set_option maxRecDepth 100000
namespace Go.Proofs.YtdjdgnabcecdlaaDoor.X
open Go Go.Proofs
theorem mapAppT {xs ys : List Bool} : xs.map encT ++ ys.map encT = (xs ++ ys).map encT := by simp
theorem dropT {xs : List Bool} {n : Nat} : (xs.map encT).drop n = (xs.drop n).map encT := by simp
theorem takeTB {xs : List Bool} {n : Nat} : (xs.map encT).take n = (xs.take n).map encT := by simp
theorem encT_map_inj {a b : List Bool} : a.map encT = b.map encT ↔ a = b := by
  refine ⟨fun h => ?_, fun h => by rw [h]⟩
  induction a generalizing b with
  | nil => cases b <;> simp_all
  | cons x a ih =>
    cases b with
    | nil => simp at h
    | cons y b =>
      simp only [List.map_cons, List.cons.injEq, encT, IV.v.injEq, Value.bool.injEq, and_true] at h
      rw [ih h.2, h.1]
theorem lenT_all {us : List Bool} : (us.map encT).all (fun e => e.length == 1) = true := by simp [encT]
attribute [go_sem] mapAppT dropT takeTB encT_map_inj lenT_all
end Go.Proofs.YtdjdgnabcecdlaaDoor.X

/- What functions compute: an edge is put into a graph with levels. -/
set_option linter.unusedSimpArgs false
set_option linter.unusedVariables false
set_option maxHeartbeats 8000000
set_option maxRecDepth 100000
namespace Go.Proofs.YtdjdgnabcecdlaaDoor.X
open Go Go.Proofs
def putT (e : Int × Int) (b : Bool) : List Tl → List Tl
  | [] => [(e, 0, b)]
  | t :: r => if lessE e t.1 then (e, 0, b) :: t :: r else t :: putT e b r
theorem putT_es (e : Int × Int) (b : Bool) : ∀ ts : List Tl, esT (putT e b ts) = putE e (esT ts)
  | [] => rfl
  | t :: r => by
    have ih := putT_es e b r
    unfold esT at ih ⊢
    rw [putT, List.map_cons, putE]
    split
    · rfl
    · rw [List.map_cons, ih]
theorem putT_parts (e : Int × Int) (b : Bool) : ∀ ts : List Tl, ∃ p r, ts = p ++ r ∧ (∀ b, putT e b ts = p ++ (e, 0, b) :: r)
  | [] => ⟨[], [], rfl, fun _ => rfl⟩
  | t :: r => by
    by_cases h : lessE e t.1 = true
    · exact ⟨[], t :: r, rfl, fun b => by rw [putT, if_pos h]; rfl⟩
    · obtain ⟨p, q, h1, h2⟩ := putT_parts e b r
      exact ⟨t :: p, q, by rw [h1]; rfl, fun b => by rw [putT, if_neg h, h2]; rfl⟩
theorem LV.putT {n : Int} {ts : List Tl} {e : Int × Int} (h : LV n ts) (hP : PutOK n (esT ts) e) : LV n (putT e (!decide (Conn (esT ts) e.1 e.2)) ts) := by
  obtain ⟨p, r, h1, h2⟩ := putT_parts e true ts
  have hV : VG n (esT (p ++ (e, 0, true) :: r)) := by rw [← h2 true, putT_es]; exact hP.2.2
  rw [h2]
  have := LV.put (p := p) (r := r) (e := e) (by rw [← h1]; exact h) hV
  rw [← h1] at this
  exact this
/-- A row that is to come back. -/
def PlOK (n : Int) (ts : List Tl) (e : Int × Int) : Prop := LV n ts ∧ PutOK n (esT ts) e
noncomputable instance decPlOK (n : Int) (ts : List Tl) (e : Int × Int) : Decidable (PlOK n ts e) := Classical.propDecidable _
noncomputable abbrev plL (ts : List Tl) (e : Int × Int) : List Tl := putT e (!decide (Conn (esT ts) e.1 e.2)) ts
end Go.Proofs.YtdjdgnabcecdlaaDoor.X

/- Graphs are loaded: the edges are put one after another, in order. The plain law. -/
set_option linter.unusedSimpArgs false
set_option linter.unusedVariables false
set_option maxHeartbeats 8000000
set_option maxRecDepth 100000
namespace Go.Proofs.YtdjdgnabcecdlaaDoor.X
open Go Go.Proofs
/-- What comes of the edges. -/
noncomputable def ldT (es : List (Int × Int)) : List Tl := es.foldl (fun ts e => plL ts e) []
theorem putE_end {e : Int × Int} : ∀ {es : List (Int × Int)}, (∀ x ∈ es, lessE e x = false) → putE e es = es ++ [e]
  | [], _ => rfl
  | x :: r, h => by
    have h1 := h x (by simp)
    rw [putE, if_neg (by simp [h1]), putE_end fun y hy => h y (by simp [hy])]; rfl
theorem ord_end {xs : List (Int × Int)} {e : Int × Int} (h : Ord (xs ++ [e])) : ∀ x ∈ xs, lessE e x = false := fun x hx => by
  simp only [Ord, List.pairwise_append, List.mem_singleton] at h
  have h1 := h.2.2 x hx e rfl
  cases h2 : lessE e x with
  | false => rfl
  | true =>
    rw [lessE_iff] at h1 h2
    omega
structure LD (n : Int) (es : List (Int × Int)) : Prop where
  es' : esT (ldT es) = es
  lv : LV n (ldT es)
  z : ∀ t ∈ ldT es, t.2.1 = 0
  fo : abT (ldT es) 0 true = forestL es
theorem LD.put {n : Int} {xs : List (Int × Int)} {e : Int × Int} (h : LD n xs) (hV : VG n (xs ++ [e])) : PlOK n (ldT xs) e := by
  have hd := ord_end hV.2.2.2.2
  refine ⟨h.lv, ?_, ?_, ?_⟩
  · rw [h.es']; exact hV.sub (List.sublist_append_left _ _)
  · rw [h.es']
    have := hV.2.2.2.2.nodup
    rw [List.nodup_append] at this
    exact fun hm => this.2.2 e hm e (by simp) rfl
  · rw [h.es', putE_end hd]; exact hV
end Go.Proofs.YtdjdgnabcecdlaaDoor.X
