/- Operations, the lives of edges: plain law. -/
import Derived.Test.YteknfomddncboaaM21
import Derived.Test.YteknfomddncboaaC46
set_option linter.unusedSimpArgs false
set_option linter.unusedVariables false
set_option maxHeartbeats 4000000
namespace Go.Proofs.Yteknfomddncboaa.X
open Go Go.Proofs
abbrev Op3 := Int × Int × Int
def opE (o : Op3) : Int × Int := o.2
noncomputable def opS (n : Int) (es : List (Int × Int)) (o : Op3) : Option (List (Int × Int)) :=
  if o.1 = 1 then (if PutOK n es o.2 then some (putE o.2 es) else none)
  else if o.1 = 2 then (if o.2 ∈ es then some (cutE o.2 es) else none)
  else if o.1 = 3 then (if 0 ≤ o.2.1 ∧ o.2.1 < o.2.2 ∧ o.2.2 < n then some es else none) else none
noncomputable def runS (n : Int) (ops : List Op3) : Option (List (Int × Int)) := ops.foldl (fun s o => s.bind fun es => opS n es o) (some [])
theorem runS_nil (n : Int) : runS n [] = some [] := rfl
theorem runS_snoc (n : Int) (ops : List Op3) (o : Op3) : runS n (ops ++ [o]) = (runS n ops).bind fun es => opS n es o := by unfold runS; rw [List.foldl_append]; rfl
theorem fold_none (n : Int) : ∀ ops : List Op3, ops.foldl (fun s o => s.bind fun es => opS n es o) none = none
  | [] => rfl
  | o :: ops => by rw [List.foldl_cons]; exact fold_none n ops
theorem runS_pre {n : Int} {ops : List Op3} (h : (runS n ops).isSome) (t : Nat) : (runS n (ops.take t)).isSome := by
  cases hr : runS n (ops.take t) with
  | some es => rfl
  | none =>
    rw [← List.take_append_drop t ops] at h
    unfold runS at h hr
    rw [List.foldl_append, hr, fold_none] at h
    exact h
theorem VG.put {n : Int} {es : List (Int × Int)} {e : Int × Int} (h : PutOK n es e) : VG n (putE e es) := h.2.2
theorem opS_vg {n : Int} {es fs : List (Int × Int)} {o : Op3} (hV : VG n es) (h : opS n es o = some fs) : VG n fs := by
  unfold opS at h
  repeat' split at h
  all_goals first
    | (cases h; done)
    | (cases h; rename_i hp; exact hp.2.2)
    | (cases h; exact hV)
    | (cases h; exact hV.sub List.filter_sublist)
theorem runS_vg {n : Int} (h1 : 1 ≤ n) (h2 : n ≤ 16) : ∀ {k : Nat} {ops : List Op3} {es : List (Int × Int)}, ops.length = k → runS n ops = some es → VG n es := by
  intro k
  induction k with
  | zero =>
    intro ops es hk h
    have : ops = [] := List.length_eq_zero_iff.1 hk
    subst this
    cases h
    exact ⟨h1, h2, by simp, by simp, by simp [Ord]⟩
  | succ k ih =>
    intro ops es hk h
    have hne : ops ≠ [] := fun e => by rw [e] at hk; simp at hk
    rw [← List.dropLast_concat_getLast hne, runS_snoc] at h
    cases hr : runS n ops.dropLast with
    | none => rw [hr] at h; cases h
    | some fs => rw [hr] at h; exact opS_vg (ih (by simp [hk]) hr) h
/-- The life of an edge: the edge, from, to. -/
abbrev Lf := (Int × Int) × Int × Int
def endE (ops : List Op3) (i : Nat) (e : Int × Int) : Nat := i + 1 + (ops.drop (i + 1)).findIdx fun o => decide (o = (2, e))
def livesS (ops : List Op3) : List Lf := (List.range ops.length).flatMap fun (i : Nat) => match ops[i]? with | some (k, e) => if k = 1 then [(e, (i : Int), (endE ops i e : Int))] else [] | none => []
def atL (t : Int) (l : Lf) : Bool := decide (l.2.1 ≤ t ∧ t < l.2.2)
/-- The edges that are there in front of an operation. -/
def aliveL (lvs : List Lf) (t : Int) : List (Int × Int) := (lvs.filter (atL t)).map (·.1)
/-- What is united in a span, and what is left for its halves. -/
def covS (lo hi : Int) (l : Lf) : Bool := decide (l.2.1 ≤ lo ∧ hi ≤ l.2.2)
def leftS (lo hi : Int) (l : Lf) : Bool := !covS lo hi l && decide (l.2.1 < hi ∧ lo < l.2.2)
/-- The answers to the questions in a span. -/
noncomputable def ansS (ops : List Op3) (lvs : List Lf) (es : List (Int × Int)) (lo : Int) (k : Nat) : List Bool := (List.range k).flatMap fun (i : Nat) => match ops[lo.toNat + i]? with | some (kd, a, b) => if kd = 3 then [decide (Conn (es ++ aliveL lvs (lo + i)) a b)] else [] | none => []
def workS (lvs : List Lf) (lo hi : Int) : Int := (lvs.map fun l => spanN (hi - lo).toNat lo hi l.2.1 l.2.2).sum
end Go.Proofs.Yteknfomddncboaa.X
