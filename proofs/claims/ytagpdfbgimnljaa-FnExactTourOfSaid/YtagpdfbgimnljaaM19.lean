/- Lists without neighbours alike; the nodes of edges: plain law. -/
import Derived.Test.YtagpdfbgimnljaaM16
set_option linter.unusedVariables false
namespace Go.Proofs.Ytagpdfbgimnljaa.X
open Go
def ddStep (acc : List Int) (x : Int) : List Int := if acc.getLast? = some x then acc else acc ++ [x]
/-- Of neighbours alike one is kept. -/
def ddS (l : List Int) : List Int := l.foldl ddStep []
theorem ddS_fold (l : List Int) (x : Int) : ddS (l ++ [x]) = ddStep (ddS l) x := by simp [ddS]
theorem snoc_ind {p : List Int → Prop} (h0 : p []) (h1 : ∀ l x, p l → p (l ++ [x])) (l : List Int) : p l := by
  have : ∀ r : List Int, p r.reverse := by
    intro r
    induction r with
    | nil => exact h0
    | cons a r ih => rw [List.reverse_cons]; exact h1 _ _ ih
  have := this l.reverse
  rwa [List.reverse_reverse] at this
theorem ddS_last (l : List Int) : (ddS l).getLast? = l.getLast? := by
  refine snoc_ind (p := fun l => (ddS l).getLast? = l.getLast?) rfl (fun l x ih => ?_) l
  rw [ddS_fold, ddStep]
  split
  · rename_i h; rw [h]; simp
  · simp
theorem ddS_snoc (l : List Int) (x : Int) : ddS (l ++ [x]) = if l.getLast? = some x then ddS l else ddS l ++ [x] := by
  rw [ddS_fold, ddStep, ddS_last]
theorem mem_ddS {l : List Int} {y : Int} : y ∈ ddS l ↔ y ∈ l := by
  refine snoc_ind (p := fun l => y ∈ ddS l ↔ y ∈ l) (by simp [ddS]) (fun l x ih => ?_) l
  rw [ddS_snoc]
  split
  · rename_i h
    rw [ih, List.mem_append, List.mem_singleton]
    refine ⟨.inl, fun k => k.elim id fun e => ?_⟩
    subst e
    exact List.mem_of_getLast? h
  · rw [List.mem_append, List.mem_append, ih]
theorem pair_snoc {r : Int → Int → Prop} {l : List Int} {x : Int} : (l ++ [x]).Pairwise r ↔ l.Pairwise r ∧ ∀ y ∈ l, r y x := by
  rw [List.pairwise_append]
  simp
theorem last_max {l : List Int} (h : l.Pairwise (· ≤ ·)) {z : Int} (hz : l.getLast? = some z) : ∀ y ∈ l, y ≤ z := by
  refine snoc_ind (p := fun l => l.Pairwise (· ≤ ·) → ∀ z, l.getLast? = some z → ∀ y ∈ l, y ≤ z) (fun _ z h => by simp at h) (fun l x ih hp z hz y hy => ?_) l h z hz
  simp at hz
  subst hz
  rw [pair_snoc] at hp
  rcases List.mem_append.1 hy with h | h
  · exact hp.2 y h
  · rw [List.mem_singleton.1 h]; exact Int.le_refl _
theorem ddS_sorted {l : List Int} : l.Pairwise (· ≤ ·) → (ddS l).Pairwise (· < ·) := by
  refine snoc_ind (p := fun l => l.Pairwise (· ≤ ·) → (ddS l).Pairwise (· < ·)) (fun _ => by simp [ddS]) (fun l x ih hp => ?_) l
  rw [ddS_snoc]
  rw [pair_snoc] at hp
  split
  · exact ih hp.1
  · rename_i hne
    rw [pair_snoc]
    refine ⟨ih hp.1, fun y hy => ?_⟩
    rw [mem_ddS] at hy
    have h1 := hp.2 y hy
    refine Classical.byContradiction fun h2 => hne ?_
    have e : y = x := by omega
    subst e
    cases hz : l.getLast? with
    | none => rw [List.getLast?_eq_none_iff] at hz; subst hz; cases hy
    | some z =>
      have h3 := last_max hp.1 hz y hy
      have h4 := hp.2 z (List.mem_of_getLast? hz)
      congr 1; omega
/-- The nodes of edges. -/
def endsL (es : List (Int × Int)) : List Int := es.flatMap fun e => [e.1, e.2]
def nodesL (n : Int) (es : List (Int × Int)) : List Int := (iota n).filter fun v => es.any fun e => decide (On v e)
end Go.Proofs.Ytagpdfbgimnljaa.X
