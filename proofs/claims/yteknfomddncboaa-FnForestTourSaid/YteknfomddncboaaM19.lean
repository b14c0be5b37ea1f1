/- Lists without neighbours alike; the nodes of edges: plain law. -/
import Derived.Test.YteknfomddncboaaM16
set_option linter.unusedVariables false
namespace Go.Proofs.Yteknfomddncboaa.X
open Go
def ddStep (acc : List Int) (x : Int) : List Int := if acc.getLast? = some x then acc else acc ++ [x]
/-- Of neighbours alike one is kept. -/
def ddS (l : List Int) : List Int := l.foldl ddStep []
theorem ddS_fold (l : List Int) (x : Int) : ddS (l ++ [x]) = ddStep (ddS l) x := by simp [ddS]
theorem snoc_ind {p : List Int → Prop} (h0 : p []) (h1 : ∀ l x, p l → p (l ++ [x])) (l : List Int) : p l := by
  have : ∀ r : List Int, p r.reverse := by
    intro r
    induction r with
    | nil => exact h0
    | cons a r ih => rw [List.reverse_cons]; exact h1 _ _ ih
  have := this l.reverse
  rwa [List.reverse_reverse] at this
theorem ddS_last (l : List Int) : (ddS l).getLast? = l.getLast? := by
  refine snoc_ind (p := fun l => (ddS l).getLast? = l.getLast?) rfl (fun l x ih => ?_) l
  rw [ddS_fold, ddStep]
  split
  · rename_i h; rw [h]; simp
  · simp
theorem ddS_snoc (l : List Int) (x : Int) : ddS (l ++ [x]) = if l.getLast? = some x then ddS l else ddS l ++ [x] := by
  rw [ddS_fold, ddStep, ddS_last]
theorem mem_ddS {l : List Int} {y : Int} : y ∈ ddS l ↔ y ∈ l := by
  refine snoc_ind (p := fun l => y ∈ ddS l ↔ y ∈ l) (by simp [ddS]) (fun l x ih => ?_) l
  rw [ddS_snoc]
  split
  · rename_i h
    rw [ih, List.mem_append, List.mem_singleton]
    refine ⟨.inl, fun k => k.elim id fun e => ?_⟩
    subst e
    exact List.mem_of_getLast? h
  · rw [List.mem_append, List.mem_append, ih]
theorem pair_snoc {r : Int → Int → Prop} {l : List Int} {x : Int} : (l ++ [x]).Pairwise r ↔ l.Pairwise r ∧ ∀ y ∈ l, r y x := by
  rw [List.pairwise_append]
  simp
theorem last_max {l : List Int} (h : l.Pairwise (· ≤ ·)) {z : Int} (hz : l.getLast? = some z) : ∀ y ∈ l, y ≤ z := by
  refine snoc_ind (p := fun l => l.Pairwise (· ≤ ·) → ∀ z, l.getLast? = some z → ∀ y ∈ l, y ≤ z) (fun _ z h => by simp at h) (fun l x ih hp z hz y hy => ?_) l h z hz
  simp at hz
  subst hz
  rw [pair_snoc] at hp
  rcases List.mem_append.1 hy with h | h
  · exact hp.2 y h
  · rw [List.mem_singleton.1 h]; exact Int.le_refl _
theorem ddS_sorted {l : List Int} : l.Pairwise (· ≤ ·) → (ddS l).Pairwise (· < ·) := by
  refine snoc_ind (p := fun l => l.Pairwise (· ≤ ·) → (ddS l).Pairwise (· < ·)) (fun _ => by simp [ddS]) (fun l x ih hp => ?_) l
  rw [ddS_snoc]
  rw [pair_snoc] at hp
  split
  · exact ih hp.1
  · rename_i hne
    rw [pair_snoc]
    refine ⟨ih hp.1, fun y hy => ?_⟩
    rw [mem_ddS] at hy
    have h1 := hp.2 y hy
    refine Classical.byContradiction fun h2 => hne ?_
    have e : y = x := by omega
    subst e
    cases hz : l.getLast? with
    | none => rw [List.getLast?_eq_none_iff] at hz; subst hz; cases hy
    | some z =>
      have h3 := last_max hp.1 hz y hy
      have h4 := hp.2 z (List.mem_of_getLast? hz)
      congr 1; omega
/-- Places: as long as no neighbours are alike, all is kept. -/
theorem ddS_take {l : List Int} : ∀ k : Nat, k ≤ l.length → (∀ i, 0 < i → i < k → l.getD i 0 ≠ l.getD (i - 1) 0) → ddS (l.take k) = l.take k
  | 0, _, _ => by simp [ddS]
  | k + 1, hk, h => by
    have ih := ddS_take k (by omega) fun i h0 h1 => h i h0 (by omega)
    have hk' : k < l.length := by omega
    rw [List.take_add_one, List.getElem?_eq_getElem hk', Option.toList_some, ddS_snoc, ih]
    rw [if_neg]
    intro hl
    rw [List.getLast?_eq_getElem?, List.length_take, Nat.min_eq_left (by omega)] at hl
    by_cases h0 : k = 0
    · subst h0; simp at hl
    · rw [List.getElem?_take_of_lt (by omega), List.getElem?_eq_getElem (by omega), Option.some.injEq] at hl
      refine h k (by omega) (by omega) ?_
      simp [hk', show k - 1 < l.length by omega, hl]
theorem ddS_next {l : List Int} {i : Nat} (h0 : 0 < i) (h1 : i < l.length) : ddS (l.take (i + 1)) = if l.getD i 0 = l.getD (i - 1) 0 then ddS (l.take i) else ddS (l.take i) ++ [l.getD i 0] := by
  rw [List.take_add_one, List.getElem?_eq_getElem h1, Option.toList_some, ddS_snoc]
  have hl : (l.take i).getLast? = some (l.getD (i - 1) 0) := by
    rw [List.getLast?_eq_getElem?, List.length_take, Nat.min_eq_left (by omega), List.getElem?_take_of_lt (by omega), List.getElem?_eq_getElem (by omega)]
    simp [show i - 1 < l.length by omega]
  have hg : l.getD i 0 = l[i] := by simp [h1]
  rw [hl, hg]
  by_cases h : l[i] = l.getD (i - 1) 0
  · rw [if_pos h, if_pos (by rw [h])]
  · rw [if_neg h, if_neg (fun e => h (Option.some.inj e).symm)]
/-- The nodes of edges. -/
def endsL (es : List (Int × Int)) : List Int := es.flatMap fun e => [e.1, e.2]
def nodesL (n : Int) (es : List (Int × Int)) : List Int := (iota n).filter fun v => es.any fun e => decide (On v e)
end Go.Proofs.Yteknfomddncboaa.X
