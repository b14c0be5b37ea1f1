/- Edges in order. -/
import Derived.Test.YteknfomddncboaaKC
import Derived.Test.YteknfomddncboaaKD
set_option linter.unusedSimpArgs false
set_option linter.unusedVariables false
set_option maxHeartbeats 8000000
namespace Go.Proofs.Yteknfomddncboaa.X
open Go Go.Proofs
def sortEs (xs : List (Int × Int)) : List (Int × Int) := xs.mergeSort leE
theorem sortF_encE (xs : List (Int × Int)) : sortF (xs.map encE) = (sortEs xs).map encE := by
  unfold sortF sortEs
  rw [List.map_mergeSort]
  intro a _ b _
  rfl
theorem sortEs_length (xs : List (Int × Int)) : (sortEs xs).length = xs.length := List.length_mergeSort _
theorem mem_sortEs {xs : List (Int × Int)} {e : Int × Int} : e ∈ sortEs xs ↔ e ∈ xs := List.mem_mergeSort
theorem leE_of {a b : Int × Int} (h : leE a b = true) (hn : a ≠ b) : lessE a b = true := by
  rw [lessE_iff]
  unfold leE at h
  rw [decide_eq_true_eq] at h
  have : ¬ (a.1 = b.1 ∧ a.2 = b.2) := fun e => hn (Prod.ext e.1 e.2)
  omega
theorem sortEs_ord {xs : List (Int × Int)} (h : xs.Nodup) : Ord (sortEs xs) := by
  have h1 : (sortEs xs).Pairwise fun a b => leE a b = true := List.pairwise_mergeSort (fun a b c h1 h2 => by unfold leE at *; rw [decide_eq_true_eq] at *; omega) (fun a b => by unfold leE; rw [Bool.or_eq_true, decide_eq_true_eq, decide_eq_true_eq]; omega) xs
  have h2 : (sortEs xs).Nodup := (List.mergeSort_perm xs leE).nodup_iff.2 h
  unfold Ord
  exact (h1.and h2).imp fun h => leE_of h.1 h.2
theorem lessE_irrefl {a : Int × Int} : ¬ lessE a a = true := by rw [lessE_iff]; omega
theorem ord_ext : ∀ {l r : List (Int × Int)}, Ord l → Ord r → (∀ x, x ∈ l ↔ x ∈ r) → l = r
  | [], [], _, _, _ => rfl
  | [], y :: r, _, _, h => by have := (h y).2 (by simp); simp at this
  | x :: l, [], _, _, h => by have := (h x).1 (by simp); simp at this
  | x :: l, y :: r, hl, hr, h => by
    unfold Ord at hl hr
    rw [List.pairwise_cons] at hl hr
    have hxy : x = y := by
      rcases List.mem_cons.1 ((h x).1 (by simp)) with e | e
      · exact e
      · rcases List.mem_cons.1 ((h y).2 (by simp)) with e' | e'
        · exact e'.symm
        · exact absurd (lessE_trans (hl.1 y e') (hr.1 x e)) lessE_irrefl
    subst hxy
    rw [ord_ext (l := l) (r := r) hl.2 hr.2 fun z => ?_]
    constructor
    · intro hz
      rcases List.mem_cons.1 ((h z).1 (by simp [hz])) with e | e
      · exact absurd (hl.1 z hz) (e ▸ lessE_irrefl)
      · exact e
    · intro hz
      rcases List.mem_cons.1 ((h z).2 (by simp [hz])) with e | e
      · exact absurd (hr.1 z hz) (e ▸ lessE_irrefl)
      · exact e
@[go_sem] theorem c_sortEs (xs : List (Int × Int)) (n : Nat) (h : n = xs.length) (hl : xs.length ≤ 4000000) : KP 141 [.ref 1000 0 0 n, .fn 109 [] []] [.arr 0 2 (xs.map encE)] = some (.tup [], [.arr 0 2 ((sortEs xs).map encE)], []) := by
  refine KK_prim rfl ?_
  have : (xs.map encE).all isEd = true := by simp [encE, isEd]
  simp only [sortFP, List.length_map, h, hl, this, and_self, if_true, sortF_encE]
end Go.Proofs.Yteknfomddncboaa.X
