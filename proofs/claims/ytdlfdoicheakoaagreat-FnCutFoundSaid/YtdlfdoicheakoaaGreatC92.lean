/- What functions compute: an edge is put into a graph with levels, as the reference has it. -/
import Derived.Test.YtdlfdoicheakoaaGreatC91
import Derived.Test.YtdlfdoicheakoaaGreatKAL
set_option linter.unusedSimpArgs false
set_option linter.unusedVariables false
set_option maxHeartbeats 16000000
set_option maxRecDepth 100000
namespace Go.Proofs.YtdlfdoicheakoaaGreat.X
open Go Go.Proofs
/-- The rows of the list with an edge more: the new edge's or an old one's. -/
theorem putT_row {e : Int × Int} {q : Bool} {ts : List Tl} (hn : (esT ts).Nodup) (hm : e ∉ esT ts) {i : Nat} (hi : i < ts.length + 1) :
    (findE (esT ts) ((putT e q ts).getD i dT).1 < 0 ∧ (putT e q ts).getD i dT = (e, 0, q)) ∨
    ∃ k : Nat, k < ts.length ∧ findE (esT ts) ((putT e q ts).getD i dT).1 = k ∧ (putT e q ts).getD i dT = ts.getD k dT := by
  have hmem : (putT e q ts).getD i dT ∈ putT e q ts := getD_mem (by rw [putT_len]; exact hi)
  obtain ⟨p, r, h1, h2⟩ := putT_parts e q ts
  rw [h2 q] at hmem ⊢
  generalize (p ++ (e, 0, q) :: r).getD i dT = t at *
  by_cases ht : t = (e, 0, q)
  · subst ht
    exact .inl ⟨by unfold findE; rw [if_neg hm]; omega, rfl⟩
  · right
    have htm : t ∈ ts := by
      rw [h1]
      simp only [List.mem_append, List.mem_cons] at hmem ⊢
      rcases hmem with h | h | h
      · exact .inl h
      · exact absurd h ht
      · exact .inr h
    obtain ⟨k, l, b, hk, hf, hg, -⟩ := find_split (ts := ts) (e := t.1) (List.mem_map.2 ⟨t, htm, rfl⟩)
    refine ⟨k, hk, hf, ?_⟩
    rw [hg]
    obtain ⟨j, hj, rfl⟩ := List.getElem_of_mem htm
    have hjk : j = k := by
      have e1 : ts.getD k dT = ts[k] := by simp [List.getD, hk]
      rw [e1] at hg
      have e2 : (esT ts)[j]'(by rw [esT_len']; exact hj) = (esT ts)[k]'(by rw [esT_len']; exact hk) := by simp [esT, hg]
      have hpw := List.pairwise_iff_getElem.1 hn
      rcases Nat.lt_trichotomy j k with h | h | h
      · exact absurd e2 (hpw j k _ _ h)
      · exact h
      · exact absurd e2.symm (hpw k j _ _ h)
    subst hjk
    rw [← hg]; simp [List.getD, hj]
/-- A graph with levels in three arrays of its own. -/
abbrev refsP (n : Int) (us : List Tl) : PV := .agg [I n, .ref 2000 0 0 us.length, .ref 2001 0 0 us.length, .ref 2002 0 0 us.length]
abbrev refsA (us : List Tl) : List Arr := [.arr 0 2 ((esT us).map encE), arrL (lvT us), arrT (trT us)]
theorem rkE (us : List Tl) : (esT us).take us.length = esT us := List.take_of_length_le (by rw [esT_len']; exact Nat.le_refl _)
theorem rkL (us : List Tl) : (lvT us).take us.length = lvT us := List.take_of_length_le (by rw [lvT_len]; exact Nat.le_refl _)
theorem rkT (us : List Tl) : (trT us).take us.length = trT us := List.take_of_length_le (by rw [trT_len]; exact Nat.le_refl _)
end Go.Proofs.YtdlfdoicheakoaaGreat.X
