/- What functions compute: valid graphs, as the reference says it. -/
import Derived.Test.YtdlfdoicheakoaaKAA
set_option linter.unusedSimpArgs false
set_option linter.unusedVariables false
set_option maxHeartbeats 2000000
namespace Go.Proofs.Ytdlfdoicheakoaa.X
open Go Go.Proofs
def okE (n : Int) (e : Int × Int) : Prop := 0 ≤ e.1 ∧ e.1 < e.2 ∧ e.2 < n
/-- A valid graph. -/
def VG (n : Int) (es : List (Int × Int)) : Prop := 1 ≤ n ∧ n ≤ 16 ∧ es.length ≤ 40 ∧ (∀ e ∈ es, okE n e) ∧ Ord es
noncomputable instance (n : Int) (es : List (Int × Int)) : Decidable (VG n es) := Classical.propDecidable _
theorem Ord.snoc {xs : List (Int × Int)} {y z : Int × Int} (h : Ord (xs ++ [y])) (k : lessE y z = true) : Ord (xs ++ [y] ++ [z]) := by
  simp only [Ord, List.pairwise_append, List.mem_append, List.mem_singleton] at *
  refine ⟨h, List.pairwise_singleton _ _, fun a ha b hb => ?_⟩
  subst hb
  rcases ha with ha | rfl
  · exact lessE_trans (h.2.2 a ha y rfl) k
  · exact k
theorem Ord.pre {xs ys : List (Int × Int)} (h : Ord (xs ++ ys)) : Ord xs := by
  simp only [Ord, List.pairwise_append] at *
  exact h.1
theorem take_at {α : Type} {l : List α} {i : Nat} {x : α} (h : l[i]? = some x) : l.take (i + 1) = l.take i ++ [x] := by
  rw [List.take_add_one, h]; rfl
theorem Ord.take_at {es : List (Int × Int)} {i : Nat} {y z : Int × Int} (hy : es[i]? = some y) (hz : es[i + 1]? = some z) (h : Ord (es.take (i + 1))) : Ord (es.take (i + 2)) ↔ lessE y z = true := by
  rw [X.take_at hz, X.take_at hy]
  rw [X.take_at hy] at h
  constructor
  · intro k
    simp only [Ord, List.pairwise_append, List.mem_append, List.mem_singleton] at k
    exact k.2.2 y (.inr rfl) z rfl
  · exact h.snoc
theorem VG.take {n : Int} {es : List (Int × Int)} (h : VG n es) (i : Nat) : (∀ e ∈ es.take i, okE n e) ∧ Ord (es.take i) := by
  obtain ⟨_, _, _, h1, h2⟩ := h
  refine ⟨fun e he => h1 e (List.mem_of_mem_take he), ?_⟩
  rw [← List.take_append_drop i es] at h2
  exact h2.pre
theorem c_sGraphValid (n : Int) (es : List (Int × Int)) (hl : es.length ≤ 1048576) : KP 81 [GL n es] [] = some (B (decide (VG n es)), [], []) := by
  cases h1 : decide (n < 1)
  · cases h2 : decide (16 < n)
    · cases h3 : decide ((40 : Int) < es.length)
      · refine gc Try.func81 ?_
        have Fz:=fz3 h1 h2 h3
        repeat refine goD ?_
        simp only [decide_eq_false_iff_not] at h1 h2 h3
        refine xw_loop_count (fun k s => ∃ i : Nat, k = es.length - i ∧ i ≤ es.length ∧ (∀ e ∈ es.take i, okE n e) ∧ Ord (es.take i) ∧ s.ρ 1 = .ptr 1 0 0 0 ∧ s.ρ 3 = I i ∧ s.m 1 = some (.box 0 [I n, LE es])) ?_ es.length _ ⟨0, by simp, by simp, by simp, by simp [Ord], rfl, rfl, rfl⟩
        rintro k ⟨ρ, m⟩ ⟨i, rfl, hi, ha, ho, r1, r3, m1⟩
        simp only at r1 r3 m1
        cases hc : decide ((i : Int) < es.length)
        · have Fz:=fz4 r1 r3 m1 hc
          repeat refine goD ?_
          have Fz:=fz1 Try.results81
          refine goR ?_
          try trivial
          simp only [decide_eq_false_iff_not] at hc
          rw [List.take_of_length_le (by omega)] at ha ho
          have : VG n es := ⟨by omega, by omega, by omega, ha, ho⟩
          simp [this]
        · simp only [decide_eq_true_eq] at hc
          obtain ⟨⟨u, v⟩, he⟩ : ∃ e, es[i]? = some e := ⟨es[i]'(by omega), by simp⟩
          have bad : ¬ okE n (u, v) → ¬ VG n es := fun hb h => hb (h.2.2.2.1 _ (List.mem_of_getElem? he))
          cases h4 : decide (u < 0)
          · cases h5 : decide (v ≤ u)
            · cases h6 : decide (n ≤ v)
              · have hok : okE n (u, v) := by simp only [decide_eq_false_iff_not] at h4 h5 h6; exact ⟨by simp only; omega, by simp only; omega, by simp only; omega⟩
                have ha' : ∀ e ∈ es.take (i + 1), okE n e := fun e h => by
                  rw [take_at he] at h
                  rcases List.mem_append.1 h with h | h
                  · exact ha e h
                  · simp at h; subst h; exact hok
                cases h7 : decide ((0 : Int) < i)
                · have Fz:=fz11 r1 r3 m1 hc he @encE.eq_1 @lgm h4 h5 h6 h7
                  repeat refine goD ?_
                  simp only [decide_eq_false_iff_not] at h7
                  have hi0 : i = 0 := by omega
                  subst hi0
                  refine ⟨es.length - 1, by omega, 1, rfl, by omega, ha', ?_, rfl⟩
                  rw [take_at he]; simp [Ord]
                · obtain ⟨j, rfl⟩ : ∃ j, i = j + 1 := ⟨i - 1, by simp at h7; omega⟩
                  obtain ⟨⟨x, y⟩, hx⟩ : ∃ e, es[j]? = some e := ⟨es[j]'(by omega), by simp⟩
                  have hless := c_l1Less x y u v
                  have hj1 : ((j + 1 : Nat) : Int) - 1 = j := by omega
                  cases h8 : lessE (x, y) (u, v)
                  · have Fz:=fz15 r1 r3 m1 hc he hx hj1 @encE.eq_1 @lgm h4 h5 h6 h7 hless h8
                    repeat refine goD ?_
                    have Fz:=fz1 Try.results81
                    refine goR ?_
                    try trivial
                    have : ¬ VG n es := fun h => by
                      have := (Ord.take_at hx he ho).1 (h.take _).2
                      rw [h8] at this; cases this
                    simp [this]
                  · have Fz:=fz15 r1 r3 m1 hc he hx hj1 @encE.eq_1 @lgm h4 h5 h6 h7 hless h8
                    repeat refine goD ?_
                    exact ⟨es.length - (j + 1 + 1), by omega, j + 1 + 1, rfl, by omega, ha', (Ord.take_at hx he ho).2 h8, rfl⟩
              · have Fz:=fz10 r1 r3 m1 hc he @encE.eq_1 @lgm h4 h5 h6
                repeat refine goD ?_
                have Fz:=fz1 Try.results81
                refine goR ?_
                try trivial
                simp only [decide_eq_true_eq] at h6
                simp [bad (fun h => by have := h.2.2; simp only at this; omega)]
            · have Fz:=fz9 r1 r3 m1 hc he @encE.eq_1 @lgm h4 h5
              repeat refine goD ?_
              have Fz:=fz1 Try.results81
              refine goR ?_
              try trivial
              simp only [decide_eq_true_eq] at h5
              simp [bad (fun h => by have := h.2.1; simp only at this; omega)]
          · have Fz:=fz8 r1 r3 m1 hc he @encE.eq_1 @lgm h4
            repeat refine goD ?_
            have Fz:=fz1 Try.results81
            refine goR ?_
            try trivial
            simp only [decide_eq_true_eq] at h4
            simp [bad (fun h => by have := h.1; simp only at this; omega)]
      · refine gc Try.func81 ?_
        have Fz:=fz3 h1 h2 h3
        repeat refine goD ?_
        have Fz:=fz1 Try.results81
        refine goR ?_
        try trivial
        simp only [decide_eq_true_eq] at h3
        have : ¬ VG n es := fun h => by have := h.2.2.1; omega
        simp [this]
    · refine gc Try.func81 ?_
      have Fz:=fz2 h1 h2
      repeat refine goD ?_
      have Fz:=fz1 Try.results81
      refine goR ?_
      try trivial
      simp only [decide_eq_true_eq] at h2
      have : ¬ VG n es := fun h => by have := h.2.1; omega
      simp [this]
  · refine gc Try.func81 ?_
    have Fz:=fz1 h1
    repeat refine goD ?_
    have Fz:=fz1 Try.results81
    refine goR ?_
    try trivial
    simp only [decide_eq_true_eq] at h1
    have : ¬ VG n es := fun h => by have := h.1; omega
    simp [this]
end Go.Proofs.Ytdlfdoicheakoaa.X
