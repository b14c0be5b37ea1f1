/- What functions compute: valid graphs, cutting off a node as the reference does. -/
import Derived.Test.YtdlfdoicheakoaaC8
set_option linter.unusedSimpArgs false
set_option linter.unusedVariables false
set_option maxHeartbeats 2000000
namespace Go.Proofs.Ytdlfdoicheakoaa.X
open Go Go.Proofs
theorem c_GraphValid (n : Int) (es : List (Int × Int)) (hl : es.length ≤ 1048576) : KP 46 [GL n es] [] = some (B (decide (VG n es)), [], []) := by
  cases h1 : decide (n < 1)
  · cases h2 : decide (16 < n)
    · cases h3 : decide ((40 : Int) < es.length)
      · refine gc Try.func46 ?_
        have Fz:=fz3 h1 h2 h3
        repeat refine goD ?_
        simp only [decide_eq_false_iff_not] at h1 h2 h3
        refine xw_loop_count (fun k s => ∃ i : Nat, k = es.length - i ∧ i ≤ es.length ∧ (∀ e ∈ es.take i, okE n e) ∧ Ord (es.take i) ∧ s.ρ 1 = .ptr 1 0 0 0 ∧ s.ρ 20 = LE es ∧ s.ρ 21 = I es.length ∧ s.ρ 22 = I i ∧ s.m 1 = some (.box 0 [I n, LE es])) ?_ es.length _ ⟨0, by simp, by simp, by simp, by simp [Ord], rfl, rfl, rfl, rfl, rfl⟩
        rintro k ⟨ρ, m⟩ ⟨i, rfl, hi, ha, ho, r1, r20, r21, r22, m1⟩
        simp only at r1 r20 r21 r22 m1
        cases hc : decide ((i : Int) < es.length)
        · have Fz:=fz6 r1 r20 r21 r22 m1 hc
          repeat refine goD ?_
          have Fz:=fz1 Try.results46
          refine goR ?_
          try trivial
          simp only [decide_eq_false_iff_not] at hc
          rw [List.take_of_length_le (by omega)] at ha ho
          have : VG n es := ⟨by omega, by omega, by omega, ha, ho⟩
          simp [this]
        · simp only [decide_eq_true_eq] at hc
          obtain ⟨⟨u, v⟩, he⟩ : ∃ e, es[i]? = some e := ⟨es[i]'(by omega), by simp⟩
          have bad : ¬ okE n (u, v) → ¬ VG n es := fun hb h => hb (h.2.2.2.1 _ (List.mem_of_getElem? he))
          cases h4 : decide (u < 0)
          · cases h5 : decide (v ≤ u)
            · cases h6 : decide (n ≤ v)
              · have hok : okE n (u, v) := by simp only [decide_eq_false_iff_not] at h4 h5 h6; exact ⟨by simp only; omega, by simp only; omega, by simp only; omega⟩
                have ha' : ∀ e ∈ es.take (i + 1), okE n e := fun e h => by
                  rw [take_at he] at h
                  rcases List.mem_append.1 h with h | h
                  · exact ha e h
                  · simp at h; subst h; exact hok
                cases h7 : decide ((0 : Int) < i)
                · have Fz:=fz13 r1 r20 r21 r22 m1 hc he @encE.eq_1 @lgm h4 h5 h6 h7
                  repeat refine goD ?_
                  simp only [decide_eq_false_iff_not] at h7
                  have hi0 : i = 0 := by omega
                  subst hi0
                  refine ⟨es.length - 1, by omega, 1, rfl, by omega, ha', ?_, rfl⟩
                  rw [take_at he]; simp [Ord]
                · obtain ⟨j, rfl⟩ : ∃ j, i = j + 1 := ⟨i - 1, by simp at h7; omega⟩
                  obtain ⟨⟨x, y⟩, hx⟩ : ∃ e, es[j]? = some e := ⟨es[j]'(by omega), by simp⟩
                  have hcmp := c_compareEdges x y u v
                  have hsg : decide (0 ≤ cmpE x y u v) = !lessE (x, y) (u, v) := by
                    have := @cmpE_less x y u v
                    cases h : lessE (x, y) (u, v) <;> simp_all
                  have hj1 : ((j + 1 : Nat) : Int) - 1 = j := by omega
                  cases h8 : lessE (x, y) (u, v)
                  · have Fz:=fz18 r1 r20 r21 r22 m1 hc he hx hj1 @encE.eq_1 @lgm h4 h5 h6 h7 hcmp hsg h8
                    repeat refine goD ?_
                    have Fz:=fz1 Try.results46
                    refine goR ?_
                    try trivial
                    have : ¬ VG n es := fun h => by
                      have := (Ord.take_at hx he ho).1 (h.take _).2
                      rw [h8] at this; cases this
                    simp [this]
                  · have Fz:=fz18 r1 r20 r21 r22 m1 hc he hx hj1 @encE.eq_1 @lgm h4 h5 h6 h7 hcmp hsg h8
                    repeat refine goD ?_
                    exact ⟨es.length - (j + 1 + 1), by omega, j + 1 + 1, rfl, by omega, ha', (Ord.take_at hx he ho).2 h8, rfl⟩
              · have Fz:=fz12 r1 r20 r21 r22 m1 hc he @encE.eq_1 @lgm h4 h5 h6
                repeat refine goD ?_
                have Fz:=fz1 Try.results46
                refine goR ?_
                try trivial
                simp only [decide_eq_true_eq] at h6
                simp [bad (fun h => by have := h.2.2; simp only at this; omega)]
            · have Fz:=fz11 r1 r20 r21 r22 m1 hc he @encE.eq_1 @lgm h4 h5
              repeat refine goD ?_
              have Fz:=fz1 Try.results46
              refine goR ?_
              try trivial
              simp only [decide_eq_true_eq] at h5
              simp [bad (fun h => by have := h.2.1; simp only at this; omega)]
          · have Fz:=fz10 r1 r20 r21 r22 m1 hc he @encE.eq_1 @lgm h4
            repeat refine goD ?_
            have Fz:=fz1 Try.results46
            refine goR ?_
            try trivial
            simp only [decide_eq_true_eq] at h4
            simp [bad (fun h => by have := h.1; simp only at this; omega)]
      · refine gc Try.func46 ?_
        have Fz:=fz3 h1 h2 h3
        repeat refine goD ?_
        have Fz:=fz1 Try.results46
        refine goR ?_
        try trivial
        simp only [decide_eq_true_eq] at h3
        have : ¬ VG n es := fun h => by have := h.2.2.1; omega
        simp [this]
    · refine gc Try.func46 ?_
      have Fz:=fz2 h1 h2
      repeat refine goD ?_
      have Fz:=fz1 Try.results46
      refine goR ?_
      try trivial
      simp only [decide_eq_true_eq] at h2
      have : ¬ VG n es := fun h => by have := h.2.1; omega
      simp [this]
  · refine gc Try.func46 ?_
    have Fz:=fz1 h1
    repeat refine goD ?_
    have Fz:=fz1 Try.results46
    refine goR ?_
    try trivial
    simp only [decide_eq_true_eq] at h1
    have : ¬ VG n es := fun h => by have := h.1; omega
    simp [this]
theorem c_hasNode (n : Int) (es : List (Int × Int)) (v : Int) (hl : es.length ≤ 1048576) : KP 43 [GL n es, I v] [] = some (B (decide (VG n es ∧ 0 ≤ v ∧ v < n)), [], []) := by
  have hv := c_GraphValid n es hl
  cases h1 : decide (VG n es)
  · refine gc Try.func43 ?_
    have Fz:=fz2 hv h1
    repeat refine goD ?_
    have Fz:=fz1 Try.results43
    refine goR ?_
    try trivial
    simp only [decide_eq_false_iff_not] at h1
    simp [h1]
  · cases h2 : decide (0 ≤ v)
    · refine gc Try.func43 ?_
      have Fz:=fz3 hv h1 h2
      repeat refine goD ?_
      have Fz:=fz1 Try.results43
      refine goR ?_
      try trivial
      simp only [decide_eq_true_eq, decide_eq_false_iff_not] at h1 h2
      simp [h1, h2]
    · refine gc Try.func43 ?_
      have Fz:=fz3 hv h1 h2
      repeat refine goD ?_
      have Fz:=fz1 Try.results43
      refine goR ?_
      try trivial
      simp only [decide_eq_true_eq] at h1 h2
      simp [h1, h2]
/-- Edges that do not touch a node. -/
def alone (v : Int) (es : List (Int × Int)) : List (Int × Int) := es.filter fun e => decide (e.1 ≠ v ∧ e.2 ≠ v)
end Go.Proofs.Ytdlfdoicheakoaa.X
