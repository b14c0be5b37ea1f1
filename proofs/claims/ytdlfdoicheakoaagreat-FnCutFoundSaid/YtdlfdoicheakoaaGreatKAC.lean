/- What functions answer, and the plain laws behind it. -/
import Derived.Test.YtdlfdoicheakoaaGreatKAB
/- What functions compute: valid graphs, as the reference says it. -/
set_option linter.unusedSimpArgs false
set_option linter.unusedVariables false
set_option maxHeartbeats 2000000
namespace Go.Proofs.YtdlfdoicheakoaaGreat.X
open Go Go.Proofs
def okE (n : Int) (e : Int × Int) : Prop := 0 ≤ e.1 ∧ e.1 < e.2 ∧ e.2 < n
/-- A valid graph. -/
def VG (n : Int) (es : List (Int × Int)) : Prop := 1 ≤ n ∧ n ≤ 16 ∧ es.length ≤ 40 ∧ (∀ e ∈ es, okE n e) ∧ Ord es
noncomputable instance (n : Int) (es : List (Int × Int)) : Decidable (VG n es) := Classical.propDecidable _
theorem Ord.snoc {xs : List (Int × Int)} {y z : Int × Int} (h : Ord (xs ++ [y])) (k : lessE y z = true) : Ord (xs ++ [y] ++ [z]) := by
  simp only [Ord, List.pairwise_append, List.mem_append, List.mem_singleton] at *
  refine ⟨h, List.pairwise_singleton _ _, fun a ha b hb => ?_⟩
  subst hb
  rcases ha with ha | rfl
  · exact lessE_trans (h.2.2 a ha y rfl) k
  · exact k
theorem Ord.pre {xs ys : List (Int × Int)} (h : Ord (xs ++ ys)) : Ord xs := by
  simp only [Ord, List.pairwise_append] at *
  exact h.1
theorem take_at {α : Type} {l : List α} {i : Nat} {x : α} (h : l[i]? = some x) : l.take (i + 1) = l.take i ++ [x] := by
  rw [List.take_add_one, h]; rfl
theorem Ord.take_at {es : List (Int × Int)} {i : Nat} {y z : Int × Int} (hy : es[i]? = some y) (hz : es[i + 1]? = some z) (h : Ord (es.take (i + 1))) : Ord (es.take (i + 2)) ↔ lessE y z = true := by
  rw [X.take_at hz, X.take_at hy]
  rw [X.take_at hy] at h
  constructor
  · intro k
    simp only [Ord, List.pairwise_append, List.mem_append, List.mem_singleton] at k
    exact k.2.2 y (.inr rfl) z rfl
  · exact h.snoc
theorem VG.take {n : Int} {es : List (Int × Int)} (h : VG n es) (i : Nat) : (∀ e ∈ es.take i, okE n e) ∧ Ord (es.take i) := by
  obtain ⟨_, _, _, h1, h2⟩ := h
  refine ⟨fun e he => h1 e (List.mem_of_mem_take he), ?_⟩
  rw [← List.take_append_drop i es] at h2
  exact h2.pre
theorem c_sGraphValid (n : Int) (es : List (Int × Int)) (hl : es.length ≤ 1048576) : KP 47 [GL n es] [] = some (B (decide (VG n es)), [], []) := by
  cases h1 : decide (n < 1)
  · cases h2 : decide (16 < n)
    · cases h3 : decide ((40 : Int) < es.length)
      · refine xw_call (fn := Tryz.f47) rfl Tryz.func47 rfl ⟨Nat.le_of_ble_eq_true rfl, rfl, rfl⟩ ?_
        have Fz:=fz3 h1 h2 h3
        repeat refine goD ?_
        simp only [decide_eq_false_iff_not] at h1 h2 h3
        refine xw_loop_count (fun k s => ∃ i : Nat, k = es.length - i ∧ i ≤ es.length ∧ (∀ e ∈ es.take i, okE n e) ∧ Ord (es.take i) ∧ s.ρ 1 = .ptr 1 0 0 0 ∧ s.ρ 3 = I i ∧ s.m 1 = some (.box 0 [I n, LE es])) ?_ es.length _ ⟨0, by simp, by simp, by simp, by simp [Ord], rfl, rfl, rfl⟩
        rintro k ⟨ρ, m⟩ ⟨i, rfl, hi, ha, ho, r1, r3, m1⟩
        simp only at r1 r3 m1
        cases hc : decide ((i : Int) < es.length)
        · have Fz:=fz4 r1 r3 m1 hc
          repeat refine goD ?_
          have Fz:=fz1 Tryz.results47
          refine goR ?_
          try trivial
          simp only [decide_eq_false_iff_not] at hc
          rw [List.take_of_length_le (by omega)] at ha ho
          have : VG n es := ⟨by omega, by omega, by omega, ha, ho⟩
          simp [this]
        · simp only [decide_eq_true_eq] at hc
          obtain ⟨⟨u, v⟩, he⟩ : ∃ e, es[i]? = some e := ⟨es[i]'(by omega), by simp⟩
          have bad : ¬ okE n (u, v) → ¬ VG n es := fun hb h => hb (h.2.2.2.1 _ (List.mem_of_getElem? he))
          cases h4 : decide (u < 0)
          · cases h5 : decide (v ≤ u)
            · cases h6 : decide (n ≤ v)
              · have hok : okE n (u, v) := by simp only [decide_eq_false_iff_not] at h4 h5 h6; exact ⟨by simp only; omega, by simp only; omega, by simp only; omega⟩
                have ha' : ∀ e ∈ es.take (i + 1), okE n e := fun e h => by
                  rw [take_at he] at h
                  rcases List.mem_append.1 h with h | h
                  · exact ha e h
                  · simp at h; subst h; exact hok
                cases h7 : decide ((0 : Int) < i)
                · have Fz:=fz11 r1 r3 m1 hc he @encE.eq_1 @lgm h4 h5 h6 h7
                  repeat refine goD ?_
                  simp only [decide_eq_false_iff_not] at h7
                  have hi0 : i = 0 := by omega
                  subst hi0
                  refine ⟨es.length - 1, by omega, 1, rfl, by omega, ha', ?_, rfl⟩
                  rw [take_at he]; simp [Ord]
                · obtain ⟨j, rfl⟩ : ∃ j, i = j + 1 := ⟨i - 1, by simp at h7; omega⟩
                  obtain ⟨⟨x, y⟩, hx⟩ : ∃ e, es[j]? = some e := ⟨es[j]'(by omega), by simp⟩
                  have hless := c_l1Less x y u v
                  have hj1 : ((j + 1 : Nat) : Int) - 1 = j := by omega
                  cases h8 : lessE (x, y) (u, v)
                  · have Fz:=fz15 r1 r3 m1 hc he hx hj1 @encE.eq_1 @lgm h4 h5 h6 h7 hless h8
                    repeat refine goD ?_
                    have Fz:=fz1 Tryz.results47
                    refine goR ?_
                    try trivial
                    have : ¬ VG n es := fun h => by
                      have := (Ord.take_at hx he ho).1 (h.take _).2
                      rw [h8] at this; cases this
                    simp [this]
                  · have Fz:=fz15 r1 r3 m1 hc he hx hj1 @encE.eq_1 @lgm h4 h5 h6 h7 hless h8
                    repeat refine goD ?_
                    exact ⟨es.length - (j + 1 + 1), by omega, j + 1 + 1, rfl, by omega, ha', (Ord.take_at hx he ho).2 h8, rfl⟩
              · have Fz:=fz10 r1 r3 m1 hc he @encE.eq_1 @lgm h4 h5 h6
                repeat refine goD ?_
                have Fz:=fz1 Tryz.results47
                refine goR ?_
                try trivial
                simp only [decide_eq_true_eq] at h6
                simp [bad (fun h => by have := h.2.2; simp only at this; omega)]
            · have Fz:=fz9 r1 r3 m1 hc he @encE.eq_1 @lgm h4 h5
              repeat refine goD ?_
              have Fz:=fz1 Tryz.results47
              refine goR ?_
              try trivial
              simp only [decide_eq_true_eq] at h5
              simp [bad (fun h => by have := h.2.1; simp only at this; omega)]
          · have Fz:=fz8 r1 r3 m1 hc he @encE.eq_1 @lgm h4
            repeat refine goD ?_
            have Fz:=fz1 Tryz.results47
            refine goR ?_
            try trivial
            simp only [decide_eq_true_eq] at h4
            simp [bad (fun h => by have := h.1; simp only at this; omega)]
      · refine xw_call (fn := Tryz.f47) rfl Tryz.func47 rfl ⟨Nat.le_of_ble_eq_true rfl, rfl, rfl⟩ ?_
        have Fz:=fz3 h1 h2 h3
        repeat refine goD ?_
        have Fz:=fz1 Tryz.results47
        refine goR ?_
        try trivial
        simp only [decide_eq_true_eq] at h3
        have : ¬ VG n es := fun h => by have := h.2.2.1; omega
        simp [this]
    · refine xw_call (fn := Tryz.f47) rfl Tryz.func47 rfl ⟨Nat.le_of_ble_eq_true rfl, rfl, rfl⟩ ?_
      have Fz:=fz2 h1 h2
      repeat refine goD ?_
      have Fz:=fz1 Tryz.results47
      refine goR ?_
      try trivial
      simp only [decide_eq_true_eq] at h2
      have : ¬ VG n es := fun h => by have := h.2.1; omega
      simp [this]
  · refine xw_call (fn := Tryz.f47) rfl Tryz.func47 rfl ⟨Nat.le_of_ble_eq_true rfl, rfl, rfl⟩ ?_
    have Fz:=fz1 h1
    repeat refine goD ?_
    have Fz:=fz1 Tryz.results47
    refine goR ?_
    try trivial
    simp only [decide_eq_true_eq] at h1
    have : ¬ VG n es := fun h => by have := h.1; omega
    simp [this]
end Go.Proofs.YtdlfdoicheakoaaGreat.X

/- What functions compute: comparing, equality, looking for an edge. -/
set_option linter.unusedSimpArgs false
set_option linter.unusedVariables false
set_option maxHeartbeats 2000000
namespace Go.Proofs.YtdlfdoicheakoaaGreat.X
open Go Go.Proofs
theorem c_isNaN (a : Int) : KP 85 [I a] [] = some (B false, [], []) := by
  refine xw_call (fn := Tryz.f85) rfl Tryz.func85 rfl ⟨Nat.le_of_ble_eq_true rfl, rfl, rfl⟩ ?_
  have h : decide (a = a) = true := by simp
  have Fz:=fz1 h
  repeat refine goD ?_
  have Fz:=fz2 Tryz.results85 h
  refine goR ?_
  try trivial
def cmpI (a b : Int) : Int := if a < b then -1 else if b < a then 1 else 0
theorem c_cmpCompare (a b : Int) : KP 79 [I a, I b] [] = some (I (cmpI a b), [], []) := by
  have h1 := c_isNaN a
  have h2 := c_isNaN b
  unfold cmpI
  cases h3 : decide (a < b)
  · cases h4 : decide (b < a)
    · refine xw_call (fn := Tryz.f79) rfl Tryz.func79 rfl ⟨Nat.le_of_ble_eq_true rfl, rfl, rfl⟩ ?_
      have Fz:=fz4 h1 h2 h3 h4
      repeat refine goD ?_
      have Fz:=fz1 Tryz.results79
      refine goR ?_
      try trivial
      simp only [decide_eq_false_iff_not] at h3 h4
      simp [h3, h4]
    · refine xw_call (fn := Tryz.f79) rfl Tryz.func79 rfl ⟨Nat.le_of_ble_eq_true rfl, rfl, rfl⟩ ?_
      have Fz:=fz4 h1 h2 h3 h4
      repeat refine goD ?_
      have Fz:=fz1 Tryz.results79
      refine goR ?_
      try trivial
      simp only [decide_eq_false_iff_not, decide_eq_true_eq] at h3 h4
      simp [h3, h4]
  · refine xw_call (fn := Tryz.f79) rfl Tryz.func79 rfl ⟨Nat.le_of_ble_eq_true rfl, rfl, rfl⟩ ?_
    have Fz:=fz3 h1 h2 h3
    repeat refine goD ?_
    have Fz:=fz1 Tryz.results79
    refine goR ?_
    try trivial
    simp only [decide_eq_true_eq] at h3
    simp [h3]
theorem c_cmpOr (a b : Int) : KP 78 [.i (.lst [[.v (.int .i64 a)], [.v (.int .i64 b)]])] [] = some (I (if a = 0 then b else a), [], []) := by
  cases h1 : decide (a = 0)
  · have ha : a ≠ 0 := by simpa using h1
    refine xw_call (fn := Tryz.f78) rfl Tryz.func78 rfl ⟨Nat.le_of_ble_eq_true rfl, rfl, rfl⟩ ?_
    have Fz:=fz1 h1
    repeat refine goD ?_
    refine xw_loop ?_
    have Fz:=fz1 h1
    repeat refine goD ?_
    have Fz:=fz1 Tryz.results78
    refine goR ?_
    try trivial
    simp [ha]
  · have ha : a = 0 := by simpa using h1
    cases h2 : decide (b = 0)
    · refine xw_call (fn := Tryz.f78) rfl Tryz.func78 rfl ⟨Nat.le_of_ble_eq_true rfl, rfl, rfl⟩ ?_
      have Fz:=fz2 h1 h2
      repeat refine goD ?_
      refine xw_loop ?_
      have Fz:=fz2 h1 h2
      repeat refine goD ?_
      refine xw_loop ?_
      have Fz:=fz2 h1 h2
      repeat refine goD ?_
      have Fz:=fz1 Tryz.results78
      refine goR ?_
      try trivial
      simp [ha]
    · refine xw_call (fn := Tryz.f78) rfl Tryz.func78 rfl ⟨Nat.le_of_ble_eq_true rfl, rfl, rfl⟩ ?_
      have Fz:=fz2 h1 h2
      repeat refine goD ?_
      refine xw_loop ?_
      have Fz:=fz2 h1 h2
      repeat refine goD ?_
      refine xw_loop ?_
      have Fz:=fz2 h1 h2
      repeat refine goD ?_
      refine xw_loop ?_
      have Fz:=fz2 h1 h2
      repeat refine goD ?_
      have Fz:=fz1 Tryz.results78
      refine goR ?_
      try trivial
      have hb : b = 0 := by simpa using h2
      simp [ha, hb]
def cmpE (a b c d : Int) : Int := if cmpI a c = 0 then cmpI b d else cmpI a c
theorem cmpE_less {a b c d : Int} : 0 ≤ cmpE a b c d ↔ lessE (a, b) (c, d) = false := by
  have : lessE (a, b) (c, d) = false ↔ ¬ (a < c ∨ a = c ∧ b < d) := by simp [lessE]
  rw [this]
  unfold cmpE cmpI
  split <;> split <;> (try split) <;> (try split) <;> omega
theorem c_compareEdges (a b c d : Int) : KP 66 [PE a b, PE c d] [] = some (I (cmpE a b c d), [], []) := by
  have h1 := c_cmpCompare a c
  have h2 := c_cmpCompare b d
  have h3 := c_cmpOr (cmpI a c) (cmpI b d)
  refine xw_call (fn := Tryz.f66) rfl Tryz.func66 rfl ⟨Nat.le_of_ble_eq_true rfl, rfl, rfl⟩ ?_
  have Fz:=fz3 h1 h2 h3
  repeat refine goD ?_
  have Fz:=fz1 Tryz.results66
  refine goR ?_
  try trivial
  all_goals rfl
theorem c_equalE (xs ys : List (Int × Int)) (hl : xs.length ≤ 1048576) : KP 57 [LE xs, LE ys] [] = some (B (decide (xs = ys)), [], []) := by
  refine xw_call (fn := Tryz.f57) rfl Tryz.func57 rfl ⟨Nat.le_of_ble_eq_true rfl, rfl, rfl⟩ ?_
  cases h1 : decide ((xs.length : Int) = ys.length)
  · have Fz:=fz1 h1
    repeat refine goD ?_
    have Fz:=fz1 Tryz.results57
    refine goR ?_
    try trivial
    have : xs ≠ ys := fun h => by rw [h] at h1; simp at h1
    simp [this]
  · have hlen : xs.length = ys.length := by simp only [decide_eq_true_eq] at h1; omega
    have Fz:=fz1 h1
    repeat refine goD ?_
    refine xw_loop_count (fun k s => ∃ i : Nat, k = xs.length - i ∧ i ≤ xs.length ∧ xs.take i = ys.take i ∧ s.ρ 0 = LE xs ∧ s.ρ 1 = LE ys ∧ s.ρ 12 = I xs.length ∧ s.ρ 13 = I i) ?_ xs.length _ ⟨0, by simp, by simp, by simp, rfl, rfl, rfl, rfl⟩
    rintro k ⟨ρ, m⟩ ⟨i, rfl, hi, ht, r0, r1, r12, r13⟩
    simp only at r0 r1 r12 r13
    cases hc : decide ((i : Int) < xs.length)
    · have Fz:=fz5 r0 r1 r12 r13 hc
      repeat refine goD ?_
      have Fz:=fz1 Tryz.results57
      refine goR ?_
      try trivial
      simp only [decide_eq_false_iff_not] at hc
      rw [List.take_of_length_le (by omega), List.take_of_length_le (by omega)] at ht
      simp [ht]
    · simp only [decide_eq_true_eq] at hc
      obtain ⟨⟨u, v⟩, he⟩ : ∃ e, xs[i]? = some e := ⟨xs[i]'(by omega), by simp⟩
      obtain ⟨⟨x, y⟩, hf⟩ : ∃ e, ys[i]? = some e := ⟨ys[i]'(by omega), by simp⟩
      cases hq : decide (u = x ∧ v = y)
      · have Fz:=fz10 r0 r1 r12 r13 hc he hf hq @encE.eq_1 @lgm
        repeat refine goD ?_
        have Fz:=fz1 Tryz.results57
        refine goR ?_
        try trivial
        simp only [decide_eq_false_iff_not] at hq
        have : xs ≠ ys := fun h => by
          subst h
          rw [he] at hf
          simp only [Option.some.injEq, Prod.mk.injEq] at hf
          exact hq hf
        simp [this]
      · have Fz:=fz10 r0 r1 r12 r13 hc he hf hq @encE.eq_1 @lgm
        repeat refine goD ?_
        simp only [decide_eq_true_eq] at hq
        obtain ⟨rfl, rfl⟩ := hq
        exact ⟨xs.length - (i + 1), by omega, i + 1, rfl, by omega, by rw [take_at he, take_at hf, ht], rfl⟩
theorem c_GraphSame (n n' : Int) (xs ys : List (Int × Int)) (hl : xs.length ≤ 1048576) : KP 27 [GL n xs, GL n' ys] [] = some (B (decide (n = n' ∧ xs = ys)), [], []) := by
  have heq := c_equalE xs ys hl
  refine xw_call (fn := Tryz.f27) rfl Tryz.func27 rfl ⟨Nat.le_of_ble_eq_true rfl, rfl, rfl⟩ ?_
  cases h1 : decide (n = n')
  · have Fz:=fz2 h1 heq
    repeat refine goD ?_
    have Fz:=fz2 Tryz.results27 h1
    refine goR ?_
    try trivial
    simp only [decide_eq_false_iff_not] at h1
    simp [h1]
  · have Fz:=fz2 h1 heq
    repeat refine goD ?_
    have Fz:=fz2 Tryz.results27 h1
    refine goR ?_
    try trivial
    simp only [decide_eq_true_eq] at h1
    simp [h1]
theorem c_indexE (es : List (Int × Int)) (a b : Int) (hl : es.length ≤ 1048576) : KP 16 [LE es, PE a b] [] = some (I (findE es (a, b)), [], []) := by
  refine xw_call (fn := Tryz.f16) rfl Tryz.func16 rfl ⟨Nat.le_of_ble_eq_true rfl, rfl, rfl⟩ ?_
  have Fz:=fz0
  repeat refine goD ?_
  refine xw_loop_count (fun n s => ∃ i : Nat, n = es.length - i ∧ i ≤ es.length ∧ (a, b) ∉ es.take i ∧ s.ρ 0 = LE es ∧ s.ρ 7 = I es.length ∧ s.ρ 8 = I i ∧ s.ρ 3 = .ptr 3 0 0 0 ∧ s.m 3 = some (.box 0 [I a, I b])) ?_ es.length _ ⟨0, by simp, by simp, by simp, rfl, rfl, rfl, rfl, rfl⟩
  rintro n ⟨ρ, m⟩ ⟨i, rfl, hi, hni, h0, h7, h8, h3, hm⟩
  simp only at h0 h7 h8 h3 hm
  cases hc : decide ((i : Int) < es.length)
  · have Fz:=fz6 h0 h7 h8 h3 hm hc
    repeat refine goD ?_
    have Fz:=fz4 Tryz.results16 h0 h3 hm
    refine goR ?_
    try trivial
    simp only [decide_eq_false_iff_not] at hc
    have : (a, b) ∉ es := by rw [List.take_of_length_le (by omega)] at hni; exact hni
    simp [findE, this]
  · simp only [decide_eq_true_eq] at hc
    obtain ⟨⟨u, v⟩, he⟩ : ∃ e, es[i]? = some e := ⟨es[i]'(by omega), by simp⟩
    cases hab : decide (a = u ∧ b = v)
    · have Fz:=fz10 h0 h7 h8 h3 hm hc hab he @encE.eq_1 @lgm
      repeat refine goD ?_
      simp only [decide_eq_false_iff_not] at hab
      refine ⟨es.length - (i + 1), by omega, i + 1, rfl, by omega, ?_, rfl⟩
      rw [take_at he]
      simp only [List.mem_append, List.mem_singleton, not_or, Prod.mk.injEq]
      exact ⟨hni, hab⟩
    · have Fz:=fz10 h0 h7 h8 h3 hm hc hab he @encE.eq_1 @lgm
      repeat refine goD ?_
      have Fz:=fz4 Tryz.results16 h0 h3 hm
      refine goR ?_
      try trivial
      simp only [decide_eq_true_eq] at hab
      obtain ⟨rfl, rfl⟩ := hab
      rw [findE_at he hni]
theorem findE_nonneg {es : List (Int × Int)} {e : Int × Int} : decide (0 ≤ findE es e) = decide (e ∈ es) := by
  unfold findE
  by_cases h : e ∈ es <;> simp [h]
theorem c_containsE (es : List (Int × Int)) (a b : Int) (hl : es.length ≤ 1048576) : KP 43 [LE es, PE a b] [] = some (B (decide ((a, b) ∈ es)), [], []) := by
  have h := c_indexE es a b hl
  refine xw_call (fn := Tryz.f43) rfl Tryz.func43 rfl ⟨Nat.le_of_ble_eq_true rfl, rfl, rfl⟩ ?_
  have Fz:=fz2 h @findE_nonneg
  repeat refine goD ?_
  have Fz:=fz1 Tryz.results43
  refine goR ?_
  try trivial
theorem c_has (n : Int) (es : List (Int × Int)) (a b : Int) (hl : es.length ≤ 1048576) : KP 15 [GL n es, PE a b] [] = some (B (decide ((a, b) ∈ es)), [], []) := by
  have h := c_containsE es a b hl
  refine xw_call (fn := Tryz.f15) rfl Tryz.func15 rfl ⟨Nat.le_of_ble_eq_true rfl, rfl, rfl⟩ ?_
  have Fz:=fz1 h
  repeat refine goD ?_
  have Fz:=fz1 Tryz.results15
  refine goR ?_
  try trivial
end Go.Proofs.YtdlfdoicheakoaaGreat.X

/- What functions compute: valid graphs, cutting off a node as the reference does. -/
set_option linter.unusedSimpArgs false
set_option linter.unusedVariables false
set_option maxHeartbeats 2000000
namespace Go.Proofs.YtdlfdoicheakoaaGreat.X
open Go Go.Proofs
theorem c_GraphValid (n : Int) (es : List (Int × Int)) (hl : es.length ≤ 1048576) : KP 36 [GL n es] [] = some (B (decide (VG n es)), [], []) := by
  cases h1 : decide (n < 1)
  · cases h2 : decide (16 < n)
    · cases h3 : decide ((40 : Int) < es.length)
      · refine xw_call (fn := Tryz.f36) rfl Tryz.func36 rfl ⟨Nat.le_of_ble_eq_true rfl, rfl, rfl⟩ ?_
        have Fz:=fz3 h1 h2 h3
        repeat refine goD ?_
        simp only [decide_eq_false_iff_not] at h1 h2 h3
        refine xw_loop_count (fun k s => ∃ i : Nat, k = es.length - i ∧ i ≤ es.length ∧ (∀ e ∈ es.take i, okE n e) ∧ Ord (es.take i) ∧ s.ρ 1 = .ptr 1 0 0 0 ∧ s.ρ 20 = LE es ∧ s.ρ 21 = I es.length ∧ s.ρ 22 = I i ∧ s.m 1 = some (.box 0 [I n, LE es])) ?_ es.length _ ⟨0, by simp, by simp, by simp, by simp [Ord], rfl, rfl, rfl, rfl, rfl⟩
        rintro k ⟨ρ, m⟩ ⟨i, rfl, hi, ha, ho, r1, r20, r21, r22, m1⟩
        simp only at r1 r20 r21 r22 m1
        cases hc : decide ((i : Int) < es.length)
        · have Fz:=fz6 r1 r20 r21 r22 m1 hc
          repeat refine goD ?_
          have Fz:=fz1 Tryz.results36
          refine goR ?_
          try trivial
          simp only [decide_eq_false_iff_not] at hc
          rw [List.take_of_length_le (by omega)] at ha ho
          have : VG n es := ⟨by omega, by omega, by omega, ha, ho⟩
          simp [this]
        · simp only [decide_eq_true_eq] at hc
          obtain ⟨⟨u, v⟩, he⟩ : ∃ e, es[i]? = some e := ⟨es[i]'(by omega), by simp⟩
          have bad : ¬ okE n (u, v) → ¬ VG n es := fun hb h => hb (h.2.2.2.1 _ (List.mem_of_getElem? he))
          cases h4 : decide (u < 0)
          · cases h5 : decide (v ≤ u)
            · cases h6 : decide (n ≤ v)
              · have hok : okE n (u, v) := by simp only [decide_eq_false_iff_not] at h4 h5 h6; exact ⟨by simp only; omega, by simp only; omega, by simp only; omega⟩
                have ha' : ∀ e ∈ es.take (i + 1), okE n e := fun e h => by
                  rw [take_at he] at h
                  rcases List.mem_append.1 h with h | h
                  · exact ha e h
                  · simp at h; subst h; exact hok
                cases h7 : decide ((0 : Int) < i)
                · have Fz:=fz13 r1 r20 r21 r22 m1 hc he @encE.eq_1 @lgm h4 h5 h6 h7
                  repeat refine goD ?_
                  simp only [decide_eq_false_iff_not] at h7
                  have hi0 : i = 0 := by omega
                  subst hi0
                  refine ⟨es.length - 1, by omega, 1, rfl, by omega, ha', ?_, rfl⟩
                  rw [take_at he]; simp [Ord]
                · obtain ⟨j, rfl⟩ : ∃ j, i = j + 1 := ⟨i - 1, by simp at h7; omega⟩
                  obtain ⟨⟨x, y⟩, hx⟩ : ∃ e, es[j]? = some e := ⟨es[j]'(by omega), by simp⟩
                  have hcmp := c_compareEdges x y u v
                  have hsg : decide (0 ≤ cmpE x y u v) = !lessE (x, y) (u, v) := by
                    have := @cmpE_less x y u v
                    cases h : lessE (x, y) (u, v) <;> simp_all
                  have hj1 : ((j + 1 : Nat) : Int) - 1 = j := by omega
                  cases h8 : lessE (x, y) (u, v)
                  · have Fz:=fz18 r1 r20 r21 r22 m1 hc he hx hj1 @encE.eq_1 @lgm h4 h5 h6 h7 hcmp hsg h8
                    repeat refine goD ?_
                    have Fz:=fz1 Tryz.results36
                    refine goR ?_
                    try trivial
                    have : ¬ VG n es := fun h => by
                      have := (Ord.take_at hx he ho).1 (h.take _).2
                      rw [h8] at this; cases this
                    simp [this]
                  · have Fz:=fz18 r1 r20 r21 r22 m1 hc he hx hj1 @encE.eq_1 @lgm h4 h5 h6 h7 hcmp hsg h8
                    repeat refine goD ?_
                    exact ⟨es.length - (j + 1 + 1), by omega, j + 1 + 1, rfl, by omega, ha', (Ord.take_at hx he ho).2 h8, rfl⟩
              · have Fz:=fz12 r1 r20 r21 r22 m1 hc he @encE.eq_1 @lgm h4 h5 h6
                repeat refine goD ?_
                have Fz:=fz1 Tryz.results36
                refine goR ?_
                try trivial
                simp only [decide_eq_true_eq] at h6
                simp [bad (fun h => by have := h.2.2; simp only at this; omega)]
            · have Fz:=fz11 r1 r20 r21 r22 m1 hc he @encE.eq_1 @lgm h4 h5
              repeat refine goD ?_
              have Fz:=fz1 Tryz.results36
              refine goR ?_
              try trivial
              simp only [decide_eq_true_eq] at h5
              simp [bad (fun h => by have := h.2.1; simp only at this; omega)]
          · have Fz:=fz10 r1 r20 r21 r22 m1 hc he @encE.eq_1 @lgm h4
            repeat refine goD ?_
            have Fz:=fz1 Tryz.results36
            refine goR ?_
            try trivial
            simp only [decide_eq_true_eq] at h4
            simp [bad (fun h => by have := h.1; simp only at this; omega)]
      · refine xw_call (fn := Tryz.f36) rfl Tryz.func36 rfl ⟨Nat.le_of_ble_eq_true rfl, rfl, rfl⟩ ?_
        have Fz:=fz3 h1 h2 h3
        repeat refine goD ?_
        have Fz:=fz1 Tryz.results36
        refine goR ?_
        try trivial
        simp only [decide_eq_true_eq] at h3
        have : ¬ VG n es := fun h => by have := h.2.2.1; omega
        simp [this]
    · refine xw_call (fn := Tryz.f36) rfl Tryz.func36 rfl ⟨Nat.le_of_ble_eq_true rfl, rfl, rfl⟩ ?_
      have Fz:=fz2 h1 h2
      repeat refine goD ?_
      have Fz:=fz1 Tryz.results36
      refine goR ?_
      try trivial
      simp only [decide_eq_true_eq] at h2
      have : ¬ VG n es := fun h => by have := h.2.1; omega
      simp [this]
  · refine xw_call (fn := Tryz.f36) rfl Tryz.func36 rfl ⟨Nat.le_of_ble_eq_true rfl, rfl, rfl⟩ ?_
    have Fz:=fz1 h1
    repeat refine goD ?_
    have Fz:=fz1 Tryz.results36
    refine goR ?_
    try trivial
    simp only [decide_eq_true_eq] at h1
    have : ¬ VG n es := fun h => by have := h.1; omega
    simp [this]
theorem c_HasEdge (n : Int) (es : List (Int × Int)) (a b : Int) (hl : es.length ≤ 1048576) : KP 58 [GL n es, PE a b] [] = some (B (decide (VG n es ∧ (a, b) ∈ es)), [], []) := by
  have h := c_has n es a b hl
  have hv := c_GraphValid n es hl
  cases h1 : decide (VG n es)
  · refine xw_call (fn := Tryz.f58) rfl Tryz.func58 rfl ⟨Nat.le_of_ble_eq_true rfl, rfl, rfl⟩ ?_
    have Fz:=fz3 h hv h1
    repeat refine goD ?_
    have Fz:=fz1 Tryz.results58
    refine goR ?_
    try trivial
    simp only [decide_eq_false_iff_not] at h1
    simp [h1]
  · refine xw_call (fn := Tryz.f58) rfl Tryz.func58 rfl ⟨Nat.le_of_ble_eq_true rfl, rfl, rfl⟩ ?_
    have Fz:=fz3 h hv h1
    repeat refine goD ?_
    have Fz:=fz1 Tryz.results58
    refine goR ?_
    try trivial
    simp only [decide_eq_true_eq] at h1
    simp [h1]
theorem c_hasNode (n : Int) (es : List (Int × Int)) (v : Int) (hl : es.length ≤ 1048576) : KP 75 [GL n es, I v] [] = some (B (decide (VG n es ∧ 0 ≤ v ∧ v < n)), [], []) := by
  have hv := c_GraphValid n es hl
  cases h1 : decide (VG n es)
  · refine xw_call (fn := Tryz.f75) rfl Tryz.func75 rfl ⟨Nat.le_of_ble_eq_true rfl, rfl, rfl⟩ ?_
    have Fz:=fz2 hv h1
    repeat refine goD ?_
    have Fz:=fz1 Tryz.results75
    refine goR ?_
    try trivial
    simp only [decide_eq_false_iff_not] at h1
    simp [h1]
  · cases h2 : decide (0 ≤ v)
    · refine xw_call (fn := Tryz.f75) rfl Tryz.func75 rfl ⟨Nat.le_of_ble_eq_true rfl, rfl, rfl⟩ ?_
      have Fz:=fz3 hv h1 h2
      repeat refine goD ?_
      have Fz:=fz1 Tryz.results75
      refine goR ?_
      try trivial
      simp only [decide_eq_true_eq, decide_eq_false_iff_not] at h1 h2
      simp [h1, h2]
    · refine xw_call (fn := Tryz.f75) rfl Tryz.func75 rfl ⟨Nat.le_of_ble_eq_true rfl, rfl, rfl⟩ ?_
      have Fz:=fz3 hv h1 h2
      repeat refine goD ?_
      have Fz:=fz1 Tryz.results75
      refine goR ?_
      try trivial
      simp only [decide_eq_true_eq] at h1 h2
      simp [h1, h2]
/-- Edges that do not touch a node. -/
def alone (v : Int) (es : List (Int × Int)) : List (Int × Int) := es.filter fun e => decide (e.1 ≠ v ∧ e.2 ≠ v)
end Go.Proofs.YtdlfdoicheakoaaGreat.X
