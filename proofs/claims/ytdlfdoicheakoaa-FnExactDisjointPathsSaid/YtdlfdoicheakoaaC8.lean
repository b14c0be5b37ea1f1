/- What functions compute: comparing, equality, looking for an edge. -/
import Derived.Test.YtdlfdoicheakoaaC7
set_option linter.unusedSimpArgs false
set_option linter.unusedVariables false
set_option maxHeartbeats 2000000
namespace Go.Proofs.Ytdlfdoicheakoaa.X
open Go Go.Proofs
theorem c_isNaN (a : Int) : KP 122 [I a] [] = some (B false, [], []) := by
  refine gc Try.func122 ?_
  have h : decide (a = a) = true := by simp
  have Fz:=fz1 h
  repeat refine goD ?_
  have Fz:=fz2 Try.results122 h
  refine goR ?_
  try trivial
def cmpI (a b : Int) : Int := if a < b then -1 else if b < a then 1 else 0
theorem c_cmpCompare (a b : Int) : KP 108 [I a, I b] [] = some (I (cmpI a b), [], []) := by
  have h1 := c_isNaN a
  have h2 := c_isNaN b
  unfold cmpI
  cases h3 : decide (a < b)
  · cases h4 : decide (b < a)
    · refine gc Try.func108 ?_
      have Fz:=fz4 h1 h2 h3 h4
      repeat refine goD ?_
      have Fz:=fz1 Try.results108
      refine goR ?_
      try trivial
      simp only [decide_eq_false_iff_not] at h3 h4
      simp [h3, h4]
    · refine gc Try.func108 ?_
      have Fz:=fz4 h1 h2 h3 h4
      repeat refine goD ?_
      have Fz:=fz1 Try.results108
      refine goR ?_
      try trivial
      simp only [decide_eq_false_iff_not, decide_eq_true_eq] at h3 h4
      simp [h3, h4]
  · refine gc Try.func108 ?_
    have Fz:=fz3 h1 h2 h3
    repeat refine goD ?_
    have Fz:=fz1 Try.results108
    refine goR ?_
    try trivial
    simp only [decide_eq_true_eq] at h3
    simp [h3]
theorem c_cmpOr (a b : Int) : KP 107 [.i (.lst [[.v (.int .i64 a)], [.v (.int .i64 b)]])] [] = some (I (if a = 0 then b else a), [], []) := by
  cases h1 : decide (a = 0)
  · have ha : a ≠ 0 := by simpa using h1
    refine gc Try.func107 ?_
    have Fz:=fz1 h1
    repeat refine goD ?_
    refine xw_loop ?_
    have Fz:=fz1 h1
    repeat refine goD ?_
    have Fz:=fz1 Try.results107
    refine goR ?_
    try trivial
    simp [ha]
  · have ha : a = 0 := by simpa using h1
    cases h2 : decide (b = 0)
    · refine gc Try.func107 ?_
      have Fz:=fz2 h1 h2
      repeat refine goD ?_
      refine xw_loop ?_
      have Fz:=fz2 h1 h2
      repeat refine goD ?_
      refine xw_loop ?_
      have Fz:=fz2 h1 h2
      repeat refine goD ?_
      have Fz:=fz1 Try.results107
      refine goR ?_
      try trivial
      simp [ha]
    · refine gc Try.func107 ?_
      have Fz:=fz2 h1 h2
      repeat refine goD ?_
      refine xw_loop ?_
      have Fz:=fz2 h1 h2
      repeat refine goD ?_
      refine xw_loop ?_
      have Fz:=fz2 h1 h2
      repeat refine goD ?_
      refine xw_loop ?_
      have Fz:=fz2 h1 h2
      repeat refine goD ?_
      have Fz:=fz1 Try.results107
      refine goR ?_
      try trivial
      have hb : b = 0 := by simpa using h2
      simp [ha, hb]
def cmpE (a b c d : Int) : Int := if cmpI a c = 0 then cmpI b d else cmpI a c
theorem cmpE_less {a b c d : Int} : 0 ≤ cmpE a b c d ↔ lessE (a, b) (c, d) = false := by
  have : lessE (a, b) (c, d) = false ↔ ¬ (a < c ∨ a = c ∧ b < d) := by simp [lessE]
  rw [this]
  unfold cmpE cmpI
  split <;> split <;> (try split) <;> (try split) <;> omega
theorem c_compareEdges (a b c d : Int) : KP 74 [PE a b, PE c d] [] = some (I (cmpE a b c d), [], []) := by
  have h1 := c_cmpCompare a c
  have h2 := c_cmpCompare b d
  have h3 := c_cmpOr (cmpI a c) (cmpI b d)
  refine gc Try.func74 ?_
  have Fz:=fz3 h1 h2 h3
  repeat refine goD ?_
  have Fz:=fz1 Try.results74
  refine goR ?_
  try trivial
  all_goals rfl
theorem findE_nonneg {es : List (Int × Int)} {e : Int × Int} : decide (0 ≤ findE es e) = decide (e ∈ es) := by
  unfold findE
  by_cases h : e ∈ es <;> simp [h]
end Go.Proofs.Ytdlfdoicheakoaa.X
