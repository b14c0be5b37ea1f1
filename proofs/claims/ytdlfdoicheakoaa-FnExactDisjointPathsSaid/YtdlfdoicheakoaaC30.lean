/- What functions compute: sizes, copies, comparisons and marks of arguments. -/
import Derived.Test.YtdlfdoicheakoaaC10
set_option linter.unusedSimpArgs false
set_option linter.unusedVariables false
set_option maxHeartbeats 4000000
namespace Go.Proofs.Ytdlfdoicheakoaa.X
open Go Go.Proofs
/-- A number of the machine. -/
def okI (x : Int) : Prop := -9223372036854775808 ≤ x ∧ x ≤ 9223372036854775807
@[go_sem] theorem c_szEdgeS (es : List (Int × Int)) (hl : es.length ≤ 9223372036854775807) : KP 53 [LE es, I 1048576] [] = some (I (if 1048576 < (es.length : Int) then -1 else 1048576 - es.length), [], []) := by
  refine gc Try.func53 ?_
  by_cases h : 1048576 < (es.length : Int)
  · rw [if_pos h]
    have Fz:=fz1 Try.results53
    repeat'(first|exact trivial|refine go1 ?_|(refine go2 ?_ ?_<;>intro _<;>try(exfalso;omega))|(refine go4 ?_;split<;>((try(exfalso;omega));try refine go3 ?_)))
  · rw [if_neg h]
    have Fz:=fz1 Try.results53
    repeat'(first|exact trivial|refine go1 ?_|(refine go2 ?_ ?_<;>intro _<;>try(exfalso;omega))|(refine go4 ?_;split<;>((try(exfalso;omega));try refine go3 ?_)))
@[go_sem] theorem c_szGraph (n : Int) (es : List (Int × Int)) (hl : es.length ≤ 9223372036854775807) : KP 13 [GL n es, I 1048576] [] = some (I (if 1048576 < (es.length : Int) then -1 else 1048576 - es.length), [], []) := by
  refine gc Try.func13 ?_
  have h0 := c_szEdgeS es hl
  by_cases h : 1048576 < (es.length : Int)
  · rw [if_pos h] at h0 ⊢
    have Fz:=fz2 Try.results13 h0
    repeat'(first|exact trivial|refine go1 ?_|(refine go2 ?_ ?_<;>intro _<;>try(exfalso;omega))|(refine go4 ?_;split<;>((try(exfalso;omega));try refine go3 ?_)))
  · rw [if_neg h] at h0 ⊢
    have Fz:=fz2 Try.results13 h0
    repeat'(first|exact trivial|refine go1 ?_|(refine go2 ?_ ?_<;>intro _<;>try(exfalso;omega))|(refine go4 ?_;split<;>((try(exfalso;omega));try refine go3 ?_)))
@[go_sem] theorem c_toEdge (a b : Int) : KP 99 [PE a b] [] = some (PE a b, [], []) := by
  refine gc Try.func99 ?_
  have Fz:=fz1 Try.results99
  repeat'(first|exact trivial|refine go1 ?_|(refine go2 ?_ ?_<;>intro _<;>try(exfalso;omega))|(refine go4 ?_;split<;>((try(exfalso;omega));try refine go3 ?_)))
@[go_sem] theorem c_toEdgeS (es : List (Int × Int)) (hl : es.length ≤ 1048576) : KP 58 [LE es] [] = some (.ref 2000 0 0 es.length, [], [.arr 0 2 (es.map encE)]) := by
  refine gc Try.func58 ?_
  have Fz:=fz1 Try.results58
  repeat'(first|exact trivial|refine go1 ?_|(refine go2 ?_ ?_<;>intro _<;>try(exfalso;omega))|(refine go4 ?_;split<;>((try(exfalso;omega));try refine go3 ?_)))
  refine xw_loopR (fun (u : Int × List (Int × Int)) s => s.m 7 = some (.arr 0 2 (u.2.map encE)) ∧ s.ρ 3 = .ref 7 0 0 es.length ∧ s.ρ 4 = I u.1 ∧ s.ρ 0 = LE es ∧ 0 ≤ u.1 ∧ u.1 ≤ es.length ∧ u.2.length = es.length ∧ u.2.take u.1.toNat = es.take u.1.toNat) (fun u => (es.length - u.1).toNat) (0, zE es.length) (by simp [upd, zE]) ?_
  rintro ⟨i, us⟩ ⟨ρ, m⟩ ⟨m7, h3, h4, h0, g0, g1, g2, g3⟩
  simp only at m7 h3 h4 h0 g0 g1 g2 g3
  by_cases hi : i < es.length
  · have Fz:=fz5 Try.results58 m7 h3 h4 h0
    repeat'(first|exact trivial|refine go1 ?_|(refine go2 ?_ ?_<;>intro _<;>try(exfalso;omega))|(refine go4 ?_;split<;>((try(exfalso;omega));try refine go3 ?_)))
    refine ⟨by omega, by omega, by simp [g2], ?_, by omega⟩
    rw [take_int (0, 0) g0 (by simp; omega), take_int (0, 0) g0 hi]
    rw [List.take_set_of_le (Nat.le_refl _), g3]
    congr 1
    simp [List.getD, show i.toNat < us.length by omega]
  · rw [take_all (by omega), take_all (by omega)] at g3
    subst g3
    have Fz:=fz5 Try.results58 m7 h3 h4 h0
    repeat'(first|exact trivial|refine go1 ?_|(refine go2 ?_ ?_<;>intro _<;>try(exfalso;omega))|(refine go4 ?_;split<;>((try(exfalso;omega));try refine go3 ?_)))
@[go_sem] theorem c_toGraph (n : Int) (es : List (Int × Int)) (hl : es.length ≤ 1048576) : KP 15 [GL n es] [] = some (.agg [I n, .ref 2000 0 0 es.length], [], [.arr 0 2 (es.map encE)]) := by
  refine gc Try.func15 ?_
  have Fz:=fz1 Try.results15
  repeat'(first|exact trivial|refine go1 ?_|(refine go2 ?_ ?_<;>intro _<;>try(exfalso;omega))|(refine go4 ?_;split<;>((try(exfalso;omega));try refine go3 ?_)))
@[go_sem] theorem c_eqEdge (a b c d : Int) : KP 104 [PE a b, PE c d] [] = some (B (decide (a = c ∧ b = d)), [], []) := by
  refine gc Try.func104 ?_
  by_cases h : a = c
  · by_cases k : b = d
    · rw [decide_eq_true ⟨h, k⟩]
      have Fz:=fz1 Try.results104
      repeat'(first|exact trivial|refine go1 ?_|(refine go2 ?_ ?_<;>intro _<;>try(exfalso;omega))|(refine go4 ?_;split<;>((try(exfalso;omega));try refine go3 ?_)))
    · rw [decide_eq_false (fun q => k q.2)]
      have Fz:=fz1 Try.results104
      repeat'(first|exact trivial|refine go1 ?_|(refine go2 ?_ ?_<;>intro _<;>try(exfalso;omega))|(refine go4 ?_;split<;>((try(exfalso;omega));try refine go3 ?_)))
  · rw [decide_eq_false (fun q => h q.1)]
    have Fz:=fz1 Try.results104
    repeat'(first|exact trivial|refine go1 ?_|(refine go2 ?_ ?_<;>intro _<;>try(exfalso;omega))|(refine go4 ?_;split<;>((try(exfalso;omega));try refine go3 ?_)))
@[go_sem] theorem c_eqEdgeS (xs ys : List (Int × Int)) (hl : xs.length ≤ 1048576) : KP 65 [LE xs, LE ys] [] = some (B (decide (xs = ys)), [], []) := by
  refine gc Try.func65 ?_
  by_cases hle : xs.length = ys.length
  rotate_left
  · have hne : xs ≠ ys := fun h => hle (by rw [h])
    have Fz:=fz1 Try.results65
    repeat'(first|exact trivial|refine go1 ?_|(refine go2 ?_ ?_<;>intro _<;>try(exfalso;omega))|(refine go4 ?_;split<;>((try(exfalso;omega));try refine go3 ?_)))
    simp [hne]
  have Fz:=fz1 Try.results65
  repeat'(first|exact trivial|refine go1 ?_|(refine go2 ?_ ?_<;>intro _<;>try(exfalso;omega))|(refine go4 ?_;split<;>((try(exfalso;omega));try refine go3 ?_)))
  refine xw_loopR (fun (i : Int) s => s.ρ 0 = LE xs ∧ s.ρ 1 = LE ys ∧ s.ρ 5 = I i ∧ 0 ≤ i ∧ i ≤ xs.length ∧ xs.take i.toNat = ys.take i.toNat) (fun i => (xs.length - i).toNat) 0 ⟨rfl, rfl, rfl, by simp, by simp, by simp⟩ ?_
  rintro i ⟨ρ, m⟩ ⟨h0, h1, h5, g0, g1, g2⟩
  simp only at h0 h1 h5
  by_cases hj : i < xs.length
  · have hpe : xs.getD i.toNat (0, 0) = ys.getD i.toNat (0, 0) ↔ (xs.getD i.toNat (0, 0)).1 = (ys.getD i.toNat (0, 0)).1 ∧ (xs.getD i.toNat (0, 0)).2 = (ys.getD i.toNat (0, 0)).2 := Prod.ext_iff
    have Fz:=fz4 Try.results65 h0 h1 h5
    repeat'(first|exact trivial|refine go1 ?_|(refine go2 ?_ ?_<;>intro _<;>try(exfalso;omega))|(refine go4 ?_;split<;>((try(exfalso;omega));try refine go3 ?_)))
    all_goals first
      | (refine ⟨by omega, by omega, ?_, by omega⟩
         rw [take_int (0, 0) g0 (by omega), take_int (0, 0) g0 (by omega), g2, hpe.2 (by grind)])
      | (symm; rw [decide_eq_false_iff_not]
         intro he
         rw [he] at hpe
         grind)
  · have Fz:=fz4 Try.results65 h0 h1 h5
    repeat'(first|exact trivial|refine go1 ?_|(refine go2 ?_ ?_<;>intro _<;>try(exfalso;omega))|(refine go4 ?_;split<;>((try(exfalso;omega));try refine go3 ?_)))
    symm; rw [decide_eq_true_iff]
    rw [take_all (by omega), take_all (by omega)] at g2
    exact g2
@[go_sem] theorem c_eqGraph (n n' : Int) (xs ys : List (Int × Int)) (hl : xs.length ≤ 1048576) : KP 18 [GL n xs, GL n' ys] [] = some (B (decide (n = n' ∧ xs = ys)), [], []) := by
  refine gc Try.func18 ?_
  by_cases h : n = n'
  · by_cases k : xs = ys
    · rw [decide_eq_true ⟨h, k⟩]
      have Fz:=fz1 Try.results18
      repeat'(first|exact trivial|refine go1 ?_|(refine go2 ?_ ?_<;>intro _<;>try(exfalso;omega))|(refine go4 ?_;split<;>((try(exfalso;omega));try refine go3 ?_)))
    · rw [decide_eq_false (fun q => k q.2)]
      have Fz:=fz1 Try.results18
      repeat'(first|exact trivial|refine go1 ?_|(refine go2 ?_ ?_<;>intro _<;>try(exfalso;omega))|(refine go4 ?_;split<;>((try(exfalso;omega));try refine go3 ?_)))
  · rw [decide_eq_false (fun q => h q.1)]
    have Fz:=fz1 Try.results18
    repeat'(first|exact trivial|refine go1 ?_|(refine go2 ?_ ?_<;>intro _<;>try(exfalso;omega))|(refine go4 ?_;split<;>((try(exfalso;omega));try refine go3 ?_)))
@[go_sem] theorem c_eqIntS (xs ys : List Int) (hl : xs.length ≤ 1048576) : KP 64 [LI xs, LI ys] [] = some (B (decide (xs = ys)), [], []) := by
  refine gc Try.func64 ?_
  by_cases hle : xs.length = ys.length
  rotate_left
  · have hne : xs ≠ ys := fun h => hle (by rw [h])
    have Fz:=fz1 Try.results64
    repeat'(first|exact trivial|refine go1 ?_|(refine go2 ?_ ?_<;>intro _<;>try(exfalso;omega))|(refine go4 ?_;split<;>((try(exfalso;omega));try refine go3 ?_)))
    simp [hne]
  have Fz:=fz1 Try.results64
  repeat'(first|exact trivial|refine go1 ?_|(refine go2 ?_ ?_<;>intro _<;>try(exfalso;omega))|(refine go4 ?_;split<;>((try(exfalso;omega));try refine go3 ?_)))
  refine xw_loopR (fun (i : Int) s => s.ρ 0 = LI xs ∧ s.ρ 1 = LI ys ∧ s.ρ 5 = I i ∧ 0 ≤ i ∧ i ≤ xs.length ∧ xs.take i.toNat = ys.take i.toNat) (fun i => (xs.length - i).toNat) 0 ⟨rfl, rfl, rfl, by simp, by simp, by simp⟩ ?_
  rintro i ⟨ρ, m⟩ ⟨h0, h1, h5, g0, g1, g2⟩
  simp only at h0 h1 h5
  have Fz:=fz4 Try.results64 h0 h1 h5
  repeat'(first|exact trivial|refine go1 ?_|(refine go2 ?_ ?_<;>intro _<;>try(exfalso;omega))|(refine go4 ?_;split<;>((try(exfalso;omega));try refine go3 ?_)))
  · refine ⟨by omega, by omega, ?_, by omega⟩
    rw [take_int 0 g0 (by omega), take_int 0 g0 (by omega), g2]
    grind
  · rename_i h
    symm; rw [decide_eq_false_iff_not]
    intro he
    exact h (by rw [he])
  · symm; rw [decide_eq_true_iff]
    rw [take_all (by omega), take_all (by omega)] at g2
    exact g2
theorem c_markEdgeS (es : List (Int × Int)) (k : Int) (hk : 0 ≤ k ∧ k ≤ 1000000000) (hl : es.length ≤ 1048576) : ∃ (us : List (Int × Int)), us.length = es.length ∧ KP 66 [.ref 1000 0 0 es.length, I k] [.arr 0 2 (es.map encE)] = some (I (k + 2 * es.length), [.arr 0 2 (us.map encE)], []) := by
  suffices h : ∃ res, (∃ us : List (Int × Int), us.length = es.length ∧ res = (I (k + 2 * es.length), [Arr.arr 0 2 (us.map encE)], ([] : List Arr))) ∧ KP 66 [.ref 1000 0 0 es.length, I k] [.arr 0 2 (es.map encE)] = some res by
    obtain ⟨res, ⟨us, h1, rfl⟩, h2⟩ := h
    exact ⟨us, h1, h2⟩
  refine ge Try.func66 ?_
  have Fz:=fz1 Try.results66
  repeat'(first|exact trivial|refine go1 ?_|(refine go2 ?_ ?_<;>intro _<;>try(exfalso;omega))|(refine go4 ?_;split<;>((try(exfalso;omega));try refine go3 ?_)))
  refine xw_loopR (fun (u : Int × List (Int × Int)) s => s.m 1000 = some (.arr 0 2 (u.2.map encE)) ∧ s.ρ 0 = .ref 1000 0 0 es.length ∧ s.ρ 5 = I u.1 ∧ s.ρ 1 = I (k + 2 * u.1) ∧ 0 ≤ u.1 ∧ u.1 ≤ es.length ∧ u.2.length = es.length) (fun u => (es.length - u.1).toNat) (0, es) (by simp [upd, initP]) ?_
  rintro ⟨i, us⟩ ⟨ρ, m⟩ ⟨m1, h0, h5, h1, g0, g1, g2⟩
  simp only at m1 h0 h5 h1 g0 g1 g2
  by_cases hi : i < es.length
  · have Fz:=fz5 Try.results66 m1 h0 h5 h1
    repeat'(first|exact trivial|refine go1 ?_|(refine go2 ?_ ?_<;>intro _<;>try(exfalso;omega))|(refine go4 ?_;split<;>((try(exfalso;omega));try refine go3 ?_)))
    exact ⟨by omega, by omega, by omega, g2, by omega⟩
  · have Fz:=fz5 Try.results66 m1 h0 h5 h1
    repeat'(first|exact trivial|refine go1 ?_|(refine go2 ?_ ?_<;>intro _<;>try(exfalso;omega))|(refine go4 ?_;split<;>((try(exfalso;omega));try refine go3 ?_)))
    exact ⟨us, g2, by omega, rfl⟩
theorem c_markGraph (n : Int) (es : List (Int × Int)) (hl : es.length ≤ 1048576) : ∃ (us : List (Int × Int)), us.length = es.length ∧ KP 19 [.agg [I n, .ref 1000 0 0 es.length], I 1] [.arr 0 2 (es.map encE)] = some (I (1 + 2 * es.length), [.arr 0 2 (us.map encE)], []) := by
  obtain ⟨us, h1, h2⟩ := c_markEdgeS es 1 (by omega) hl
  refine ⟨us, h1, gc Try.func19 ?_⟩
  have Fz:=fz2 Try.results19 h2
  repeat'(first|exact trivial|refine go1 ?_|(refine go2 ?_ ?_<;>intro _<;>try(exfalso;omega))|(refine go4 ?_;split<;>((try(exfalso;omega));try refine go3 ?_)))
/-- Numbers one after the other. -/
def upL' (k : Int) : Nat → List Int
  | 0 => []
  | n + 1 => upL' k n ++ [k + n]
theorem upL'_len (k : Int) : ∀ n, (upL' k n).length = n
  | 0 => rfl
  | n + 1 => by simp [upL', upL'_len k n]
theorem upL'_get (k : Int) : ∀ (n i : Nat), i < n → (upL' k n).getD i 0 = k + i
  | 0, i, h => by omega
  | n + 1, i, h => by
    unfold upL'
    by_cases hi : i < n
    · rw [← upL'_get k n i hi]
      simp [List.getD, List.getElem?_append_left (show i < (upL' k n).length by rw [upL'_len]; exact hi)]
    · obtain rfl : i = n := by omega
      have := upL'_len k i
      simp only [List.getD]
      rw [List.getElem?_append_right (by omega)]
      simp [this]
end Go.Proofs.Ytdlfdoicheakoaa.X
