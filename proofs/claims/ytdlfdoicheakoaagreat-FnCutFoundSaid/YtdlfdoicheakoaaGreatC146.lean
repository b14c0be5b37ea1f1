/- What functions compute: the reference cuts an edge out of a graph with levels; copies. -/
import Derived.Test.YtdlfdoicheakoaaGreatKAL
import Derived.Test.YtdlfdoicheakoaaGreatC91
set_option linter.unusedSimpArgs false
set_option linter.unusedVariables false
set_option maxHeartbeats 8000000
set_option maxRecDepth 100000
namespace Go.Proofs.YtdlfdoicheakoaaGreat.X
open Go Go.Proofs
theorem erase_snoc {α : Type} {l : List α} {x : α} {k : Nat} : (l ++ [x]).eraseIdx k = if k < l.length then l.eraseIdx k ++ [x] else if k = l.length then l else l ++ [x] := by
  split
  · rename_i h; exact List.eraseIdx_append_of_lt_length h _
  · rename_i h
    rw [List.eraseIdx_append_of_length_le (by omega)]
    split
    · rename_i h2; subst h2; simp
    · rename_i h2
      obtain ⟨j, hj⟩ : ∃ j, k - l.length = j + 1 := ⟨k - l.length - 1, by omega⟩
      rw [hj]; rfl
theorem erase_big {α : Type} {l : List α} {k : Nat} (h : l.length ≤ k) : l.eraseIdx k = l := List.eraseIdx_of_length_le h
/-- The list without one. -/
abbrev remT (ts : List Tl) (k : Nat) : List Tl := ts.eraseIdx k
theorem remT_eq (ts : List Tl) (k : Nat) : remT ts k = ts.take k ++ ts.drop (k + 1) := List.eraseIdx_eq_take_drop_succ ts k
/-- What comes of a cut: three arrays, or nothing. -/
def cutP (n : Int) (us : List Tl) : PV := if us = [] then .agg [I n, .ref 2000 0 0 0, .i .emp, .i .emp] else .agg [I n, .ref 2000 0 0 us.length, .ref 2001 0 0 us.length, .ref 2002 0 0 us.length]
def cutA (us : List Tl) : List Arr := if us = [] then [.arr 0 2 []] else [.arr 0 2 ((esT us).map encE), arrL (lvT us), arrT (trT us)]
theorem c_l7Cut (n : Int) (k : Nat) (ts : List Tl) (hk : k < ts.length) (hl : ts.length ≤ 1000) : KP 25 [LvP n ts, I k] [] = some (cutP n (remT ts k), [], cutA (remT ts k)) := by
  have l1 := esT_len' ts
  have l2 := lvT_len ts
  have l3 := trT_len ts
  refine xw_call (fn := Tryz.f25) rfl Tryz.func25 rfl ⟨Nat.le_of_ble_eq_true rfl, rfl, rfl⟩ ?_
  have Fz:=fz1 Tryz.results25
  repeat'(first|exact trivial|refine go1 ?_|(refine go2 ?_ ?_<;>intro _<;>try(exfalso;omega))|(refine go4 ?_;split<;>((try(exfalso;omega));try refine go3 ?_)))
  refine xw_loopR (fun (w : Int × Nat × Nat × Nat × List Tl) s => s.m 2 = some (.box 0 [I n, LE (esT ts), LI (lvT ts), LT (trT ts)]) ∧ s.ρ 2 = .ptr 2 0 0 0 ∧ s.ρ 1 = I k ∧ s.ρ 4 = .ptr 4 0 0 0 ∧ s.m 4 = some (.box 0 [I 0, .i .emp, .i .emp, .i .emp]) ∧ s.ρ 5 = .ptr 5 0 0 0 ∧ s.ρ 6 = I w.1 ∧ 0 ≤ w.1 ∧ w.1 ≤ ts.length ∧ w.2.2.2.2 = (ts.take w.1.toNat).eraseIdx k ∧
    s.m 10 = some (.arr w.2.1 2 ((esT w.2.2.2.2).map encE)) ∧ ((w.2.2.2.2 = [] ∧ s.m 5 = some (.box 0 [I n, .ref 10 w.2.1 0 0, .i .emp, .i .emp])) ∨
      (w.2.2.2.2 ≠ [] ∧ s.m 5 = some (.box 0 [I n, .ref 10 w.2.1 0 w.2.2.2.2.length, .ref 45 w.2.2.1 0 w.2.2.2.2.length, .ref 55 w.2.2.2.1 0 w.2.2.2.2.length]) ∧ s.m 45 = some (.arr w.2.2.1 1 ((lvT w.2.2.2.2).map encI)) ∧ s.m 55 = some (.arr w.2.2.2.1 1 ((trT w.2.2.2.2).map encT))))) (fun w => (ts.length - w.1).toNat) (0, 0, 0, 0, []) ?_ ?_
  · refine ⟨rfl, rfl, rfl, rfl, rfl, rfl, rfl, by simp, by simp, by simp, rfl, .inl ⟨rfl, rfl⟩⟩
  rintro ⟨i, v0, v1, v2, us⟩ ⟨ρ, m⟩ ⟨m2, e2, e1, e4, m4, e5, e6, g0, g1, hus, m9, hw⟩
  simp only at m2 e2 e1 e4 m4 e5 e6 g0 g1 hus m9 hw
  have u1 := esT_len' us
  have u2 := lvT_len us
  have u3 := trT_len us
  have hul : us.length ≤ i.toNat := by rw [hus]; have := List.length_eraseIdx_le (ts.take i.toNat) k; rw [List.length_take] at this; omega
  by_cases hi : i < ts.length
  rotate_left
  · rw [take_all (by omega)] at hus
    have hus' : remT ts k = us := hus.symm
    rw [hus']
    unfold cutP cutA
    rcases hw with ⟨hz, m5⟩ | ⟨hz, m5, m45, m55⟩
    · subst hz
      rw [if_pos rfl, if_pos rfl]
      have m9' : m 10 = some (.arr v0 2 []) := m9
      have Fz:=fz10 Tryz.results25 m2 e2 e1 e4 m4 e5 e6 m5 m9'
      repeat'(first|exact trivial|refine go1 ?_|(refine go2 ?_ ?_<;>intro _<;>try(exfalso;omega))|(refine go4 ?_;split<;>((try(exfalso;omega));try refine go3 ?_)))
    · rw [if_neg hz, if_neg hz]
      have Fz:=fz12 Tryz.results25 m2 e2 e1 e4 m4 e5 e6 m5 m9 m45 m55
      repeat'(first|exact trivial|refine go1 ?_|(refine go2 ?_ ?_<;>intro _<;>try(exfalso;omega))|(refine go4 ?_;split<;>((try(exfalso;omega));try refine go3 ?_)))
  have hil : i.toNat < ts.length := by omega
  have hge := getTe ts i.toNat hil
  have hgl := getTl ts i.toNat hil
  have hgt := getTt ts i.toNat hil
  have htk := take_int (l := ts) dT g0 hi
  have hnx : (ts.take (i + 1).toNat).eraseIdx k = if k < i.toNat then us ++ [ts.getD i.toNat dT] else if k = i.toNat then us else us ++ [ts.getD i.toNat dT] := by
    rw [htk, erase_snoc, List.length_take, Nat.min_eq_left (by omega), hus]
    by_cases h1 : k < i.toNat
    · rw [if_pos h1, if_pos h1]
    · rw [if_neg h1, if_neg h1, erase_big (by rw [List.length_take]; omega)]
  generalize ts.getD i.toNat dT = t at *
  obtain ⟨⟨c, d⟩, l, q⟩ := t
  simp only at hge hgl hgt
  by_cases hik : i = k
  · subst hik
    have hnx' : (ts.take ((k : Int) + 1).toNat).eraseIdx k = us := by rw [hnx, if_neg (by omega), if_pos (by omega)]
    rcases hw with ⟨hz, m5⟩ | ⟨hz, m5, m45, m55⟩
    · have Fz:=fz10 Tryz.results25 m2 e2 e1 e4 m4 e5 e6 m5 m9
      repeat'(first|exact trivial|refine go1 ?_|(refine go2 ?_ ?_<;>intro _<;>try(exfalso;omega))|(refine go4 ?_;split<;>((try(exfalso;omega));try refine go3 ?_)))
      exact ⟨by omega, by omega, v0, v1, v2, us, hnx'.symm, rfl, rfl, .inl ⟨hz, rfl⟩, by omega⟩
    · have Fz:=fz12 Tryz.results25 m2 e2 e1 e4 m4 e5 e6 m5 m9 m45 m55
      repeat'(first|exact trivial|refine go1 ?_|(refine go2 ?_ ?_<;>intro _<;>try(exfalso;omega))|(refine go4 ?_;split<;>((try(exfalso;omega));try refine go3 ?_)))
      exact ⟨by omega, by omega, v0, v1, v2, us, hnx'.symm, rfl, rfl, .inr ⟨hz, rfl, rfl, rfl, rfl, rfl⟩, by omega⟩
  · have hnx' : (ts.take (i + 1).toNat).eraseIdx k = us ++ [((c, d), l, q)] := by
      rw [hnx]
      split
      · rfl
      · rw [if_neg (by omega)]
    have hne : us ++ [((c, d), l, q)] ≠ [] := by simp
    have ha1 : esT us ++ [(c, d)] = esT (us ++ [((c, d), l, q)]) := by simp [esT]
    have ha2 : lvT us ++ [l] = lvT (us ++ [((c, d), l, q)]) := by simp [lvT]
    have ha3 : trT us ++ [q] = trT (us ++ [((c, d), l, q)]) := by simp [trT]
    rcases hw with ⟨hz, m5⟩ | ⟨hz, m5, m45, m55⟩
    · subst hz
      have m9' : m 10 = some (.arr v0 2 []) := m9
      have Fz:=fz14 Tryz.results25 m2 e2 e1 e4 m4 e5 e6 m5 m9' hik hge hgl hgt
      repeat'(first|exact trivial|refine go1 ?_|(refine go2 ?_ ?_<;>intro _<;>try(exfalso;omega))|(refine go4 ?_;split<;>((try(exfalso;omega));try refine go3 ?_)))
      exact ⟨by omega, by omega, v0 + 1, nv (m 45), nv (m 55), [((c, d), l, q)], hnx'.symm, rfl, rfl, .inr ⟨by simp, rfl, rfl, rfl, rfl, rfl⟩, by omega⟩
    · have Fz:=fz19 Tryz.results25 m2 e2 e1 e4 m4 e5 e6 m5 m9 m45 m55 hik hge hgl hgt u1 u2 u3
      repeat'(first|exact trivial|refine go1 ?_|(refine go2 ?_ ?_<;>intro _<;>try(exfalso;omega))|(refine go4 ?_;split<;>((try(exfalso;omega));try refine go3 ?_)))
      exact ⟨by omega, by omega, v0 + 1, v1 + 1, v2 + 1, us ++ [((c, d), l, q)], hnx'.symm, rfl, ha1, .inr ⟨hne, by rw [List.length_append]; rfl, rfl, ha2, rfl, ha3⟩, by omega⟩
theorem c_l7Copy (n : Int) (ts : List Tl) (hl : ts.length ≤ 1000) : KP 55 [LvP n ts] [] = some (.agg [I n, .ref 2000 0 0 ts.length, .ref 2001 0 0 ts.length, .ref 2002 0 0 ts.length], [], [.arr 0 2 ((esT ts).map encE), arrL (lvT ts), arrT (trT ts)]) := by
  have l1 := esT_len' ts
  have l2 := lvT_len ts
  have l3 := trT_len ts
  have hc := c_l1Copy n (esT ts) (by omega)
  refine xw_call (fn := Tryz.f55) rfl Tryz.func55 rfl ⟨Nat.le_of_ble_eq_true rfl, rfl, rfl⟩ ?_
  have Fz:=fz5 Tryz.results55 hc l1 l2 l3
  repeat'(first|exact trivial|refine go1 ?_|(refine go2 ?_ ?_<;>intro _<;>try(exfalso;omega))|(refine go4 ?_;split<;>((try(exfalso;omega));try refine go3 ?_)))
end Go.Proofs.YtdlfdoicheakoaaGreat.X
