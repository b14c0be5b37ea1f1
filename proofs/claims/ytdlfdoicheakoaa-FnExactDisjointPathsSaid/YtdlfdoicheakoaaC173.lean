/- What functions compute: comparisons and marks of lists of lists. -/
import Derived.Test.YtdlfdoicheakoaaC172
import Derived.Test.YtdlfdoicheakoaaC30
set_option linter.unusedSimpArgs false
set_option linter.unusedVariables false
set_option maxHeartbeats 8000000
set_option maxRecDepth 100000
namespace Go.Proofs.Ytdlfdoicheakoaa.X
open Go Go.Proofs
theorem c_DisjointPaths_no (n x y : Int) (es : List (Int × Int)) (hl : es.length ≤ 1048576) (h : ¬ Pr n x y es) : KP 16 [GL n es, I x, I y] [] = some (.tup [.i .emp, B false], [], []) := by
  refine gc Try.func16 ?_
  have Fz:=fz1 Try.results16
  repeat'(first|exact trivial|refine go1 ?_|(refine go2 ?_ ?_<;>intro _<;>try(exfalso;omega))|(refine go4 ?_;split<;>((try(exfalso;omega));try refine go3 ?_)))
theorem c_markIntS_at (xs : List Int) (k : Int) (hl : xs.length ≤ 1048576) (hk : 0 ≤ k ∧ k ≤ 1000000000) : KP 67 [.ref 1000 0 0 xs.length, I k] [.arr 0 1 (xs.map encI)] = some (I (k + xs.length), [.arr 0 1 ((upL' k xs.length).map encI)], []) := by
  refine gc Try.func67 ?_
  have Fz:=fz1 Try.results67
  repeat'(first|exact trivial|refine go1 ?_|(refine go2 ?_ ?_<;>intro _<;>try(exfalso;omega))|(refine go4 ?_;split<;>((try(exfalso;omega));try refine go3 ?_)))
  refine xw_loopR (fun (u : Int × List Int) s => s.m 1000 = some (.arr 0 1 (u.2.map encI)) ∧ s.ρ 0 = .ref 1000 0 0 xs.length ∧ s.ρ 5 = I u.1 ∧ s.ρ 1 = I (k + u.1) ∧ 0 ≤ u.1 ∧ u.1 ≤ xs.length ∧ u.2.length = xs.length ∧ u.2.take u.1.toNat = upL' k u.1.toNat) (fun u => (xs.length - u.1).toNat) (0, xs) (by simp [upd, initP, upL']) ?_
  rintro ⟨i, us⟩ ⟨ρ, m⟩ ⟨m1, h0, h5, h1, g0, g1, g2, g3⟩
  simp only at m1 h0 h5 h1 g0 g1 g2 g3
  by_cases hi : i < xs.length
  · have Fz:=fz5 Try.results67 m1 h0 h5 h1
    repeat'(first|exact trivial|refine go1 ?_|(refine go2 ?_ ?_<;>intro _<;>try(exfalso;omega))|(refine go4 ?_;split<;>((try(exfalso;omega));try refine go3 ?_)))
    refine ⟨by omega, by omega, by omega, g2, ?_, by omega⟩
    rw [take_int 0 g0 (by simp; omega), List.take_set_of_le (Nat.le_refl _), g3, show (i + 1).toNat = i.toNat + 1 by omega, upL']
    congr 1
    have e : ((i.toNat : Nat) : Int) = i := by omega
    simp [List.getD, show i.toNat < us.length by omega, e]
  · rw [take_all (by omega), show i.toNat = xs.length by omega] at g3
    subst g3
    have Fz:=fz5 Try.results67 m1 h0 h5 h1
    repeat'(first|exact trivial|refine go1 ?_|(refine go2 ?_ ?_<;>intro _<;>try(exfalso;omega))|(refine go4 ?_;split<;>((try(exfalso;omega));try refine go3 ?_)))
    omega
theorem c_heldIntS_at (n : Nat) (k : Int) (hl : n ≤ 1048576) (hk : 0 ≤ k ∧ k ≤ 1000000000) : KP 68 [LI (upL' k n), I k] [] = some (I (k + n), [], []) := by
  have hlen := upL'_len k n
  refine gc Try.func68 ?_
  have Fz:=fz1 Try.results68
  repeat'(first|exact trivial|refine go1 ?_|(refine go2 ?_ ?_<;>intro _<;>try(exfalso;omega))|(refine go4 ?_;split<;>((try(exfalso;omega));try refine go3 ?_)))
  refine xw_loopR (fun (i : Int) s => s.ρ 0 = LI (upL' k n) ∧ s.ρ 5 = I i ∧ s.ρ 1 = I (k + i) ∧ 0 ≤ i ∧ i ≤ n) (fun i => (n - i).toNat) 0 (by simp [upd, initP]) ?_
  rintro i ⟨ρ, m⟩ ⟨h0, h5, h1, g0, g1⟩
  simp only at h0 h5 h1 g0 g1
  by_cases hi : i < n
  · have hg := upL'_get k n i.toNat (by omega)
    rw [show ((i.toNat : Nat) : Int) = i by omega] at hg
    have Fz:=fz5 Try.results68 h0 h5 h1 hg
    repeat'(first|exact trivial|refine go1 ?_|(refine go2 ?_ ?_<;>intro _<;>try(exfalso;omega))|(refine go4 ?_;split<;>((try(exfalso;omega));try refine go3 ?_)))
    exact ⟨by omega, by omega, by omega, by omega⟩
  · have Fz:=fz4 Try.results68 h0 h5 h1
    repeat'(first|exact trivial|refine go1 ?_|(refine go2 ?_ ?_<;>intro _<;>try(exfalso;omega))|(refine go4 ?_;split<;>((try(exfalso;omega));try refine go3 ?_)))
    omega
theorem c_eqIntSS (ps qs : List (List Int)) (hl : ps.length ≤ 1048576) (hp : ∀ p ∈ ps, p.length ≤ 1048576) : KP 17 [LL ps, LL qs] [] = some (B (decide (ps = qs)), [], []) := by
  refine gc Try.func17 ?_
  by_cases hle : ps.length = qs.length
  rotate_left
  · have hne : ps ≠ qs := fun h => hle (by rw [h])
    have Fz:=fz1 Try.results17
    repeat'(first|exact trivial|refine go1 ?_|(refine go2 ?_ ?_<;>intro _<;>try(exfalso;omega))|(refine go4 ?_;split<;>((try(exfalso;omega));try refine go3 ?_)))
    simp [hne]
  have Fz:=fz1 Try.results17
  repeat'(first|exact trivial|refine go1 ?_|(refine go2 ?_ ?_<;>intro _<;>try(exfalso;omega))|(refine go4 ?_;split<;>((try(exfalso;omega));try refine go3 ?_)))
  refine xw_loopR (fun (i : Int) s => s.ρ 0 = LL ps ∧ s.ρ 1 = LL qs ∧ s.ρ 5 = I i ∧ 0 ≤ i ∧ i ≤ ps.length ∧ ps.take i.toNat = qs.take i.toNat) (fun i => (ps.length - i).toNat) 0 ⟨rfl, rfl, rfl, by simp, by simp, by simp⟩ ?_
  rintro i ⟨ρ, m⟩ ⟨h0, h1, h5, g0, g1, g2⟩
  simp only at h0 h1 h5 g0 g1 g2
  by_cases hj : i < ps.length
  · have hm := getD_mem (d := []) (show i.toNat < ps.length by omega)
    have hd := c_eqIntS (ps.getD i.toNat []) (qs.getD i.toNat []) (hp _ hm)
    by_cases he : ps.getD i.toNat [] = qs.getD i.toNat []
    · rw [decide_eq_true he] at hd
      have Fz:=fz5 Try.results17 h0 h1 h5 hd
      repeat'(first|exact trivial|refine go1 ?_|(refine go2 ?_ ?_<;>intro _<;>try(exfalso;omega))|(refine go4 ?_;split<;>((try(exfalso;omega));try refine go3 ?_)))
      refine ⟨by omega, by omega, ?_, by omega⟩
      rw [take_int [] g0 (by omega), take_int [] g0 (by omega), g2, he]
    · rw [decide_eq_false he] at hd
      have Fz:=fz5 Try.results17 h0 h1 h5 hd
      repeat'(first|exact trivial|refine go1 ?_|(refine go2 ?_ ?_<;>intro _<;>try(exfalso;omega))|(refine go4 ?_;split<;>((try(exfalso;omega));try refine go3 ?_)))
      symm; rw [decide_eq_false_iff_not]
      exact fun k => he (by rw [k])
  · have Fz:=fz4 Try.results17 h0 h1 h5
    repeat'(first|exact trivial|refine go1 ?_|(refine go2 ?_ ?_<;>intro _<;>try(exfalso;omega))|(refine go4 ?_;split<;>((try(exfalso;omega));try refine go3 ?_)))
    symm; rw [decide_eq_true_iff]
    rw [take_all (by omega), take_all (by omega)] at g2
    exact g2
/-- Lists that are marked, one number after the other. -/
def mkLL : Int → List (List Int) → List (List Int)
  | _, [] => []
  | k, l :: r => upL' k l.length :: mkLL (k + l.length) r
def totLL : List (List Int) → Int
  | [] => 0
  | l :: r => l.length + totLL r
theorem mkLL_len : ∀ {ls : List (List Int)} {k : Int}, (mkLL k ls).length = ls.length
  | [], _ => rfl
  | l :: r, k => by rw [mkLL, List.length_cons, List.length_cons, mkLL_len]
theorem totLL_nn : ∀ (ls : List (List Int)), 0 ≤ totLL ls
  | [] => by simp [totLL]
  | l :: r => by have := totLL_nn r; simp only [totLL]; omega
theorem totLL_take : ∀ {ls : List (List Int)} {i : Nat}, i < ls.length → totLL (ls.take (i + 1)) = totLL (ls.take i) + (ls.getD i []).length
  | [], _, h => by simp at h
  | l :: r, 0, _ => by simp [totLL]
  | l :: r, i + 1, h => by
    have := totLL_take (ls := r) (i := i) (by simpa using h)
    rw [List.take_succ_cons, List.take_succ_cons, totLL, totLL, this]
    simp only [List.getD_cons_succ]
    omega
theorem totLL_le {B : Nat} : ∀ {ls : List (List Int)}, (∀ p ∈ ls, p.length ≤ B) → totLL ls ≤ ls.length * B
  | [], _ => by simp [totLL]
  | l :: r, h => by
    have := totLL_le (ls := r) fun p hp => h p (List.mem_cons_of_mem _ hp)
    have h0 := h l List.mem_cons_self
    rw [totLL, List.length_cons]
    have e : ((r.length + 1 : Nat) : Int) * (B : Int) = (r.length : Int) * B + B := by push_cast; rw [Int.add_mul]; simp
    omega
theorem mkLL_get : ∀ {ls : List (List Int)} {k : Int} {i : Nat}, i < ls.length → (mkLL k ls).getD i [] = upL' (k + totLL (ls.take i)) (ls.getD i []).length
  | [], _, _, h => by simp at h
  | l :: r, k, 0, _ => by simp [mkLL, totLL]
  | l :: r, k, i + 1, h => by
    rw [mkLL, List.getD_cons_succ, mkLL_get (by simpa using h), List.take_succ_cons, totLL, List.getD_cons_succ, Int.add_assoc]
theorem rowsF_mk {f : Nat → Nat} : ∀ {ls : List (List Int)} {k : Int} {j : Nat}, rowsF f j (mkLL k ls) = rowsF f j ls
  | [], _, _ => rfl
  | l :: r, k, j => by rw [mkLL, rowsF, rowsF, rowsF_mk, upL'_len]
theorem c_heldIntSS (ls : List (List Int)) (hl : ls.length ≤ 1000) (hp : ∀ p ∈ ls, p.length ≤ 1000) : KP 21 [LL (mkLL 1 ls), I 1] [] = some (I (1 + totLL ls), [], []) := by
  have hml : (mkLL 1 ls).length = ls.length := mkLL_len
  refine gc Try.func21 ?_
  have Fz:=fz1 Try.results21
  repeat'(first|exact trivial|refine go1 ?_|(refine go2 ?_ ?_<;>intro _<;>try(exfalso;omega))|(refine go4 ?_;split<;>((try(exfalso;omega));try refine go3 ?_)))
  refine xw_loopR (fun (i : Int) s => s.ρ 0 = LL (mkLL 1 ls) ∧ s.ρ 5 = I i ∧ s.ρ 1 = I (1 + totLL (ls.take i.toNat)) ∧ 0 ≤ i ∧ i ≤ ls.length) (fun i => (ls.length - i).toNat) 0 (by simp [upd, initP, totLL]) ?_
  rintro i ⟨ρ, m⟩ ⟨h0, h5, h1, g0, g1⟩
  simp only at h0 h5 h1 g0 g1
  have hb := totLL_le (ls := ls.take i.toNat) (B := 1000) fun p hq => hp p (List.mem_of_mem_take hq)
  have hb2 : (ls.take i.toNat).length ≤ 1000 := by rw [List.length_take]; omega
  have hb0 := totLL_nn (ls.take i.toNat)
  by_cases hi : i < ls.length
  · have hm := getD_mem (d := []) (show i.toNat < ls.length by omega)
    have hml := hp _ hm
    have hh := c_heldIntS_at (ls.getD i.toNat []).length (1 + totLL (ls.take i.toNat)) (by omega) (by omega)
    rw [← mkLL_get (by omega)] at hh
    have ht := totLL_take (ls := ls) (i := i.toNat) (by omega)
    rw [show i.toNat + 1 = (i + 1).toNat by omega] at ht
    have Fz:=fz5 Try.results21 h0 h5 h1 hh
    repeat'(first|exact trivial|refine go1 ?_|(refine go2 ?_ ?_<;>intro _<;>try(exfalso;omega))|(refine go4 ?_;split<;>((try(exfalso;omega));try refine go3 ?_)))
    exact ⟨by omega, by omega, by omega, by omega⟩
  · rw [take_all (by omega)] at h1
    have Fz:=fz4 Try.results21 h0 h5 h1
    repeat'(first|exact trivial|refine go1 ?_|(refine go2 ?_ ?_<;>intro _<;>try(exfalso;omega))|(refine go4 ?_;split<;>((try(exfalso;omega));try refine go3 ?_)))
end Go.Proofs.Ytdlfdoicheakoaa.X
