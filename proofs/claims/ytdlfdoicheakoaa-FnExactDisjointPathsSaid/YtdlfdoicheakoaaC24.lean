/- What functions compute: flows as the reference has them. -/
import Derived.Test.YtdlfdoicheakoaaC22
import Derived.Test.YtdlfdoicheakoaaM12
set_option linter.unusedSimpArgs false
set_option linter.unusedVariables false
set_option maxHeartbeats 8000000
namespace Go.Proofs.Ytdlfdoicheakoaa.X
open Go Go.Proofs
/-- Numbers as they are handed back: none, or a list. -/
def iq (xs : List Int) : IV := if xs = [] then .emp else .lst (xs.map encI)
theorem frz_iq {n : Nat} {xs : List Int} : frz n (.i (iq xs)) = .ret (.lst (xs.map encI)) := by
  cases xs with
  | nil => cases n <;> rfl
  | cons e r => cases n <;> rfl
theorem flat_iq {xs : List Int} : (iq xs).flat = true := by cases xs <;> rfl
attribute [go_sem] frz_iq flat_iq
def fsI (fs : List (Int × Int)) : List Int := fs.map Prod.fst
def snI (fs : List (Int × Int)) : List Int := fs.map Prod.snd
/-- Units as the reference has them. -/
def FL (fs : List (Int × Int)) : PV := .agg [LI (fsI fs), LI (snI fs)]
def FQ (fs : List (Int × Int)) : PV := .agg [.i (iq (fsI fs)), .i (iq (snI fs))]
def gq (xs : List (Int × Int)) : PV := if xs = [] then .agg [.i .emp, .i .emp] else .agg [.ref 2000 0 0 xs.length, .ref 2001 0 0 xs.length]
def gqA (xs : List (Int × Int)) : List Arr := if xs = [] then [] else [.arr 0 1 ((fsI xs).map encI), .arr 0 1 ((snI xs).map encI)]
theorem fsI_len (fs : List (Int × Int)) : (fsI fs).length = fs.length := by simp [fsI]
theorem snI_len (fs : List (Int × Int)) : (snI fs).length = fs.length := by simp [snI]
theorem fsI_get (fs : List (Int × Int)) (i : Nat) : (fsI fs).getD i 0 = (fs.getD i (0, 0)).1 := by
  simp only [fsI, List.getD_eq_getElem?_getD, List.getElem?_map]
  cases fs[i]? <;> rfl
theorem snI_get (fs : List (Int × Int)) (i : Nat) : (snI fs).getD i 0 = (fs.getD i (0, 0)).2 := by
  simp only [snI, List.getD_eq_getElem?_getD, List.getElem?_map]
  cases fs[i]? <;> rfl
theorem imm_gq {xs : List (Int × Int)} {n : Nat} : imm (n + 1) (gqA xs) (gq xs) = some (FQ xs) := by
  unfold gqA gq FQ iq
  by_cases h : xs = []
  · subst h; cases n <;> rfl
  · rw [if_neg h, if_neg h, if_neg (fun e => h (by simpa [fsI] using e)), if_neg (fun e => h (by simpa [snI] using e))]
    have e1 : (List.map encI (fsI xs)).take xs.length = List.map encI (fsI xs) := List.take_of_length_le (by simp [fsI])
    have e2 : (List.map encI (snI xs)).take xs.length = List.map encI (snI xs) := List.take_of_length_le (by simp [snI])
    cases n <;> simp [imm, mapO, imm1, e1, e2]
attribute [go_sem] fsI_len snI_len fsI_get snI_get imm_gq
theorem c_l10Has (fs : List (Int × Int)) (a b : Int) (hl : fs.length ≤ 1048576) : KP 98 [FL fs, I a, I b] [] = some (B (decide ((a, b) ∈ fs)), [], []) := by
  have hfl1 := fsI_len fs
  have hfl2 := snI_len fs
  refine gc Try.func98 ?_
  unfold FL
  have Fz:=fz1 Try.results98
  repeat'(first|exact trivial|refine go1 ?_|(refine go2 ?_ ?_<;>intro _<;>try(exfalso;omega))|(refine go4 ?_;split<;>((try(exfalso;omega));try refine go3 ?_)))
  refine xw_loopR (fun (i : Int) s => s.m 3 = some (.box 0 [LI (fsI fs), LI (snI fs)]) ∧ s.ρ 3 = .ptr 3 0 0 0 ∧ s.ρ 1 = I a ∧ s.ρ 2 = I b ∧ s.ρ 7 = I i ∧ 0 ≤ i ∧ i ≤ fs.length ∧ ∀ e ∈ fs.take i.toNat, e ≠ (a, b)) (fun i => (fs.length - i).toNat) 0 (by simp [upd]) ?_
  rintro i ⟨ρ, m⟩ ⟨m3, h3, h1, h2, h7, g0, g1, g2⟩
  simp only at m3 h3 h1 h2 h7 g0 g1 g2
  by_cases hi : i < fs.length
  rotate_left
  · rw [take_all (by omega)] at g2
    rw [decide_eq_false (fun h => g2 _ h rfl)]
    have Fz:=fz6 Try.results98 m3 h3 h1 h2 h7
    repeat'(first|exact trivial|refine go1 ?_|(refine go2 ?_ ?_<;>intro _<;>try(exfalso;omega))|(refine go4 ?_;split<;>((try(exfalso;omega));try refine go3 ?_)))
  have hm := getD_mem (d := (0, 0)) (show i.toNat < fs.length by omega)
  have hst : (fs.getD i.toNat (0, 0)) ≠ (a, b) → ∀ e ∈ fs.take (i + 1).toNat, e ≠ (a, b) := fun h e he => by
    rw [take_int (0, 0) g0 hi] at he
    rcases List.mem_append.1 he with he | he
    · exact g2 e he
    · rw [List.mem_singleton.1 he]; exact h
  generalize hqe : fs.getD i.toNat (0, 0) = q at hm hst
  by_cases h : q = (a, b)
  · subst h
    rw [decide_eq_true hm]
    have Fz:=fz7 Try.results98 m3 h3 h1 h2 h7 hqe
    repeat'(first|exact trivial|refine go1 ?_|(refine go2 ?_ ?_<;>intro _<;>try(exfalso;omega))|(refine go4 ?_;split<;>((try(exfalso;omega));try refine go3 ?_)))
  · have h' : ¬ (q.1 = a ∧ q.2 = b) := fun k => h (Prod.ext k.1 k.2)
    have Fz:=fz7 Try.results98 m3 h3 h1 h2 h7 hqe
    repeat'(first|exact trivial|refine go1 ?_|(refine go2 ?_ ?_<;>intro _<;>try(exfalso;omega))|(refine go4 ?_;split<;>((try(exfalso;omega));try refine go3 ?_)))
    all_goals exact ⟨by omega, by omega, hst h, by omega⟩
/-- Units without one. -/
def woL (fs : List (Int × Int)) (a b : Int) : List (Int × Int) := fs.filter fun e => decide (e ≠ (a, b))
def stepL (fs : List (Int × Int)) (a b : Int) : List (Int × Int) := if (b, a) ∈ fs then woL fs b a else woL fs a b ++ [(a, b)]
theorem woL_len (fs : List (Int × Int)) (a b : Int) : (woL fs a b).length ≤ fs.length := List.length_filter_le _ _
theorem stepL_len (fs : List (Int × Int)) (a b : Int) : (stepL fs a b).length ≤ fs.length + 1 := by
  unfold stepL
  split
  · have := woL_len fs b a; omega
  · have := woL_len fs a b; simp only [List.length_append, List.length_cons, List.length_nil]; omega
def FR (fs : List (Int × Int)) (F : Un) : Prop := ∀ a b, (a, b) ∈ fs ↔ F a b = true
theorem FR.step {fs : List (Int × Int)} {F : Un} (h : FR fs F) (a b : Int) : FR (stepL fs a b) (stepF F a b) := by
  intro c d
  unfold stepL stepF
  have h0 := h b a
  have h1 := h c d
  by_cases hb : F b a = true
  · rw [if_pos (h0.2 hb), if_pos hb]
    simp only [woL, List.mem_filter, decide_eq_true_eq, ne_eq, Prod.mk.injEq, h1]
    by_cases hc : c = b ∧ d = a
    · simp [hc]
    · simp [hc]
  · rw [if_neg (fun k => hb (h0.1 k)), if_neg hb]
    simp only [woL, List.mem_append, List.mem_filter, List.mem_singleton, decide_eq_true_eq, ne_eq, Prod.mk.injEq, h1]
    by_cases hc : c = a ∧ d = b
    · simp [hc]
    · simp [hc]
theorem FR.drop {fs : List (Int × Int)} {F : Un} (h : FR fs F) (a b : Int) : FR (woL fs a b) (dropF F a b) := by
  intro c d
  have h1 := h c d
  unfold dropF
  simp only [woL, List.mem_filter, decide_eq_true_eq, ne_eq, Prod.mk.injEq, h1]
  by_cases hc : c = a ∧ d = b
  · simp [hc]
  · simp [hc]
theorem woL_snoc (fs : List (Int × Int)) (a b : Int) {i : Int} (h0 : 0 ≤ i) (h1 : i < fs.length) : woL (fs.take (i + 1).toNat) a b = if fs.getD i.toNat (0, 0) = (a, b) then woL (fs.take i.toNat) a b else woL (fs.take i.toNat) a b ++ [fs.getD i.toNat (0, 0)] := by
  rw [take_int (0, 0) h0 h1]
  unfold woL
  rw [List.filter_append]
  generalize fs.getD i.toNat (0, 0) = q
  by_cases h : q = (a, b)
  · simp [h]
  · rw [if_neg h]
    congr 1
    simp [h]
/-- A row of numbers as it is while a function builds it: nothing, or an array. -/
def iP (d v : Nat) (xs : List Int) : PV := if xs = [] then .i .emp else .ref d v 0 xs.length
theorem c_l10Without (fs : List (Int × Int)) (a b : Int) (hl : fs.length ≤ 1048576) : KP 57 [FL fs, I a, I b] [] = some (gq (woL fs a b), [], gqA (woL fs a b)) := by
  have hfl1 := fsI_len fs
  have hfl2 := snI_len fs
  refine gc Try.func57 ?_
  unfold FL
  have Fz:=fz1 Try.results57
  repeat'(first|exact trivial|refine go1 ?_|(refine go2 ?_ ?_<;>intro _<;>try(exfalso;omega))|(refine go4 ?_;split<;>((try(exfalso;omega));try refine go3 ?_)))
  refine xw_loopR (fun (u : Int × Nat × Nat × List (Int × Int)) s => s.m 7 = some (.box 0 [iP 41 u.2.1 (fsI u.2.2.2), iP 51 u.2.2.1 (snI u.2.2.2)]) ∧ s.ρ 7 = .ptr 7 0 0 0 ∧ (u.2.2.2 ≠ [] → s.m 41 = some (.arr u.2.1 1 ((fsI u.2.2.2).map encI)) ∧ s.m 51 = some (.arr u.2.2.1 1 ((snI u.2.2.2).map encI))) ∧ s.ρ 8 = I u.1 ∧
    s.m 3 = some (.box 0 [LI (fsI fs), LI (snI fs)]) ∧ s.ρ 3 = .ptr 3 0 0 0 ∧ s.ρ 1 = I a ∧ s.ρ 2 = I b ∧ s.ρ 6 = .ptr 6 0 0 0 ∧ s.m 6 = some (.box 0 [.i .emp, .i .emp]) ∧ 0 ≤ u.1 ∧ u.1 ≤ fs.length ∧ (u.2.2.2.length : Int) ≤ u.1 ∧ u.2.2.2 = woL (fs.take u.1.toNat) a b) (fun u => (fs.length - u.1).toNat) (0, 0, 0, []) ?_ ?_
  · refine ⟨by simp [upd, iP, fsI, snI], by simp [upd], by simp, by simp [upd], by simp [upd], by simp [upd], by simp [upd], by simp [upd], by simp [upd], by simp [upd], by simp, by simp, by simp, by simp [woL]⟩
  rintro ⟨i, v, w, xs⟩ ⟨ρ, m⟩ ⟨m7, h7, mm, h8, m3, h3, h1, h2, h6, m6, g0, g1, g2, g3⟩
  simp only at m7 h7 mm h8 m3 h3 h1 h2 h6 m6 g0 g1 g2 g3
  have hfx : fsI xs = [] ↔ xs = [] := by simp [fsI]
  have hsx : snI xs = [] ↔ xs = [] := by simp [snI]
  by_cases hi : i < fs.length
  rotate_left
  · rw [take_all (by omega)] at g3
    rw [← g3]
    unfold gq gqA
    by_cases hx : xs = []
    · rw [if_pos hx, if_pos hx]
      rw [iP, iP, if_pos (hfx.2 hx), if_pos (hsx.2 hx)] at m7
      have Fz:=fz10 Try.results57 m7 h7 h8 m3 h3 h1 h2 h6 m6
      repeat'(first|exact trivial|refine go1 ?_|(refine go2 ?_ ?_<;>intro _<;>try(exfalso;omega))|(refine go4 ?_;split<;>((try(exfalso;omega));try refine go3 ?_)))
    · obtain ⟨m41, m51⟩ := mm hx
      rw [if_neg hx, if_neg hx]
      rw [iP, iP, if_neg (fun k => hx (hfx.1 k)), if_neg (fun k => hx (hsx.1 k))] at m7
      have Fz:=fz12 Try.results57 m7 h7 h8 m3 h3 h1 h2 h6 m6 m41 m51
      repeat'(first|exact trivial|refine go1 ?_|(refine go2 ?_ ?_<;>intro _<;>try(exfalso;omega))|(refine go4 ?_;split<;>((try(exfalso;omega));try refine go3 ?_)))
  have hsn := woL_snoc fs a b g0 hi
  rw [← g3] at hsn
  generalize hqe : fs.getD i.toNat (0, 0) = q at hsn
  by_cases hq : q = (a, b)
  · rw [if_pos hq] at hsn
    subst hq
    have Fz:=fz11 Try.results57 m7 h7 h8 m3 h3 h1 h2 h6 m6 hqe
    repeat'(first|exact trivial|refine go1 ?_|(refine go2 ?_ ?_<;>intro _<;>try(exfalso;omega))|(refine go4 ?_;split<;>((try(exfalso;omega));try refine go3 ?_)))
    exact ⟨i + 1, v, w, xs, rfl, mm, rfl, by omega, by omega, by omega, hsn.symm, by omega⟩
  · rw [if_neg hq] at hsn
    have h' : ¬ (q.1 = a ∧ q.2 = b) := fun k => hq (Prod.ext k.1 k.2)
    have f1 : fsI (xs ++ [q]) = fsI xs ++ [q.1] := by simp [fsI]
    have f2 : snI (xs ++ [q]) = snI xs ++ [q.2] := by simp [snI]
    have f3 : fsI (xs ++ [q]) ≠ [] := by simp [fsI]
    have f4 : snI (xs ++ [q]) ≠ [] := by simp [snI]
    have f5 : (fsI (xs ++ [q])).length = xs.length + 1 := by simp [fsI]
    have f6 : (snI (xs ++ [q])).length = xs.length + 1 := by simp [snI]
    by_cases hx : xs = []
    · rw [iP, iP, if_pos (hfx.2 hx), if_pos (hsx.2 hx)] at m7
      have Fz:=fz11 Try.results57 m7 h7 h8 m3 h3 h1 h2 h6 m6 hqe
      repeat'(first|exact trivial|refine go1 ?_|(refine go2 ?_ ?_<;>intro _<;>try(exfalso;omega))|(refine go4 ?_;split<;>((try(exfalso;omega));try refine go3 ?_)))
      all_goals
        refine ⟨i + 1, nv (m 41), nv (m 51), xs ++ [q], ?_, fun _ => ⟨rfl, ?_, rfl, ?_⟩, rfl, by omega, by omega, ?_, hsn.symm, by omega⟩
        · rw [iP, iP, if_neg f3, if_neg f4, f5, f6, hx]; rfl
        · rw [hx]; simp [fsI, encI]
        · rw [hx]; simp [snI, encI]
        · rw [List.length_append]; simp only [List.length_cons, List.length_nil]; omega
    · obtain ⟨m41, m51⟩ := mm hx
      rw [iP, iP, if_neg (fun k => hx (hfx.1 k)), if_neg (fun k => hx (hsx.1 k))] at m7
      have Fz:=fz13 Try.results57 m7 h7 h8 m3 h3 h1 h2 h6 m6 m41 m51 hqe
      repeat'(first|exact trivial|refine go1 ?_|(refine go2 ?_ ?_<;>intro _<;>try(exfalso;omega))|(refine go4 ?_;split<;>((try(exfalso;omega));try refine go3 ?_)))
      all_goals
        refine ⟨i + 1, v + 1, w + 1, xs ++ [q], ?_, fun _ => ⟨rfl, f1.symm, rfl, f2.symm⟩, rfl, by omega, by omega, ?_, hsn.symm, by omega⟩
        · rw [iP, iP, if_neg f3, if_neg f4, f5, f6]
        · rw [List.length_append]; simp only [List.length_cons, List.length_nil]; omega
end Go.Proofs.Ytdlfdoicheakoaa.X
