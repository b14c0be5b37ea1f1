/- What functions compute: flows as the reference has them. -/
import Derived.Test.YtbaholclcfpknaaC22
import Derived.Test.YtbaholclcfpknaaM12
set_option linter.unusedSimpArgs false
set_option linter.unusedVariables false
set_option maxHeartbeats 8000000
namespace Go.Proofs.Ytbaholclcfpknaa.X
open Go Go.Proofs

/-- Numbers as they are handed back: none, or a list. -/
def iq (xs : List Int) : IV := if xs = [] then .emp else .lst (xs.map encI)
theorem frz_iq {n : Nat} {xs : List Int} : frz n (.i (iq xs)) = .ret (.lst (xs.map encI)) := by
  cases xs with
  | nil => cases n <;> rfl
  | cons e r => cases n <;> rfl
theorem flat_iq {xs : List Int} : (iq xs).flat = true := by cases xs <;> rfl
attribute [go_sem] frz_iq flat_iq
def fsI (fs : List (Int × Int)) : List Int := fs.map Prod.fst
def snI (fs : List (Int × Int)) : List Int := fs.map Prod.snd
/-- Units as the reference has them. -/
def FL (fs : List (Int × Int)) : PV := .agg [LI (fsI fs), LI (snI fs)]
def FQ (fs : List (Int × Int)) : PV := .agg [.i (iq (fsI fs)), .i (iq (snI fs))]
def gq (xs : List (Int × Int)) : PV := if xs = [] then .agg [.i .emp, .i .emp] else .agg [.ref 2000 0 0 xs.length, .ref 2001 0 0 xs.length]
def gqA (xs : List (Int × Int)) : List Arr := if xs = [] then [] else [.arr 0 1 ((fsI xs).map encI), .arr 0 1 ((snI xs).map encI)]
theorem fsI_len (fs : List (Int × Int)) : (fsI fs).length = fs.length := by simp [fsI]
theorem snI_len (fs : List (Int × Int)) : (snI fs).length = fs.length := by simp [snI]
theorem fsI_get (fs : List (Int × Int)) (i : Nat) : (fsI fs).getD i 0 = (fs.getD i (0, 0)).1 := by
  simp only [fsI, List.getD_eq_getElem?_getD, List.getElem?_map]
  cases fs[i]? <;> rfl
theorem snI_get (fs : List (Int × Int)) (i : Nat) : (snI fs).getD i 0 = (fs.getD i (0, 0)).2 := by
  simp only [snI, List.getD_eq_getElem?_getD, List.getElem?_map]
  cases fs[i]? <;> rfl
theorem imm_gq {xs : List (Int × Int)} {n : Nat} : imm (n + 1) (gqA xs) (gq xs) = some (FQ xs) := by
  unfold gqA gq FQ iq
  by_cases h : xs = []
  · subst h; cases n <;> rfl
  · rw [if_neg h, if_neg h, if_neg (fun e => h (by simpa [fsI] using e)), if_neg (fun e => h (by simpa [snI] using e))]
    have e1 : (List.map encI (fsI xs)).take xs.length = List.map encI (fsI xs) := List.take_of_length_le (by simp [fsI])
    have e2 : (List.map encI (snI xs)).take xs.length = List.map encI (snI xs) := List.take_of_length_le (by simp [snI])
    cases n <;> simp [imm, mapO, imm1, e1, e2]
attribute [go_sem] fsI_len snI_len fsI_get snI_get imm_gq
/-- Units without one. -/
def woL (fs : List (Int × Int)) (a b : Int) : List (Int × Int) := fs.filter fun e => decide (e ≠ (a, b))
def stepL (fs : List (Int × Int)) (a b : Int) : List (Int × Int) := if (b, a) ∈ fs then woL fs b a else woL fs a b ++ [(a, b)]
def FR (fs : List (Int × Int)) (F : Un) : Prop := ∀ a b, (a, b) ∈ fs ↔ F a b = true
theorem FR.step {fs : List (Int × Int)} {F : Un} (h : FR fs F) (a b : Int) : FR (stepL fs a b) (stepF F a b) := by
  intro c d
  unfold stepL stepF
  have h0 := h b a
  have h1 := h c d
  by_cases hb : F b a = true
  · rw [if_pos (h0.2 hb), if_pos hb]
    simp only [woL, List.mem_filter, decide_eq_true_eq, ne_eq, Prod.mk.injEq, h1]
    by_cases hc : c = b ∧ d = a
    · simp [hc]
    · simp [hc]
  · rw [if_neg (fun k => hb (h0.1 k)), if_neg hb]
    simp only [woL, List.mem_append, List.mem_filter, List.mem_singleton, decide_eq_true_eq, ne_eq, Prod.mk.injEq, h1]
    by_cases hc : c = a ∧ d = b
    · simp [hc]
    · simp [hc]
theorem FR.drop {fs : List (Int × Int)} {F : Un} (h : FR fs F) (a b : Int) : FR (woL fs a b) (dropF F a b) := by
  intro c d
  have h1 := h c d
  unfold dropF
  simp only [woL, List.mem_filter, decide_eq_true_eq, ne_eq, Prod.mk.injEq, h1]
  by_cases hc : c = a ∧ d = b
  · simp [hc]
  · simp [hc]
/-- A row of numbers as it is while a function builds it: nothing, or an array. -/
def iP (d v : Nat) (xs : List Int) : PV := if xs = [] then .i .emp else .ref d v 0 xs.length

end Go.Proofs.Ytbaholclcfpknaa.X


