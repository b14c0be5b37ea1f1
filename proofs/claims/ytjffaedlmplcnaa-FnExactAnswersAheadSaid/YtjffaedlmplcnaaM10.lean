/- Units along ways, and cuts: plain law. -/
import Derived.Test.YtjffaedlmplcnaaM9
set_option linter.unusedVariables false
namespace Go.Proofs.Ytjffaedlmplcnaa.X
open Go
abbrev Un := Int → Int → Bool
/-- A unit more from a node to another one. -/
def stepF (F : Un) (a b : Int) : Un := fun c d => if F b a = true then (if c = b ∧ d = a then false else F c d) else (if c = a ∧ d = b then true else F c d)
/-- A unit more along a row of nodes, from its first step on. -/
def augF (F : Un) : List Int → Un
  | a :: b :: r => augF (stepF F a b) (b :: r)
  | _ => F
/-- The same, from the last step on. -/
def augB (F : Un) : List Int → Un
  | a :: b :: r => stepF (augB F (b :: r)) a b
  | _ => F
def Steps (P : Int → Int → Prop) : List Int → Prop
  | a :: b :: r => P a b ∧ Steps P (b :: r)
  | _ => True
theorem Steps.of {P : Int → Int → Prop} : ∀ {p : List Int}, (∀ i, i + 1 < p.length → P (p.getD i 0) (p.getD (i + 1) 0)) → Steps P p
  | [], _ => trivial
  | [a], _ => trivial
  | a :: b :: r, h => ⟨h 0 (by simp), Steps.of (p := b :: r) fun i hi => by
      have := h (i + 1) (by simp only [List.length_cons] at hi ⊢; omega)
      simpa using this⟩
theorem Steps.mono {P Q : Int → Int → Prop} : ∀ {p : List Int}, (∀ a b, a ∈ p → b ∈ p → P a b → Q a b) → Steps P p → Steps Q p
  | [], _, _ => trivial
  | [a], _, _ => trivial
  | a :: b :: r, h, ⟨h1, h2⟩ => ⟨h a b (by simp) (by simp) h1, Steps.mono (p := b :: r) (fun c d hc hd => h c d (List.mem_cons_of_mem _ hc) (List.mem_cons_of_mem _ hd)) h2⟩
/-- Units lie on edges, and not in both directions. -/
structure OKF (es : List (Int × Int)) (F : Un) : Prop where
  adj : ∀ a b, F a b = true → Adj es a b
  one : ∀ a b, F a b = true → F b a = false
theorem OKF.step {es : List (Int × Int)} {F : Un} {a b : Int} (h : OKF es F) (ha : Adj es a b) (hne : a ≠ b) : OKF es (stepF F a b) := by
  constructor
  · intro c d hcd
    unfold stepF at hcd
    split at hcd
    · split at hcd
      · cases hcd
      · exact h.adj c d hcd
    · split at hcd
      · rename_i hc; rw [hc.1, hc.2]; exact ha
      · exact h.adj c d hcd
  · intro c d hcd
    unfold stepF at hcd ⊢
    split at hcd
    · rename_i hba
      rw [if_pos hba]
      split at hcd
      · cases hcd
      · split
        · rfl
        · exact h.one c d hcd
    · rename_i hba
      rw [if_neg hba]
      split at hcd
      · rename_i hc
        obtain ⟨rfl, rfl⟩ := hc
        rw [if_neg (fun k => hne k.2)]
        exact Bool.not_eq_true _ ▸ hba
      · rename_i hc
        split
        · rename_i hd
          obtain ⟨rfl, rfl⟩ := hd
          exact absurd hcd hba
        · exact h.one c d hcd
def b2i (b : Bool) : Int := if b = true then 1 else 0
def contrib (S : Int → Bool) (F : Un) (e : Int × Int) : Int := (b2i (S e.1) - b2i (S e.2)) * (b2i (F e.1 e.2) - b2i (F e.2 e.1))
def val (S : Int → Bool) (F : Un) (es : List (Int × Int)) : Int := (es.map (contrib S F)).sum
/-- The edges that lead out of a set. -/
def cutsz (S : Int → Bool) (es : List (Int × Int)) : Nat := (es.filter fun e => S e.1 != S e.2).length
def goesF (F : Un) : Int → Int → Bool := fun a b => !F a b
def flS (n : Int) (es : List (Int × Int)) (x y : Int) : Nat → Un
  | 0 => fun _ _ => false
  | k + 1 => augF (flS n es x y k) (wayL n (bfs n es (goesF (flS n es x y k)) x).1 x y)
/-- Is there a way yet? -/
def more (n : Int) (es : List (Int × Int)) (x y : Int) (k : Nat) : Prop := y ∈ (bfs n es (goesF (flS n es x y k)) x).2
instance (n : Int) (es : List (Int × Int)) (x y : Int) (k : Nat) : Decidable (more n es x y k) := by unfold more; infer_instance
/-- How many ways there are. -/
def flN (n : Int) (es : List (Int × Int)) (x y : Int) : Nat := ((List.range (n.toNat + 1)).find? fun k => decide ¬ more n es x y k).getD 0
/-- The units in the end. -/
def flU (n : Int) (es : List (Int × Int)) (x y : Int) : Un := flS n es x y (flN n es x y)
/-- The nodes that can be reached in the end. -/
def sideO (n : Int) (es : List (Int × Int)) (x y : Int) : List Int := (bfs n es (goesF (flU n es x y)) x).2
end Go.Proofs.Ytjffaedlmplcnaa.X
