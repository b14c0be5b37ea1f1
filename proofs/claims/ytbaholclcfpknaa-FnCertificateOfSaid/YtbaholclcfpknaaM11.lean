/- Flows and cuts: plain law. -/
import Derived.Test.YtbaholclcfpknaaM10
set_option linter.unusedVariables false
namespace Go.Proofs.Ytbaholclcfpknaa.X
open Go

section
variable {n : Int} {es : List (Int × Int)} {x y : Int}

theorem cutsz_zero {S : Int → Bool} (h : cutsz S es = 0) {a b : Int} (hc : Conn es a b) : S a = S b := by
  have hno : ∀ e ∈ es, S e.1 = S e.2 := fun e he => Classical.byContradiction fun hne => by
    have : e ∈ es.filter fun e => S e.1 != S e.2 := List.mem_filter.2 ⟨he, by simpa using hne⟩
    have := List.length_pos_of_mem this
    unfold cutsz at h
    omega
  induction hc with
  | refl => rfl
  | step _ a ih =>
    rcases a with a | a
    · exact ih.trans (hno _ a)
    · exact ih.trans (hno _ a).symm
open Classical in
open Classical in
open Classical in
open Classical in
end

/-! Weakest cuts. -/
/-- The least number of ways from the first node. -/
def wk (n : Int) (es : List (Int × Int)) : Nat → Nat
  | 0 => 40
  | k + 1 => min (wk n es k) (flN n es 0 ((k : Nat) + 1 : Int))
/-- The weakest cut. -/
def weak (n : Int) (es : List (Int × Int)) : Nat := wk n es (n - 1).toNat
/-! The side of a cut is the least one. -/
end Go.Proofs.Ytbaholclcfpknaa.X

