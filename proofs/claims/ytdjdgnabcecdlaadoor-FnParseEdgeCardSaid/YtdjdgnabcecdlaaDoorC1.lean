/- What functions compute: edges. -/
import Derived.Test.YtdjdgnabcecdlaaDoorCfg
set_option linter.unusedSimpArgs false
set_option linter.unusedVariables false
namespace Go.Proofs.YtdjdgnabcecdlaaDoor.X
open Go Go.Proofs
/-- How data stand in arrays. -/
def encE (e : Int × Int) : List IV := [.v (.int .i64 e.1), .v (.int .i64 e.2)]
abbrev PE (a b : Int) : PV := .agg [I a, I b]
abbrev LE (es : List (Int × Int)) : PV := .i (.lst (es.map encE))
noncomputable abbrev KP : CallS := KK Tryd.prog cfg
def edgeOf (x y : Int) : Int × Int := if x < y then (x, y) else (y, x)
theorem c_l1Edge (x y : Int) : KP 14 [I x, I y] [] = some (PE (edgeOf x y).1 (edgeOf x y).2, [], []) := by
  refine xw_call (fn := Tryd.f14) rfl Tryd.func14 rfl ⟨Nat.le_of_ble_eq_true rfl, rfl, rfl⟩ ?_
  repeat (first
    | refine xw_seq ?_
    | refine xw_block ?_
    | (refine xw_reg ?_; simp only [go_sem, ↓reduceIte, Int.reduceLE, Int.reduceLT, Int.reduceToNat, Int.reduceNeg, Int.reduceAdd, Int.reduceSub, Int.reduceMul, Int.reduceEq, Int.reduceNe, Nat.reduceEqDiff, Nat.reduceAdd, Nat.reduceSub, Nat.reduceMul, Nat.reduceLT, Nat.reduceLeDiff, Nat.reduceBEq, Nat.reduceBNe, UInt8.reduceToNat])
    | (refine xw_regd ?_; simp only [go_sem, ↓reduceIte, Int.reduceLE, Int.reduceLT, Int.reduceToNat, Int.reduceNeg, Int.reduceAdd, Int.reduceSub, Int.reduceMul, Int.reduceEq, Int.reduceNe, Nat.reduceEqDiff, Nat.reduceAdd, Nat.reduceSub, Nat.reduceMul, Nat.reduceLT, Nat.reduceLeDiff, Nat.reduceBEq, Nat.reduceBNe, UInt8.reduceToNat]; refine ⟨by kernel_rfl, ?_⟩)
    | (refine xw_if ?_; simp only [go_sem, ↓reduceIte, Int.reduceLE, Int.reduceLT, Int.reduceToNat, Int.reduceNeg, Int.reduceAdd, Int.reduceSub, Int.reduceMul, Int.reduceEq, Int.reduceNe, Nat.reduceEqDiff, Nat.reduceAdd, Nat.reduceSub, Nat.reduceMul, Nat.reduceLT, Nat.reduceLeDiff, Nat.reduceBEq, Nat.reduceBNe, UInt8.reduceToNat])
    | (refine xw_skip ?_; simp only [sq, bl])
    | (refine xw_exit ?_; simp only [sq, bl, if_true, if_false, Nat.reduceEqDiff])
    | (refine xw_label ?_; simp only [sq, bl]))
  unfold edgeOf
  split
  · repeat (first
      | refine xw_seq ?_
      | refine xw_block ?_
      | (refine xw_reg ?_; simp only [go_sem, ↓reduceIte, Int.reduceLE, Int.reduceLT, Int.reduceToNat, Int.reduceNeg, Int.reduceAdd, Int.reduceSub, Int.reduceMul, Int.reduceEq, Int.reduceNe, Nat.reduceEqDiff, Nat.reduceAdd, Nat.reduceSub, Nat.reduceMul, Nat.reduceLT, Nat.reduceLeDiff, Nat.reduceBEq, Nat.reduceBNe, UInt8.reduceToNat])
      | (refine xw_regd ?_; simp only [go_sem, ↓reduceIte, Int.reduceLE, Int.reduceLT, Int.reduceToNat, Int.reduceNeg, Int.reduceAdd, Int.reduceSub, Int.reduceMul, Int.reduceEq, Int.reduceNe, Nat.reduceEqDiff, Nat.reduceAdd, Nat.reduceSub, Nat.reduceMul, Nat.reduceLT, Nat.reduceLeDiff, Nat.reduceBEq, Nat.reduceBNe, UInt8.reduceToNat]; refine ⟨by kernel_rfl, ?_⟩)
      | (refine xw_if ?_; simp only [go_sem, ↓reduceIte, Int.reduceLE, Int.reduceLT, Int.reduceToNat, Int.reduceNeg, Int.reduceAdd, Int.reduceSub, Int.reduceMul, Int.reduceEq, Int.reduceNe, Nat.reduceEqDiff, Nat.reduceAdd, Nat.reduceSub, Nat.reduceMul, Nat.reduceLT, Nat.reduceLeDiff, Nat.reduceBEq, Nat.reduceBNe, UInt8.reduceToNat])
      | (refine xw_skip ?_; simp only [sq, bl])
      | (refine xw_exit ?_; simp only [sq, bl, if_true, if_false, Nat.reduceEqDiff])
      | (refine xw_label ?_; simp only [sq, bl]))
    first | refine xw_ret (post_ret ?_) | refine post_normal ?_ | refine xw_ret (postE_ret ?_) | refine postE_normal ?_
    simp only [go_sem, ↓reduceIte, Int.reduceLE, Int.reduceLT, Int.reduceToNat, Int.reduceNeg, Int.reduceAdd, Int.reduceSub, Int.reduceMul, Int.reduceEq, Int.reduceNe, Nat.reduceEqDiff, Nat.reduceAdd, Nat.reduceSub, Nat.reduceMul, Nat.reduceLT, Nat.reduceLeDiff, Nat.reduceBEq, Nat.reduceBNe, UInt8.reduceToNat, Tryd.results14, Tryd.f14]
  · repeat (first
      | refine xw_seq ?_
      | refine xw_block ?_
      | (refine xw_reg ?_; simp only [go_sem, ↓reduceIte, Int.reduceLE, Int.reduceLT, Int.reduceToNat, Int.reduceNeg, Int.reduceAdd, Int.reduceSub, Int.reduceMul, Int.reduceEq, Int.reduceNe, Nat.reduceEqDiff, Nat.reduceAdd, Nat.reduceSub, Nat.reduceMul, Nat.reduceLT, Nat.reduceLeDiff, Nat.reduceBEq, Nat.reduceBNe, UInt8.reduceToNat])
      | (refine xw_regd ?_; simp only [go_sem, ↓reduceIte, Int.reduceLE, Int.reduceLT, Int.reduceToNat, Int.reduceNeg, Int.reduceAdd, Int.reduceSub, Int.reduceMul, Int.reduceEq, Int.reduceNe, Nat.reduceEqDiff, Nat.reduceAdd, Nat.reduceSub, Nat.reduceMul, Nat.reduceLT, Nat.reduceLeDiff, Nat.reduceBEq, Nat.reduceBNe, UInt8.reduceToNat]; refine ⟨by kernel_rfl, ?_⟩)
      | (refine xw_if ?_; simp only [go_sem, ↓reduceIte, Int.reduceLE, Int.reduceLT, Int.reduceToNat, Int.reduceNeg, Int.reduceAdd, Int.reduceSub, Int.reduceMul, Int.reduceEq, Int.reduceNe, Nat.reduceEqDiff, Nat.reduceAdd, Nat.reduceSub, Nat.reduceMul, Nat.reduceLT, Nat.reduceLeDiff, Nat.reduceBEq, Nat.reduceBNe, UInt8.reduceToNat])
      | (refine xw_skip ?_; simp only [sq, bl])
      | (refine xw_exit ?_; simp only [sq, bl, if_true, if_false, Nat.reduceEqDiff])
      | (refine xw_label ?_; simp only [sq, bl]))
    first | refine xw_ret (post_ret ?_) | refine post_normal ?_ | refine xw_ret (postE_ret ?_) | refine postE_normal ?_
    simp only [go_sem, ↓reduceIte, Int.reduceLE, Int.reduceLT, Int.reduceToNat, Int.reduceNeg, Int.reduceAdd, Int.reduceSub, Int.reduceMul, Int.reduceEq, Int.reduceNe, Nat.reduceEqDiff, Nat.reduceAdd, Nat.reduceSub, Nat.reduceMul, Nat.reduceLT, Nat.reduceLeDiff, Nat.reduceBEq, Nat.reduceBNe, UInt8.reduceToNat, Tryd.results14, Tryd.f14]
def lessE (a b : Int × Int) : Bool := decide (a.1 < b.1 ∨ a.1 = b.1 ∧ a.2 < b.2)
/-- The place of an edge, or -1. -/
def findE (es : List (Int × Int)) (e : Int × Int) : Int := if e ∈ es then (es.idxOf e : Int) else -1
theorem idxOf_at {e : Int × Int} : ∀ {es : List (Int × Int)} {i : Nat}, es[i]? = some e → e ∉ es.take i → es.idxOf e = i
  | [], _, h, _ => by simp at h
  | x :: r, 0, h, _ => by simp at h; subst h; simp
  | x :: r, i + 1, h, hn => by
    simp only [List.take_succ_cons, List.mem_cons, not_or] at hn
    have hx : (x == e) = false := by simpa using fun e' => hn.1 e'.symm
    rw [List.idxOf_cons, hx, idxOf_at (by simpa using h) hn.2]; rfl
theorem findE_at {es : List (Int × Int)} {e : Int × Int} {i : Nat} (h : es[i]? = some e) (hn : e ∉ es.take i) : findE es e = i := by
  have hin : e ∈ es := List.mem_of_getElem? h
  simp [findE, hin, idxOf_at h hn]
end Go.Proofs.YtdjdgnabcecdlaaDoor.X
