/- What small functions answer. -/
import Derived.Test.YtdjdgnabcecdlaaGreatDoorCfg
/- What functions compute: edges. -/
set_option linter.unusedSimpArgs false
set_option linter.unusedVariables false
namespace Go.Proofs.YtdjdgnabcecdlaaGreatDoor.X
open Go Go.Proofs
/-- How data stand in arrays. -/
def encE (e : Int × Int) : List IV := [.v (.int .i64 e.1), .v (.int .i64 e.2)]
abbrev PE (a b : Int) : PV := .agg [I a, I b]
abbrev LE (es : List (Int × Int)) : PV := .i (.lst (es.map encE))
noncomputable abbrev KP : CallS := KK Tryz.prog cfg
def edgeOf (x y : Int) : Int × Int := if x < y then (x, y) else (y, x)
theorem c_l1Edge (x y : Int) : KP 144 [I x, I y] [] = some (PE (edgeOf x y).1 (edgeOf x y).2, [], []) := by
  refine xw_call (fn := Tryz.f144) rfl Tryz.func144 rfl ⟨Nat.le_of_ble_eq_true rfl, rfl, rfl⟩ ?_
  repeat (first
    | refine xw_seq ?_
    | refine xw_block ?_
    | (refine xw_reg ?_; simp only [go_sem, ↓reduceIte, Int.reduceLE, Int.reduceLT, Int.reduceToNat, Int.reduceNeg, Int.reduceAdd, Int.reduceSub, Int.reduceMul, Int.reduceEq, Int.reduceNe, Nat.reduceEqDiff, Nat.reduceAdd, Nat.reduceSub, Nat.reduceMul, Nat.reduceLT, Nat.reduceLeDiff, Nat.reduceBEq, Nat.reduceBNe])
    | (refine xw_regd ?_; simp only [go_sem, ↓reduceIte, Int.reduceLE, Int.reduceLT, Int.reduceToNat, Int.reduceNeg, Int.reduceAdd, Int.reduceSub, Int.reduceMul, Int.reduceEq, Int.reduceNe, Nat.reduceEqDiff, Nat.reduceAdd, Nat.reduceSub, Nat.reduceMul, Nat.reduceLT, Nat.reduceLeDiff, Nat.reduceBEq, Nat.reduceBNe]; refine ⟨by kernel_rfl, ?_⟩)
    | (refine xw_if ?_; simp only [go_sem, ↓reduceIte, Int.reduceLE, Int.reduceLT, Int.reduceToNat, Int.reduceNeg, Int.reduceAdd, Int.reduceSub, Int.reduceMul, Int.reduceEq, Int.reduceNe, Nat.reduceEqDiff, Nat.reduceAdd, Nat.reduceSub, Nat.reduceMul, Nat.reduceLT, Nat.reduceLeDiff, Nat.reduceBEq, Nat.reduceBNe])
    | (refine xw_skip ?_; simp only [sq, bl])
    | (refine xw_exit ?_; simp only [sq, bl, if_true, if_false, Nat.reduceEqDiff])
    | (refine xw_label ?_; simp only [sq, bl]))
  unfold edgeOf
  split
  · repeat (first
      | refine xw_seq ?_
      | refine xw_block ?_
      | (refine xw_reg ?_; simp only [go_sem, ↓reduceIte, Int.reduceLE, Int.reduceLT, Int.reduceToNat, Int.reduceNeg, Int.reduceAdd, Int.reduceSub, Int.reduceMul, Int.reduceEq, Int.reduceNe, Nat.reduceEqDiff, Nat.reduceAdd, Nat.reduceSub, Nat.reduceMul, Nat.reduceLT, Nat.reduceLeDiff, Nat.reduceBEq, Nat.reduceBNe])
      | (refine xw_regd ?_; simp only [go_sem, ↓reduceIte, Int.reduceLE, Int.reduceLT, Int.reduceToNat, Int.reduceNeg, Int.reduceAdd, Int.reduceSub, Int.reduceMul, Int.reduceEq, Int.reduceNe, Nat.reduceEqDiff, Nat.reduceAdd, Nat.reduceSub, Nat.reduceMul, Nat.reduceLT, Nat.reduceLeDiff, Nat.reduceBEq, Nat.reduceBNe]; refine ⟨by kernel_rfl, ?_⟩)
      | (refine xw_if ?_; simp only [go_sem, ↓reduceIte, Int.reduceLE, Int.reduceLT, Int.reduceToNat, Int.reduceNeg, Int.reduceAdd, Int.reduceSub, Int.reduceMul, Int.reduceEq, Int.reduceNe, Nat.reduceEqDiff, Nat.reduceAdd, Nat.reduceSub, Nat.reduceMul, Nat.reduceLT, Nat.reduceLeDiff, Nat.reduceBEq, Nat.reduceBNe])
      | (refine xw_skip ?_; simp only [sq, bl])
      | (refine xw_exit ?_; simp only [sq, bl, if_true, if_false, Nat.reduceEqDiff])
      | (refine xw_label ?_; simp only [sq, bl]))
    first | refine xw_ret (post_ret ?_) | refine post_normal ?_ | refine xw_ret (postE_ret ?_) | refine postE_normal ?_
    simp only [go_sem, ↓reduceIte, Int.reduceLE, Int.reduceLT, Int.reduceToNat, Int.reduceNeg, Int.reduceAdd, Int.reduceSub, Int.reduceMul, Int.reduceEq, Int.reduceNe, Nat.reduceEqDiff, Nat.reduceAdd, Nat.reduceSub, Nat.reduceMul, Nat.reduceLT, Nat.reduceLeDiff, Nat.reduceBEq, Nat.reduceBNe, Tryz.results144, Tryz.f144]
  · repeat (first
      | refine xw_seq ?_
      | refine xw_block ?_
      | (refine xw_reg ?_; simp only [go_sem, ↓reduceIte, Int.reduceLE, Int.reduceLT, Int.reduceToNat, Int.reduceNeg, Int.reduceAdd, Int.reduceSub, Int.reduceMul, Int.reduceEq, Int.reduceNe, Nat.reduceEqDiff, Nat.reduceAdd, Nat.reduceSub, Nat.reduceMul, Nat.reduceLT, Nat.reduceLeDiff, Nat.reduceBEq, Nat.reduceBNe])
      | (refine xw_regd ?_; simp only [go_sem, ↓reduceIte, Int.reduceLE, Int.reduceLT, Int.reduceToNat, Int.reduceNeg, Int.reduceAdd, Int.reduceSub, Int.reduceMul, Int.reduceEq, Int.reduceNe, Nat.reduceEqDiff, Nat.reduceAdd, Nat.reduceSub, Nat.reduceMul, Nat.reduceLT, Nat.reduceLeDiff, Nat.reduceBEq, Nat.reduceBNe]; refine ⟨by kernel_rfl, ?_⟩)
      | (refine xw_if ?_; simp only [go_sem, ↓reduceIte, Int.reduceLE, Int.reduceLT, Int.reduceToNat, Int.reduceNeg, Int.reduceAdd, Int.reduceSub, Int.reduceMul, Int.reduceEq, Int.reduceNe, Nat.reduceEqDiff, Nat.reduceAdd, Nat.reduceSub, Nat.reduceMul, Nat.reduceLT, Nat.reduceLeDiff, Nat.reduceBEq, Nat.reduceBNe])
      | (refine xw_skip ?_; simp only [sq, bl])
      | (refine xw_exit ?_; simp only [sq, bl, if_true, if_false, Nat.reduceEqDiff])
      | (refine xw_label ?_; simp only [sq, bl]))
    first | refine xw_ret (post_ret ?_) | refine post_normal ?_ | refine xw_ret (postE_ret ?_) | refine postE_normal ?_
    simp only [go_sem, ↓reduceIte, Int.reduceLE, Int.reduceLT, Int.reduceToNat, Int.reduceNeg, Int.reduceAdd, Int.reduceSub, Int.reduceMul, Int.reduceEq, Int.reduceNe, Nat.reduceEqDiff, Nat.reduceAdd, Nat.reduceSub, Nat.reduceMul, Nat.reduceLT, Nat.reduceLeDiff, Nat.reduceBEq, Nat.reduceBNe, Tryz.results144, Tryz.f144]
def lessE (a b : Int × Int) : Bool := decide (a.1 < b.1 ∨ a.1 = b.1 ∧ a.2 < b.2)
theorem c_l1Less (a b c d : Int) : KP 143 [PE a b, PE c d] [] = some (B (lessE (a, b) (c, d)), [], []) := by
  refine xw_call (fn := Tryz.f143) rfl Tryz.func143 rfl ⟨Nat.le_of_ble_eq_true rfl, rfl, rfl⟩ ?_
  cases h1 : decide (a < c)
  · cases h2 : decide (a = c)
    · repeat (first
        | refine xw_seq ?_
        | refine xw_block ?_
        | (refine xw_reg ?_; simp only [go_sem, ↓reduceIte, Int.reduceLE, Int.reduceLT, Int.reduceToNat, Int.reduceNeg, Int.reduceAdd, Int.reduceSub, Int.reduceMul, Int.reduceEq, Int.reduceNe, Nat.reduceEqDiff, Nat.reduceAdd, Nat.reduceSub, Nat.reduceMul, Nat.reduceLT, Nat.reduceLeDiff, Nat.reduceBEq, Nat.reduceBNe, h1, h2])
        | (refine xw_regd ?_; simp only [go_sem, ↓reduceIte, Int.reduceLE, Int.reduceLT, Int.reduceToNat, Int.reduceNeg, Int.reduceAdd, Int.reduceSub, Int.reduceMul, Int.reduceEq, Int.reduceNe, Nat.reduceEqDiff, Nat.reduceAdd, Nat.reduceSub, Nat.reduceMul, Nat.reduceLT, Nat.reduceLeDiff, Nat.reduceBEq, Nat.reduceBNe, h1, h2]; refine ⟨by kernel_rfl, ?_⟩)
        | (refine xw_if ?_; simp only [go_sem, ↓reduceIte, Int.reduceLE, Int.reduceLT, Int.reduceToNat, Int.reduceNeg, Int.reduceAdd, Int.reduceSub, Int.reduceMul, Int.reduceEq, Int.reduceNe, Nat.reduceEqDiff, Nat.reduceAdd, Nat.reduceSub, Nat.reduceMul, Nat.reduceLT, Nat.reduceLeDiff, Nat.reduceBEq, Nat.reduceBNe, h1, h2])
        | (refine xw_skip ?_; simp only [sq, bl])
        | (refine xw_exit ?_; simp only [sq, bl, if_true, if_false, Nat.reduceEqDiff])
        | (refine xw_label ?_; simp only [sq, bl]))
      first | refine xw_ret (post_ret ?_) | refine post_normal ?_ | refine xw_ret (postE_ret ?_) | refine postE_normal ?_
      simp only [go_sem, ↓reduceIte, Int.reduceLE, Int.reduceLT, Int.reduceToNat, Int.reduceNeg, Int.reduceAdd, Int.reduceSub, Int.reduceMul, Int.reduceEq, Int.reduceNe, Nat.reduceEqDiff, Nat.reduceAdd, Nat.reduceSub, Nat.reduceMul, Nat.reduceLT, Nat.reduceLeDiff, Nat.reduceBEq, Nat.reduceBNe, Tryz.results143, Tryz.f143, h1, h2]
      simp only [decide_eq_false_iff_not] at h1 h2
      simp [lessE, h1, h2]
    · repeat (first
        | refine xw_seq ?_
        | refine xw_block ?_
        | (refine xw_reg ?_; simp only [go_sem, ↓reduceIte, Int.reduceLE, Int.reduceLT, Int.reduceToNat, Int.reduceNeg, Int.reduceAdd, Int.reduceSub, Int.reduceMul, Int.reduceEq, Int.reduceNe, Nat.reduceEqDiff, Nat.reduceAdd, Nat.reduceSub, Nat.reduceMul, Nat.reduceLT, Nat.reduceLeDiff, Nat.reduceBEq, Nat.reduceBNe, h1, h2])
        | (refine xw_regd ?_; simp only [go_sem, ↓reduceIte, Int.reduceLE, Int.reduceLT, Int.reduceToNat, Int.reduceNeg, Int.reduceAdd, Int.reduceSub, Int.reduceMul, Int.reduceEq, Int.reduceNe, Nat.reduceEqDiff, Nat.reduceAdd, Nat.reduceSub, Nat.reduceMul, Nat.reduceLT, Nat.reduceLeDiff, Nat.reduceBEq, Nat.reduceBNe, h1, h2]; refine ⟨by kernel_rfl, ?_⟩)
        | (refine xw_if ?_; simp only [go_sem, ↓reduceIte, Int.reduceLE, Int.reduceLT, Int.reduceToNat, Int.reduceNeg, Int.reduceAdd, Int.reduceSub, Int.reduceMul, Int.reduceEq, Int.reduceNe, Nat.reduceEqDiff, Nat.reduceAdd, Nat.reduceSub, Nat.reduceMul, Nat.reduceLT, Nat.reduceLeDiff, Nat.reduceBEq, Nat.reduceBNe, h1, h2])
        | (refine xw_skip ?_; simp only [sq, bl])
        | (refine xw_exit ?_; simp only [sq, bl, if_true, if_false, Nat.reduceEqDiff])
        | (refine xw_label ?_; simp only [sq, bl]))
      first | refine xw_ret (post_ret ?_) | refine post_normal ?_ | refine xw_ret (postE_ret ?_) | refine postE_normal ?_
      simp only [go_sem, ↓reduceIte, Int.reduceLE, Int.reduceLT, Int.reduceToNat, Int.reduceNeg, Int.reduceAdd, Int.reduceSub, Int.reduceMul, Int.reduceEq, Int.reduceNe, Nat.reduceEqDiff, Nat.reduceAdd, Nat.reduceSub, Nat.reduceMul, Nat.reduceLT, Nat.reduceLeDiff, Nat.reduceBEq, Nat.reduceBNe, Tryz.results143, Tryz.f143, h1, h2]
      simp only [decide_eq_false_iff_not, decide_eq_true_eq] at h1 h2
      simp [lessE, h2]
  · repeat (first
      | refine xw_seq ?_
      | refine xw_block ?_
      | (refine xw_reg ?_; simp only [go_sem, ↓reduceIte, Int.reduceLE, Int.reduceLT, Int.reduceToNat, Int.reduceNeg, Int.reduceAdd, Int.reduceSub, Int.reduceMul, Int.reduceEq, Int.reduceNe, Nat.reduceEqDiff, Nat.reduceAdd, Nat.reduceSub, Nat.reduceMul, Nat.reduceLT, Nat.reduceLeDiff, Nat.reduceBEq, Nat.reduceBNe, h1])
      | (refine xw_regd ?_; simp only [go_sem, ↓reduceIte, Int.reduceLE, Int.reduceLT, Int.reduceToNat, Int.reduceNeg, Int.reduceAdd, Int.reduceSub, Int.reduceMul, Int.reduceEq, Int.reduceNe, Nat.reduceEqDiff, Nat.reduceAdd, Nat.reduceSub, Nat.reduceMul, Nat.reduceLT, Nat.reduceLeDiff, Nat.reduceBEq, Nat.reduceBNe, h1]; refine ⟨by kernel_rfl, ?_⟩)
      | (refine xw_if ?_; simp only [go_sem, ↓reduceIte, Int.reduceLE, Int.reduceLT, Int.reduceToNat, Int.reduceNeg, Int.reduceAdd, Int.reduceSub, Int.reduceMul, Int.reduceEq, Int.reduceNe, Nat.reduceEqDiff, Nat.reduceAdd, Nat.reduceSub, Nat.reduceMul, Nat.reduceLT, Nat.reduceLeDiff, Nat.reduceBEq, Nat.reduceBNe, h1])
      | (refine xw_skip ?_; simp only [sq, bl])
      | (refine xw_exit ?_; simp only [sq, bl, if_true, if_false, Nat.reduceEqDiff])
      | (refine xw_label ?_; simp only [sq, bl]))
    first | refine xw_ret (post_ret ?_) | refine post_normal ?_ | refine xw_ret (postE_ret ?_) | refine postE_normal ?_
    simp only [go_sem, ↓reduceIte, Int.reduceLE, Int.reduceLT, Int.reduceToNat, Int.reduceNeg, Int.reduceAdd, Int.reduceSub, Int.reduceMul, Int.reduceEq, Int.reduceNe, Nat.reduceEqDiff, Nat.reduceAdd, Nat.reduceSub, Nat.reduceMul, Nat.reduceLT, Nat.reduceLeDiff, Nat.reduceBEq, Nat.reduceBNe, Tryz.results143, Tryz.f143, h1]
    simp only [decide_eq_true_eq] at h1
    simp [lessE, h1]
/-- The place of an edge, or -1. -/
def findE (es : List (Int × Int)) (e : Int × Int) : Int := if e ∈ es then (es.idxOf e : Int) else -1
theorem idxOf_at {e : Int × Int} : ∀ {es : List (Int × Int)} {i : Nat}, es[i]? = some e → e ∉ es.take i → es.idxOf e = i
  | [], _, h, _ => by simp at h
  | x :: r, 0, h, _ => by simp at h; subst h; simp
  | x :: r, i + 1, h, hn => by
    simp only [List.take_succ_cons, List.mem_cons, not_or] at hn
    have hx : (x == e) = false := by simpa using fun e' => hn.1 e'.symm
    rw [List.idxOf_cons, hx, idxOf_at (by simpa using h) hn.2]; rfl
theorem findE_at {es : List (Int × Int)} {e : Int × Int} {i : Nat} (h : es[i]? = some e) (hn : e ∉ es.take i) : findE es e = i := by
  have hin : e ∈ es := List.mem_of_getElem? h
  simp [findE, hin, idxOf_at h hn]
theorem c_l1Find (es : List (Int × Int)) (a b : Int) (hl : es.length ≤ 1048576) : KP 85 [LE es, PE a b] [] = some (I (findE es (a, b)), [], []) := by
  refine xw_call (fn := Tryz.f85) rfl Tryz.func85 rfl ⟨Nat.le_of_ble_eq_true rfl, rfl, rfl⟩ ?_
  repeat (first
    | refine xw_seq ?_
    | refine xw_block ?_
    | (refine xw_reg ?_; simp only [go_sem, ↓reduceIte, Int.reduceLE, Int.reduceLT, Int.reduceToNat, Int.reduceNeg, Int.reduceAdd, Int.reduceSub, Int.reduceMul, Int.reduceEq, Int.reduceNe, Nat.reduceEqDiff, Nat.reduceAdd, Nat.reduceSub, Nat.reduceMul, Nat.reduceLT, Nat.reduceLeDiff, Nat.reduceBEq, Nat.reduceBNe])
    | (refine xw_regd ?_; simp only [go_sem, ↓reduceIte, Int.reduceLE, Int.reduceLT, Int.reduceToNat, Int.reduceNeg, Int.reduceAdd, Int.reduceSub, Int.reduceMul, Int.reduceEq, Int.reduceNe, Nat.reduceEqDiff, Nat.reduceAdd, Nat.reduceSub, Nat.reduceMul, Nat.reduceLT, Nat.reduceLeDiff, Nat.reduceBEq, Nat.reduceBNe]; refine ⟨by kernel_rfl, ?_⟩)
    | (refine xw_if ?_; simp only [go_sem, ↓reduceIte, Int.reduceLE, Int.reduceLT, Int.reduceToNat, Int.reduceNeg, Int.reduceAdd, Int.reduceSub, Int.reduceMul, Int.reduceEq, Int.reduceNe, Nat.reduceEqDiff, Nat.reduceAdd, Nat.reduceSub, Nat.reduceMul, Nat.reduceLT, Nat.reduceLeDiff, Nat.reduceBEq, Nat.reduceBNe])
    | (refine xw_skip ?_; simp only [sq, bl])
    | (refine xw_exit ?_; simp only [sq, bl, if_true, if_false, Nat.reduceEqDiff])
    | (refine xw_label ?_; simp only [sq, bl]))
  refine xw_loop_count (fun n s => ∃ i : Nat, n = es.length - i ∧ i ≤ es.length ∧ (a, b) ∉ es.take i ∧ s.ρ 0 = LE es ∧ s.ρ 5 = I i ∧ s.ρ 3 = .ptr 3 0 0 0 ∧ s.m 3 = some (.box 0 [I a, I b])) ?_ es.length _ ⟨0, by simp, by simp, by simp, rfl, rfl, rfl, rfl⟩
  rintro n ⟨ρ, m⟩ ⟨i, rfl, hi, hni, h0, h5, h3, hm⟩
  simp only at h0 h5 h3 hm
  have hw : IntKind.i64.wrap ((i : Int) + 1) = ((i + 1 : Nat) : Int) := wr1 (by omega)
  cases hc : decide ((i : Int) < es.length)
  · repeat (first
      | refine xw_seq ?_
      | refine xw_block ?_
      | (refine xw_reg ?_; simp only [go_sem, ↓reduceIte, Int.reduceLE, Int.reduceLT, Int.reduceToNat, Int.reduceNeg, Int.reduceAdd, Int.reduceSub, Int.reduceMul, Int.reduceEq, Int.reduceNe, Nat.reduceEqDiff, Nat.reduceAdd, Nat.reduceSub, Nat.reduceMul, Nat.reduceLT, Nat.reduceLeDiff, Nat.reduceBEq, Nat.reduceBNe, h0, h5, h3, hm, hc])
      | (refine xw_regd ?_; simp only [go_sem, ↓reduceIte, Int.reduceLE, Int.reduceLT, Int.reduceToNat, Int.reduceNeg, Int.reduceAdd, Int.reduceSub, Int.reduceMul, Int.reduceEq, Int.reduceNe, Nat.reduceEqDiff, Nat.reduceAdd, Nat.reduceSub, Nat.reduceMul, Nat.reduceLT, Nat.reduceLeDiff, Nat.reduceBEq, Nat.reduceBNe, h0, h5, h3, hm, hc]; refine ⟨by kernel_rfl, ?_⟩)
      | (refine xw_if ?_; simp only [go_sem, ↓reduceIte, Int.reduceLE, Int.reduceLT, Int.reduceToNat, Int.reduceNeg, Int.reduceAdd, Int.reduceSub, Int.reduceMul, Int.reduceEq, Int.reduceNe, Nat.reduceEqDiff, Nat.reduceAdd, Nat.reduceSub, Nat.reduceMul, Nat.reduceLT, Nat.reduceLeDiff, Nat.reduceBEq, Nat.reduceBNe, h0, h5, h3, hm, hc])
      | (refine xw_skip ?_; simp only [sq, bl])
      | (refine xw_exit ?_; simp only [sq, bl, if_true, if_false, Nat.reduceEqDiff])
      | (refine xw_label ?_; simp only [sq, bl]))
    first | refine xw_ret (post_ret ?_) | refine post_normal ?_ | refine xw_ret (postE_ret ?_) | refine postE_normal ?_
    simp only [go_sem, ↓reduceIte, Int.reduceLE, Int.reduceLT, Int.reduceToNat, Int.reduceNeg, Int.reduceAdd, Int.reduceSub, Int.reduceMul, Int.reduceEq, Int.reduceNe, Nat.reduceEqDiff, Nat.reduceAdd, Nat.reduceSub, Nat.reduceMul, Nat.reduceLT, Nat.reduceLeDiff, Nat.reduceBEq, Nat.reduceBNe, Tryz.results85, Tryz.f85, h0, h5, h3, hm]
    simp only [decide_eq_false_iff_not] at hc
    have : (a, b) ∉ es := by rw [List.take_of_length_le (by omega)] at hni; exact hni
    simp [findE, this]
  · simp only [decide_eq_true_eq] at hc
    obtain ⟨e, he⟩ : ∃ e, es[i]? = some e := ⟨es[i]'(by omega), by simp⟩
    repeat (first
      | refine xw_seq ?_
      | refine xw_block ?_
      | (refine xw_reg ?_; simp only [go_sem, ↓reduceIte, Int.reduceLE, Int.reduceLT, Int.reduceToNat, Int.reduceNeg, Int.reduceAdd, Int.reduceSub, Int.reduceMul, Int.reduceEq, Int.reduceNe, Nat.reduceEqDiff, Nat.reduceAdd, Nat.reduceSub, Nat.reduceMul, Nat.reduceLT, Nat.reduceLeDiff, Nat.reduceBEq, Nat.reduceBNe, h0, h5, h3, hm, hc, hw, he, encE, List.getElem?_map])
      | (refine xw_regd ?_; simp only [go_sem, ↓reduceIte, Int.reduceLE, Int.reduceLT, Int.reduceToNat, Int.reduceNeg, Int.reduceAdd, Int.reduceSub, Int.reduceMul, Int.reduceEq, Int.reduceNe, Nat.reduceEqDiff, Nat.reduceAdd, Nat.reduceSub, Nat.reduceMul, Nat.reduceLT, Nat.reduceLeDiff, Nat.reduceBEq, Nat.reduceBNe, h0, h5, h3, hm, hc, hw, he, encE, List.getElem?_map]; refine ⟨by kernel_rfl, ?_⟩)
      | (refine xw_if ?_; simp only [go_sem, ↓reduceIte, Int.reduceLE, Int.reduceLT, Int.reduceToNat, Int.reduceNeg, Int.reduceAdd, Int.reduceSub, Int.reduceMul, Int.reduceEq, Int.reduceNe, Nat.reduceEqDiff, Nat.reduceAdd, Nat.reduceSub, Nat.reduceMul, Nat.reduceLT, Nat.reduceLeDiff, Nat.reduceBEq, Nat.reduceBNe, h0, h5, h3, hm, hc, hw, he, encE, List.getElem?_map])
      | (refine xw_skip ?_; simp only [sq, bl])
      | (refine xw_exit ?_; simp only [sq, bl, if_true, if_false, Nat.reduceEqDiff])
      | (refine xw_label ?_; simp only [sq, bl]))
    split
    · rename_i hab
      repeat (first
        | refine xw_seq ?_
        | refine xw_block ?_
        | (refine xw_reg ?_; simp only [go_sem, ↓reduceIte, Int.reduceLE, Int.reduceLT, Int.reduceToNat, Int.reduceNeg, Int.reduceAdd, Int.reduceSub, Int.reduceMul, Int.reduceEq, Int.reduceNe, Nat.reduceEqDiff, Nat.reduceAdd, Nat.reduceSub, Nat.reduceMul, Nat.reduceLT, Nat.reduceLeDiff, Nat.reduceBEq, Nat.reduceBNe, h0, h5, h3, hm, hc, hw, he, encE, List.getElem?_map])
        | (refine xw_regd ?_; simp only [go_sem, ↓reduceIte, Int.reduceLE, Int.reduceLT, Int.reduceToNat, Int.reduceNeg, Int.reduceAdd, Int.reduceSub, Int.reduceMul, Int.reduceEq, Int.reduceNe, Nat.reduceEqDiff, Nat.reduceAdd, Nat.reduceSub, Nat.reduceMul, Nat.reduceLT, Nat.reduceLeDiff, Nat.reduceBEq, Nat.reduceBNe, h0, h5, h3, hm, hc, hw, he, encE, List.getElem?_map]; refine ⟨by kernel_rfl, ?_⟩)
        | (refine xw_if ?_; simp only [go_sem, ↓reduceIte, Int.reduceLE, Int.reduceLT, Int.reduceToNat, Int.reduceNeg, Int.reduceAdd, Int.reduceSub, Int.reduceMul, Int.reduceEq, Int.reduceNe, Nat.reduceEqDiff, Nat.reduceAdd, Nat.reduceSub, Nat.reduceMul, Nat.reduceLT, Nat.reduceLeDiff, Nat.reduceBEq, Nat.reduceBNe, h0, h5, h3, hm, hc, hw, he, encE, List.getElem?_map])
        | (refine xw_skip ?_; simp only [sq, bl])
        | (refine xw_exit ?_; simp only [sq, bl, if_true, if_false, Nat.reduceEqDiff])
        | (refine xw_label ?_; simp only [sq, bl]))
      first | refine xw_ret (post_ret ?_) | refine post_normal ?_ | refine xw_ret (postE_ret ?_) | refine postE_normal ?_
      simp only [go_sem, ↓reduceIte, Int.reduceLE, Int.reduceLT, Int.reduceToNat, Int.reduceNeg, Int.reduceAdd, Int.reduceSub, Int.reduceMul, Int.reduceEq, Int.reduceNe, Nat.reduceEqDiff, Nat.reduceAdd, Nat.reduceSub, Nat.reduceMul, Nat.reduceLT, Nat.reduceLeDiff, Nat.reduceBEq, Nat.reduceBNe, Tryz.results85, Tryz.f85, h0, h5, h3, hm]
      have : e = (a, b) := Prod.ext hab.1 hab.2
      subst this
      rw [findE_at he hni]
    · rename_i hab
      repeat (first
        | refine xw_seq ?_
        | refine xw_block ?_
        | (refine xw_reg ?_; simp only [go_sem, ↓reduceIte, Int.reduceLE, Int.reduceLT, Int.reduceToNat, Int.reduceNeg, Int.reduceAdd, Int.reduceSub, Int.reduceMul, Int.reduceEq, Int.reduceNe, Nat.reduceEqDiff, Nat.reduceAdd, Nat.reduceSub, Nat.reduceMul, Nat.reduceLT, Nat.reduceLeDiff, Nat.reduceBEq, Nat.reduceBNe, h0, h5, h3, hm, hc, hw, he, encE, List.getElem?_map])
        | (refine xw_regd ?_; simp only [go_sem, ↓reduceIte, Int.reduceLE, Int.reduceLT, Int.reduceToNat, Int.reduceNeg, Int.reduceAdd, Int.reduceSub, Int.reduceMul, Int.reduceEq, Int.reduceNe, Nat.reduceEqDiff, Nat.reduceAdd, Nat.reduceSub, Nat.reduceMul, Nat.reduceLT, Nat.reduceLeDiff, Nat.reduceBEq, Nat.reduceBNe, h0, h5, h3, hm, hc, hw, he, encE, List.getElem?_map]; refine ⟨by kernel_rfl, ?_⟩)
        | (refine xw_if ?_; simp only [go_sem, ↓reduceIte, Int.reduceLE, Int.reduceLT, Int.reduceToNat, Int.reduceNeg, Int.reduceAdd, Int.reduceSub, Int.reduceMul, Int.reduceEq, Int.reduceNe, Nat.reduceEqDiff, Nat.reduceAdd, Nat.reduceSub, Nat.reduceMul, Nat.reduceLT, Nat.reduceLeDiff, Nat.reduceBEq, Nat.reduceBNe, h0, h5, h3, hm, hc, hw, he, encE, List.getElem?_map])
        | (refine xw_skip ?_; simp only [sq, bl])
        | (refine xw_exit ?_; simp only [sq, bl, if_true, if_false, Nat.reduceEqDiff])
        | (refine xw_label ?_; simp only [sq, bl]))
      refine ⟨es.length - (i + 1), by omega, i + 1, rfl, by omega, ?_, rfl⟩
      rw [List.take_add_one, he]
      simp only [Option.toList_some, List.mem_append, List.mem_singleton, not_or]
      exact ⟨hni, fun e' => hab (by rw [← e']; exact ⟨rfl, rfl⟩)⟩
end Go.Proofs.YtdjdgnabcecdlaaGreatDoor.X

/- What functions compute: the reader that draws. -/
set_option linter.unusedSimpArgs false
set_option linter.unusedVariables false
set_option maxHeartbeats 2000000
namespace Go.Proofs.YtdjdgnabcecdlaaGreatDoor.X
open Go Go.Proofs
def encB (b : Int) : List IV := [.v (.int .u8 b)]
def encI (x : Int) : List IV := [.v (.int .i64 x)]
abbrev LB (bs : List Int) : PV := .i (.lst (bs.map encB))
abbrev LI (xs : List Int) : PV := .i (.lst (xs.map encI))
abbrev Rd (bs : List Int) (p : Int) : Arr := .box 0 [LB bs, I p]
def bytes (bs : List Int) : Prop := (∀ b ∈ bs, 0 ≤ b ∧ b < 256) ∧ bs.length ≤ 2000
theorem all_encB (bs : List Int) : (bs.map encB).all (fun x => x.length == 1) = true := by simp [encB]
theorem all_encI (bs : List Int) : (bs.map encI).all (fun x => x.length == 1) = true := by simp [encI]
theorem all_encE (es : List (Int × Int)) : (es.map encE).all (fun x => x.length == 2) = true := by simp [encE]
attribute [go_sem] all_encB all_encI all_encE
theorem c_l14Open (bs : List Int) (hb : ∀ b ∈ bs, 0 ≤ b ∧ b < 256) (hl : bs.length ≤ 1000000000) : ∃ cs, bytes cs ∧ KP 94 [LB bs] [] = some (.ptr 2000 0 0 0, [], [Rd cs 0]) := by
  cases hc : decide ((2000 : Int) < bs.length)
  · refine ⟨bs, ⟨hb, by simp at hc; omega⟩, ?_⟩
    refine xw_call (fn := Tryz.f94) rfl Tryz.func94 rfl ⟨Nat.le_of_ble_eq_true rfl, rfl, rfl⟩ ?_
    repeat (first
      | refine xw_seq ?_
      | refine xw_block ?_
      | (refine xw_reg ?_; simp only [go_sem, ↓reduceIte, Int.reduceLE, Int.reduceLT, Int.reduceToNat, Int.reduceNeg, Int.reduceAdd, Int.reduceSub, Int.reduceMul, Int.reduceEq, Int.reduceNe, Nat.reduceEqDiff, Nat.reduceAdd, Nat.reduceSub, Nat.reduceMul, Nat.reduceLT, Nat.reduceLeDiff, Nat.reduceBEq, Nat.reduceBNe, hc])
      | (refine xw_regd ?_; simp only [go_sem, ↓reduceIte, Int.reduceLE, Int.reduceLT, Int.reduceToNat, Int.reduceNeg, Int.reduceAdd, Int.reduceSub, Int.reduceMul, Int.reduceEq, Int.reduceNe, Nat.reduceEqDiff, Nat.reduceAdd, Nat.reduceSub, Nat.reduceMul, Nat.reduceLT, Nat.reduceLeDiff, Nat.reduceBEq, Nat.reduceBNe, hc]; refine ⟨by kernel_rfl, ?_⟩)
      | (refine xw_if ?_; simp only [go_sem, ↓reduceIte, Int.reduceLE, Int.reduceLT, Int.reduceToNat, Int.reduceNeg, Int.reduceAdd, Int.reduceSub, Int.reduceMul, Int.reduceEq, Int.reduceNe, Nat.reduceEqDiff, Nat.reduceAdd, Nat.reduceSub, Nat.reduceMul, Nat.reduceLT, Nat.reduceLeDiff, Nat.reduceBEq, Nat.reduceBNe, hc])
      | (refine xw_skip ?_; simp only [sq, bl])
      | (refine xw_exit ?_; simp only [sq, bl, if_true, if_false, Nat.reduceEqDiff])
      | (refine xw_label ?_; simp only [sq, bl]))
    first | refine xw_ret (post_ret ?_) | refine post_normal ?_ | refine xw_ret (postE_ret ?_) | refine postE_normal ?_
    simp only [go_sem, ↓reduceIte, Int.reduceLE, Int.reduceLT, Int.reduceToNat, Int.reduceNeg, Int.reduceAdd, Int.reduceSub, Int.reduceMul, Int.reduceEq, Int.reduceNe, Nat.reduceEqDiff, Nat.reduceAdd, Nat.reduceSub, Nat.reduceMul, Nat.reduceLT, Nat.reduceLeDiff, Nat.reduceBEq, Nat.reduceBNe, Tryz.results94, Tryz.f94]
  · refine ⟨bs.take 2000, ⟨fun b h => hb b (List.mem_of_mem_take h), by simp; omega⟩, ?_⟩
    simp only [decide_eq_true_eq] at hc
    refine xw_call (fn := Tryz.f94) rfl Tryz.func94 rfl ⟨Nat.le_of_ble_eq_true rfl, rfl, rfl⟩ ?_
    repeat (first
      | refine xw_seq ?_
      | refine xw_block ?_
      | (refine xw_reg ?_; simp only [go_sem, ↓reduceIte, Int.reduceLE, Int.reduceLT, Int.reduceToNat, Int.reduceNeg, Int.reduceAdd, Int.reduceSub, Int.reduceMul, Int.reduceEq, Int.reduceNe, Nat.reduceEqDiff, Nat.reduceAdd, Nat.reduceSub, Nat.reduceMul, Nat.reduceLT, Nat.reduceLeDiff, Nat.reduceBEq, Nat.reduceBNe, hc, Int.le_of_lt hc, List.map_take])
      | (refine xw_regd ?_; simp only [go_sem, ↓reduceIte, Int.reduceLE, Int.reduceLT, Int.reduceToNat, Int.reduceNeg, Int.reduceAdd, Int.reduceSub, Int.reduceMul, Int.reduceEq, Int.reduceNe, Nat.reduceEqDiff, Nat.reduceAdd, Nat.reduceSub, Nat.reduceMul, Nat.reduceLT, Nat.reduceLeDiff, Nat.reduceBEq, Nat.reduceBNe, hc, Int.le_of_lt hc, List.map_take]; refine ⟨by kernel_rfl, ?_⟩)
      | (refine xw_if ?_; simp only [go_sem, ↓reduceIte, Int.reduceLE, Int.reduceLT, Int.reduceToNat, Int.reduceNeg, Int.reduceAdd, Int.reduceSub, Int.reduceMul, Int.reduceEq, Int.reduceNe, Nat.reduceEqDiff, Nat.reduceAdd, Nat.reduceSub, Nat.reduceMul, Nat.reduceLT, Nat.reduceLeDiff, Nat.reduceBEq, Nat.reduceBNe, hc, Int.le_of_lt hc, List.map_take])
      | (refine xw_skip ?_; simp only [sq, bl])
      | (refine xw_exit ?_; simp only [sq, bl, if_true, if_false, Nat.reduceEqDiff])
      | (refine xw_label ?_; simp only [sq, bl]))
    first | refine xw_ret (post_ret ?_) | refine post_normal ?_ | refine xw_ret (postE_ret ?_) | refine postE_normal ?_
    simp only [go_sem, ↓reduceIte, Int.reduceLE, Int.reduceLT, Int.reduceToNat, Int.reduceNeg, Int.reduceAdd, Int.reduceSub, Int.reduceMul, Int.reduceEq, Int.reduceNe, Nat.reduceEqDiff, Nat.reduceAdd, Nat.reduceSub, Nat.reduceMul, Nat.reduceLT, Nat.reduceLeDiff, Nat.reduceBEq, Nat.reduceBNe, Tryz.results94, Tryz.f94, Rd, LB, List.map_take]
theorem c_pick (bs : List Int) (p n : Int) (hb : bytes bs) (hp : 0 ≤ p ∧ p ≤ 1000000) (hn : -1000000 ≤ n ∧ n ≤ 1000000) :
    ∃ x, (1 ≤ n → 0 ≤ x ∧ x < n) ∧ (n < 1 → x = 0) ∧ KP 96 [.ptr 1000 0 0 0, I n] [Rd bs p] = some (I x, [Rd bs (p + 1)], []) := by
  have hp1 : IntKind.i64.wrap (p + 1 - 1) = p := by rw [wr (by omega) (by omega)]; omega
  cases h1 : decide (n < 1)
  · cases h2 : decide ((bs.length : Int) = 0)
    · cases h3 : decide (p < bs.length)
      · simp only [decide_eq_false_iff_not] at h1 h2 h3
        have hl : (0 : Int) < bs.length := by omega
        have hlm : (bs.length : Int) ≤ 2000 := by have := hb.2; omega
        have hm1 : 0 ≤ p.tmod bs.length ∧ p.tmod bs.length < bs.length := by rw [Int.tmod_eq_emod_of_nonneg hp.1]; exact ⟨Int.emod_nonneg _ (by omega), Int.emod_lt_of_pos _ hl⟩
        have hm2 : 0 ≤ (p * 7 + 3).tmod bs.length ∧ (p * 7 + 3).tmod bs.length < bs.length := by rw [Int.tmod_eq_emod_of_nonneg (by omega)]; exact ⟨Int.emod_nonneg _ (by omega), Int.emod_lt_of_pos _ hl⟩
        have hq : 0 ≤ p.tdiv bs.length ∧ p.tdiv bs.length ≤ p := by rw [Int.tdiv_eq_ediv_of_nonneg hp.1]; exact ⟨Int.ediv_nonneg hp.1 (by omega), Int.ediv_le_self _ hp.1⟩
        generalize hr1 : p.tmod bs.length = r1 at hm1
        generalize hr2 : (p * 7 + 3).tmod bs.length = r2 at hm2
        generalize hr3 : p.tdiv bs.length = r3 at hq
        obtain ⟨u, hu⟩ : ∃ u, bs[r1.toNat]? = some u := ⟨bs[r1.toNat]'(by omega), by simp⟩
        obtain ⟨v, hv⟩ : ∃ v, bs[r2.toNat]? = some v := ⟨bs[r2.toNat]'(by omega), by simp⟩
        have hu' := hb.1 u (List.mem_of_getElem? hu)
        have hv' := hb.1 v (List.mem_of_getElem? hv)
        have hx0 : 0 ≤ u * 131 + v * 1117 + p * 29 + r3 * 53 := by omega
        have hx1 : u * 131 + v * 1117 + p * 29 + r3 * 53 < 1000000000 := by omega
        generalize hx : u * 131 + v * 1117 + p * 29 + r3 * 53 = x at hx0 hx1
        have hx2 : 0 ≤ x.tdiv 64 ∧ x.tdiv 64 ≤ x := by rw [Int.tdiv_eq_ediv_of_nonneg hx0]; exact ⟨Int.ediv_nonneg hx0 (by omega), Int.ediv_le_self _ hx0⟩
        have hx3 := xorI_nonneg (a := x) (b := x.tdiv 64) hx0 hx2.1 (by omega) (by omega)
        refine ⟨(xorI x (x.tdiv 64)).tmod n, fun _ => ?_, fun h => absurd h h1, xw_call (fn := Tryz.f96) rfl Tryz.func96 rfl ⟨Nat.le_of_ble_eq_true rfl, rfl, rfl⟩ ?_⟩
        · rw [Int.tmod_eq_emod_of_nonneg hx3.1]
          exact ⟨Int.emod_nonneg _ (by omega), Int.emod_lt_of_pos _ (by omega)⟩
        · repeat (first
            | refine xw_seq ?_
            | refine xw_block ?_
            | (refine xw_reg ?_; simp (disch := first | decide | omega) only [go_sem, ↓reduceIte, Int.reduceLE, Int.reduceLT, Int.reduceToNat, Int.reduceNeg, Int.reduceAdd, Int.reduceSub, Int.reduceMul, Int.reduceEq, Int.reduceNe, Nat.reduceEqDiff, Nat.reduceAdd, Nat.reduceSub, Nat.reduceMul, Nat.reduceLT, Nat.reduceLeDiff, Nat.reduceBEq, Nat.reduceBNe, wr, dle, dlt, h1, h2, h3, wr, hp1, hr1, hr2, hr3, hm1.1, hm2.1, hu, hv, hx, List.getElem?_map, encB])
            | (refine xw_regd ?_; simp (disch := first | decide | omega) only [go_sem, ↓reduceIte, Int.reduceLE, Int.reduceLT, Int.reduceToNat, Int.reduceNeg, Int.reduceAdd, Int.reduceSub, Int.reduceMul, Int.reduceEq, Int.reduceNe, Nat.reduceEqDiff, Nat.reduceAdd, Nat.reduceSub, Nat.reduceMul, Nat.reduceLT, Nat.reduceLeDiff, Nat.reduceBEq, Nat.reduceBNe, wr, dle, dlt, h1, h2, h3, wr, hp1, hr1, hr2, hr3, hm1.1, hm2.1, hu, hv, hx, List.getElem?_map, encB]; refine ⟨by kernel_rfl, ?_⟩)
            | (refine xw_if ?_; simp (disch := first | decide | omega) only [go_sem, ↓reduceIte, Int.reduceLE, Int.reduceLT, Int.reduceToNat, Int.reduceNeg, Int.reduceAdd, Int.reduceSub, Int.reduceMul, Int.reduceEq, Int.reduceNe, Nat.reduceEqDiff, Nat.reduceAdd, Nat.reduceSub, Nat.reduceMul, Nat.reduceLT, Nat.reduceLeDiff, Nat.reduceBEq, Nat.reduceBNe, wr, dle, dlt, h1, h2, h3, wr, hp1, hr1, hr2, hr3, hm1.1, hm2.1, hu, hv, hx, List.getElem?_map, encB])
            | (refine xw_skip ?_; simp only [sq, bl])
            | (refine xw_exit ?_; simp only [sq, bl, if_true, if_false, Nat.reduceEqDiff])
            | (refine xw_label ?_; simp only [sq, bl]))
          first | refine xw_ret (post_ret ?_) | refine post_normal ?_ | refine xw_ret (postE_ret ?_) | refine postE_normal ?_
          simp only [go_sem, ↓reduceIte, Int.reduceLE, Int.reduceLT, Int.reduceToNat, Int.reduceNeg, Int.reduceAdd, Int.reduceSub, Int.reduceMul, Int.reduceEq, Int.reduceNe, Nat.reduceEqDiff, Nat.reduceAdd, Nat.reduceSub, Nat.reduceMul, Nat.reduceLT, Nat.reduceLeDiff, Nat.reduceBEq, Nat.reduceBNe, Tryz.results96, Tryz.f96]
      · simp only [decide_eq_false_iff_not] at h1 h2
        simp only [decide_eq_true_eq] at h3
        obtain ⟨u, hu⟩ : ∃ u, bs[p.toNat]? = some u := ⟨bs[p.toNat]'(by omega), by simp⟩
        have hu' := hb.1 u (List.mem_of_getElem? hu)
        refine ⟨u.tmod n, fun _ => ?_, fun h => absurd h h1, xw_call (fn := Tryz.f96) rfl Tryz.func96 rfl ⟨Nat.le_of_ble_eq_true rfl, rfl, rfl⟩ ?_⟩
        · rw [Int.tmod_eq_emod_of_nonneg hu'.1]
          exact ⟨Int.emod_nonneg _ (by omega), Int.emod_lt_of_pos _ (by omega)⟩
        · repeat (first
            | refine xw_seq ?_
            | refine xw_block ?_
            | (refine xw_reg ?_; simp (disch := first | decide | omega) only [go_sem, ↓reduceIte, Int.reduceLE, Int.reduceLT, Int.reduceToNat, Int.reduceNeg, Int.reduceAdd, Int.reduceSub, Int.reduceMul, Int.reduceEq, Int.reduceNe, Nat.reduceEqDiff, Nat.reduceAdd, Nat.reduceSub, Nat.reduceMul, Nat.reduceLT, Nat.reduceLeDiff, Nat.reduceBEq, Nat.reduceBNe, wr, dle, dlt, h1, h2, h3, wr, hp1, hp.1, hu, List.getElem?_map, encB])
            | (refine xw_regd ?_; simp (disch := first | decide | omega) only [go_sem, ↓reduceIte, Int.reduceLE, Int.reduceLT, Int.reduceToNat, Int.reduceNeg, Int.reduceAdd, Int.reduceSub, Int.reduceMul, Int.reduceEq, Int.reduceNe, Nat.reduceEqDiff, Nat.reduceAdd, Nat.reduceSub, Nat.reduceMul, Nat.reduceLT, Nat.reduceLeDiff, Nat.reduceBEq, Nat.reduceBNe, wr, dle, dlt, h1, h2, h3, wr, hp1, hp.1, hu, List.getElem?_map, encB]; refine ⟨by kernel_rfl, ?_⟩)
            | (refine xw_if ?_; simp (disch := first | decide | omega) only [go_sem, ↓reduceIte, Int.reduceLE, Int.reduceLT, Int.reduceToNat, Int.reduceNeg, Int.reduceAdd, Int.reduceSub, Int.reduceMul, Int.reduceEq, Int.reduceNe, Nat.reduceEqDiff, Nat.reduceAdd, Nat.reduceSub, Nat.reduceMul, Nat.reduceLT, Nat.reduceLeDiff, Nat.reduceBEq, Nat.reduceBNe, wr, dle, dlt, h1, h2, h3, wr, hp1, hp.1, hu, List.getElem?_map, encB])
            | (refine xw_skip ?_; simp only [sq, bl])
            | (refine xw_exit ?_; simp only [sq, bl, if_true, if_false, Nat.reduceEqDiff])
            | (refine xw_label ?_; simp only [sq, bl]))
          first | refine xw_ret (post_ret ?_) | refine post_normal ?_ | refine xw_ret (postE_ret ?_) | refine postE_normal ?_
          simp only [go_sem, ↓reduceIte, Int.reduceLE, Int.reduceLT, Int.reduceToNat, Int.reduceNeg, Int.reduceAdd, Int.reduceSub, Int.reduceMul, Int.reduceEq, Int.reduceNe, Nat.reduceEqDiff, Nat.reduceAdd, Nat.reduceSub, Nat.reduceMul, Nat.reduceLT, Nat.reduceLeDiff, Nat.reduceBEq, Nat.reduceBNe, Tryz.results96, Tryz.f96]
    · refine ⟨0, fun h => ⟨by omega, by omega⟩, by simp, xw_call (fn := Tryz.f96) rfl Tryz.func96 rfl ⟨Nat.le_of_ble_eq_true rfl, rfl, rfl⟩ ?_⟩
      repeat (first
        | refine xw_seq ?_
        | refine xw_block ?_
        | (refine xw_reg ?_; simp (disch := first | decide | omega) only [go_sem, ↓reduceIte, Int.reduceLE, Int.reduceLT, Int.reduceToNat, Int.reduceNeg, Int.reduceAdd, Int.reduceSub, Int.reduceMul, Int.reduceEq, Int.reduceNe, Nat.reduceEqDiff, Nat.reduceAdd, Nat.reduceSub, Nat.reduceMul, Nat.reduceLT, Nat.reduceLeDiff, Nat.reduceBEq, Nat.reduceBNe, wr, dle, dlt, h1, h2, wr])
        | (refine xw_regd ?_; simp (disch := first | decide | omega) only [go_sem, ↓reduceIte, Int.reduceLE, Int.reduceLT, Int.reduceToNat, Int.reduceNeg, Int.reduceAdd, Int.reduceSub, Int.reduceMul, Int.reduceEq, Int.reduceNe, Nat.reduceEqDiff, Nat.reduceAdd, Nat.reduceSub, Nat.reduceMul, Nat.reduceLT, Nat.reduceLeDiff, Nat.reduceBEq, Nat.reduceBNe, wr, dle, dlt, h1, h2, wr]; refine ⟨by kernel_rfl, ?_⟩)
        | (refine xw_if ?_; simp (disch := first | decide | omega) only [go_sem, ↓reduceIte, Int.reduceLE, Int.reduceLT, Int.reduceToNat, Int.reduceNeg, Int.reduceAdd, Int.reduceSub, Int.reduceMul, Int.reduceEq, Int.reduceNe, Nat.reduceEqDiff, Nat.reduceAdd, Nat.reduceSub, Nat.reduceMul, Nat.reduceLT, Nat.reduceLeDiff, Nat.reduceBEq, Nat.reduceBNe, wr, dle, dlt, h1, h2, wr])
        | (refine xw_skip ?_; simp only [sq, bl])
        | (refine xw_exit ?_; simp only [sq, bl, if_true, if_false, Nat.reduceEqDiff])
        | (refine xw_label ?_; simp only [sq, bl]))
      first | refine xw_ret (post_ret ?_) | refine post_normal ?_ | refine xw_ret (postE_ret ?_) | refine postE_normal ?_
      simp only [go_sem, ↓reduceIte, Int.reduceLE, Int.reduceLT, Int.reduceToNat, Int.reduceNeg, Int.reduceAdd, Int.reduceSub, Int.reduceMul, Int.reduceEq, Int.reduceNe, Nat.reduceEqDiff, Nat.reduceAdd, Nat.reduceSub, Nat.reduceMul, Nat.reduceLT, Nat.reduceLeDiff, Nat.reduceBEq, Nat.reduceBNe, Tryz.results96, Tryz.f96]
  · refine ⟨0, by simp at h1; omega, by simp, xw_call (fn := Tryz.f96) rfl Tryz.func96 rfl ⟨Nat.le_of_ble_eq_true rfl, rfl, rfl⟩ ?_⟩
    repeat (first
      | refine xw_seq ?_
      | refine xw_block ?_
      | (refine xw_reg ?_; simp (disch := first | decide | omega) only [go_sem, ↓reduceIte, Int.reduceLE, Int.reduceLT, Int.reduceToNat, Int.reduceNeg, Int.reduceAdd, Int.reduceSub, Int.reduceMul, Int.reduceEq, Int.reduceNe, Nat.reduceEqDiff, Nat.reduceAdd, Nat.reduceSub, Nat.reduceMul, Nat.reduceLT, Nat.reduceLeDiff, Nat.reduceBEq, Nat.reduceBNe, wr, dle, dlt, h1, wr])
      | (refine xw_regd ?_; simp (disch := first | decide | omega) only [go_sem, ↓reduceIte, Int.reduceLE, Int.reduceLT, Int.reduceToNat, Int.reduceNeg, Int.reduceAdd, Int.reduceSub, Int.reduceMul, Int.reduceEq, Int.reduceNe, Nat.reduceEqDiff, Nat.reduceAdd, Nat.reduceSub, Nat.reduceMul, Nat.reduceLT, Nat.reduceLeDiff, Nat.reduceBEq, Nat.reduceBNe, wr, dle, dlt, h1, wr]; refine ⟨by kernel_rfl, ?_⟩)
      | (refine xw_if ?_; simp (disch := first | decide | omega) only [go_sem, ↓reduceIte, Int.reduceLE, Int.reduceLT, Int.reduceToNat, Int.reduceNeg, Int.reduceAdd, Int.reduceSub, Int.reduceMul, Int.reduceEq, Int.reduceNe, Nat.reduceEqDiff, Nat.reduceAdd, Nat.reduceSub, Nat.reduceMul, Nat.reduceLT, Nat.reduceLeDiff, Nat.reduceBEq, Nat.reduceBNe, wr, dle, dlt, h1, wr])
      | (refine xw_skip ?_; simp only [sq, bl])
      | (refine xw_exit ?_; simp only [sq, bl, if_true, if_false, Nat.reduceEqDiff])
      | (refine xw_label ?_; simp only [sq, bl]))
    first | refine xw_ret (post_ret ?_) | refine post_normal ?_ | refine xw_ret (postE_ret ?_) | refine postE_normal ?_
    simp only [go_sem, ↓reduceIte, Int.reduceLE, Int.reduceLT, Int.reduceToNat, Int.reduceNeg, Int.reduceAdd, Int.reduceSub, Int.reduceMul, Int.reduceEq, Int.reduceNe, Nat.reduceEqDiff, Nat.reduceAdd, Nat.reduceSub, Nat.reduceMul, Nat.reduceLT, Nat.reduceLeDiff, Nat.reduceBEq, Nat.reduceBNe, Tryz.results96, Tryz.f96]
theorem c_num (bs : List Int) (p : Int) (xs : List Int) (hb : bytes bs) (hp : 0 ≤ p ∧ p ≤ 1000000) (h0 : xs ≠ []) (hl : xs.length ≤ 1000) :
    ∃ x, x ∈ xs ∧ KP 127 [.ptr 1000 0 0 0, .ref 1001 0 0 xs.length] [Rd bs p, .arr 0 1 (xs.map encI)] = some (I x, [Rd bs (p + 1), .arr 0 1 (xs.map encI)], []) := by
  have hpos : 0 < xs.length := List.length_pos_iff.2 h0
  obtain ⟨k, hk, _, hc⟩ := c_pick bs p xs.length hb hp (by omega)
  have hk' := hk (by omega)
  obtain ⟨x, hx⟩ : ∃ x, xs[k.toNat]? = some x := ⟨xs[k.toNat]'(by omega), by simp⟩
  refine ⟨x, List.mem_of_getElem? hx, xw_call (fn := Tryz.f127) rfl Tryz.func127 rfl ⟨Nat.le_of_ble_eq_true rfl, rfl, rfl⟩ ?_⟩
  repeat (first
    | refine xw_seq ?_
    | refine xw_block ?_
    | (refine xw_reg ?_; simp (disch := first | decide | omega) only [go_sem, ↓reduceIte, Int.reduceLE, Int.reduceLT, Int.reduceToNat, Int.reduceNeg, Int.reduceAdd, Int.reduceSub, Int.reduceMul, Int.reduceEq, Int.reduceNe, Nat.reduceEqDiff, Nat.reduceAdd, Nat.reduceSub, Nat.reduceMul, Nat.reduceLT, Nat.reduceLeDiff, Nat.reduceBEq, Nat.reduceBNe, wr, dle, dlt, hc, hk'.1, hk'.2, hx, List.getElem?_map, encI])
    | (refine xw_regd ?_; simp (disch := first | decide | omega) only [go_sem, ↓reduceIte, Int.reduceLE, Int.reduceLT, Int.reduceToNat, Int.reduceNeg, Int.reduceAdd, Int.reduceSub, Int.reduceMul, Int.reduceEq, Int.reduceNe, Nat.reduceEqDiff, Nat.reduceAdd, Nat.reduceSub, Nat.reduceMul, Nat.reduceLT, Nat.reduceLeDiff, Nat.reduceBEq, Nat.reduceBNe, wr, dle, dlt, hc, hk'.1, hk'.2, hx, List.getElem?_map, encI]; refine ⟨by kernel_rfl, ?_⟩)
    | (refine xw_if ?_; simp (disch := first | decide | omega) only [go_sem, ↓reduceIte, Int.reduceLE, Int.reduceLT, Int.reduceToNat, Int.reduceNeg, Int.reduceAdd, Int.reduceSub, Int.reduceMul, Int.reduceEq, Int.reduceNe, Nat.reduceEqDiff, Nat.reduceAdd, Nat.reduceSub, Nat.reduceMul, Nat.reduceLT, Nat.reduceLeDiff, Nat.reduceBEq, Nat.reduceBNe, wr, dle, dlt, hc, hk'.1, hk'.2, hx, List.getElem?_map, encI])
    | (refine xw_skip ?_; simp only [sq, bl])
    | (refine xw_exit ?_; simp only [sq, bl, if_true, if_false, Nat.reduceEqDiff])
    | (refine xw_label ?_; simp only [sq, bl]))
  first | refine xw_ret (post_ret ?_) | refine post_normal ?_ | refine xw_ret (postE_ret ?_) | refine postE_normal ?_
  simp only [go_sem, ↓reduceIte, Int.reduceLE, Int.reduceLT, Int.reduceToNat, Int.reduceNeg, Int.reduceAdd, Int.reduceSub, Int.reduceMul, Int.reduceEq, Int.reduceNe, Nat.reduceEqDiff, Nat.reduceAdd, Nat.reduceSub, Nat.reduceMul, Nat.reduceLT, Nat.reduceLeDiff, Nat.reduceBEq, Nat.reduceBNe, Tryz.results127, Tryz.f127]
end Go.Proofs.YtdjdgnabcecdlaaGreatDoor.X

/- What functions compute: edges in order. -/
set_option linter.unusedSimpArgs false
set_option linter.unusedVariables false
set_option maxHeartbeats 2000000
namespace Go.Proofs.YtdjdgnabcecdlaaGreatDoor.X
open Go Go.Proofs
/-- Edges in order with one more. -/
def putE (e : Int × Int) : List (Int × Int) → List (Int × Int)
  | [] => [e]
  | x :: r => if lessE e x then e :: x :: r else x :: putE e r
/-- The same, from the front. -/
def putS (e : Int × Int) (done : Bool) (acc : List (Int × Int)) (x : Int × Int) : Bool × List (Int × Int) :=
  if !done && lessE e x then (true, acc ++ [e, x]) else (done, acc ++ [x])
theorem putE_length (e : Int × Int) : ∀ es : List (Int × Int), (putE e es).length = es.length + 1
  | [] => rfl
  | x :: r => by
    simp only [putE]
    split
    · rfl
    · simp [putE_length e r]
theorem drop_at {α : Type} {l : List α} {i : Nat} {x : α} (h : l[i]? = some x) : l.drop i = x :: l.drop (i + 1) := by
  have := (List.getElem?_eq_some_iff.1 h)
  obtain ⟨h1, h2⟩ := this
  rw [List.drop_eq_getElem_cons h1, h2]
theorem c_l1Put (es : List (Int × Int)) (a b : Int) (hl : es.length ≤ 1048576) :
    KP 86 [LE es, PE a b] [] = some (.ref 2000 0 0 (putE (a, b) es).length, [], [.arr 0 2 ((putE (a, b) es).map encE)]) := by
  refine xw_call (fn := Tryz.f86) rfl Tryz.func86 rfl ⟨Nat.le_of_ble_eq_true rfl, rfl, rfl⟩ ?_
  repeat (first
    | refine xw_seq ?_
    | refine xw_block ?_
    | (refine xw_reg ?_; simp only [go_sem, ↓reduceIte, Int.reduceLE, Int.reduceLT, Int.reduceToNat, Int.reduceNeg, Int.reduceAdd, Int.reduceSub, Int.reduceMul, Int.reduceEq, Int.reduceNe, Nat.reduceEqDiff, Nat.reduceAdd, Nat.reduceSub, Nat.reduceMul, Nat.reduceLT, Nat.reduceLeDiff, Nat.reduceBEq, Nat.reduceBNe])
    | (refine xw_regd ?_; simp only [go_sem, ↓reduceIte, Int.reduceLE, Int.reduceLT, Int.reduceToNat, Int.reduceNeg, Int.reduceAdd, Int.reduceSub, Int.reduceMul, Int.reduceEq, Int.reduceNe, Nat.reduceEqDiff, Nat.reduceAdd, Nat.reduceSub, Nat.reduceMul, Nat.reduceLT, Nat.reduceLeDiff, Nat.reduceBEq, Nat.reduceBNe]; refine ⟨by kernel_rfl, ?_⟩)
    | (refine xw_if ?_; simp only [go_sem, ↓reduceIte, Int.reduceLE, Int.reduceLT, Int.reduceToNat, Int.reduceNeg, Int.reduceAdd, Int.reduceSub, Int.reduceMul, Int.reduceEq, Int.reduceNe, Nat.reduceEqDiff, Nat.reduceAdd, Nat.reduceSub, Nat.reduceMul, Nat.reduceLT, Nat.reduceLeDiff, Nat.reduceBEq, Nat.reduceBNe])
    | (refine xw_skip ?_; simp only [sq, bl])
    | (refine xw_exit ?_; simp only [sq, bl, if_true, if_false, Nat.reduceEqDiff])
    | (refine xw_label ?_; simp only [sq, bl]))
  refine xw_loop_count (fun n s => ∃ (i : Nat) (v : Nat) (d : Bool) (xs : List (Int × Int)), n = es.length - i ∧ i ≤ es.length ∧ xs.length ≤ 2 * i ∧ (d = true → putE (a, b) es = xs ++ es.drop i) ∧ (d = false → putE (a, b) es = xs ++ putE (a, b) (es.drop i)) ∧
    s.ρ 0 = LE es ∧ s.ρ 7 = I i ∧ s.ρ 3 = .ptr 3 0 0 0 ∧ s.ρ 5 = .ref 8 v 0 xs.length ∧ s.ρ 6 = B d ∧ s.m 3 = some (.box 0 [I a, I b]) ∧ s.m 8 = some (.arr v 2 (xs.map encE))) ?_ es.length _ ⟨0, 0, false, [], by simp, by simp, by simp, by simp, by simp, rfl, rfl, rfl, rfl, rfl, rfl, rfl⟩
  rintro n ⟨ρ, m⟩ ⟨i, v, d, xs, rfl, hi, hxl, hd1, hd2, h0, h7, h3, h5, h6, m3, m8⟩
  simp only at h0 h7 h3 h5 h6 m3 m8
  cases hc : decide ((i : Int) < es.length)
  · simp only [decide_eq_false_iff_not] at hc
    have hdr : es.drop i = [] := List.drop_of_length_le (by omega)
    cases d
    · repeat (first
        | refine xw_seq ?_
        | refine xw_block ?_
        | (refine xw_reg ?_; simp (disch := first | decide | omega) only [go_sem, ↓reduceIte, Int.reduceLE, Int.reduceLT, Int.reduceToNat, Int.reduceNeg, Int.reduceAdd, Int.reduceSub, Int.reduceMul, Int.reduceEq, Int.reduceNe, Nat.reduceEqDiff, Nat.reduceAdd, Nat.reduceSub, Nat.reduceMul, Nat.reduceLT, Nat.reduceLeDiff, Nat.reduceBEq, Nat.reduceBNe, wr, dle, dlt, h0, h7, h3, h5, h6, m3, m8, hc, encE])
        | (refine xw_regd ?_; simp (disch := first | decide | omega) only [go_sem, ↓reduceIte, Int.reduceLE, Int.reduceLT, Int.reduceToNat, Int.reduceNeg, Int.reduceAdd, Int.reduceSub, Int.reduceMul, Int.reduceEq, Int.reduceNe, Nat.reduceEqDiff, Nat.reduceAdd, Nat.reduceSub, Nat.reduceMul, Nat.reduceLT, Nat.reduceLeDiff, Nat.reduceBEq, Nat.reduceBNe, wr, dle, dlt, h0, h7, h3, h5, h6, m3, m8, hc, encE]; refine ⟨by kernel_rfl, ?_⟩)
        | (refine xw_if ?_; simp (disch := first | decide | omega) only [go_sem, ↓reduceIte, Int.reduceLE, Int.reduceLT, Int.reduceToNat, Int.reduceNeg, Int.reduceAdd, Int.reduceSub, Int.reduceMul, Int.reduceEq, Int.reduceNe, Nat.reduceEqDiff, Nat.reduceAdd, Nat.reduceSub, Nat.reduceMul, Nat.reduceLT, Nat.reduceLeDiff, Nat.reduceBEq, Nat.reduceBNe, wr, dle, dlt, h0, h7, h3, h5, h6, m3, m8, hc, encE])
        | (refine xw_skip ?_; simp only [sq, bl])
        | (refine xw_exit ?_; simp only [sq, bl, if_true, if_false, Nat.reduceEqDiff])
        | (refine xw_label ?_; simp only [sq, bl]))
      first | refine xw_ret (post_ret ?_) | refine post_normal ?_ | refine xw_ret (postE_ret ?_) | refine postE_normal ?_
      simp only [go_sem, ↓reduceIte, Int.reduceLE, Int.reduceLT, Int.reduceToNat, Int.reduceNeg, Int.reduceAdd, Int.reduceSub, Int.reduceMul, Int.reduceEq, Int.reduceNe, Nat.reduceEqDiff, Nat.reduceAdd, Nat.reduceSub, Nat.reduceMul, Nat.reduceLT, Nat.reduceLeDiff, Nat.reduceBEq, Nat.reduceBNe, Tryz.results86, Tryz.f86, h0]
      have e : putE (a, b) es = xs ++ [(a, b)] := by rw [hd2 rfl, hdr]; rfl
      simp [e, encE]
    · repeat (first
        | refine xw_seq ?_
        | refine xw_block ?_
        | (refine xw_reg ?_; simp (disch := first | decide | omega) only [go_sem, ↓reduceIte, Int.reduceLE, Int.reduceLT, Int.reduceToNat, Int.reduceNeg, Int.reduceAdd, Int.reduceSub, Int.reduceMul, Int.reduceEq, Int.reduceNe, Nat.reduceEqDiff, Nat.reduceAdd, Nat.reduceSub, Nat.reduceMul, Nat.reduceLT, Nat.reduceLeDiff, Nat.reduceBEq, Nat.reduceBNe, wr, dle, dlt, h0, h7, h3, h5, h6, m3, m8, hc])
        | (refine xw_regd ?_; simp (disch := first | decide | omega) only [go_sem, ↓reduceIte, Int.reduceLE, Int.reduceLT, Int.reduceToNat, Int.reduceNeg, Int.reduceAdd, Int.reduceSub, Int.reduceMul, Int.reduceEq, Int.reduceNe, Nat.reduceEqDiff, Nat.reduceAdd, Nat.reduceSub, Nat.reduceMul, Nat.reduceLT, Nat.reduceLeDiff, Nat.reduceBEq, Nat.reduceBNe, wr, dle, dlt, h0, h7, h3, h5, h6, m3, m8, hc]; refine ⟨by kernel_rfl, ?_⟩)
        | (refine xw_if ?_; simp (disch := first | decide | omega) only [go_sem, ↓reduceIte, Int.reduceLE, Int.reduceLT, Int.reduceToNat, Int.reduceNeg, Int.reduceAdd, Int.reduceSub, Int.reduceMul, Int.reduceEq, Int.reduceNe, Nat.reduceEqDiff, Nat.reduceAdd, Nat.reduceSub, Nat.reduceMul, Nat.reduceLT, Nat.reduceLeDiff, Nat.reduceBEq, Nat.reduceBNe, wr, dle, dlt, h0, h7, h3, h5, h6, m3, m8, hc])
        | (refine xw_skip ?_; simp only [sq, bl])
        | (refine xw_exit ?_; simp only [sq, bl, if_true, if_false, Nat.reduceEqDiff])
        | (refine xw_label ?_; simp only [sq, bl]))
      first | refine xw_ret (post_ret ?_) | refine post_normal ?_ | refine xw_ret (postE_ret ?_) | refine postE_normal ?_
      simp only [go_sem, ↓reduceIte, Int.reduceLE, Int.reduceLT, Int.reduceToNat, Int.reduceNeg, Int.reduceAdd, Int.reduceSub, Int.reduceMul, Int.reduceEq, Int.reduceNe, Nat.reduceEqDiff, Nat.reduceAdd, Nat.reduceSub, Nat.reduceMul, Nat.reduceLT, Nat.reduceLeDiff, Nat.reduceBEq, Nat.reduceBNe, Tryz.results86, Tryz.f86, h0, m8]
      have e : putE (a, b) es = xs := by rw [hd1 rfl, hdr]; simp
      simp [e]
  · simp only [decide_eq_true_eq] at hc
    obtain ⟨⟨x, y⟩, he⟩ : ∃ e, es[i]? = some e := ⟨es[i]'(by omega), by simp⟩
    have hdr := drop_at he
    have hless := c_l1Less a b x y
    cases d
    · cases hle : lessE (a, b) (x, y)
      · repeat (first
          | refine xw_seq ?_
          | refine xw_block ?_
          | (refine xw_reg ?_; simp (disch := first | decide | omega) only [go_sem, ↓reduceIte, Int.reduceLE, Int.reduceLT, Int.reduceToNat, Int.reduceNeg, Int.reduceAdd, Int.reduceSub, Int.reduceMul, Int.reduceEq, Int.reduceNe, Nat.reduceEqDiff, Nat.reduceAdd, Nat.reduceSub, Nat.reduceMul, Nat.reduceLT, Nat.reduceLeDiff, Nat.reduceBEq, Nat.reduceBNe, wr, dle, dlt, h0, h7, h3, h5, h6, m3, m8, hc, he, List.getElem?_map, encE, hless, hle])
          | (refine xw_regd ?_; simp (disch := first | decide | omega) only [go_sem, ↓reduceIte, Int.reduceLE, Int.reduceLT, Int.reduceToNat, Int.reduceNeg, Int.reduceAdd, Int.reduceSub, Int.reduceMul, Int.reduceEq, Int.reduceNe, Nat.reduceEqDiff, Nat.reduceAdd, Nat.reduceSub, Nat.reduceMul, Nat.reduceLT, Nat.reduceLeDiff, Nat.reduceBEq, Nat.reduceBNe, wr, dle, dlt, h0, h7, h3, h5, h6, m3, m8, hc, he, List.getElem?_map, encE, hless, hle]; refine ⟨by kernel_rfl, ?_⟩)
          | (refine xw_if ?_; simp (disch := first | decide | omega) only [go_sem, ↓reduceIte, Int.reduceLE, Int.reduceLT, Int.reduceToNat, Int.reduceNeg, Int.reduceAdd, Int.reduceSub, Int.reduceMul, Int.reduceEq, Int.reduceNe, Nat.reduceEqDiff, Nat.reduceAdd, Nat.reduceSub, Nat.reduceMul, Nat.reduceLT, Nat.reduceLeDiff, Nat.reduceBEq, Nat.reduceBNe, wr, dle, dlt, h0, h7, h3, h5, h6, m3, m8, hc, he, List.getElem?_map, encE, hless, hle])
          | (refine xw_skip ?_; simp only [sq, bl])
          | (refine xw_exit ?_; simp only [sq, bl, if_true, if_false, Nat.reduceEqDiff])
          | (refine xw_label ?_; simp only [sq, bl]))
        exact ⟨es.length - (i + 1), by omega, i + 1, rfl, by omega, v + 1, false, xs ++ [(x, y)], by simp; omega, by simp, fun _ => by rw [hd2 rfl, hdr]; simp [putE, hle], rfl, by simp, rfl, by simp [encE]⟩
      · repeat (first
          | refine xw_seq ?_
          | refine xw_block ?_
          | (refine xw_reg ?_; simp (disch := first | decide | omega) only [go_sem, ↓reduceIte, Int.reduceLE, Int.reduceLT, Int.reduceToNat, Int.reduceNeg, Int.reduceAdd, Int.reduceSub, Int.reduceMul, Int.reduceEq, Int.reduceNe, Nat.reduceEqDiff, Nat.reduceAdd, Nat.reduceSub, Nat.reduceMul, Nat.reduceLT, Nat.reduceLeDiff, Nat.reduceBEq, Nat.reduceBNe, wr, dle, dlt, h0, h7, h3, h5, h6, m3, m8, hc, he, List.getElem?_map, encE, hless, hle])
          | (refine xw_regd ?_; simp (disch := first | decide | omega) only [go_sem, ↓reduceIte, Int.reduceLE, Int.reduceLT, Int.reduceToNat, Int.reduceNeg, Int.reduceAdd, Int.reduceSub, Int.reduceMul, Int.reduceEq, Int.reduceNe, Nat.reduceEqDiff, Nat.reduceAdd, Nat.reduceSub, Nat.reduceMul, Nat.reduceLT, Nat.reduceLeDiff, Nat.reduceBEq, Nat.reduceBNe, wr, dle, dlt, h0, h7, h3, h5, h6, m3, m8, hc, he, List.getElem?_map, encE, hless, hle]; refine ⟨by kernel_rfl, ?_⟩)
          | (refine xw_if ?_; simp (disch := first | decide | omega) only [go_sem, ↓reduceIte, Int.reduceLE, Int.reduceLT, Int.reduceToNat, Int.reduceNeg, Int.reduceAdd, Int.reduceSub, Int.reduceMul, Int.reduceEq, Int.reduceNe, Nat.reduceEqDiff, Nat.reduceAdd, Nat.reduceSub, Nat.reduceMul, Nat.reduceLT, Nat.reduceLeDiff, Nat.reduceBEq, Nat.reduceBNe, wr, dle, dlt, h0, h7, h3, h5, h6, m3, m8, hc, he, List.getElem?_map, encE, hless, hle])
          | (refine xw_skip ?_; simp only [sq, bl])
          | (refine xw_exit ?_; simp only [sq, bl, if_true, if_false, Nat.reduceEqDiff])
          | (refine xw_label ?_; simp only [sq, bl]))
        exact ⟨es.length - (i + 1), by omega, i + 1, rfl, by omega, v + 1 + 1, true, xs ++ [(a, b), (x, y)], by simp; omega, fun _ => by rw [hd2 rfl, hdr]; simp [putE, hle], by simp, rfl, by simp, rfl, by simp [encE]⟩
    · repeat (first
        | refine xw_seq ?_
        | refine xw_block ?_
        | (refine xw_reg ?_; simp (disch := first | decide | omega) only [go_sem, ↓reduceIte, Int.reduceLE, Int.reduceLT, Int.reduceToNat, Int.reduceNeg, Int.reduceAdd, Int.reduceSub, Int.reduceMul, Int.reduceEq, Int.reduceNe, Nat.reduceEqDiff, Nat.reduceAdd, Nat.reduceSub, Nat.reduceMul, Nat.reduceLT, Nat.reduceLeDiff, Nat.reduceBEq, Nat.reduceBNe, wr, dle, dlt, h0, h7, h3, h5, h6, m3, m8, hc, he, List.getElem?_map, encE, hless])
        | (refine xw_regd ?_; simp (disch := first | decide | omega) only [go_sem, ↓reduceIte, Int.reduceLE, Int.reduceLT, Int.reduceToNat, Int.reduceNeg, Int.reduceAdd, Int.reduceSub, Int.reduceMul, Int.reduceEq, Int.reduceNe, Nat.reduceEqDiff, Nat.reduceAdd, Nat.reduceSub, Nat.reduceMul, Nat.reduceLT, Nat.reduceLeDiff, Nat.reduceBEq, Nat.reduceBNe, wr, dle, dlt, h0, h7, h3, h5, h6, m3, m8, hc, he, List.getElem?_map, encE, hless]; refine ⟨by kernel_rfl, ?_⟩)
        | (refine xw_if ?_; simp (disch := first | decide | omega) only [go_sem, ↓reduceIte, Int.reduceLE, Int.reduceLT, Int.reduceToNat, Int.reduceNeg, Int.reduceAdd, Int.reduceSub, Int.reduceMul, Int.reduceEq, Int.reduceNe, Nat.reduceEqDiff, Nat.reduceAdd, Nat.reduceSub, Nat.reduceMul, Nat.reduceLT, Nat.reduceLeDiff, Nat.reduceBEq, Nat.reduceBNe, wr, dle, dlt, h0, h7, h3, h5, h6, m3, m8, hc, he, List.getElem?_map, encE, hless])
        | (refine xw_skip ?_; simp only [sq, bl])
        | (refine xw_exit ?_; simp only [sq, bl, if_true, if_false, Nat.reduceEqDiff])
        | (refine xw_label ?_; simp only [sq, bl]))
      exact ⟨es.length - (i + 1), by omega, i + 1, rfl, by omega, v + 1, true, xs ++ [(x, y)], by simp; omega, fun _ => by rw [hd1 rfl, hdr]; simp, by simp, rfl, by simp, rfl, by simp [encE]⟩
end Go.Proofs.YtdjdgnabcecdlaaGreatDoor.X

/- What functions compute: drawing a graph. -/
set_option linter.unusedSimpArgs false
set_option linter.unusedVariables false
set_option maxHeartbeats 2000000
namespace Go.Proofs.YtdjdgnabcecdlaaGreatDoor.X
open Go Go.Proofs
def Ord (es : List (Int × Int)) : Prop := es.Pairwise fun a b => lessE a b = true
theorem lessE_iff {a b : Int × Int} : lessE a b = true ↔ a.1 < b.1 ∨ a.1 = b.1 ∧ a.2 < b.2 := by simp [lessE]
theorem lessE_trans {a b c : Int × Int} (h : lessE a b = true) (k : lessE b c = true) : lessE a c = true := by
  rw [lessE_iff] at *; omega
theorem lessE_total {a b : Int × Int} (h : lessE a b = false) (hn : a ≠ b) : lessE b a = true := by
  have h' : ¬ lessE a b = true := by simp [h]
  rw [lessE_iff] at *
  have : ¬ (a.1 = b.1 ∧ a.2 = b.2) := fun e => hn (Prod.ext e.1 e.2)
  omega
theorem mem_putE {e x : Int × Int} : ∀ {es : List (Int × Int)}, x ∈ putE e es ↔ x = e ∨ x ∈ es
  | [] => by simp [putE]
  | y :: r => by
    simp only [putE]
    split
    · simp
    · simp only [List.mem_cons, mem_putE (es := r)]
      constructor
      · rintro (h | h | h) <;> simp [h]
      · rintro (h | h | h) <;> simp [h]
theorem Ord.put {e : Int × Int} : ∀ {es : List (Int × Int)}, Ord es → e ∉ es → Ord (putE e es)
  | [], _, _ => by simp [Ord, putE]
  | x :: r, h, hn => by
    simp only [Ord, List.pairwise_cons] at h
    simp only [List.mem_cons, not_or] at hn
    simp only [putE]
    split
    · rename_i hl
      simp only [Ord, List.pairwise_cons]
      refine ⟨fun y hy => ?_, h.1, h.2⟩
      rcases List.mem_cons.1 hy with rfl | hy
      · exact hl
      · exact lessE_trans hl (h.1 y hy)
    · rename_i hl
      have hl' : lessE e x = false := by simpa using hl
      simp only [Ord, List.pairwise_cons]
      refine ⟨fun y hy => ?_, Ord.put h.2 hn.2⟩
      rcases mem_putE.1 hy with rfl | hy
      · exact lessE_total hl' hn.1
      · exact h.1 y hy
/-- Edges as they are handed back: none, or a list. -/
def qe (es : List (Int × Int)) : IV := if es = [] then .emp else .lst (es.map encE)
theorem frz_qe {n : Nat} {es : List (Int × Int)} : frz n (.i (qe es)) = .ret (.lst (es.map encE)) := by
  cases es with
  | nil => cases n <;> rfl
  | cons e r => cases n <;> rfl
theorem flat_qe {es : List (Int × Int)} : (qe es).flat = true := by cases es <;> rfl
theorem lenP_qe {es : List (Int × Int)} : lenP (.i (qe es)) = some es.length := by
  cases es with
  | nil => rfl
  | cons e r => simp [lenP, qe]
theorem qe_nil : qe [] = .emp := rfl
theorem qe_putE {e : Int × Int} {es : List (Int × Int)} : .lst ((putE e es).map encE) = qe (putE e es) := by
  have : putE e es ≠ [] := fun h => by have := putE_length e es; simp [h] at this
  simp [qe, this]
attribute [go_sem] frz_qe flat_qe lenP_qe
theorem c_l1Draw (bs : List Int) (p : Int) (hb : bytes bs) (hp : 0 ≤ p ∧ p ≤ 100000) :
    ∃ n es p', 1 ≤ n ∧ n ≤ 16 ∧ Ord es ∧ (∀ e ∈ es, 0 ≤ e.1 ∧ e.1 < e.2 ∧ e.2 < n) ∧ es.length ≤ 30 ∧ p ≤ p' ∧ p' ≤ p + 100 ∧
      KP 142 [.ptr 1000 0 0 0] [Rd bs p] = some (.agg [I n, .i (qe es)], [Rd bs p'], []) := by
  obtain ⟨N, hN, hnum⟩ := c_num bs p [6, 5, 7, 4, 8, 10, 3, 1, 16] hb (by omega) (by simp) (by simp)
  have hN' : 1 ≤ N ∧ N ≤ 16 := by
    have : ∀ x ∈ [6, 5, 7, 4, 8, 10, 3, 1, (16 : Int)], 1 ≤ x ∧ x ≤ 16 := by decide
    exact this N hN
  simp only [List.map_cons, List.map_nil, encI, List.length_cons, List.length_nil, Nat.reduceAdd] at hnum
  suffices h : ∃ res, (∃ (es : List (Int × Int)) (p' : Int), Ord es ∧ (∀ e ∈ es, 0 ≤ e.1 ∧ e.1 < e.2 ∧ e.2 < N) ∧ es.length ≤ 30 ∧ p ≤ p' ∧ p' ≤ p + 100 ∧ res = (PV.agg [I N, .i (qe es)], [Rd bs p'], [])) ∧
      KP 142 [.ptr 1000 0 0 0] [Rd bs p] = some res by
    obtain ⟨res, ⟨es, p', h1, h2, h3, h4, h5, rfl⟩, h6⟩ := h
    exact ⟨N, es, p', hN'.1, hN'.2, h1, h2, h3, h4, h5, h6⟩
  refine xw_callE (fn := Tryz.f142) rfl Tryz.func142 rfl ⟨Nat.le_of_ble_eq_true rfl, rfl, rfl⟩ ?_
  repeat (first
    | refine xw_seq ?_
    | refine xw_block ?_
    | (refine xw_reg ?_; simp (disch := first | decide | omega) only [go_sem, ↓reduceIte, Int.reduceLE, Int.reduceLT, Int.reduceToNat, Int.reduceNeg, Int.reduceAdd, Int.reduceSub, Int.reduceMul, Int.reduceEq, Int.reduceNe, Nat.reduceEqDiff, Nat.reduceAdd, Nat.reduceSub, Nat.reduceMul, Nat.reduceLT, Nat.reduceLeDiff, Nat.reduceBEq, Nat.reduceBNe, wr, dle, dlt, hnum])
    | (refine xw_regd ?_; simp (disch := first | decide | omega) only [go_sem, ↓reduceIte, Int.reduceLE, Int.reduceLT, Int.reduceToNat, Int.reduceNeg, Int.reduceAdd, Int.reduceSub, Int.reduceMul, Int.reduceEq, Int.reduceNe, Nat.reduceEqDiff, Nat.reduceAdd, Nat.reduceSub, Nat.reduceMul, Nat.reduceLT, Nat.reduceLeDiff, Nat.reduceBEq, Nat.reduceBNe, wr, dle, dlt, hnum]; refine ⟨by kernel_rfl, ?_⟩)
    | (refine xw_if ?_; simp (disch := first | decide | omega) only [go_sem, ↓reduceIte, Int.reduceLE, Int.reduceLT, Int.reduceToNat, Int.reduceNeg, Int.reduceAdd, Int.reduceSub, Int.reduceMul, Int.reduceEq, Int.reduceNe, Nat.reduceEqDiff, Nat.reduceAdd, Nat.reduceSub, Nat.reduceMul, Nat.reduceLT, Nat.reduceLeDiff, Nat.reduceBEq, Nat.reduceBNe, wr, dle, dlt, hnum])
    | (refine xw_skip ?_; simp only [sq, bl])
    | (refine xw_exit ?_; simp only [sq, bl, if_true, if_false, Nat.reduceEqDiff])
    | (refine xw_label ?_; simp only [sq, bl]))
  refine xw_loop_count (fun n s => ∃ (i : Int) (es : List (Int × Int)) (p' : Int), n = (N - i).toNat ∧ 1 ≤ i ∧ i ≤ N ∧ Ord es ∧ (∀ e ∈ es, 0 ≤ e.1 ∧ e.1 < e.2 ∧ e.2 < i) ∧ (es.length : Int) ≤ i ∧ p ≤ p' ∧ p' ≤ p + 1 + 2 * i ∧
    s.ρ 0 = .ptr 1000 0 0 0 ∧ s.ρ 2 = .ptr 2 0 0 0 ∧ s.ρ 3 = .ptr 3 0 0 0 ∧ s.ρ 4 = I i ∧ s.m 1000 = some (Rd bs p') ∧ s.m 2 = some (.box 0 [I 0, .i .emp]) ∧ s.m 3 = some (.box 0 [I N, .i (qe es)])) ?_ (N - 1).toNat _ ⟨1, [], p + 1, by simp, by omega, by omega, by simp [Ord], by simp, by simp, by omega, by omega, rfl, rfl, rfl, rfl, rfl, rfl, by rw [qe_nil]; rfl⟩
  rintro n ⟨ρ, m⟩ ⟨i, es, p', rfl, hi1, hi2, ho, hes, hel, hp1, hp2, h0, h2, h3, h4, m1, m2, m3⟩
  simp only at h0 h2 h3 h4 m1 m2 m3
  cases hc : decide (i < N)
  · simp only [decide_eq_false_iff_not] at hc
    have hiN : i = N := by omega
    subst hiN
    obtain ⟨x, hx, hnum2⟩ := c_num bs p' [2, 1, 3, 0, 5, 8] hb (by omega) (by simp) (by simp)
    have hx' : 0 ≤ x ∧ x ≤ 8 := by
      have : ∀ x ∈ [2, 1, 3, 0, 5, (8 : Int)], 0 ≤ x ∧ x ≤ 8 := by decide
      exact this x hx
    simp only [List.map_cons, List.map_nil, encI, List.length_cons, List.length_nil, Nat.reduceAdd] at hnum2
    repeat (first
      | refine xw_seq ?_
      | refine xw_block ?_
      | (refine xw_reg ?_; simp (disch := first | decide | omega) only [go_sem, ↓reduceIte, Int.reduceLE, Int.reduceLT, Int.reduceToNat, Int.reduceNeg, Int.reduceAdd, Int.reduceSub, Int.reduceMul, Int.reduceEq, Int.reduceNe, Nat.reduceEqDiff, Nat.reduceAdd, Nat.reduceSub, Nat.reduceMul, Nat.reduceLT, Nat.reduceLeDiff, Nat.reduceBEq, Nat.reduceBNe, wr, dle, dlt, h0, h2, h3, h4, m1, m2, m3, hc, hnum2])
      | (refine xw_regd ?_; simp (disch := first | decide | omega) only [go_sem, ↓reduceIte, Int.reduceLE, Int.reduceLT, Int.reduceToNat, Int.reduceNeg, Int.reduceAdd, Int.reduceSub, Int.reduceMul, Int.reduceEq, Int.reduceNe, Nat.reduceEqDiff, Nat.reduceAdd, Nat.reduceSub, Nat.reduceMul, Nat.reduceLT, Nat.reduceLeDiff, Nat.reduceBEq, Nat.reduceBNe, wr, dle, dlt, h0, h2, h3, h4, m1, m2, m3, hc, hnum2]; refine ⟨by kernel_rfl, ?_⟩)
      | (refine xw_if ?_; simp (disch := first | decide | omega) only [go_sem, ↓reduceIte, Int.reduceLE, Int.reduceLT, Int.reduceToNat, Int.reduceNeg, Int.reduceAdd, Int.reduceSub, Int.reduceMul, Int.reduceEq, Int.reduceNe, Nat.reduceEqDiff, Nat.reduceAdd, Nat.reduceSub, Nat.reduceMul, Nat.reduceLT, Nat.reduceLeDiff, Nat.reduceBEq, Nat.reduceBNe, wr, dle, dlt, h0, h2, h3, h4, m1, m2, m3, hc, hnum2])
      | (refine xw_skip ?_; simp only [sq, bl])
      | (refine xw_exit ?_; simp only [sq, bl, if_true, if_false, Nat.reduceEqDiff])
      | (refine xw_label ?_; simp only [sq, bl]))
    refine xw_loop_count (fun n s => ∃ (k : Int) (es : List (Int × Int)) (p2 : Int), n = k.toNat ∧ 0 ≤ k ∧ k ≤ x ∧ Ord es ∧ (∀ e ∈ es, 0 ≤ e.1 ∧ e.1 < e.2 ∧ e.2 < i) ∧ (es.length : Int) ≤ i + x - k ∧ p ≤ p2 ∧ p2 ≤ p' + 1 + 2 * (x - k) ∧
      s.ρ 0 = .ptr 1000 0 0 0 ∧ s.ρ 2 = .ptr 2 0 0 0 ∧ s.ρ 3 = .ptr 3 0 0 0 ∧ s.ρ 5 = I k ∧ s.m 1000 = some (Rd bs p2) ∧ s.m 2 = some (.box 0 [I 0, .i .emp]) ∧ s.m 3 = some (.box 0 [I i, .i (qe es)])) ?_ x.toNat _ ⟨x, es, p' + 1, rfl, by omega, by omega, ho, hes, by omega, by omega, by omega, by simp [upd, h0], by simp [upd, h2], by simp [upd, h3], rfl, by simp [upd], by simp [upd, m2], by simp [upd, m3]⟩
    rintro n ⟨ρ, m⟩ ⟨k, es, p2, rfl, hk1, hk2, ho, hes, hel, hp1, hp2, h0, h2, h3, h5, m1, m2, m3⟩
    simp only at h0 h2 h3 h5 m1 m2 m3
    cases hk : decide (0 < k)
    · repeat (first
        | refine xw_seq ?_
        | refine xw_block ?_
        | (refine xw_reg ?_; simp (disch := first | decide | omega) only [go_sem, ↓reduceIte, Int.reduceLE, Int.reduceLT, Int.reduceToNat, Int.reduceNeg, Int.reduceAdd, Int.reduceSub, Int.reduceMul, Int.reduceEq, Int.reduceNe, Nat.reduceEqDiff, Nat.reduceAdd, Nat.reduceSub, Nat.reduceMul, Nat.reduceLT, Nat.reduceLeDiff, Nat.reduceBEq, Nat.reduceBNe, wr, dle, dlt, h0, h2, h3, h5, m1, m2, m3, hk])
        | (refine xw_regd ?_; simp (disch := first | decide | omega) only [go_sem, ↓reduceIte, Int.reduceLE, Int.reduceLT, Int.reduceToNat, Int.reduceNeg, Int.reduceAdd, Int.reduceSub, Int.reduceMul, Int.reduceEq, Int.reduceNe, Nat.reduceEqDiff, Nat.reduceAdd, Nat.reduceSub, Nat.reduceMul, Nat.reduceLT, Nat.reduceLeDiff, Nat.reduceBEq, Nat.reduceBNe, wr, dle, dlt, h0, h2, h3, h5, m1, m2, m3, hk]; refine ⟨by kernel_rfl, ?_⟩)
        | (refine xw_if ?_; simp (disch := first | decide | omega) only [go_sem, ↓reduceIte, Int.reduceLE, Int.reduceLT, Int.reduceToNat, Int.reduceNeg, Int.reduceAdd, Int.reduceSub, Int.reduceMul, Int.reduceEq, Int.reduceNe, Nat.reduceEqDiff, Nat.reduceAdd, Nat.reduceSub, Nat.reduceMul, Nat.reduceLT, Nat.reduceLeDiff, Nat.reduceBEq, Nat.reduceBNe, wr, dle, dlt, h0, h2, h3, h5, m1, m2, m3, hk])
        | (refine xw_skip ?_; simp only [sq, bl])
        | (refine xw_exit ?_; simp only [sq, bl, if_true, if_false, Nat.reduceEqDiff])
        | (refine xw_label ?_; simp only [sq, bl]))
      first | refine xw_ret (post_ret ?_) | refine post_normal ?_ | refine xw_ret (postE_ret ?_) | refine postE_normal ?_
      simp only [go_sem, ↓reduceIte, Int.reduceLE, Int.reduceLT, Int.reduceToNat, Int.reduceNeg, Int.reduceAdd, Int.reduceSub, Int.reduceMul, Int.reduceEq, Int.reduceNe, Nat.reduceEqDiff, Nat.reduceAdd, Nat.reduceSub, Nat.reduceMul, Nat.reduceLT, Nat.reduceLeDiff, Nat.reduceBEq, Nat.reduceBNe, Tryz.results142, Tryz.f142, h2, m1, m2, m3]
      exact ⟨es, ho, hes, by omega, p2, by omega, by omega, rfl, rfl⟩
    · simp only [decide_eq_true_eq] at hk
      obtain ⟨y, hy, _, hpk⟩ := c_pick bs p2 i hb (by omega) (by omega)
      have hy' := hy hi1
      obtain ⟨z, hz, _, hpk2⟩ := c_pick bs (p2 + 1) i hb (by omega) (by omega)
      have hz' := hz hi1
      have hedge := c_l1Edge y z
      have hfind := c_l1Find es (edgeOf y z).1 (edgeOf y z).2 (by omega)
      have hput := c_l1Put es (edgeOf y z).1 (edgeOf y z).2 (by omega)
      cases hyz : decide (y = z)
      rotate_left
      · repeat (first
          | refine xw_seq ?_
          | refine xw_block ?_
          | (refine xw_reg ?_; simp (disch := first | decide | omega) only [go_sem, ↓reduceIte, Int.reduceLE, Int.reduceLT, Int.reduceToNat, Int.reduceNeg, Int.reduceAdd, Int.reduceSub, Int.reduceMul, Int.reduceEq, Int.reduceNe, Nat.reduceEqDiff, Nat.reduceAdd, Nat.reduceSub, Nat.reduceMul, Nat.reduceLT, Nat.reduceLeDiff, Nat.reduceBEq, Nat.reduceBNe, wr, dle, dlt, h0, h2, h3, h5, m1, m2, m3, hk, hpk, hpk2, hyz])
          | (refine xw_regd ?_; simp (disch := first | decide | omega) only [go_sem, ↓reduceIte, Int.reduceLE, Int.reduceLT, Int.reduceToNat, Int.reduceNeg, Int.reduceAdd, Int.reduceSub, Int.reduceMul, Int.reduceEq, Int.reduceNe, Nat.reduceEqDiff, Nat.reduceAdd, Nat.reduceSub, Nat.reduceMul, Nat.reduceLT, Nat.reduceLeDiff, Nat.reduceBEq, Nat.reduceBNe, wr, dle, dlt, h0, h2, h3, h5, m1, m2, m3, hk, hpk, hpk2, hyz]; refine ⟨by kernel_rfl, ?_⟩)
          | (refine xw_if ?_; simp (disch := first | decide | omega) only [go_sem, ↓reduceIte, Int.reduceLE, Int.reduceLT, Int.reduceToNat, Int.reduceNeg, Int.reduceAdd, Int.reduceSub, Int.reduceMul, Int.reduceEq, Int.reduceNe, Nat.reduceEqDiff, Nat.reduceAdd, Nat.reduceSub, Nat.reduceMul, Nat.reduceLT, Nat.reduceLeDiff, Nat.reduceBEq, Nat.reduceBNe, wr, dle, dlt, h0, h2, h3, h5, m1, m2, m3, hk, hpk, hpk2, hyz])
          | (refine xw_skip ?_; simp only [sq, bl])
          | (refine xw_exit ?_; simp only [sq, bl, if_true, if_false, Nat.reduceEqDiff])
          | (refine xw_label ?_; simp only [sq, bl]))
        exact ⟨(k - 1).toNat, by omega, k - 1, rfl, by omega, by omega, es, ho, hes, by omega, p2 + 1 + 1, by omega, by omega, rfl, rfl, rfl⟩
      · cases hf : decide (findE es ((edgeOf y z).1, (edgeOf y z).2) < 0)
        · repeat (first
            | refine xw_seq ?_
            | refine xw_block ?_
            | (refine xw_reg ?_; simp (disch := first | decide | omega) only [go_sem, ↓reduceIte, Int.reduceLE, Int.reduceLT, Int.reduceToNat, Int.reduceNeg, Int.reduceAdd, Int.reduceSub, Int.reduceMul, Int.reduceEq, Int.reduceNe, Nat.reduceEqDiff, Nat.reduceAdd, Nat.reduceSub, Nat.reduceMul, Nat.reduceLT, Nat.reduceLeDiff, Nat.reduceBEq, Nat.reduceBNe, wr, dle, dlt, h0, h2, h3, h5, m1, m2, m3, hk, hpk, hpk2, hyz, hedge, hfind, hput, hf])
            | (refine xw_regd ?_; simp (disch := first | decide | omega) only [go_sem, ↓reduceIte, Int.reduceLE, Int.reduceLT, Int.reduceToNat, Int.reduceNeg, Int.reduceAdd, Int.reduceSub, Int.reduceMul, Int.reduceEq, Int.reduceNe, Nat.reduceEqDiff, Nat.reduceAdd, Nat.reduceSub, Nat.reduceMul, Nat.reduceLT, Nat.reduceLeDiff, Nat.reduceBEq, Nat.reduceBNe, wr, dle, dlt, h0, h2, h3, h5, m1, m2, m3, hk, hpk, hpk2, hyz, hedge, hfind, hput, hf]; refine ⟨by kernel_rfl, ?_⟩)
            | (refine xw_if ?_; simp (disch := first | decide | omega) only [go_sem, ↓reduceIte, Int.reduceLE, Int.reduceLT, Int.reduceToNat, Int.reduceNeg, Int.reduceAdd, Int.reduceSub, Int.reduceMul, Int.reduceEq, Int.reduceNe, Nat.reduceEqDiff, Nat.reduceAdd, Nat.reduceSub, Nat.reduceMul, Nat.reduceLT, Nat.reduceLeDiff, Nat.reduceBEq, Nat.reduceBNe, wr, dle, dlt, h0, h2, h3, h5, m1, m2, m3, hk, hpk, hpk2, hyz, hedge, hfind, hput, hf])
            | (refine xw_skip ?_; simp only [sq, bl])
            | (refine xw_exit ?_; simp only [sq, bl, if_true, if_false, Nat.reduceEqDiff])
            | (refine xw_label ?_; simp only [sq, bl]))
          exact ⟨(k - 1).toNat, by omega, k - 1, rfl, by omega, by omega, es, ho, hes, by omega, p2 + 1 + 1, by omega, by omega, rfl, rfl, rfl⟩
        · repeat (first
            | refine xw_seq ?_
            | refine xw_block ?_
            | (refine xw_reg ?_; simp (disch := first | decide | omega) only [go_sem, ↓reduceIte, Int.reduceLE, Int.reduceLT, Int.reduceToNat, Int.reduceNeg, Int.reduceAdd, Int.reduceSub, Int.reduceMul, Int.reduceEq, Int.reduceNe, Nat.reduceEqDiff, Nat.reduceAdd, Nat.reduceSub, Nat.reduceMul, Nat.reduceLT, Nat.reduceLeDiff, Nat.reduceBEq, Nat.reduceBNe, wr, dle, dlt, h0, h2, h3, h5, m1, m2, m3, hk, hpk, hpk2, hyz, hedge, hfind, hput, hf])
            | (refine xw_regd ?_; simp (disch := first | decide | omega) only [go_sem, ↓reduceIte, Int.reduceLE, Int.reduceLT, Int.reduceToNat, Int.reduceNeg, Int.reduceAdd, Int.reduceSub, Int.reduceMul, Int.reduceEq, Int.reduceNe, Nat.reduceEqDiff, Nat.reduceAdd, Nat.reduceSub, Nat.reduceMul, Nat.reduceLT, Nat.reduceLeDiff, Nat.reduceBEq, Nat.reduceBNe, wr, dle, dlt, h0, h2, h3, h5, m1, m2, m3, hk, hpk, hpk2, hyz, hedge, hfind, hput, hf]; refine ⟨by kernel_rfl, ?_⟩)
            | (refine xw_if ?_; simp (disch := first | decide | omega) only [go_sem, ↓reduceIte, Int.reduceLE, Int.reduceLT, Int.reduceToNat, Int.reduceNeg, Int.reduceAdd, Int.reduceSub, Int.reduceMul, Int.reduceEq, Int.reduceNe, Nat.reduceEqDiff, Nat.reduceAdd, Nat.reduceSub, Nat.reduceMul, Nat.reduceLT, Nat.reduceLeDiff, Nat.reduceBEq, Nat.reduceBNe, wr, dle, dlt, h0, h2, h3, h5, m1, m2, m3, hk, hpk, hpk2, hyz, hedge, hfind, hput, hf])
            | (refine xw_skip ?_; simp only [sq, bl])
            | (refine xw_exit ?_; simp only [sq, bl, if_true, if_false, Nat.reduceEqDiff])
            | (refine xw_label ?_; simp only [sq, bl]))
          simp only [decide_eq_true_eq, decide_eq_false_iff_not] at hf hyz
          have hnin : edgeOf y z ∉ es := fun h => by
            have : findE es (edgeOf y z) = (es.idxOf (edgeOf y z) : Int) := by simp [findE, h]
            have hf' : findE es (edgeOf y z) < 0 := hf
            omega
          have he2 : 0 ≤ (edgeOf y z).1 ∧ (edgeOf y z).1 < (edgeOf y z).2 ∧ (edgeOf y z).2 < i := by unfold edgeOf; split <;> (simp only; omega)
          refine ⟨(k - 1).toNat, by omega, k - 1, rfl, by omega, by omega, putE (edgeOf y z) es, ho.put hnin, fun e h => ?_, by rw [putE_length]; omega, p2 + 1 + 1, by omega, by omega, rfl, rfl, by rw [← qe_putE]⟩
          rcases mem_putE.1 h with rfl | h
          · exact he2
          · exact hes e h
  · simp only [decide_eq_true_eq] at hc
    obtain ⟨x, hx, _, hpk⟩ := c_pick bs p' 4 hb (by omega) (by omega)
    cases hx0 : decide (0 < x)
    · repeat (first
        | refine xw_seq ?_
        | refine xw_block ?_
        | (refine xw_reg ?_; simp (disch := first | decide | omega) only [go_sem, ↓reduceIte, Int.reduceLE, Int.reduceLT, Int.reduceToNat, Int.reduceNeg, Int.reduceAdd, Int.reduceSub, Int.reduceMul, Int.reduceEq, Int.reduceNe, Nat.reduceEqDiff, Nat.reduceAdd, Nat.reduceSub, Nat.reduceMul, Nat.reduceLT, Nat.reduceLeDiff, Nat.reduceBEq, Nat.reduceBNe, wr, dle, dlt, h0, h2, h3, h4, m1, m2, m3, hc, hpk, hx0])
        | (refine xw_regd ?_; simp (disch := first | decide | omega) only [go_sem, ↓reduceIte, Int.reduceLE, Int.reduceLT, Int.reduceToNat, Int.reduceNeg, Int.reduceAdd, Int.reduceSub, Int.reduceMul, Int.reduceEq, Int.reduceNe, Nat.reduceEqDiff, Nat.reduceAdd, Nat.reduceSub, Nat.reduceMul, Nat.reduceLT, Nat.reduceLeDiff, Nat.reduceBEq, Nat.reduceBNe, wr, dle, dlt, h0, h2, h3, h4, m1, m2, m3, hc, hpk, hx0]; refine ⟨by kernel_rfl, ?_⟩)
        | (refine xw_if ?_; simp (disch := first | decide | omega) only [go_sem, ↓reduceIte, Int.reduceLE, Int.reduceLT, Int.reduceToNat, Int.reduceNeg, Int.reduceAdd, Int.reduceSub, Int.reduceMul, Int.reduceEq, Int.reduceNe, Nat.reduceEqDiff, Nat.reduceAdd, Nat.reduceSub, Nat.reduceMul, Nat.reduceLT, Nat.reduceLeDiff, Nat.reduceBEq, Nat.reduceBNe, wr, dle, dlt, h0, h2, h3, h4, m1, m2, m3, hc, hpk, hx0])
        | (refine xw_skip ?_; simp only [sq, bl])
        | (refine xw_exit ?_; simp only [sq, bl, if_true, if_false, Nat.reduceEqDiff])
        | (refine xw_label ?_; simp only [sq, bl]))
      exact ⟨(N - (i + 1)).toNat, by omega, i + 1, rfl, by omega, by omega, es, ho, fun e h => by have := hes e h; omega, by omega, p' + 1, by omega, by omega, rfl, rfl, rfl⟩
    · obtain ⟨y, hy, _, hpk2⟩ := c_pick bs (p' + 1) i hb (by omega) (by omega)
      have hy' := hy hi1
      have hedge := c_l1Edge y i
      have hput := c_l1Put es (edgeOf y i).1 (edgeOf y i).2 (by omega)
      have he : edgeOf y i = (y, i) := by simp [edgeOf, hy'.2]
      rw [he] at hedge hput
      repeat (first
        | refine xw_seq ?_
        | refine xw_block ?_
        | (refine xw_reg ?_; simp (disch := first | decide | omega) only [go_sem, ↓reduceIte, Int.reduceLE, Int.reduceLT, Int.reduceToNat, Int.reduceNeg, Int.reduceAdd, Int.reduceSub, Int.reduceMul, Int.reduceEq, Int.reduceNe, Nat.reduceEqDiff, Nat.reduceAdd, Nat.reduceSub, Nat.reduceMul, Nat.reduceLT, Nat.reduceLeDiff, Nat.reduceBEq, Nat.reduceBNe, wr, dle, dlt, h0, h2, h3, h4, m1, m2, m3, hc, hpk, hx0, hpk2, hedge, hput])
        | (refine xw_regd ?_; simp (disch := first | decide | omega) only [go_sem, ↓reduceIte, Int.reduceLE, Int.reduceLT, Int.reduceToNat, Int.reduceNeg, Int.reduceAdd, Int.reduceSub, Int.reduceMul, Int.reduceEq, Int.reduceNe, Nat.reduceEqDiff, Nat.reduceAdd, Nat.reduceSub, Nat.reduceMul, Nat.reduceLT, Nat.reduceLeDiff, Nat.reduceBEq, Nat.reduceBNe, wr, dle, dlt, h0, h2, h3, h4, m1, m2, m3, hc, hpk, hx0, hpk2, hedge, hput]; refine ⟨by kernel_rfl, ?_⟩)
        | (refine xw_if ?_; simp (disch := first | decide | omega) only [go_sem, ↓reduceIte, Int.reduceLE, Int.reduceLT, Int.reduceToNat, Int.reduceNeg, Int.reduceAdd, Int.reduceSub, Int.reduceMul, Int.reduceEq, Int.reduceNe, Nat.reduceEqDiff, Nat.reduceAdd, Nat.reduceSub, Nat.reduceMul, Nat.reduceLT, Nat.reduceLeDiff, Nat.reduceBEq, Nat.reduceBNe, wr, dle, dlt, h0, h2, h3, h4, m1, m2, m3, hc, hpk, hx0, hpk2, hedge, hput])
        | (refine xw_skip ?_; simp only [sq, bl])
        | (refine xw_exit ?_; simp only [sq, bl, if_true, if_false, Nat.reduceEqDiff])
        | (refine xw_label ?_; simp only [sq, bl]))
      have hnin : (y, i) ∉ es := fun h => by have := hes _ h; simp at this
      refine ⟨(N - (i + 1)).toNat, by omega, i + 1, rfl, by omega, by omega, putE (y, i) es, ho.put hnin, fun e h => ?_, by rw [putE_length]; omega, p' + 1 + 1, by omega, by omega, rfl, rfl, by rw [← qe_putE]⟩
      rcases mem_putE.1 h with rfl | h
      · simp only; omega
      · have := hes e h; omega
end Go.Proofs.YtdjdgnabcecdlaaGreatDoor.X

/- What functions compute: graphs that may be wrong. -/
set_option linter.unusedSimpArgs false
set_option linter.unusedVariables false
set_option maxHeartbeats 2000000
namespace Go.Proofs.YtdjdgnabcecdlaaGreatDoor.X
open Go Go.Proofs
abbrev GL (n : Int) (es : List (Int × Int)) : PV := .agg [I n, LE es]
/-- A list of edges, in whatever form. -/
structure EL (x : IV) (es : List (Int × Int)) : Prop where
  f : ∀ n, frz n (.i x) = .ret (.lst (es.map encE))
  fl : x.flat = true
theorem EL.qe (es : List (Int × Int)) : EL (qe es) es := ⟨fun _ => frz_qe, flat_qe⟩
theorem EL.lst (es : List (Int × Int)) : EL (.lst (es.map encE)) es := ⟨fun n => by cases n <;> rfl, rfl⟩
theorem c_l1Copy (n : Int) (es : List (Int × Int)) (hl : es.length ≤ 1048576) : KP 169 [GL n es] [] = some (.agg [I n, .ref 2000 0 0 es.length], [], [.arr 0 2 (es.map encE)]) := by
  refine xw_call (fn := Tryz.f169) rfl Tryz.func169 rfl ⟨Nat.le_of_ble_eq_true rfl, rfl, rfl⟩ ?_
  repeat (first
    | refine xw_seq ?_
    | refine xw_block ?_
    | (refine xw_reg ?_; simp (disch := first | decide | omega) only [go_sem, ↓reduceIte, Int.reduceLE, Int.reduceLT, Int.reduceToNat, Int.reduceNeg, Int.reduceAdd, Int.reduceSub, Int.reduceMul, Int.reduceEq, Int.reduceNe, Nat.reduceEqDiff, Nat.reduceAdd, Nat.reduceSub, Nat.reduceMul, Nat.reduceLT, Nat.reduceLeDiff, Nat.reduceBEq, Nat.reduceBNe, wr, dle, dlt,])
    | (refine xw_regd ?_; simp (disch := first | decide | omega) only [go_sem, ↓reduceIte, Int.reduceLE, Int.reduceLT, Int.reduceToNat, Int.reduceNeg, Int.reduceAdd, Int.reduceSub, Int.reduceMul, Int.reduceEq, Int.reduceNe, Nat.reduceEqDiff, Nat.reduceAdd, Nat.reduceSub, Nat.reduceMul, Nat.reduceLT, Nat.reduceLeDiff, Nat.reduceBEq, Nat.reduceBNe, wr, dle, dlt,]; refine ⟨by kernel_rfl, ?_⟩)
    | (refine xw_if ?_; simp (disch := first | decide | omega) only [go_sem, ↓reduceIte, Int.reduceLE, Int.reduceLT, Int.reduceToNat, Int.reduceNeg, Int.reduceAdd, Int.reduceSub, Int.reduceMul, Int.reduceEq, Int.reduceNe, Nat.reduceEqDiff, Nat.reduceAdd, Nat.reduceSub, Nat.reduceMul, Nat.reduceLT, Nat.reduceLeDiff, Nat.reduceBEq, Nat.reduceBNe, wr, dle, dlt,])
    | (refine xw_skip ?_; simp only [sq, bl])
    | (refine xw_exit ?_; simp only [sq, bl, if_true, if_false, Nat.reduceEqDiff])
    | (refine xw_label ?_; simp only [sq, bl]))
  first | refine xw_ret (post_ret ?_) | refine post_normal ?_ | refine xw_ret (postE_ret ?_) | refine postE_normal ?_
  simp only [go_sem, ↓reduceIte, Int.reduceLE, Int.reduceLT, Int.reduceToNat, Int.reduceNeg, Int.reduceAdd, Int.reduceSub, Int.reduceMul, Int.reduceEq, Int.reduceNe, Nat.reduceEqDiff, Nat.reduceAdd, Nat.reduceSub, Nat.reduceMul, Nat.reduceLT, Nat.reduceLeDiff, Nat.reduceBEq, Nat.reduceBNe, Tryz.results169, Tryz.f169]
theorem c_l1Wrong (bs : List Int) (p n : Int) (x : IV) (es : List (Int × Int)) (hb : bytes bs) (hp : 0 ≤ p ∧ p ≤ 100000) (hx : EL x es) (hl : es.length ≤ 900) (hn : 0 ≤ n ∧ n ≤ 17) :
    ∃ (n' : Int) (es' : List (Int × Int)) (p' : Int), 0 ≤ n' ∧ n' ≤ 17 ∧ es'.length ≤ es.length + 1 ∧ p ≤ p' ∧ p' ≤ p + 10 ∧
      KP 126 [.ptr 1000 0 0 0, .agg [I n, .i x]] [Rd bs p] = some (.agg [I n', .ref 2000 0 0 es'.length], [Rd bs p'], [.arr 0 2 (es'.map encE)]) := by
  suffices h : ∃ res, (∃ (n' : Int) (es' : List (Int × Int)) (p' : Int), 0 ≤ n' ∧ n' ≤ 17 ∧ es'.length ≤ es.length + 1 ∧ p ≤ p' ∧ p' ≤ p + 10 ∧ res = (PV.agg [I n', .ref 2000 0 0 es'.length], [Rd bs p'], [Arr.arr 0 2 (es'.map encE)])) ∧
      KP 126 [.ptr 1000 0 0 0, .agg [I n, .i x]] [Rd bs p] = some res by
    obtain ⟨res, ⟨n', es', p', h1, h2, h3, h4, h5, rfl⟩, h6⟩ := h
    exact ⟨n', es', p', h1, h2, h3, h4, h5, h6⟩
  have hcopy := c_l1Copy n es (by omega)
  have hf := hx.f
  have hfl := hx.fl
  obtain ⟨a, ha, _, hpa⟩ := c_pick bs p 16 hb (by omega) (by omega)
  cases ha0 : decide (0 < a)
  · cases hl0 : decide ((es.length : Int) = 0)
    · simp only [decide_eq_false_iff_not] at hl0
      have hl0' : es.length ≠ 0 := by omega
      obtain ⟨k, hk, _, hpk⟩ := c_pick bs (p + 1) es.length hb (by omega) (by omega)
      have hk' := hk (by omega)
      obtain ⟨w, hw, _, hpw⟩ := c_pick bs (p + 1 + 1) 5 hb (by omega) (by omega)
      obtain ⟨⟨u, v⟩, he⟩ : ∃ e, es[k.toNat]? = some e := ⟨es[k.toNat]'(by omega), by simp⟩
      cases hw0 : decide (w = 0)
      · cases hw1 : decide (w = 1)
        · cases hw2 : decide (w = 2)
          · refine xw_callE (fn := Tryz.f126) rfl Tryz.func126 rfl ⟨Nat.le_of_ble_eq_true rfl, rfl, rfl⟩ ?_
            repeat (first
              | refine xw_seq ?_
              | refine xw_block ?_
              | (refine xw_reg ?_; simp (disch := first | decide | omega) only [go_sem, ↓reduceIte, Int.reduceLE, Int.reduceLT, Int.reduceToNat, Int.reduceNeg, Int.reduceAdd, Int.reduceSub, Int.reduceMul, Int.reduceEq, Int.reduceNe, Nat.reduceEqDiff, Nat.reduceAdd, Nat.reduceSub, Nat.reduceMul, Nat.reduceLT, Nat.reduceLeDiff, Nat.reduceBEq, Nat.reduceBNe, wr, dle, dlt, hcopy, hf, hfl, hpa, ha0, hl0, hl0', hpk, hpw, hw0, hw1, hw2])
              | (refine xw_regd ?_; simp (disch := first | decide | omega) only [go_sem, ↓reduceIte, Int.reduceLE, Int.reduceLT, Int.reduceToNat, Int.reduceNeg, Int.reduceAdd, Int.reduceSub, Int.reduceMul, Int.reduceEq, Int.reduceNe, Nat.reduceEqDiff, Nat.reduceAdd, Nat.reduceSub, Nat.reduceMul, Nat.reduceLT, Nat.reduceLeDiff, Nat.reduceBEq, Nat.reduceBNe, wr, dle, dlt, hcopy, hf, hfl, hpa, ha0, hl0, hl0', hpk, hpw, hw0, hw1, hw2]; refine ⟨by kernel_rfl, ?_⟩)
              | (refine xw_if ?_; simp (disch := first | decide | omega) only [go_sem, ↓reduceIte, Int.reduceLE, Int.reduceLT, Int.reduceToNat, Int.reduceNeg, Int.reduceAdd, Int.reduceSub, Int.reduceMul, Int.reduceEq, Int.reduceNe, Nat.reduceEqDiff, Nat.reduceAdd, Nat.reduceSub, Nat.reduceMul, Nat.reduceLT, Nat.reduceLeDiff, Nat.reduceBEq, Nat.reduceBNe, wr, dle, dlt, hcopy, hf, hfl, hpa, ha0, hl0, hl0', hpk, hpw, hw0, hw1, hw2])
              | (refine xw_skip ?_; simp only [sq, bl])
              | (refine xw_exit ?_; simp only [sq, bl, if_true, if_false, Nat.reduceEqDiff])
              | (refine xw_label ?_; simp only [sq, bl]))
            first | refine xw_ret (post_ret ?_) | refine post_normal ?_ | refine xw_ret (postE_ret ?_) | refine postE_normal ?_
            simp only [go_sem, ↓reduceIte, Int.reduceLE, Int.reduceLT, Int.reduceToNat, Int.reduceNeg, Int.reduceAdd, Int.reduceSub, Int.reduceMul, Int.reduceEq, Int.reduceNe, Nat.reduceEqDiff, Nat.reduceAdd, Nat.reduceSub, Nat.reduceMul, Nat.reduceLT, Nat.reduceLeDiff, Nat.reduceBEq, Nat.reduceBNe, Tryz.results126, Tryz.f126]
            exact ⟨n, hn.1, hn.2, es, by omega, p + 1 + 1 + 1, by omega, by omega, rfl, rfl, rfl⟩
          · refine xw_callE (fn := Tryz.f126) rfl Tryz.func126 rfl ⟨Nat.le_of_ble_eq_true rfl, rfl, rfl⟩ ?_
            repeat (first
              | refine xw_seq ?_
              | refine xw_block ?_
              | (refine xw_reg ?_; simp (disch := first | decide | omega) only [go_sem, ↓reduceIte, Int.reduceLE, Int.reduceLT, Int.reduceToNat, Int.reduceNeg, Int.reduceAdd, Int.reduceSub, Int.reduceMul, Int.reduceEq, Int.reduceNe, Nat.reduceEqDiff, Nat.reduceAdd, Nat.reduceSub, Nat.reduceMul, Nat.reduceLT, Nat.reduceLeDiff, Nat.reduceBEq, Nat.reduceBNe, wr, dle, dlt, hcopy, hf, hfl, hpa, ha0, hl0, hl0', hpk, hpw, hw0, hw1, hw2, hk'.1, hk'.2, he, encE, List.getElem?_map])
              | (refine xw_regd ?_; simp (disch := first | decide | omega) only [go_sem, ↓reduceIte, Int.reduceLE, Int.reduceLT, Int.reduceToNat, Int.reduceNeg, Int.reduceAdd, Int.reduceSub, Int.reduceMul, Int.reduceEq, Int.reduceNe, Nat.reduceEqDiff, Nat.reduceAdd, Nat.reduceSub, Nat.reduceMul, Nat.reduceLT, Nat.reduceLeDiff, Nat.reduceBEq, Nat.reduceBNe, wr, dle, dlt, hcopy, hf, hfl, hpa, ha0, hl0, hl0', hpk, hpw, hw0, hw1, hw2, hk'.1, hk'.2, he, encE, List.getElem?_map]; refine ⟨by kernel_rfl, ?_⟩)
              | (refine xw_if ?_; simp (disch := first | decide | omega) only [go_sem, ↓reduceIte, Int.reduceLE, Int.reduceLT, Int.reduceToNat, Int.reduceNeg, Int.reduceAdd, Int.reduceSub, Int.reduceMul, Int.reduceEq, Int.reduceNe, Nat.reduceEqDiff, Nat.reduceAdd, Nat.reduceSub, Nat.reduceMul, Nat.reduceLT, Nat.reduceLeDiff, Nat.reduceBEq, Nat.reduceBNe, wr, dle, dlt, hcopy, hf, hfl, hpa, ha0, hl0, hl0', hpk, hpw, hw0, hw1, hw2, hk'.1, hk'.2, he, encE, List.getElem?_map])
              | (refine xw_skip ?_; simp only [sq, bl])
              | (refine xw_exit ?_; simp only [sq, bl, if_true, if_false, Nat.reduceEqDiff])
              | (refine xw_label ?_; simp only [sq, bl]))
            first | refine xw_ret (post_ret ?_) | refine post_normal ?_ | refine xw_ret (postE_ret ?_) | refine postE_normal ?_
            simp only [go_sem, ↓reduceIte, Int.reduceLE, Int.reduceLT, Int.reduceToNat, Int.reduceNeg, Int.reduceAdd, Int.reduceSub, Int.reduceMul, Int.reduceEq, Int.reduceNe, Nat.reduceEqDiff, Nat.reduceAdd, Nat.reduceSub, Nat.reduceMul, Nat.reduceLT, Nat.reduceLeDiff, Nat.reduceBEq, Nat.reduceBNe, Tryz.results126, Tryz.f126]
            exact ⟨n, hn.1, hn.2, es ++ [(u, v)], by simp, p + 1 + 1 + 1, by omega, by omega, by simp, rfl, by simp [encE]⟩
        · obtain ⟨y, hy, hnum⟩ := c_num bs (p + 1 + 1 + 1) [0, 17, 1] hb (by omega) (by simp) (by simp)
          have hy' : 0 ≤ y ∧ y ≤ 17 := by
            have : ∀ x ∈ [0, 17, (1 : Int)], 0 ≤ x ∧ x ≤ 17 := by decide
            exact this y hy
          simp only [List.map_cons, List.map_nil, encI, List.length_cons, List.length_nil, Nat.reduceAdd] at hnum
          refine xw_callE (fn := Tryz.f126) rfl Tryz.func126 rfl ⟨Nat.le_of_ble_eq_true rfl, rfl, rfl⟩ ?_
          repeat (first
            | refine xw_seq ?_
            | refine xw_block ?_
            | (refine xw_reg ?_; simp (disch := first | decide | omega) only [go_sem, ↓reduceIte, Int.reduceLE, Int.reduceLT, Int.reduceToNat, Int.reduceNeg, Int.reduceAdd, Int.reduceSub, Int.reduceMul, Int.reduceEq, Int.reduceNe, Nat.reduceEqDiff, Nat.reduceAdd, Nat.reduceSub, Nat.reduceMul, Nat.reduceLT, Nat.reduceLeDiff, Nat.reduceBEq, Nat.reduceBNe, wr, dle, dlt, hcopy, hf, hfl, hpa, ha0, hl0, hl0', hpk, hpw, hw0, hw1, hnum])
            | (refine xw_regd ?_; simp (disch := first | decide | omega) only [go_sem, ↓reduceIte, Int.reduceLE, Int.reduceLT, Int.reduceToNat, Int.reduceNeg, Int.reduceAdd, Int.reduceSub, Int.reduceMul, Int.reduceEq, Int.reduceNe, Nat.reduceEqDiff, Nat.reduceAdd, Nat.reduceSub, Nat.reduceMul, Nat.reduceLT, Nat.reduceLeDiff, Nat.reduceBEq, Nat.reduceBNe, wr, dle, dlt, hcopy, hf, hfl, hpa, ha0, hl0, hl0', hpk, hpw, hw0, hw1, hnum]; refine ⟨by kernel_rfl, ?_⟩)
            | (refine xw_if ?_; simp (disch := first | decide | omega) only [go_sem, ↓reduceIte, Int.reduceLE, Int.reduceLT, Int.reduceToNat, Int.reduceNeg, Int.reduceAdd, Int.reduceSub, Int.reduceMul, Int.reduceEq, Int.reduceNe, Nat.reduceEqDiff, Nat.reduceAdd, Nat.reduceSub, Nat.reduceMul, Nat.reduceLT, Nat.reduceLeDiff, Nat.reduceBEq, Nat.reduceBNe, wr, dle, dlt, hcopy, hf, hfl, hpa, ha0, hl0, hl0', hpk, hpw, hw0, hw1, hnum])
            | (refine xw_skip ?_; simp only [sq, bl])
            | (refine xw_exit ?_; simp only [sq, bl, if_true, if_false, Nat.reduceEqDiff])
            | (refine xw_label ?_; simp only [sq, bl]))
          first | refine xw_ret (post_ret ?_) | refine post_normal ?_ | refine xw_ret (postE_ret ?_) | refine postE_normal ?_
          simp only [go_sem, ↓reduceIte, Int.reduceLE, Int.reduceLT, Int.reduceToNat, Int.reduceNeg, Int.reduceAdd, Int.reduceSub, Int.reduceMul, Int.reduceEq, Int.reduceNe, Nat.reduceEqDiff, Nat.reduceAdd, Nat.reduceSub, Nat.reduceMul, Nat.reduceLT, Nat.reduceLeDiff, Nat.reduceBEq, Nat.reduceBNe, Tryz.results126, Tryz.f126]
          exact ⟨y, hy'.1, hy'.2, es, by omega, p + 1 + 1 + 1 + 1, by omega, by omega, rfl, rfl, rfl⟩
      · obtain ⟨y, hy, hnum⟩ := c_num bs (p + 1 + 1 + 1) [16, -1, 0] hb (by omega) (by simp) (by simp)
        simp only [List.map_cons, List.map_nil, encI, List.length_cons, List.length_nil, Nat.reduceAdd] at hnum
        refine xw_callE (fn := Tryz.f126) rfl Tryz.func126 rfl ⟨Nat.le_of_ble_eq_true rfl, rfl, rfl⟩ ?_
        repeat (first
          | refine xw_seq ?_
          | refine xw_block ?_
          | (refine xw_reg ?_; simp (disch := first | decide | omega) only [go_sem, ↓reduceIte, Int.reduceLE, Int.reduceLT, Int.reduceToNat, Int.reduceNeg, Int.reduceAdd, Int.reduceSub, Int.reduceMul, Int.reduceEq, Int.reduceNe, Nat.reduceEqDiff, Nat.reduceAdd, Nat.reduceSub, Nat.reduceMul, Nat.reduceLT, Nat.reduceLeDiff, Nat.reduceBEq, Nat.reduceBNe, wr, dle, dlt, hcopy, hf, hfl, hpa, ha0, hl0, hl0', hpk, hpw, hw0, hnum, hk'.1, hk'.2, he, encE, List.getElem?_map])
          | (refine xw_regd ?_; simp (disch := first | decide | omega) only [go_sem, ↓reduceIte, Int.reduceLE, Int.reduceLT, Int.reduceToNat, Int.reduceNeg, Int.reduceAdd, Int.reduceSub, Int.reduceMul, Int.reduceEq, Int.reduceNe, Nat.reduceEqDiff, Nat.reduceAdd, Nat.reduceSub, Nat.reduceMul, Nat.reduceLT, Nat.reduceLeDiff, Nat.reduceBEq, Nat.reduceBNe, wr, dle, dlt, hcopy, hf, hfl, hpa, ha0, hl0, hl0', hpk, hpw, hw0, hnum, hk'.1, hk'.2, he, encE, List.getElem?_map]; refine ⟨by kernel_rfl, ?_⟩)
          | (refine xw_if ?_; simp (disch := first | decide | omega) only [go_sem, ↓reduceIte, Int.reduceLE, Int.reduceLT, Int.reduceToNat, Int.reduceNeg, Int.reduceAdd, Int.reduceSub, Int.reduceMul, Int.reduceEq, Int.reduceNe, Nat.reduceEqDiff, Nat.reduceAdd, Nat.reduceSub, Nat.reduceMul, Nat.reduceLT, Nat.reduceLeDiff, Nat.reduceBEq, Nat.reduceBNe, wr, dle, dlt, hcopy, hf, hfl, hpa, ha0, hl0, hl0', hpk, hpw, hw0, hnum, hk'.1, hk'.2, he, encE, List.getElem?_map])
          | (refine xw_skip ?_; simp only [sq, bl])
          | (refine xw_exit ?_; simp only [sq, bl, if_true, if_false, Nat.reduceEqDiff])
          | (refine xw_label ?_; simp only [sq, bl]))
        first | refine xw_ret (post_ret ?_) | refine post_normal ?_ | refine xw_ret (postE_ret ?_) | refine postE_normal ?_
        simp only [go_sem, ↓reduceIte, Int.reduceLE, Int.reduceLT, Int.reduceToNat, Int.reduceNeg, Int.reduceAdd, Int.reduceSub, Int.reduceMul, Int.reduceEq, Int.reduceNe, Nat.reduceEqDiff, Nat.reduceAdd, Nat.reduceSub, Nat.reduceMul, Nat.reduceLT, Nat.reduceLeDiff, Nat.reduceBEq, Nat.reduceBNe, Tryz.results126, Tryz.f126]
        exact ⟨n, hn.1, hn.2, es.set k.toNat (u, y), by simp, p + 1 + 1 + 1 + 1, by omega, by omega, by simp, rfl, by simp [encE, List.map_set]⟩
    · refine xw_callE (fn := Tryz.f126) rfl Tryz.func126 rfl ⟨Nat.le_of_ble_eq_true rfl, rfl, rfl⟩ ?_
      repeat (first
        | refine xw_seq ?_
        | refine xw_block ?_
        | (refine xw_reg ?_; simp (disch := first | decide | omega) only [go_sem, ↓reduceIte, Int.reduceLE, Int.reduceLT, Int.reduceToNat, Int.reduceNeg, Int.reduceAdd, Int.reduceSub, Int.reduceMul, Int.reduceEq, Int.reduceNe, Nat.reduceEqDiff, Nat.reduceAdd, Nat.reduceSub, Nat.reduceMul, Nat.reduceLT, Nat.reduceLeDiff, Nat.reduceBEq, Nat.reduceBNe, wr, dle, dlt, hcopy, hf, hfl, hpa, ha0, hl0])
        | (refine xw_regd ?_; simp (disch := first | decide | omega) only [go_sem, ↓reduceIte, Int.reduceLE, Int.reduceLT, Int.reduceToNat, Int.reduceNeg, Int.reduceAdd, Int.reduceSub, Int.reduceMul, Int.reduceEq, Int.reduceNe, Nat.reduceEqDiff, Nat.reduceAdd, Nat.reduceSub, Nat.reduceMul, Nat.reduceLT, Nat.reduceLeDiff, Nat.reduceBEq, Nat.reduceBNe, wr, dle, dlt, hcopy, hf, hfl, hpa, ha0, hl0]; refine ⟨by kernel_rfl, ?_⟩)
        | (refine xw_if ?_; simp (disch := first | decide | omega) only [go_sem, ↓reduceIte, Int.reduceLE, Int.reduceLT, Int.reduceToNat, Int.reduceNeg, Int.reduceAdd, Int.reduceSub, Int.reduceMul, Int.reduceEq, Int.reduceNe, Nat.reduceEqDiff, Nat.reduceAdd, Nat.reduceSub, Nat.reduceMul, Nat.reduceLT, Nat.reduceLeDiff, Nat.reduceBEq, Nat.reduceBNe, wr, dle, dlt, hcopy, hf, hfl, hpa, ha0, hl0])
        | (refine xw_skip ?_; simp only [sq, bl])
        | (refine xw_exit ?_; simp only [sq, bl, if_true, if_false, Nat.reduceEqDiff])
        | (refine xw_label ?_; simp only [sq, bl]))
      first | refine xw_ret (post_ret ?_) | refine post_normal ?_ | refine xw_ret (postE_ret ?_) | refine postE_normal ?_
      simp only [go_sem, ↓reduceIte, Int.reduceLE, Int.reduceLT, Int.reduceToNat, Int.reduceNeg, Int.reduceAdd, Int.reduceSub, Int.reduceMul, Int.reduceEq, Int.reduceNe, Nat.reduceEqDiff, Nat.reduceAdd, Nat.reduceSub, Nat.reduceMul, Nat.reduceLT, Nat.reduceLeDiff, Nat.reduceBEq, Nat.reduceBNe, Tryz.results126, Tryz.f126]
      exact ⟨n, hn.1, hn.2, es, by omega, p + 1, by omega, by omega, rfl, rfl, rfl⟩
  · refine xw_callE (fn := Tryz.f126) rfl Tryz.func126 rfl ⟨Nat.le_of_ble_eq_true rfl, rfl, rfl⟩ ?_
    repeat (first
      | refine xw_seq ?_
      | refine xw_block ?_
      | (refine xw_reg ?_; simp (disch := first | decide | omega) only [go_sem, ↓reduceIte, Int.reduceLE, Int.reduceLT, Int.reduceToNat, Int.reduceNeg, Int.reduceAdd, Int.reduceSub, Int.reduceMul, Int.reduceEq, Int.reduceNe, Nat.reduceEqDiff, Nat.reduceAdd, Nat.reduceSub, Nat.reduceMul, Nat.reduceLT, Nat.reduceLeDiff, Nat.reduceBEq, Nat.reduceBNe, wr, dle, dlt, hcopy, hf, hfl, hpa, ha0])
      | (refine xw_regd ?_; simp (disch := first | decide | omega) only [go_sem, ↓reduceIte, Int.reduceLE, Int.reduceLT, Int.reduceToNat, Int.reduceNeg, Int.reduceAdd, Int.reduceSub, Int.reduceMul, Int.reduceEq, Int.reduceNe, Nat.reduceEqDiff, Nat.reduceAdd, Nat.reduceSub, Nat.reduceMul, Nat.reduceLT, Nat.reduceLeDiff, Nat.reduceBEq, Nat.reduceBNe, wr, dle, dlt, hcopy, hf, hfl, hpa, ha0]; refine ⟨by kernel_rfl, ?_⟩)
      | (refine xw_if ?_; simp (disch := first | decide | omega) only [go_sem, ↓reduceIte, Int.reduceLE, Int.reduceLT, Int.reduceToNat, Int.reduceNeg, Int.reduceAdd, Int.reduceSub, Int.reduceMul, Int.reduceEq, Int.reduceNe, Nat.reduceEqDiff, Nat.reduceAdd, Nat.reduceSub, Nat.reduceMul, Nat.reduceLT, Nat.reduceLeDiff, Nat.reduceBEq, Nat.reduceBNe, wr, dle, dlt, hcopy, hf, hfl, hpa, ha0])
      | (refine xw_skip ?_; simp only [sq, bl])
      | (refine xw_exit ?_; simp only [sq, bl, if_true, if_false, Nat.reduceEqDiff])
      | (refine xw_label ?_; simp only [sq, bl]))
    first | refine xw_ret (post_ret ?_) | refine post_normal ?_ | refine xw_ret (postE_ret ?_) | refine postE_normal ?_
    simp only [go_sem, ↓reduceIte, Int.reduceLE, Int.reduceLT, Int.reduceToNat, Int.reduceNeg, Int.reduceAdd, Int.reduceSub, Int.reduceMul, Int.reduceEq, Int.reduceNe, Nat.reduceEqDiff, Nat.reduceAdd, Nat.reduceSub, Nat.reduceMul, Nat.reduceLT, Nat.reduceLeDiff, Nat.reduceBEq, Nat.reduceBNe, Tryz.results126, Tryz.f126]
    exact ⟨n, hn.1, hn.2, es, by omega, p + 1, by omega, by omega, rfl, rfl, rfl⟩
end Go.Proofs.YtdjdgnabcecdlaaGreatDoor.X

/- What functions compute: a graph and a node. -/
set_option linter.unusedSimpArgs false
set_option linter.unusedVariables false
set_option maxHeartbeats 2000000
namespace Go.Proofs.YtdjdgnabcecdlaaGreatDoor.X
open Go Go.Proofs
theorem c_l1Node (bs : List Int) (hb : ∀ b ∈ bs, 0 ≤ b ∧ b < 256) (hl : bs.length ≤ 1000000000) :
    ∃ (n : Int) (es : List (Int × Int)) (v : Int), 0 ≤ n ∧ n ≤ 17 ∧ es.length ≤ 40 ∧ -1 ≤ v ∧ v ≤ 16 ∧ KP 97 [LB bs] [] = some (.tup [GL n es, I v], [], []) := by
  obtain ⟨cs, hcs, hopen⟩ := c_l14Open bs hb hl
  obtain ⟨n, es, p, hn1, hn2, ho, hes, hel, hp1, hp2, hdraw⟩ := c_l1Draw cs 0 hcs (by omega)
  obtain ⟨v, hv, _, hpv⟩ := c_pick cs p n hcs (by omega) (by omega)
  have hv' := hv hn1
  obtain ⟨w, hw, _, hpw⟩ := c_pick cs (p + 1) 20 hcs (by omega) (by omega)
  cases hw0 : decide (w = 0)
  · obtain ⟨n', es', p', h1, h2, h3, h4, h5, hwr⟩ := c_l1Wrong cs (p + 1 + 1) n (qe es) es hcs (by omega) (EL.qe es) (by omega) (by omega)
    refine ⟨n', es', v, h1, h2, by omega, by omega, by omega, xw_call (fn := Tryz.f97) rfl Tryz.func97 rfl ⟨Nat.le_of_ble_eq_true rfl, rfl, rfl⟩ ?_⟩
    repeat (first
      | refine xw_seq ?_
      | refine xw_block ?_
      | (refine xw_reg ?_; simp (disch := first | decide | omega) only [go_sem, ↓reduceIte, Int.reduceLE, Int.reduceLT, Int.reduceToNat, Int.reduceNeg, Int.reduceAdd, Int.reduceSub, Int.reduceMul, Int.reduceEq, Int.reduceNe, Nat.reduceEqDiff, Nat.reduceAdd, Nat.reduceSub, Nat.reduceMul, Nat.reduceLT, Nat.reduceLeDiff, Nat.reduceBEq, Nat.reduceBNe, wr, dle, dlt, hopen, hdraw, hpv, hpw, hw0, hwr])
      | (refine xw_regd ?_; simp (disch := first | decide | omega) only [go_sem, ↓reduceIte, Int.reduceLE, Int.reduceLT, Int.reduceToNat, Int.reduceNeg, Int.reduceAdd, Int.reduceSub, Int.reduceMul, Int.reduceEq, Int.reduceNe, Nat.reduceEqDiff, Nat.reduceAdd, Nat.reduceSub, Nat.reduceMul, Nat.reduceLT, Nat.reduceLeDiff, Nat.reduceBEq, Nat.reduceBNe, wr, dle, dlt, hopen, hdraw, hpv, hpw, hw0, hwr]; refine ⟨by kernel_rfl, ?_⟩)
      | (refine xw_if ?_; simp (disch := first | decide | omega) only [go_sem, ↓reduceIte, Int.reduceLE, Int.reduceLT, Int.reduceToNat, Int.reduceNeg, Int.reduceAdd, Int.reduceSub, Int.reduceMul, Int.reduceEq, Int.reduceNe, Nat.reduceEqDiff, Nat.reduceAdd, Nat.reduceSub, Nat.reduceMul, Nat.reduceLT, Nat.reduceLeDiff, Nat.reduceBEq, Nat.reduceBNe, wr, dle, dlt, hopen, hdraw, hpv, hpw, hw0, hwr])
      | (refine xw_skip ?_; simp only [sq, bl])
      | (refine xw_exit ?_; simp only [sq, bl, if_true, if_false, Nat.reduceEqDiff])
      | (refine xw_label ?_; simp only [sq, bl]))
    first | refine xw_ret (post_ret ?_) | refine post_normal ?_ | refine xw_ret (postE_ret ?_) | refine postE_normal ?_
    simp only [go_sem, ↓reduceIte, Int.reduceLE, Int.reduceLT, Int.reduceToNat, Int.reduceNeg, Int.reduceAdd, Int.reduceSub, Int.reduceMul, Int.reduceEq, Int.reduceNe, Nat.reduceEqDiff, Nat.reduceAdd, Nat.reduceSub, Nat.reduceMul, Nat.reduceLT, Nat.reduceLeDiff, Nat.reduceBEq, Nat.reduceBNe, Tryz.results97, Tryz.f97]
  · obtain ⟨y, hy, hnum⟩ := c_num cs (p + 1 + 1) [-1, 16] hcs (by omega) (by simp) (by simp)
    have hy' : -1 ≤ y ∧ y ≤ 16 := by
      have : ∀ x ∈ [-1, (16 : Int)], -1 ≤ x ∧ x ≤ 16 := by decide
      exact this y hy
    simp only [List.map_cons, List.map_nil, encI, List.length_cons, List.length_nil, Nat.reduceAdd] at hnum
    obtain ⟨n', es', p', h1, h2, h3, h4, h5, hwr⟩ := c_l1Wrong cs (p + 1 + 1 + 1) n (qe es) es hcs (by omega) (EL.qe es) (by omega) (by omega)
    refine ⟨n', es', y, h1, h2, by omega, by omega, by omega, xw_call (fn := Tryz.f97) rfl Tryz.func97 rfl ⟨Nat.le_of_ble_eq_true rfl, rfl, rfl⟩ ?_⟩
    repeat (first
      | refine xw_seq ?_
      | refine xw_block ?_
      | (refine xw_reg ?_; simp (disch := first | decide | omega) only [go_sem, ↓reduceIte, Int.reduceLE, Int.reduceLT, Int.reduceToNat, Int.reduceNeg, Int.reduceAdd, Int.reduceSub, Int.reduceMul, Int.reduceEq, Int.reduceNe, Nat.reduceEqDiff, Nat.reduceAdd, Nat.reduceSub, Nat.reduceMul, Nat.reduceLT, Nat.reduceLeDiff, Nat.reduceBEq, Nat.reduceBNe, wr, dle, dlt, hopen, hdraw, hpv, hpw, hw0, hnum, hwr])
      | (refine xw_regd ?_; simp (disch := first | decide | omega) only [go_sem, ↓reduceIte, Int.reduceLE, Int.reduceLT, Int.reduceToNat, Int.reduceNeg, Int.reduceAdd, Int.reduceSub, Int.reduceMul, Int.reduceEq, Int.reduceNe, Nat.reduceEqDiff, Nat.reduceAdd, Nat.reduceSub, Nat.reduceMul, Nat.reduceLT, Nat.reduceLeDiff, Nat.reduceBEq, Nat.reduceBNe, wr, dle, dlt, hopen, hdraw, hpv, hpw, hw0, hnum, hwr]; refine ⟨by kernel_rfl, ?_⟩)
      | (refine xw_if ?_; simp (disch := first | decide | omega) only [go_sem, ↓reduceIte, Int.reduceLE, Int.reduceLT, Int.reduceToNat, Int.reduceNeg, Int.reduceAdd, Int.reduceSub, Int.reduceMul, Int.reduceEq, Int.reduceNe, Nat.reduceEqDiff, Nat.reduceAdd, Nat.reduceSub, Nat.reduceMul, Nat.reduceLT, Nat.reduceLeDiff, Nat.reduceBEq, Nat.reduceBNe, wr, dle, dlt, hopen, hdraw, hpv, hpw, hw0, hnum, hwr])
      | (refine xw_skip ?_; simp only [sq, bl])
      | (refine xw_exit ?_; simp only [sq, bl, if_true, if_false, Nat.reduceEqDiff])
      | (refine xw_label ?_; simp only [sq, bl]))
    first | refine xw_ret (post_ret ?_) | refine post_normal ?_ | refine xw_ret (postE_ret ?_) | refine postE_normal ?_
    simp only [go_sem, ↓reduceIte, Int.reduceLE, Int.reduceLT, Int.reduceToNat, Int.reduceNeg, Int.reduceAdd, Int.reduceSub, Int.reduceMul, Int.reduceEq, Int.reduceNe, Nat.reduceEqDiff, Nat.reduceAdd, Nat.reduceSub, Nat.reduceMul, Nat.reduceLT, Nat.reduceLeDiff, Nat.reduceBEq, Nat.reduceBNe, Tryz.results97, Tryz.f97]
end Go.Proofs.YtdjdgnabcecdlaaGreatDoor.X
