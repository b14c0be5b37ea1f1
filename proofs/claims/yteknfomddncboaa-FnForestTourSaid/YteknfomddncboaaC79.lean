/- What functions compute: tours of trees, edges of tours. -/
import Derived.Test.YteknfomddncboaaC71
import Derived.Test.YteknfomddncboaaC78
set_option linter.unusedSimpArgs false
set_option linter.unusedVariables false
set_option maxHeartbeats 8000000
set_option maxRecDepth 100000
namespace Go.Proofs.Yteknfomddncboaa.X
open Go Go.Proofs
/-- A tree with a node in it. -/
def TO (n : Int) (es : List (Int × Int)) (r : Int) : Prop := VG n es ∧ inN n r ∧ Tree n es
noncomputable instance decTree (n : Int) (es : List (Int × Int)) : Decidable (Tree n es) := Classical.propDecidable _
noncomputable instance decTO (n : Int) (es : List (Int × Int)) (r : Int) : Decidable (TO n es r) := Classical.propDecidable _
abbrev toL (n : Int) (es : List (Int × Int)) (r : Int) : List Int := tourL es n.toNat r (-1)
theorem TO.at' {n : Int} {es : List (Int × Int)} {r : Int} (h : TO n es r) : At n es r r (-1) ∧ n - dst n es r r ≤ n.toNat := by
  have h0 : 0 ≤ n := by have := h.1.1; omega
  exact ⟨⟨.refl _, h.2.1, .inl ⟨rfl, rfl⟩⟩, by rw [dst_self h.1.okg.ok h0]; omega⟩
theorem c_TourOf (n r : Int) (es : List (Int × Int)) (hl : es.length ≤ 1048576) : KP 41 [GL n es, I r] [] =
    some (if TO n es r then (.tup [.ref 2000 0 0 (toL n es r).length, B true], [], [.arr 0 1 ((toL n es r).map encI)]) else (.tup [.i .emp, B false], [], [])) := by
  have hhn := c_hasNode n es r hl
  by_cases h1 : VG n es ∧ 0 ≤ r ∧ r < n
  rotate_left
  · have hno : ¬ TO n es r := fun h => h1 ⟨h.1, h.2.1⟩
    rw [if_neg hno]
    rw [decide_eq_false h1] at hhn
    refine xw_call (fn := Try.f41) rfl Try.func41 rfl ⟨Nat.le_of_ble_eq_true rfl, rfl, rfl⟩ ?_
    repeat' (first
      | refine xw_seq ?_
      | refine xw_block ?_
      | (refine ite_two ?_ ?_ <;> intro _ <;> first | (exfalso; omega) | skip)
      | refine ord_split (by kernel_rfl) ?_
      | (refine xw_ret ?_ <;> try simp only [sq, bl, LQ])
      | ((first | refine xw_reg ?_ | refine xw_regd ?_ | refine xw_if ?_ | refine xw_skip ?_ | refine xw_exit ?_ | refine xw_label ?_ | refine post_ret ?_ | refine post_normal ?_ | refine postE_ret ?_ | refine postE_normal ?_) <;> simp (config := { maxSteps := 3000000 }) (disch := first | assumption | omega | exact VG.okg (by assumption) | (simp only [List.length_set, List.length_append, List.length_cons, List.length_nil, List.length_replicate]; omega)) only [go_sem, ↓reduceIte, Int.reduceLE, Int.reduceLT, Int.reduceToNat, Int.reduceNeg, Int.reduceAdd, Int.reduceSub, Int.reduceMul, Int.reduceEq, Int.reduceNe, Nat.reduceEqDiff, Nat.reduceAdd, Nat.reduceSub, Nat.reduceMul, Nat.reduceLT, Nat.reduceLeDiff, Nat.reduceBEq, Nat.reduceBNe, Try.results41, hhn])
      | (((first | refine at_region ?_ | refine at_out ?_ | refine at_cond ?_); split) <;> first | (exfalso; omega; done) | simp (config := { maxSteps := 3000000 }) (disch := first | assumption | omega | exact VG.okg (by assumption) | (simp only [List.length_set, List.length_append, List.length_cons, List.length_nil, List.length_replicate]; omega)) only [go_sem, ↓reduceIte, Int.reduceLE, Int.reduceLT, Int.reduceToNat, Int.reduceNeg, Int.reduceAdd, Int.reduceSub, Int.reduceMul, Int.reduceEq, Int.reduceNe, Nat.reduceEqDiff, Nat.reduceAdd, Nat.reduceSub, Nat.reduceMul, Nat.reduceLT, Nat.reduceLeDiff, Nat.reduceBEq, Nat.reduceBNe, Try.results41, hhn] | skip))
  rw [decide_eq_true h1] at hhn
  have hV := h1.1
  have hel := hV.2.2.1
  have hff := c_forest n es hV.okg
  have hlq := lenP_qe (es := forestL es)
  have hfl := (forest_sub hV.okg.ok).length_le
  have htr := tree_forest (n := n) hV.okg.ok
  by_cases h2 : Tree n es
  rotate_left
  · have hno : ¬ TO n es r := fun h => h2 h.2.2
    rw [if_neg hno]
    have hlt : ((forestL es).length : Int) < es.length := by
      have h3 : (forestL es).length ≠ es.length := fun e => h2 (htr.1 e)
      omega
    refine xw_call (fn := Try.f41) rfl Try.func41 rfl ⟨Nat.le_of_ble_eq_true rfl, rfl, rfl⟩ ?_
    repeat' (first
      | refine xw_seq ?_
      | refine xw_block ?_
      | (refine ite_two ?_ ?_ <;> intro _ <;> first | (exfalso; omega) | skip)
      | refine ord_split (by kernel_rfl) ?_
      | (refine xw_ret ?_ <;> try simp only [sq, bl, LQ])
      | ((first | refine xw_reg ?_ | refine xw_regd ?_ | refine xw_if ?_ | refine xw_skip ?_ | refine xw_exit ?_ | refine xw_label ?_ | refine post_ret ?_ | refine post_normal ?_ | refine postE_ret ?_ | refine postE_normal ?_) <;> simp (config := { maxSteps := 3000000 }) (disch := first | assumption | omega | exact VG.okg (by assumption) | (simp only [List.length_set, List.length_append, List.length_cons, List.length_nil, List.length_replicate]; omega)) only [go_sem, ↓reduceIte, Int.reduceLE, Int.reduceLT, Int.reduceToNat, Int.reduceNeg, Int.reduceAdd, Int.reduceSub, Int.reduceMul, Int.reduceEq, Int.reduceNe, Nat.reduceEqDiff, Nat.reduceAdd, Nat.reduceSub, Nat.reduceMul, Nat.reduceLT, Nat.reduceLeDiff, Nat.reduceBEq, Nat.reduceBNe, Try.results41, hhn, hff, hlq, hlt])
      | (((first | refine at_region ?_ | refine at_out ?_ | refine at_cond ?_); split) <;> first | (exfalso; omega; done) | simp (config := { maxSteps := 3000000 }) (disch := first | assumption | omega | exact VG.okg (by assumption) | (simp only [List.length_set, List.length_append, List.length_cons, List.length_nil, List.length_replicate]; omega)) only [go_sem, ↓reduceIte, Int.reduceLE, Int.reduceLT, Int.reduceToNat, Int.reduceNeg, Int.reduceAdd, Int.reduceSub, Int.reduceMul, Int.reduceEq, Int.reduceNe, Nat.reduceEqDiff, Nat.reduceAdd, Nat.reduceSub, Nat.reduceMul, Nat.reduceLT, Nat.reduceLeDiff, Nat.reduceBEq, Nat.reduceBNe, Try.results41, hhn, hff, hlq, hlt] | skip))
  have hT : TO n es r := ⟨hV, h1.2, h2⟩
  rw [if_pos hT]
  obtain ⟨ha, hf⟩ := hT.at'
  have hto := c_tour hV.okg hV.nodup h2 n.toNat r (-1) ha hf
  have hge : ¬ ((forestL es).length : Int) < es.length := by have := htr.2 h2; omega
  have htk : (toL n es r).take (toL n es r).length = toL n es r := List.take_length
  refine xw_call (fn := Try.f41) rfl Try.func41 rfl ⟨Nat.le_of_ble_eq_true rfl, rfl, rfl⟩ ?_
  repeat' (first
    | refine xw_seq ?_
    | refine xw_block ?_
    | (refine ite_two ?_ ?_ <;> intro _ <;> first | (exfalso; omega) | skip)
    | refine ord_split (by kernel_rfl) ?_
    | (refine xw_ret ?_ <;> try simp only [sq, bl, LQ])
    | ((first | refine xw_reg ?_ | refine xw_regd ?_ | refine xw_if ?_ | refine xw_skip ?_ | refine xw_exit ?_ | refine xw_label ?_ | refine post_ret ?_ | refine post_normal ?_ | refine postE_ret ?_ | refine postE_normal ?_) <;> simp (config := { maxSteps := 3000000 }) (disch := first | assumption | omega | exact VG.okg (by assumption) | (simp only [List.length_set, List.length_append, List.length_cons, List.length_nil, List.length_replicate]; omega)) only [go_sem, ↓reduceIte, Int.reduceLE, Int.reduceLT, Int.reduceToNat, Int.reduceNeg, Int.reduceAdd, Int.reduceSub, Int.reduceMul, Int.reduceEq, Int.reduceNe, Nat.reduceEqDiff, Nat.reduceAdd, Nat.reduceSub, Nat.reduceMul, Nat.reduceLT, Nat.reduceLeDiff, Nat.reduceBEq, Nat.reduceBNe, Try.results41, hhn, hff, hlq, hge, hto, htk])
    | (((first | refine at_region ?_ | refine at_out ?_ | refine at_cond ?_); split) <;> first | (exfalso; omega; done) | simp (config := { maxSteps := 3000000 }) (disch := first | assumption | omega | exact VG.okg (by assumption) | (simp only [List.length_set, List.length_append, List.length_cons, List.length_nil, List.length_replicate]; omega)) only [go_sem, ↓reduceIte, Int.reduceLE, Int.reduceLT, Int.reduceToNat, Int.reduceNeg, Int.reduceAdd, Int.reduceSub, Int.reduceMul, Int.reduceEq, Int.reduceNe, Nat.reduceEqDiff, Nat.reduceAdd, Nat.reduceSub, Nat.reduceMul, Nat.reduceLT, Nat.reduceLeDiff, Nat.reduceBEq, Nat.reduceBNe, Try.results41, hhn, hff, hlq, hge, hto, htk] | skip))
end Go.Proofs.Yteknfomddncboaa.X
