/- What functions answer, and the plain laws behind it. -/
import Derived.Test.YtmocnnknnbalkaaGreatDoorC4
/- What functions compute: graphs that may be wrong. -/
set_option linter.unusedSimpArgs false
set_option linter.unusedVariables false
set_option maxHeartbeats 2000000
namespace Go.Proofs.YtmocnnknnbalkaaGreatDoor.X
open Go Go.Proofs
abbrev GL (n : Int) (es : List (Int × Int)) : PV := .agg [I n, LE es]
/-- A list of edges, in whatever form. -/
structure EL (x : IV) (es : List (Int × Int)) : Prop where
  f : ∀ n, frz n (.i x) = .ret (.lst (es.map encE))
  fl : x.flat = true
theorem EL.qe (es : List (Int × Int)) : EL (qe es) es := ⟨fun _ => frz_qe, flat_qe⟩
theorem EL.lst (es : List (Int × Int)) : EL (.lst (es.map encE)) es := ⟨fun n => by cases n <;> rfl, rfl⟩
theorem c_l1Copy (n : Int) (es : List (Int × Int)) (hl : es.length ≤ 1048576) : KP 47 [GL n es] [] = some (.agg [I n, .ref 2000 0 0 es.length], [], [.arr 0 2 (es.map encE)]) := by
  refine xw_call (fn := Tryz.f47) rfl Tryz.func47 rfl ⟨Nat.le_of_ble_eq_true rfl, rfl, rfl⟩ ?_
  repeat (first
    | refine xw_seq ?_
    | refine xw_block ?_
    | (refine xw_reg ?_; simp (disch := first | decide | omega) only [go_sem, ↓reduceIte, Int.reduceLE, Int.reduceLT, Int.reduceToNat, Int.reduceNeg, Int.reduceAdd, Int.reduceSub, Int.reduceMul, Int.reduceEq, Int.reduceNe, Nat.reduceEqDiff, Nat.reduceAdd, Nat.reduceSub, Nat.reduceMul, Nat.reduceLT, Nat.reduceLeDiff, Nat.reduceBEq, Nat.reduceBNe, UInt8.reduceToNat, wr, dle, dlt,])
    | (refine xw_regd ?_; simp (disch := first | decide | omega) only [go_sem, ↓reduceIte, Int.reduceLE, Int.reduceLT, Int.reduceToNat, Int.reduceNeg, Int.reduceAdd, Int.reduceSub, Int.reduceMul, Int.reduceEq, Int.reduceNe, Nat.reduceEqDiff, Nat.reduceAdd, Nat.reduceSub, Nat.reduceMul, Nat.reduceLT, Nat.reduceLeDiff, Nat.reduceBEq, Nat.reduceBNe, UInt8.reduceToNat, wr, dle, dlt,]; refine ⟨by kernel_rfl, ?_⟩)
    | (refine xw_if ?_; simp (disch := first | decide | omega) only [go_sem, ↓reduceIte, Int.reduceLE, Int.reduceLT, Int.reduceToNat, Int.reduceNeg, Int.reduceAdd, Int.reduceSub, Int.reduceMul, Int.reduceEq, Int.reduceNe, Nat.reduceEqDiff, Nat.reduceAdd, Nat.reduceSub, Nat.reduceMul, Nat.reduceLT, Nat.reduceLeDiff, Nat.reduceBEq, Nat.reduceBNe, UInt8.reduceToNat, wr, dle, dlt,])
    | (refine xw_skip ?_; simp only [sq, bl])
    | (refine xw_exit ?_; simp only [sq, bl, if_true, if_false, Nat.reduceEqDiff])
    | (refine xw_label ?_; simp only [sq, bl]))
  first | refine xw_ret (post_ret ?_) | refine post_normal ?_ | refine xw_ret (postE_ret ?_) | refine postE_normal ?_
  simp only [go_sem, ↓reduceIte, Int.reduceLE, Int.reduceLT, Int.reduceToNat, Int.reduceNeg, Int.reduceAdd, Int.reduceSub, Int.reduceMul, Int.reduceEq, Int.reduceNe, Nat.reduceEqDiff, Nat.reduceAdd, Nat.reduceSub, Nat.reduceMul, Nat.reduceLT, Nat.reduceLeDiff, Nat.reduceBEq, Nat.reduceBNe, UInt8.reduceToNat, Tryz.results47, Tryz.f47]
theorem c_l1Wrong (bs : List Int) (p n : Int) (x : IV) (es : List (Int × Int)) (hb : bytes bs) (hp : 0 ≤ p ∧ p ≤ 100000) (hx : EL x es) (hl : es.length ≤ 900) (hn : 0 ≤ n ∧ n ≤ 17) :
    ∃ (n' : Int) (es' : List (Int × Int)) (p' : Int), 0 ≤ n' ∧ n' ≤ 17 ∧ es'.length ≤ es.length + 1 ∧ p ≤ p' ∧ p' ≤ p + 10 ∧
      KP 27 [.ptr 1000 0 0 0, .agg [I n, .i x]] [Rd bs p] = some (.agg [I n', .ref 2000 0 0 es'.length], [Rd bs p'], [.arr 0 2 (es'.map encE)]) := by
  suffices h : ∃ res, (∃ (n' : Int) (es' : List (Int × Int)) (p' : Int), 0 ≤ n' ∧ n' ≤ 17 ∧ es'.length ≤ es.length + 1 ∧ p ≤ p' ∧ p' ≤ p + 10 ∧ res = (PV.agg [I n', .ref 2000 0 0 es'.length], [Rd bs p'], [Arr.arr 0 2 (es'.map encE)])) ∧
      KP 27 [.ptr 1000 0 0 0, .agg [I n, .i x]] [Rd bs p] = some res by
    obtain ⟨res, ⟨n', es', p', h1, h2, h3, h4, h5, rfl⟩, h6⟩ := h
    exact ⟨n', es', p', h1, h2, h3, h4, h5, h6⟩
  have hcopy := c_l1Copy n es (by omega)
  have hf := hx.f
  have hfl := hx.fl
  obtain ⟨a, ha, _, hpa⟩ := c_pick bs p 16 hb (by omega) (by omega)
  cases ha0 : decide (0 < a)
  · cases hl0 : decide ((es.length : Int) = 0)
    · simp only [decide_eq_false_iff_not] at hl0
      have hl0' : es.length ≠ 0 := by omega
      obtain ⟨k, hk, _, hpk⟩ := c_pick bs (p + 1) es.length hb (by omega) (by omega)
      have hk' := hk (by omega)
      obtain ⟨w, hw, _, hpw⟩ := c_pick bs (p + 1 + 1) 5 hb (by omega) (by omega)
      obtain ⟨⟨u, v⟩, he⟩ : ∃ e, es[k.toNat]? = some e := ⟨es[k.toNat]'(by omega), by simp⟩
      cases hw0 : decide (w = 0)
      · cases hw1 : decide (w = 1)
        · cases hw2 : decide (w = 2)
          · refine xw_callE (fn := Tryz.f27) rfl Tryz.func27 rfl ⟨Nat.le_of_ble_eq_true rfl, rfl, rfl⟩ ?_
            repeat (first
              | refine xw_seq ?_
              | refine xw_block ?_
              | (refine xw_reg ?_; simp (disch := first | decide | omega) only [go_sem, ↓reduceIte, Int.reduceLE, Int.reduceLT, Int.reduceToNat, Int.reduceNeg, Int.reduceAdd, Int.reduceSub, Int.reduceMul, Int.reduceEq, Int.reduceNe, Nat.reduceEqDiff, Nat.reduceAdd, Nat.reduceSub, Nat.reduceMul, Nat.reduceLT, Nat.reduceLeDiff, Nat.reduceBEq, Nat.reduceBNe, UInt8.reduceToNat, wr, dle, dlt, hcopy, hf, hfl, hpa, ha0, hl0, hl0', hpk, hpw, hw0, hw1, hw2])
              | (refine xw_regd ?_; simp (disch := first | decide | omega) only [go_sem, ↓reduceIte, Int.reduceLE, Int.reduceLT, Int.reduceToNat, Int.reduceNeg, Int.reduceAdd, Int.reduceSub, Int.reduceMul, Int.reduceEq, Int.reduceNe, Nat.reduceEqDiff, Nat.reduceAdd, Nat.reduceSub, Nat.reduceMul, Nat.reduceLT, Nat.reduceLeDiff, Nat.reduceBEq, Nat.reduceBNe, UInt8.reduceToNat, wr, dle, dlt, hcopy, hf, hfl, hpa, ha0, hl0, hl0', hpk, hpw, hw0, hw1, hw2]; refine ⟨by kernel_rfl, ?_⟩)
              | (refine xw_if ?_; simp (disch := first | decide | omega) only [go_sem, ↓reduceIte, Int.reduceLE, Int.reduceLT, Int.reduceToNat, Int.reduceNeg, Int.reduceAdd, Int.reduceSub, Int.reduceMul, Int.reduceEq, Int.reduceNe, Nat.reduceEqDiff, Nat.reduceAdd, Nat.reduceSub, Nat.reduceMul, Nat.reduceLT, Nat.reduceLeDiff, Nat.reduceBEq, Nat.reduceBNe, UInt8.reduceToNat, wr, dle, dlt, hcopy, hf, hfl, hpa, ha0, hl0, hl0', hpk, hpw, hw0, hw1, hw2])
              | (refine xw_skip ?_; simp only [sq, bl])
              | (refine xw_exit ?_; simp only [sq, bl, if_true, if_false, Nat.reduceEqDiff])
              | (refine xw_label ?_; simp only [sq, bl]))
            first | refine xw_ret (post_ret ?_) | refine post_normal ?_ | refine xw_ret (postE_ret ?_) | refine postE_normal ?_
            simp only [go_sem, ↓reduceIte, Int.reduceLE, Int.reduceLT, Int.reduceToNat, Int.reduceNeg, Int.reduceAdd, Int.reduceSub, Int.reduceMul, Int.reduceEq, Int.reduceNe, Nat.reduceEqDiff, Nat.reduceAdd, Nat.reduceSub, Nat.reduceMul, Nat.reduceLT, Nat.reduceLeDiff, Nat.reduceBEq, Nat.reduceBNe, UInt8.reduceToNat, Tryz.results27, Tryz.f27]
            exact ⟨n, hn.1, hn.2, es, by omega, p + 1 + 1 + 1, by omega, by omega, rfl, rfl, rfl⟩
          · refine xw_callE (fn := Tryz.f27) rfl Tryz.func27 rfl ⟨Nat.le_of_ble_eq_true rfl, rfl, rfl⟩ ?_
            repeat (first
              | refine xw_seq ?_
              | refine xw_block ?_
              | (refine xw_reg ?_; simp (disch := first | decide | omega) only [go_sem, ↓reduceIte, Int.reduceLE, Int.reduceLT, Int.reduceToNat, Int.reduceNeg, Int.reduceAdd, Int.reduceSub, Int.reduceMul, Int.reduceEq, Int.reduceNe, Nat.reduceEqDiff, Nat.reduceAdd, Nat.reduceSub, Nat.reduceMul, Nat.reduceLT, Nat.reduceLeDiff, Nat.reduceBEq, Nat.reduceBNe, UInt8.reduceToNat, wr, dle, dlt, hcopy, hf, hfl, hpa, ha0, hl0, hl0', hpk, hpw, hw0, hw1, hw2, hk'.1, hk'.2, he, encE, List.getElem?_map])
              | (refine xw_regd ?_; simp (disch := first | decide | omega) only [go_sem, ↓reduceIte, Int.reduceLE, Int.reduceLT, Int.reduceToNat, Int.reduceNeg, Int.reduceAdd, Int.reduceSub, Int.reduceMul, Int.reduceEq, Int.reduceNe, Nat.reduceEqDiff, Nat.reduceAdd, Nat.reduceSub, Nat.reduceMul, Nat.reduceLT, Nat.reduceLeDiff, Nat.reduceBEq, Nat.reduceBNe, UInt8.reduceToNat, wr, dle, dlt, hcopy, hf, hfl, hpa, ha0, hl0, hl0', hpk, hpw, hw0, hw1, hw2, hk'.1, hk'.2, he, encE, List.getElem?_map]; refine ⟨by kernel_rfl, ?_⟩)
              | (refine xw_if ?_; simp (disch := first | decide | omega) only [go_sem, ↓reduceIte, Int.reduceLE, Int.reduceLT, Int.reduceToNat, Int.reduceNeg, Int.reduceAdd, Int.reduceSub, Int.reduceMul, Int.reduceEq, Int.reduceNe, Nat.reduceEqDiff, Nat.reduceAdd, Nat.reduceSub, Nat.reduceMul, Nat.reduceLT, Nat.reduceLeDiff, Nat.reduceBEq, Nat.reduceBNe, UInt8.reduceToNat, wr, dle, dlt, hcopy, hf, hfl, hpa, ha0, hl0, hl0', hpk, hpw, hw0, hw1, hw2, hk'.1, hk'.2, he, encE, List.getElem?_map])
              | (refine xw_skip ?_; simp only [sq, bl])
              | (refine xw_exit ?_; simp only [sq, bl, if_true, if_false, Nat.reduceEqDiff])
              | (refine xw_label ?_; simp only [sq, bl]))
            first | refine xw_ret (post_ret ?_) | refine post_normal ?_ | refine xw_ret (postE_ret ?_) | refine postE_normal ?_
            simp only [go_sem, ↓reduceIte, Int.reduceLE, Int.reduceLT, Int.reduceToNat, Int.reduceNeg, Int.reduceAdd, Int.reduceSub, Int.reduceMul, Int.reduceEq, Int.reduceNe, Nat.reduceEqDiff, Nat.reduceAdd, Nat.reduceSub, Nat.reduceMul, Nat.reduceLT, Nat.reduceLeDiff, Nat.reduceBEq, Nat.reduceBNe, UInt8.reduceToNat, Tryz.results27, Tryz.f27]
            exact ⟨n, hn.1, hn.2, es ++ [(u, v)], by simp, p + 1 + 1 + 1, by omega, by omega, by simp, rfl, by simp [encE]⟩
        · obtain ⟨y, hy, hnum⟩ := c_num bs (p + 1 + 1 + 1) [0, 17, 1] hb (by omega) (by simp) (by simp)
          have hy' : 0 ≤ y ∧ y ≤ 17 := by
            have : ∀ x ∈ [0, 17, (1 : Int)], 0 ≤ x ∧ x ≤ 17 := by decide
            exact this y hy
          simp only [List.map_cons, List.map_nil, encI, List.length_cons, List.length_nil, Nat.reduceAdd] at hnum
          refine xw_callE (fn := Tryz.f27) rfl Tryz.func27 rfl ⟨Nat.le_of_ble_eq_true rfl, rfl, rfl⟩ ?_
          repeat (first
            | refine xw_seq ?_
            | refine xw_block ?_
            | (refine xw_reg ?_; simp (disch := first | decide | omega) only [go_sem, ↓reduceIte, Int.reduceLE, Int.reduceLT, Int.reduceToNat, Int.reduceNeg, Int.reduceAdd, Int.reduceSub, Int.reduceMul, Int.reduceEq, Int.reduceNe, Nat.reduceEqDiff, Nat.reduceAdd, Nat.reduceSub, Nat.reduceMul, Nat.reduceLT, Nat.reduceLeDiff, Nat.reduceBEq, Nat.reduceBNe, UInt8.reduceToNat, wr, dle, dlt, hcopy, hf, hfl, hpa, ha0, hl0, hl0', hpk, hpw, hw0, hw1, hnum])
            | (refine xw_regd ?_; simp (disch := first | decide | omega) only [go_sem, ↓reduceIte, Int.reduceLE, Int.reduceLT, Int.reduceToNat, Int.reduceNeg, Int.reduceAdd, Int.reduceSub, Int.reduceMul, Int.reduceEq, Int.reduceNe, Nat.reduceEqDiff, Nat.reduceAdd, Nat.reduceSub, Nat.reduceMul, Nat.reduceLT, Nat.reduceLeDiff, Nat.reduceBEq, Nat.reduceBNe, UInt8.reduceToNat, wr, dle, dlt, hcopy, hf, hfl, hpa, ha0, hl0, hl0', hpk, hpw, hw0, hw1, hnum]; refine ⟨by kernel_rfl, ?_⟩)
            | (refine xw_if ?_; simp (disch := first | decide | omega) only [go_sem, ↓reduceIte, Int.reduceLE, Int.reduceLT, Int.reduceToNat, Int.reduceNeg, Int.reduceAdd, Int.reduceSub, Int.reduceMul, Int.reduceEq, Int.reduceNe, Nat.reduceEqDiff, Nat.reduceAdd, Nat.reduceSub, Nat.reduceMul, Nat.reduceLT, Nat.reduceLeDiff, Nat.reduceBEq, Nat.reduceBNe, UInt8.reduceToNat, wr, dle, dlt, hcopy, hf, hfl, hpa, ha0, hl0, hl0', hpk, hpw, hw0, hw1, hnum])
            | (refine xw_skip ?_; simp only [sq, bl])
            | (refine xw_exit ?_; simp only [sq, bl, if_true, if_false, Nat.reduceEqDiff])
            | (refine xw_label ?_; simp only [sq, bl]))
          first | refine xw_ret (post_ret ?_) | refine post_normal ?_ | refine xw_ret (postE_ret ?_) | refine postE_normal ?_
          simp only [go_sem, ↓reduceIte, Int.reduceLE, Int.reduceLT, Int.reduceToNat, Int.reduceNeg, Int.reduceAdd, Int.reduceSub, Int.reduceMul, Int.reduceEq, Int.reduceNe, Nat.reduceEqDiff, Nat.reduceAdd, Nat.reduceSub, Nat.reduceMul, Nat.reduceLT, Nat.reduceLeDiff, Nat.reduceBEq, Nat.reduceBNe, UInt8.reduceToNat, Tryz.results27, Tryz.f27]
          exact ⟨y, hy'.1, hy'.2, es, by omega, p + 1 + 1 + 1 + 1, by omega, by omega, rfl, rfl, rfl⟩
      · obtain ⟨y, hy, hnum⟩ := c_num bs (p + 1 + 1 + 1) [16, -1, 0] hb (by omega) (by simp) (by simp)
        simp only [List.map_cons, List.map_nil, encI, List.length_cons, List.length_nil, Nat.reduceAdd] at hnum
        refine xw_callE (fn := Tryz.f27) rfl Tryz.func27 rfl ⟨Nat.le_of_ble_eq_true rfl, rfl, rfl⟩ ?_
        repeat (first
          | refine xw_seq ?_
          | refine xw_block ?_
          | (refine xw_reg ?_; simp (disch := first | decide | omega) only [go_sem, ↓reduceIte, Int.reduceLE, Int.reduceLT, Int.reduceToNat, Int.reduceNeg, Int.reduceAdd, Int.reduceSub, Int.reduceMul, Int.reduceEq, Int.reduceNe, Nat.reduceEqDiff, Nat.reduceAdd, Nat.reduceSub, Nat.reduceMul, Nat.reduceLT, Nat.reduceLeDiff, Nat.reduceBEq, Nat.reduceBNe, UInt8.reduceToNat, wr, dle, dlt, hcopy, hf, hfl, hpa, ha0, hl0, hl0', hpk, hpw, hw0, hnum, hk'.1, hk'.2, he, encE, List.getElem?_map])
          | (refine xw_regd ?_; simp (disch := first | decide | omega) only [go_sem, ↓reduceIte, Int.reduceLE, Int.reduceLT, Int.reduceToNat, Int.reduceNeg, Int.reduceAdd, Int.reduceSub, Int.reduceMul, Int.reduceEq, Int.reduceNe, Nat.reduceEqDiff, Nat.reduceAdd, Nat.reduceSub, Nat.reduceMul, Nat.reduceLT, Nat.reduceLeDiff, Nat.reduceBEq, Nat.reduceBNe, UInt8.reduceToNat, wr, dle, dlt, hcopy, hf, hfl, hpa, ha0, hl0, hl0', hpk, hpw, hw0, hnum, hk'.1, hk'.2, he, encE, List.getElem?_map]; refine ⟨by kernel_rfl, ?_⟩)
          | (refine xw_if ?_; simp (disch := first | decide | omega) only [go_sem, ↓reduceIte, Int.reduceLE, Int.reduceLT, Int.reduceToNat, Int.reduceNeg, Int.reduceAdd, Int.reduceSub, Int.reduceMul, Int.reduceEq, Int.reduceNe, Nat.reduceEqDiff, Nat.reduceAdd, Nat.reduceSub, Nat.reduceMul, Nat.reduceLT, Nat.reduceLeDiff, Nat.reduceBEq, Nat.reduceBNe, UInt8.reduceToNat, wr, dle, dlt, hcopy, hf, hfl, hpa, ha0, hl0, hl0', hpk, hpw, hw0, hnum, hk'.1, hk'.2, he, encE, List.getElem?_map])
          | (refine xw_skip ?_; simp only [sq, bl])
          | (refine xw_exit ?_; simp only [sq, bl, if_true, if_false, Nat.reduceEqDiff])
          | (refine xw_label ?_; simp only [sq, bl]))
        first | refine xw_ret (post_ret ?_) | refine post_normal ?_ | refine xw_ret (postE_ret ?_) | refine postE_normal ?_
        simp only [go_sem, ↓reduceIte, Int.reduceLE, Int.reduceLT, Int.reduceToNat, Int.reduceNeg, Int.reduceAdd, Int.reduceSub, Int.reduceMul, Int.reduceEq, Int.reduceNe, Nat.reduceEqDiff, Nat.reduceAdd, Nat.reduceSub, Nat.reduceMul, Nat.reduceLT, Nat.reduceLeDiff, Nat.reduceBEq, Nat.reduceBNe, UInt8.reduceToNat, Tryz.results27, Tryz.f27]
        exact ⟨n, hn.1, hn.2, es.set k.toNat (u, y), by simp, p + 1 + 1 + 1 + 1, by omega, by omega, by simp, rfl, by simp [encE, List.map_set]⟩
    · refine xw_callE (fn := Tryz.f27) rfl Tryz.func27 rfl ⟨Nat.le_of_ble_eq_true rfl, rfl, rfl⟩ ?_
      repeat (first
        | refine xw_seq ?_
        | refine xw_block ?_
        | (refine xw_reg ?_; simp (disch := first | decide | omega) only [go_sem, ↓reduceIte, Int.reduceLE, Int.reduceLT, Int.reduceToNat, Int.reduceNeg, Int.reduceAdd, Int.reduceSub, Int.reduceMul, Int.reduceEq, Int.reduceNe, Nat.reduceEqDiff, Nat.reduceAdd, Nat.reduceSub, Nat.reduceMul, Nat.reduceLT, Nat.reduceLeDiff, Nat.reduceBEq, Nat.reduceBNe, UInt8.reduceToNat, wr, dle, dlt, hcopy, hf, hfl, hpa, ha0, hl0])
        | (refine xw_regd ?_; simp (disch := first | decide | omega) only [go_sem, ↓reduceIte, Int.reduceLE, Int.reduceLT, Int.reduceToNat, Int.reduceNeg, Int.reduceAdd, Int.reduceSub, Int.reduceMul, Int.reduceEq, Int.reduceNe, Nat.reduceEqDiff, Nat.reduceAdd, Nat.reduceSub, Nat.reduceMul, Nat.reduceLT, Nat.reduceLeDiff, Nat.reduceBEq, Nat.reduceBNe, UInt8.reduceToNat, wr, dle, dlt, hcopy, hf, hfl, hpa, ha0, hl0]; refine ⟨by kernel_rfl, ?_⟩)
        | (refine xw_if ?_; simp (disch := first | decide | omega) only [go_sem, ↓reduceIte, Int.reduceLE, Int.reduceLT, Int.reduceToNat, Int.reduceNeg, Int.reduceAdd, Int.reduceSub, Int.reduceMul, Int.reduceEq, Int.reduceNe, Nat.reduceEqDiff, Nat.reduceAdd, Nat.reduceSub, Nat.reduceMul, Nat.reduceLT, Nat.reduceLeDiff, Nat.reduceBEq, Nat.reduceBNe, UInt8.reduceToNat, wr, dle, dlt, hcopy, hf, hfl, hpa, ha0, hl0])
        | (refine xw_skip ?_; simp only [sq, bl])
        | (refine xw_exit ?_; simp only [sq, bl, if_true, if_false, Nat.reduceEqDiff])
        | (refine xw_label ?_; simp only [sq, bl]))
      first | refine xw_ret (post_ret ?_) | refine post_normal ?_ | refine xw_ret (postE_ret ?_) | refine postE_normal ?_
      simp only [go_sem, ↓reduceIte, Int.reduceLE, Int.reduceLT, Int.reduceToNat, Int.reduceNeg, Int.reduceAdd, Int.reduceSub, Int.reduceMul, Int.reduceEq, Int.reduceNe, Nat.reduceEqDiff, Nat.reduceAdd, Nat.reduceSub, Nat.reduceMul, Nat.reduceLT, Nat.reduceLeDiff, Nat.reduceBEq, Nat.reduceBNe, UInt8.reduceToNat, Tryz.results27, Tryz.f27]
      exact ⟨n, hn.1, hn.2, es, by omega, p + 1, by omega, by omega, rfl, rfl, rfl⟩
  · refine xw_callE (fn := Tryz.f27) rfl Tryz.func27 rfl ⟨Nat.le_of_ble_eq_true rfl, rfl, rfl⟩ ?_
    repeat (first
      | refine xw_seq ?_
      | refine xw_block ?_
      | (refine xw_reg ?_; simp (disch := first | decide | omega) only [go_sem, ↓reduceIte, Int.reduceLE, Int.reduceLT, Int.reduceToNat, Int.reduceNeg, Int.reduceAdd, Int.reduceSub, Int.reduceMul, Int.reduceEq, Int.reduceNe, Nat.reduceEqDiff, Nat.reduceAdd, Nat.reduceSub, Nat.reduceMul, Nat.reduceLT, Nat.reduceLeDiff, Nat.reduceBEq, Nat.reduceBNe, UInt8.reduceToNat, wr, dle, dlt, hcopy, hf, hfl, hpa, ha0])
      | (refine xw_regd ?_; simp (disch := first | decide | omega) only [go_sem, ↓reduceIte, Int.reduceLE, Int.reduceLT, Int.reduceToNat, Int.reduceNeg, Int.reduceAdd, Int.reduceSub, Int.reduceMul, Int.reduceEq, Int.reduceNe, Nat.reduceEqDiff, Nat.reduceAdd, Nat.reduceSub, Nat.reduceMul, Nat.reduceLT, Nat.reduceLeDiff, Nat.reduceBEq, Nat.reduceBNe, UInt8.reduceToNat, wr, dle, dlt, hcopy, hf, hfl, hpa, ha0]; refine ⟨by kernel_rfl, ?_⟩)
      | (refine xw_if ?_; simp (disch := first | decide | omega) only [go_sem, ↓reduceIte, Int.reduceLE, Int.reduceLT, Int.reduceToNat, Int.reduceNeg, Int.reduceAdd, Int.reduceSub, Int.reduceMul, Int.reduceEq, Int.reduceNe, Nat.reduceEqDiff, Nat.reduceAdd, Nat.reduceSub, Nat.reduceMul, Nat.reduceLT, Nat.reduceLeDiff, Nat.reduceBEq, Nat.reduceBNe, UInt8.reduceToNat, wr, dle, dlt, hcopy, hf, hfl, hpa, ha0])
      | (refine xw_skip ?_; simp only [sq, bl])
      | (refine xw_exit ?_; simp only [sq, bl, if_true, if_false, Nat.reduceEqDiff])
      | (refine xw_label ?_; simp only [sq, bl]))
    first | refine xw_ret (post_ret ?_) | refine post_normal ?_ | refine xw_ret (postE_ret ?_) | refine postE_normal ?_
    simp only [go_sem, ↓reduceIte, Int.reduceLE, Int.reduceLT, Int.reduceToNat, Int.reduceNeg, Int.reduceAdd, Int.reduceSub, Int.reduceMul, Int.reduceEq, Int.reduceNe, Nat.reduceEqDiff, Nat.reduceAdd, Nat.reduceSub, Nat.reduceMul, Nat.reduceLT, Nat.reduceLeDiff, Nat.reduceBEq, Nat.reduceBNe, UInt8.reduceToNat, Tryz.results27, Tryz.f27]
    exact ⟨n, hn.1, hn.2, es, by omega, p + 1, by omega, by omega, rfl, rfl, rfl⟩
end Go.Proofs.YtmocnnknnbalkaaGreatDoor.X

/- What functions compute: a graph and a node. -/
set_option linter.unusedSimpArgs false
set_option linter.unusedVariables false
set_option maxHeartbeats 2000000
namespace Go.Proofs.YtmocnnknnbalkaaGreatDoor.X
open Go Go.Proofs
end Go.Proofs.YtmocnnknnbalkaaGreatDoor.X
