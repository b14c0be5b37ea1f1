/- What functions answer, and the plain laws behind it. -/
import Derived.Test.YtdlfdoicheakoaaC3
/- What functions compute: drawing a graph. -/
set_option linter.unusedSimpArgs false
set_option linter.unusedVariables false
set_option maxHeartbeats 2000000
namespace Go.Proofs.Ytdlfdoicheakoaa.X
open Go Go.Proofs
def Ord (es : List (Int × Int)) : Prop := es.Pairwise fun a b => lessE a b = true
theorem lessE_iff {a b : Int × Int} : lessE a b = true ↔ a.1 < b.1 ∨ a.1 = b.1 ∧ a.2 < b.2 := by simp [lessE]
theorem lessE_trans {a b c : Int × Int} (h : lessE a b = true) (k : lessE b c = true) : lessE a c = true := by
  rw [lessE_iff] at *; omega
theorem lessE_total {a b : Int × Int} (h : lessE a b = false) (hn : a ≠ b) : lessE b a = true := by
  have h' : ¬ lessE a b = true := by simp [h]
  rw [lessE_iff] at *
  have : ¬ (a.1 = b.1 ∧ a.2 = b.2) := fun e => hn (Prod.ext e.1 e.2)
  omega
theorem mem_putE {e x : Int × Int} : ∀ {es : List (Int × Int)}, x ∈ putE e es ↔ x = e ∨ x ∈ es
  | [] => by simp [putE]
  | y :: r => by
    simp only [putE]
    split
    · simp
    · simp only [List.mem_cons, mem_putE (es := r)]
      constructor
      · rintro (h | h | h) <;> simp [h]
      · rintro (h | h | h) <;> simp [h]
theorem Ord.put {e : Int × Int} : ∀ {es : List (Int × Int)}, Ord es → e ∉ es → Ord (putE e es)
  | [], _, _ => by simp [Ord, putE]
  | x :: r, h, hn => by
    simp only [Ord, List.pairwise_cons] at h
    simp only [List.mem_cons, not_or] at hn
    simp only [putE]
    split
    · rename_i hl
      simp only [Ord, List.pairwise_cons]
      refine ⟨fun y hy => ?_, h.1, h.2⟩
      rcases List.mem_cons.1 hy with rfl | hy
      · exact hl
      · exact lessE_trans hl (h.1 y hy)
    · rename_i hl
      have hl' : lessE e x = false := by simpa using hl
      simp only [Ord, List.pairwise_cons]
      refine ⟨fun y hy => ?_, Ord.put h.2 hn.2⟩
      rcases mem_putE.1 hy with rfl | hy
      · exact lessE_total hl' hn.1
      · exact h.1 y hy
/-- Edges as they are handed back: none, or a list. -/
def qe (es : List (Int × Int)) : IV := if es = [] then .emp else .lst (es.map encE)
theorem frz_qe {n : Nat} {es : List (Int × Int)} : frz n (.i (qe es)) = .ret (.lst (es.map encE)) := by
  cases es with
  | nil => cases n <;> rfl
  | cons e r => cases n <;> rfl
theorem flat_qe {es : List (Int × Int)} : (qe es).flat = true := by cases es <;> rfl
theorem lenP_qe {es : List (Int × Int)} : lenP (.i (qe es)) = some es.length := by
  cases es with
  | nil => rfl
  | cons e r => simp [lenP, qe]
theorem qe_nil : qe [] = .emp := rfl
theorem qe_putE {e : Int × Int} {es : List (Int × Int)} : .lst ((putE e es).map encE) = qe (putE e es) := by
  have : putE e es ≠ [] := fun h => by have := putE_length e es; simp [h] at this
  simp [qe, this]
attribute [go_sem] frz_qe flat_qe lenP_qe
theorem c_l1Draw (bs : List Int) (p : Int) (hb : bytes bs) (hp : 0 ≤ p ∧ p ≤ 100000) :
    ∃ n es p', 1 ≤ n ∧ n ≤ 16 ∧ Ord es ∧ (∀ e ∈ es, 0 ≤ e.1 ∧ e.1 < e.2 ∧ e.2 < n) ∧ es.length ≤ 30 ∧ p ≤ p' ∧ p' ≤ p + 100 ∧
      KP 70 [.ptr 1000 0 0 0] [Rd bs p] = some (.agg [I n, .i (qe es)], [Rd bs p'], []) := by
  obtain ⟨N, hN, hnum⟩ := c_num bs p [6, 5, 7, 4, 8, 10, 3, 1, 16] hb (by omega) (by simp) (by simp)
  have hN' : 1 ≤ N ∧ N ≤ 16 := by
    have : ∀ x ∈ [6, 5, 7, 4, 8, 10, 3, 1, (16 : Int)], 1 ≤ x ∧ x ≤ 16 := by decide
    exact this N hN
  simp only [List.map_cons, List.map_nil, encI, List.length_cons, List.length_nil, Nat.reduceAdd] at hnum
  suffices h : ∃ res, (∃ (es : List (Int × Int)) (p' : Int), Ord es ∧ (∀ e ∈ es, 0 ≤ e.1 ∧ e.1 < e.2 ∧ e.2 < N) ∧ es.length ≤ 30 ∧ p ≤ p' ∧ p' ≤ p + 100 ∧ res = (PV.agg [I N, .i (qe es)], [Rd bs p'], [])) ∧
      KP 70 [.ptr 1000 0 0 0] [Rd bs p] = some res by
    obtain ⟨res, ⟨es, p', h1, h2, h3, h4, h5, rfl⟩, h6⟩ := h
    exact ⟨N, es, p', hN'.1, hN'.2, h1, h2, h3, h4, h5, h6⟩
  refine xw_callE (fn := Try.f70) rfl Try.func70 rfl ⟨Nat.le_of_ble_eq_true rfl, rfl, rfl⟩ ?_
  repeat (first
    | refine xw_seq ?_
    | refine xw_block ?_
    | (refine xw_reg ?_; simp (disch := first | decide | omega) only [go_sem, ↓reduceIte, Int.reduceLE, Int.reduceLT, Int.reduceToNat, Int.reduceNeg, Int.reduceAdd, Int.reduceSub, Int.reduceMul, Int.reduceEq, Int.reduceNe, Nat.reduceEqDiff, Nat.reduceAdd, Nat.reduceSub, Nat.reduceMul, Nat.reduceLT, Nat.reduceLeDiff, Nat.reduceBEq, Nat.reduceBNe, UInt8.reduceToNat, wr, dle, dlt, hnum])
    | (refine xw_regd ?_; simp (disch := first | decide | omega) only [go_sem, ↓reduceIte, Int.reduceLE, Int.reduceLT, Int.reduceToNat, Int.reduceNeg, Int.reduceAdd, Int.reduceSub, Int.reduceMul, Int.reduceEq, Int.reduceNe, Nat.reduceEqDiff, Nat.reduceAdd, Nat.reduceSub, Nat.reduceMul, Nat.reduceLT, Nat.reduceLeDiff, Nat.reduceBEq, Nat.reduceBNe, UInt8.reduceToNat, wr, dle, dlt, hnum]; refine ⟨by kernel_rfl, ?_⟩)
    | (refine xw_if ?_; simp (disch := first | decide | omega) only [go_sem, ↓reduceIte, Int.reduceLE, Int.reduceLT, Int.reduceToNat, Int.reduceNeg, Int.reduceAdd, Int.reduceSub, Int.reduceMul, Int.reduceEq, Int.reduceNe, Nat.reduceEqDiff, Nat.reduceAdd, Nat.reduceSub, Nat.reduceMul, Nat.reduceLT, Nat.reduceLeDiff, Nat.reduceBEq, Nat.reduceBNe, UInt8.reduceToNat, wr, dle, dlt, hnum])
    | (refine xw_skip ?_; simp only [sq, bl])
    | (refine xw_exit ?_; simp only [sq, bl, if_true, if_false, Nat.reduceEqDiff])
    | (refine xw_label ?_; simp only [sq, bl]))
  refine xw_loop_count (fun n s => ∃ (i : Int) (es : List (Int × Int)) (p' : Int), n = (N - i).toNat ∧ 1 ≤ i ∧ i ≤ N ∧ Ord es ∧ (∀ e ∈ es, 0 ≤ e.1 ∧ e.1 < e.2 ∧ e.2 < i) ∧ (es.length : Int) ≤ i ∧ p ≤ p' ∧ p' ≤ p + 1 + 2 * i ∧
    s.ρ 0 = .ptr 1000 0 0 0 ∧ s.ρ 2 = .ptr 2 0 0 0 ∧ s.ρ 3 = .ptr 3 0 0 0 ∧ s.ρ 4 = I i ∧ s.m 1000 = some (Rd bs p') ∧ s.m 2 = some (.box 0 [I 0, .i .emp]) ∧ s.m 3 = some (.box 0 [I N, .i (qe es)])) ?_ (N - 1).toNat _ ⟨1, [], p + 1, by simp, by omega, by omega, by simp [Ord], by simp, by simp, by omega, by omega, rfl, rfl, rfl, rfl, rfl, rfl, by rw [qe_nil]; rfl⟩
  rintro n ⟨ρ, m⟩ ⟨i, es, p', rfl, hi1, hi2, ho, hes, hel, hp1, hp2, h0, h2, h3, h4, m1, m2, m3⟩
  simp only at h0 h2 h3 h4 m1 m2 m3
  cases hc : decide (i < N)
  · simp only [decide_eq_false_iff_not] at hc
    have hiN : i = N := by omega
    subst hiN
    obtain ⟨x, hx, hnum2⟩ := c_num bs p' [2, 1, 3, 0, 5, 8] hb (by omega) (by simp) (by simp)
    have hx' : 0 ≤ x ∧ x ≤ 8 := by
      have : ∀ x ∈ [2, 1, 3, 0, 5, (8 : Int)], 0 ≤ x ∧ x ≤ 8 := by decide
      exact this x hx
    simp only [List.map_cons, List.map_nil, encI, List.length_cons, List.length_nil, Nat.reduceAdd] at hnum2
    repeat (first
      | refine xw_seq ?_
      | refine xw_block ?_
      | (refine xw_reg ?_; simp (disch := first | decide | omega) only [go_sem, ↓reduceIte, Int.reduceLE, Int.reduceLT, Int.reduceToNat, Int.reduceNeg, Int.reduceAdd, Int.reduceSub, Int.reduceMul, Int.reduceEq, Int.reduceNe, Nat.reduceEqDiff, Nat.reduceAdd, Nat.reduceSub, Nat.reduceMul, Nat.reduceLT, Nat.reduceLeDiff, Nat.reduceBEq, Nat.reduceBNe, UInt8.reduceToNat, wr, dle, dlt, h0, h2, h3, h4, m1, m2, m3, hc, hnum2])
      | (refine xw_regd ?_; simp (disch := first | decide | omega) only [go_sem, ↓reduceIte, Int.reduceLE, Int.reduceLT, Int.reduceToNat, Int.reduceNeg, Int.reduceAdd, Int.reduceSub, Int.reduceMul, Int.reduceEq, Int.reduceNe, Nat.reduceEqDiff, Nat.reduceAdd, Nat.reduceSub, Nat.reduceMul, Nat.reduceLT, Nat.reduceLeDiff, Nat.reduceBEq, Nat.reduceBNe, UInt8.reduceToNat, wr, dle, dlt, h0, h2, h3, h4, m1, m2, m3, hc, hnum2]; refine ⟨by kernel_rfl, ?_⟩)
      | (refine xw_if ?_; simp (disch := first | decide | omega) only [go_sem, ↓reduceIte, Int.reduceLE, Int.reduceLT, Int.reduceToNat, Int.reduceNeg, Int.reduceAdd, Int.reduceSub, Int.reduceMul, Int.reduceEq, Int.reduceNe, Nat.reduceEqDiff, Nat.reduceAdd, Nat.reduceSub, Nat.reduceMul, Nat.reduceLT, Nat.reduceLeDiff, Nat.reduceBEq, Nat.reduceBNe, UInt8.reduceToNat, wr, dle, dlt, h0, h2, h3, h4, m1, m2, m3, hc, hnum2])
      | (refine xw_skip ?_; simp only [sq, bl])
      | (refine xw_exit ?_; simp only [sq, bl, if_true, if_false, Nat.reduceEqDiff])
      | (refine xw_label ?_; simp only [sq, bl]))
    refine xw_loop_count (fun n s => ∃ (k : Int) (es : List (Int × Int)) (p2 : Int), n = k.toNat ∧ 0 ≤ k ∧ k ≤ x ∧ Ord es ∧ (∀ e ∈ es, 0 ≤ e.1 ∧ e.1 < e.2 ∧ e.2 < i) ∧ (es.length : Int) ≤ i + x - k ∧ p ≤ p2 ∧ p2 ≤ p' + 1 + 2 * (x - k) ∧
      s.ρ 0 = .ptr 1000 0 0 0 ∧ s.ρ 2 = .ptr 2 0 0 0 ∧ s.ρ 3 = .ptr 3 0 0 0 ∧ s.ρ 5 = I k ∧ s.m 1000 = some (Rd bs p2) ∧ s.m 2 = some (.box 0 [I 0, .i .emp]) ∧ s.m 3 = some (.box 0 [I i, .i (qe es)])) ?_ x.toNat _ ⟨x, es, p' + 1, rfl, by omega, by omega, ho, hes, by omega, by omega, by omega, by simp [upd, h0], by simp [upd, h2], by simp [upd, h3], rfl, by simp [upd], by simp [upd, m2], by simp [upd, m3]⟩
    rintro n ⟨ρ, m⟩ ⟨k, es, p2, rfl, hk1, hk2, ho, hes, hel, hp1, hp2, h0, h2, h3, h5, m1, m2, m3⟩
    simp only at h0 h2 h3 h5 m1 m2 m3
    cases hk : decide (0 < k)
    · repeat (first
        | refine xw_seq ?_
        | refine xw_block ?_
        | (refine xw_reg ?_; simp (disch := first | decide | omega) only [go_sem, ↓reduceIte, Int.reduceLE, Int.reduceLT, Int.reduceToNat, Int.reduceNeg, Int.reduceAdd, Int.reduceSub, Int.reduceMul, Int.reduceEq, Int.reduceNe, Nat.reduceEqDiff, Nat.reduceAdd, Nat.reduceSub, Nat.reduceMul, Nat.reduceLT, Nat.reduceLeDiff, Nat.reduceBEq, Nat.reduceBNe, UInt8.reduceToNat, wr, dle, dlt, h0, h2, h3, h5, m1, m2, m3, hk])
        | (refine xw_regd ?_; simp (disch := first | decide | omega) only [go_sem, ↓reduceIte, Int.reduceLE, Int.reduceLT, Int.reduceToNat, Int.reduceNeg, Int.reduceAdd, Int.reduceSub, Int.reduceMul, Int.reduceEq, Int.reduceNe, Nat.reduceEqDiff, Nat.reduceAdd, Nat.reduceSub, Nat.reduceMul, Nat.reduceLT, Nat.reduceLeDiff, Nat.reduceBEq, Nat.reduceBNe, UInt8.reduceToNat, wr, dle, dlt, h0, h2, h3, h5, m1, m2, m3, hk]; refine ⟨by kernel_rfl, ?_⟩)
        | (refine xw_if ?_; simp (disch := first | decide | omega) only [go_sem, ↓reduceIte, Int.reduceLE, Int.reduceLT, Int.reduceToNat, Int.reduceNeg, Int.reduceAdd, Int.reduceSub, Int.reduceMul, Int.reduceEq, Int.reduceNe, Nat.reduceEqDiff, Nat.reduceAdd, Nat.reduceSub, Nat.reduceMul, Nat.reduceLT, Nat.reduceLeDiff, Nat.reduceBEq, Nat.reduceBNe, UInt8.reduceToNat, wr, dle, dlt, h0, h2, h3, h5, m1, m2, m3, hk])
        | (refine xw_skip ?_; simp only [sq, bl])
        | (refine xw_exit ?_; simp only [sq, bl, if_true, if_false, Nat.reduceEqDiff])
        | (refine xw_label ?_; simp only [sq, bl]))
      first | refine xw_ret (post_ret ?_) | refine post_normal ?_ | refine xw_ret (postE_ret ?_) | refine postE_normal ?_
      simp only [go_sem, ↓reduceIte, Int.reduceLE, Int.reduceLT, Int.reduceToNat, Int.reduceNeg, Int.reduceAdd, Int.reduceSub, Int.reduceMul, Int.reduceEq, Int.reduceNe, Nat.reduceEqDiff, Nat.reduceAdd, Nat.reduceSub, Nat.reduceMul, Nat.reduceLT, Nat.reduceLeDiff, Nat.reduceBEq, Nat.reduceBNe, UInt8.reduceToNat, Try.results70, Try.f70, h2, m1, m2, m3]
      exact ⟨es, ho, hes, by omega, p2, by omega, by omega, rfl, rfl⟩
    · simp only [decide_eq_true_eq] at hk
      obtain ⟨y, hy, _, hpk⟩ := c_pick bs p2 i hb (by omega) (by omega)
      have hy' := hy hi1
      obtain ⟨z, hz, _, hpk2⟩ := c_pick bs (p2 + 1) i hb (by omega) (by omega)
      have hz' := hz hi1
      have hedge := c_l1Edge y z
      have hfind := c_l1Find es (edgeOf y z).1 (edgeOf y z).2 (by omega)
      have hput := c_l1Put es (edgeOf y z).1 (edgeOf y z).2 (by omega)
      cases hyz : decide (y = z)
      rotate_left
      · repeat (first
          | refine xw_seq ?_
          | refine xw_block ?_
          | (refine xw_reg ?_; simp (disch := first | decide | omega) only [go_sem, ↓reduceIte, Int.reduceLE, Int.reduceLT, Int.reduceToNat, Int.reduceNeg, Int.reduceAdd, Int.reduceSub, Int.reduceMul, Int.reduceEq, Int.reduceNe, Nat.reduceEqDiff, Nat.reduceAdd, Nat.reduceSub, Nat.reduceMul, Nat.reduceLT, Nat.reduceLeDiff, Nat.reduceBEq, Nat.reduceBNe, UInt8.reduceToNat, wr, dle, dlt, h0, h2, h3, h5, m1, m2, m3, hk, hpk, hpk2, hyz])
          | (refine xw_regd ?_; simp (disch := first | decide | omega) only [go_sem, ↓reduceIte, Int.reduceLE, Int.reduceLT, Int.reduceToNat, Int.reduceNeg, Int.reduceAdd, Int.reduceSub, Int.reduceMul, Int.reduceEq, Int.reduceNe, Nat.reduceEqDiff, Nat.reduceAdd, Nat.reduceSub, Nat.reduceMul, Nat.reduceLT, Nat.reduceLeDiff, Nat.reduceBEq, Nat.reduceBNe, UInt8.reduceToNat, wr, dle, dlt, h0, h2, h3, h5, m1, m2, m3, hk, hpk, hpk2, hyz]; refine ⟨by kernel_rfl, ?_⟩)
          | (refine xw_if ?_; simp (disch := first | decide | omega) only [go_sem, ↓reduceIte, Int.reduceLE, Int.reduceLT, Int.reduceToNat, Int.reduceNeg, Int.reduceAdd, Int.reduceSub, Int.reduceMul, Int.reduceEq, Int.reduceNe, Nat.reduceEqDiff, Nat.reduceAdd, Nat.reduceSub, Nat.reduceMul, Nat.reduceLT, Nat.reduceLeDiff, Nat.reduceBEq, Nat.reduceBNe, UInt8.reduceToNat, wr, dle, dlt, h0, h2, h3, h5, m1, m2, m3, hk, hpk, hpk2, hyz])
          | (refine xw_skip ?_; simp only [sq, bl])
          | (refine xw_exit ?_; simp only [sq, bl, if_true, if_false, Nat.reduceEqDiff])
          | (refine xw_label ?_; simp only [sq, bl]))
        exact ⟨(k - 1).toNat, by omega, k - 1, rfl, by omega, by omega, es, ho, hes, by omega, p2 + 1 + 1, by omega, by omega, rfl, rfl, rfl⟩
      · cases hf : decide (findE es ((edgeOf y z).1, (edgeOf y z).2) < 0)
        · repeat (first
            | refine xw_seq ?_
            | refine xw_block ?_
            | (refine xw_reg ?_; simp (disch := first | decide | omega) only [go_sem, ↓reduceIte, Int.reduceLE, Int.reduceLT, Int.reduceToNat, Int.reduceNeg, Int.reduceAdd, Int.reduceSub, Int.reduceMul, Int.reduceEq, Int.reduceNe, Nat.reduceEqDiff, Nat.reduceAdd, Nat.reduceSub, Nat.reduceMul, Nat.reduceLT, Nat.reduceLeDiff, Nat.reduceBEq, Nat.reduceBNe, UInt8.reduceToNat, wr, dle, dlt, h0, h2, h3, h5, m1, m2, m3, hk, hpk, hpk2, hyz, hedge, hfind, hput, hf])
            | (refine xw_regd ?_; simp (disch := first | decide | omega) only [go_sem, ↓reduceIte, Int.reduceLE, Int.reduceLT, Int.reduceToNat, Int.reduceNeg, Int.reduceAdd, Int.reduceSub, Int.reduceMul, Int.reduceEq, Int.reduceNe, Nat.reduceEqDiff, Nat.reduceAdd, Nat.reduceSub, Nat.reduceMul, Nat.reduceLT, Nat.reduceLeDiff, Nat.reduceBEq, Nat.reduceBNe, UInt8.reduceToNat, wr, dle, dlt, h0, h2, h3, h5, m1, m2, m3, hk, hpk, hpk2, hyz, hedge, hfind, hput, hf]; refine ⟨by kernel_rfl, ?_⟩)
            | (refine xw_if ?_; simp (disch := first | decide | omega) only [go_sem, ↓reduceIte, Int.reduceLE, Int.reduceLT, Int.reduceToNat, Int.reduceNeg, Int.reduceAdd, Int.reduceSub, Int.reduceMul, Int.reduceEq, Int.reduceNe, Nat.reduceEqDiff, Nat.reduceAdd, Nat.reduceSub, Nat.reduceMul, Nat.reduceLT, Nat.reduceLeDiff, Nat.reduceBEq, Nat.reduceBNe, UInt8.reduceToNat, wr, dle, dlt, h0, h2, h3, h5, m1, m2, m3, hk, hpk, hpk2, hyz, hedge, hfind, hput, hf])
            | (refine xw_skip ?_; simp only [sq, bl])
            | (refine xw_exit ?_; simp only [sq, bl, if_true, if_false, Nat.reduceEqDiff])
            | (refine xw_label ?_; simp only [sq, bl]))
          exact ⟨(k - 1).toNat, by omega, k - 1, rfl, by omega, by omega, es, ho, hes, by omega, p2 + 1 + 1, by omega, by omega, rfl, rfl, rfl⟩
        · repeat (first
            | refine xw_seq ?_
            | refine xw_block ?_
            | (refine xw_reg ?_; simp (disch := first | decide | omega) only [go_sem, ↓reduceIte, Int.reduceLE, Int.reduceLT, Int.reduceToNat, Int.reduceNeg, Int.reduceAdd, Int.reduceSub, Int.reduceMul, Int.reduceEq, Int.reduceNe, Nat.reduceEqDiff, Nat.reduceAdd, Nat.reduceSub, Nat.reduceMul, Nat.reduceLT, Nat.reduceLeDiff, Nat.reduceBEq, Nat.reduceBNe, UInt8.reduceToNat, wr, dle, dlt, h0, h2, h3, h5, m1, m2, m3, hk, hpk, hpk2, hyz, hedge, hfind, hput, hf])
            | (refine xw_regd ?_; simp (disch := first | decide | omega) only [go_sem, ↓reduceIte, Int.reduceLE, Int.reduceLT, Int.reduceToNat, Int.reduceNeg, Int.reduceAdd, Int.reduceSub, Int.reduceMul, Int.reduceEq, Int.reduceNe, Nat.reduceEqDiff, Nat.reduceAdd, Nat.reduceSub, Nat.reduceMul, Nat.reduceLT, Nat.reduceLeDiff, Nat.reduceBEq, Nat.reduceBNe, UInt8.reduceToNat, wr, dle, dlt, h0, h2, h3, h5, m1, m2, m3, hk, hpk, hpk2, hyz, hedge, hfind, hput, hf]; refine ⟨by kernel_rfl, ?_⟩)
            | (refine xw_if ?_; simp (disch := first | decide | omega) only [go_sem, ↓reduceIte, Int.reduceLE, Int.reduceLT, Int.reduceToNat, Int.reduceNeg, Int.reduceAdd, Int.reduceSub, Int.reduceMul, Int.reduceEq, Int.reduceNe, Nat.reduceEqDiff, Nat.reduceAdd, Nat.reduceSub, Nat.reduceMul, Nat.reduceLT, Nat.reduceLeDiff, Nat.reduceBEq, Nat.reduceBNe, UInt8.reduceToNat, wr, dle, dlt, h0, h2, h3, h5, m1, m2, m3, hk, hpk, hpk2, hyz, hedge, hfind, hput, hf])
            | (refine xw_skip ?_; simp only [sq, bl])
            | (refine xw_exit ?_; simp only [sq, bl, if_true, if_false, Nat.reduceEqDiff])
            | (refine xw_label ?_; simp only [sq, bl]))
          simp only [decide_eq_true_eq, decide_eq_false_iff_not] at hf hyz
          have hnin : edgeOf y z ∉ es := fun h => by
            have : findE es (edgeOf y z) = (es.idxOf (edgeOf y z) : Int) := by simp [findE, h]
            have hf' : findE es (edgeOf y z) < 0 := hf
            omega
          have he2 : 0 ≤ (edgeOf y z).1 ∧ (edgeOf y z).1 < (edgeOf y z).2 ∧ (edgeOf y z).2 < i := by unfold edgeOf; split <;> (simp only; omega)
          refine ⟨(k - 1).toNat, by omega, k - 1, rfl, by omega, by omega, putE (edgeOf y z) es, ho.put hnin, fun e h => ?_, by rw [putE_length]; omega, p2 + 1 + 1, by omega, by omega, rfl, rfl, by rw [← qe_putE]⟩
          rcases mem_putE.1 h with rfl | h
          · exact he2
          · exact hes e h
  · simp only [decide_eq_true_eq] at hc
    obtain ⟨x, hx, _, hpk⟩ := c_pick bs p' 4 hb (by omega) (by omega)
    cases hx0 : decide (0 < x)
    · repeat (first
        | refine xw_seq ?_
        | refine xw_block ?_
        | (refine xw_reg ?_; simp (disch := first | decide | omega) only [go_sem, ↓reduceIte, Int.reduceLE, Int.reduceLT, Int.reduceToNat, Int.reduceNeg, Int.reduceAdd, Int.reduceSub, Int.reduceMul, Int.reduceEq, Int.reduceNe, Nat.reduceEqDiff, Nat.reduceAdd, Nat.reduceSub, Nat.reduceMul, Nat.reduceLT, Nat.reduceLeDiff, Nat.reduceBEq, Nat.reduceBNe, UInt8.reduceToNat, wr, dle, dlt, h0, h2, h3, h4, m1, m2, m3, hc, hpk, hx0])
        | (refine xw_regd ?_; simp (disch := first | decide | omega) only [go_sem, ↓reduceIte, Int.reduceLE, Int.reduceLT, Int.reduceToNat, Int.reduceNeg, Int.reduceAdd, Int.reduceSub, Int.reduceMul, Int.reduceEq, Int.reduceNe, Nat.reduceEqDiff, Nat.reduceAdd, Nat.reduceSub, Nat.reduceMul, Nat.reduceLT, Nat.reduceLeDiff, Nat.reduceBEq, Nat.reduceBNe, UInt8.reduceToNat, wr, dle, dlt, h0, h2, h3, h4, m1, m2, m3, hc, hpk, hx0]; refine ⟨by kernel_rfl, ?_⟩)
        | (refine xw_if ?_; simp (disch := first | decide | omega) only [go_sem, ↓reduceIte, Int.reduceLE, Int.reduceLT, Int.reduceToNat, Int.reduceNeg, Int.reduceAdd, Int.reduceSub, Int.reduceMul, Int.reduceEq, Int.reduceNe, Nat.reduceEqDiff, Nat.reduceAdd, Nat.reduceSub, Nat.reduceMul, Nat.reduceLT, Nat.reduceLeDiff, Nat.reduceBEq, Nat.reduceBNe, UInt8.reduceToNat, wr, dle, dlt, h0, h2, h3, h4, m1, m2, m3, hc, hpk, hx0])
        | (refine xw_skip ?_; simp only [sq, bl])
        | (refine xw_exit ?_; simp only [sq, bl, if_true, if_false, Nat.reduceEqDiff])
        | (refine xw_label ?_; simp only [sq, bl]))
      exact ⟨(N - (i + 1)).toNat, by omega, i + 1, rfl, by omega, by omega, es, ho, fun e h => by have := hes e h; omega, by omega, p' + 1, by omega, by omega, rfl, rfl, rfl⟩
    · obtain ⟨y, hy, _, hpk2⟩ := c_pick bs (p' + 1) i hb (by omega) (by omega)
      have hy' := hy hi1
      have hedge := c_l1Edge y i
      have hput := c_l1Put es (edgeOf y i).1 (edgeOf y i).2 (by omega)
      have he : edgeOf y i = (y, i) := by simp [edgeOf, hy'.2]
      rw [he] at hedge hput
      repeat (first
        | refine xw_seq ?_
        | refine xw_block ?_
        | (refine xw_reg ?_; simp (disch := first | decide | omega) only [go_sem, ↓reduceIte, Int.reduceLE, Int.reduceLT, Int.reduceToNat, Int.reduceNeg, Int.reduceAdd, Int.reduceSub, Int.reduceMul, Int.reduceEq, Int.reduceNe, Nat.reduceEqDiff, Nat.reduceAdd, Nat.reduceSub, Nat.reduceMul, Nat.reduceLT, Nat.reduceLeDiff, Nat.reduceBEq, Nat.reduceBNe, UInt8.reduceToNat, wr, dle, dlt, h0, h2, h3, h4, m1, m2, m3, hc, hpk, hx0, hpk2, hedge, hput])
        | (refine xw_regd ?_; simp (disch := first | decide | omega) only [go_sem, ↓reduceIte, Int.reduceLE, Int.reduceLT, Int.reduceToNat, Int.reduceNeg, Int.reduceAdd, Int.reduceSub, Int.reduceMul, Int.reduceEq, Int.reduceNe, Nat.reduceEqDiff, Nat.reduceAdd, Nat.reduceSub, Nat.reduceMul, Nat.reduceLT, Nat.reduceLeDiff, Nat.reduceBEq, Nat.reduceBNe, UInt8.reduceToNat, wr, dle, dlt, h0, h2, h3, h4, m1, m2, m3, hc, hpk, hx0, hpk2, hedge, hput]; refine ⟨by kernel_rfl, ?_⟩)
        | (refine xw_if ?_; simp (disch := first | decide | omega) only [go_sem, ↓reduceIte, Int.reduceLE, Int.reduceLT, Int.reduceToNat, Int.reduceNeg, Int.reduceAdd, Int.reduceSub, Int.reduceMul, Int.reduceEq, Int.reduceNe, Nat.reduceEqDiff, Nat.reduceAdd, Nat.reduceSub, Nat.reduceMul, Nat.reduceLT, Nat.reduceLeDiff, Nat.reduceBEq, Nat.reduceBNe, UInt8.reduceToNat, wr, dle, dlt, h0, h2, h3, h4, m1, m2, m3, hc, hpk, hx0, hpk2, hedge, hput])
        | (refine xw_skip ?_; simp only [sq, bl])
        | (refine xw_exit ?_; simp only [sq, bl, if_true, if_false, Nat.reduceEqDiff])
        | (refine xw_label ?_; simp only [sq, bl]))
      have hnin : (y, i) ∉ es := fun h => by have := hes _ h; simp at this
      refine ⟨(N - (i + 1)).toNat, by omega, i + 1, rfl, by omega, by omega, putE (y, i) es, ho.put hnin, fun e h => ?_, by rw [putE_length]; omega, p' + 1 + 1, by omega, by omega, rfl, rfl, by rw [← qe_putE]⟩
      rcases mem_putE.1 h with rfl | h
      · simp only; omega
      · have := hes e h; omega
end Go.Proofs.Ytdlfdoicheakoaa.X

/- What functions compute: graphs that may be wrong. -/
set_option linter.unusedSimpArgs false
set_option linter.unusedVariables false
set_option maxHeartbeats 2000000
namespace Go.Proofs.Ytdlfdoicheakoaa.X
open Go Go.Proofs
abbrev GL (n : Int) (es : List (Int × Int)) : PV := .agg [I n, LE es]
/-- A list of edges, in whatever form. -/
structure EL (x : IV) (es : List (Int × Int)) : Prop where
  f : ∀ n, frz n (.i x) = .ret (.lst (es.map encE))
  fl : x.flat = true
theorem EL.qe (es : List (Int × Int)) : EL (qe es) es := ⟨fun _ => frz_qe, flat_qe⟩
theorem EL.lst (es : List (Int × Int)) : EL (.lst (es.map encE)) es := ⟨fun n => by cases n <;> rfl, rfl⟩
theorem c_l1Copy (n : Int) (es : List (Int × Int)) (hl : es.length ≤ 1048576) : KP 131 [GL n es] [] = some (.agg [I n, .ref 2000 0 0 es.length], [], [.arr 0 2 (es.map encE)]) := by
  refine xw_call (fn := Try.f131) rfl Try.func131 rfl ⟨Nat.le_of_ble_eq_true rfl, rfl, rfl⟩ ?_
  repeat (first
    | refine xw_seq ?_
    | refine xw_block ?_
    | (refine xw_reg ?_; simp (disch := first | decide | omega) only [go_sem, ↓reduceIte, Int.reduceLE, Int.reduceLT, Int.reduceToNat, Int.reduceNeg, Int.reduceAdd, Int.reduceSub, Int.reduceMul, Int.reduceEq, Int.reduceNe, Nat.reduceEqDiff, Nat.reduceAdd, Nat.reduceSub, Nat.reduceMul, Nat.reduceLT, Nat.reduceLeDiff, Nat.reduceBEq, Nat.reduceBNe, UInt8.reduceToNat, wr, dle, dlt,])
    | (refine xw_regd ?_; simp (disch := first | decide | omega) only [go_sem, ↓reduceIte, Int.reduceLE, Int.reduceLT, Int.reduceToNat, Int.reduceNeg, Int.reduceAdd, Int.reduceSub, Int.reduceMul, Int.reduceEq, Int.reduceNe, Nat.reduceEqDiff, Nat.reduceAdd, Nat.reduceSub, Nat.reduceMul, Nat.reduceLT, Nat.reduceLeDiff, Nat.reduceBEq, Nat.reduceBNe, UInt8.reduceToNat, wr, dle, dlt,]; refine ⟨by kernel_rfl, ?_⟩)
    | (refine xw_if ?_; simp (disch := first | decide | omega) only [go_sem, ↓reduceIte, Int.reduceLE, Int.reduceLT, Int.reduceToNat, Int.reduceNeg, Int.reduceAdd, Int.reduceSub, Int.reduceMul, Int.reduceEq, Int.reduceNe, Nat.reduceEqDiff, Nat.reduceAdd, Nat.reduceSub, Nat.reduceMul, Nat.reduceLT, Nat.reduceLeDiff, Nat.reduceBEq, Nat.reduceBNe, UInt8.reduceToNat, wr, dle, dlt,])
    | (refine xw_skip ?_; simp only [sq, bl])
    | (refine xw_exit ?_; simp only [sq, bl, if_true, if_false, Nat.reduceEqDiff])
    | (refine xw_label ?_; simp only [sq, bl]))
  first | refine xw_ret (post_ret ?_) | refine post_normal ?_ | refine xw_ret (postE_ret ?_) | refine postE_normal ?_
  simp only [go_sem, ↓reduceIte, Int.reduceLE, Int.reduceLT, Int.reduceToNat, Int.reduceNeg, Int.reduceAdd, Int.reduceSub, Int.reduceMul, Int.reduceEq, Int.reduceNe, Nat.reduceEqDiff, Nat.reduceAdd, Nat.reduceSub, Nat.reduceMul, Nat.reduceLT, Nat.reduceLeDiff, Nat.reduceBEq, Nat.reduceBNe, UInt8.reduceToNat, Try.results131, Try.f131]
end Go.Proofs.Ytdlfdoicheakoaa.X

/- What functions compute: a graph and a node. -/
set_option linter.unusedSimpArgs false
set_option linter.unusedVariables false
set_option maxHeartbeats 2000000
namespace Go.Proofs.Ytdlfdoicheakoaa.X
open Go Go.Proofs
end Go.Proofs.Ytdlfdoicheakoaa.X
