/- What functions compute: lines with numbers. -/
import Derived.Test.YtdjdgnabcecdlaaGreatDoorC108
import Derived.Test.YtdjdgnabcecdlaaGreatDoorKE
set_option linter.unusedSimpArgs false
set_option linter.unusedVariables false
set_option maxHeartbeats 8000000
set_option maxRecDepth 100000
namespace Go.Proofs.YtdjdgnabcecdlaaGreatDoor.X
open Go Go.Proofs
theorem dgt_len (a : Int) : (dgt a).length ≤ 2 := (dec2_len (n := a.toNat)).2
theorem path_small {n : Int} {es : List (Int × Int)} {a b : Int} (hV : VG n es) (ha : 0 ≤ a ∧ a < n) (hb : 0 ≤ b ∧ b < n) (hc : Conn es a b) : smallL (pathL n es a b) ∧ (pathL n es a b).length ≤ 17 := by
  have ho := hV.okg.ok
  have hn : 0 ≤ n := by have := hV.1; omega
  have hn2 := hV.2.1
  refine ⟨fun v hv => ?_, ?_⟩
  · obtain ⟨i, hi, rfl⟩ := List.getElem_of_mem hv
    have h1 := pathL_at ho hn hc hi
    have h2 := Conn.ok ho h1.1
    have e : (pathL n es a b).getD i 0 = (pathL n es a b)[i] := by simp [hi]
    rw [e] at h2
    omega
  · rw [pathL_len]
    have := dst_le (t := b) (x := a) ho hn
    omega
theorem c_nl_path (n a b : Int) (x y z : IV) (ts : List Tl) (h3 : LV3 x y z ts) (hV : VG n (esT ts)) (ha : 0 ≤ a ∧ a < n) (hb : 0 ≤ b ∧ b < n) (hc : Conn (esT ts) a b) :
    KP 140 [.ptr 1000 0 0 0, S [112, 97, 116, 104], .i (.lst [[.v (.int .i64 a)], [.v (.int .i64 b)]])] [.box 0 [I n, .i x, .i y, .i z]] =
      some (S ([112, 97, 116, 104] ++ numsT (pathL n (esT ts) a b) ++ [10]), [.box 0 [I n, .i x, .i y, .i z]], []) := by
  have hfx := h3.fx
  have hlx := h3.lx
  have hel := hV.2.2.1
  obtain ⟨hs, hl⟩ := path_small hV ha hb hc
  have hp := c_PathBetween n a b (esT ts) (by omega)
  rw [if_pos ⟨hV, ha.1, ha.2, hb.1, hb.2, hc⟩] at hp
  have he := c_EdgeOf a b
  have hnt := c_numbersText [112, 97, 116, 104] (pathL n (esT ts) a b) hs (by simp) (by omega)
  generalize pathL n (esT ts) a b = P at *
  generalize hR : ([112, 97, 116, 104] : List UInt8) ++ numsT P ++ [10] = R at *
  by_cases hE : eOk a b
  · rw [if_pos hE] at he
    refine xw_call (fn := Tryz.f140) rfl Tryz.func140 rfl ⟨Nat.le_of_ble_eq_true rfl, rfl, rfl⟩ ?_
    repeat' (first
      | refine xw_seq ?_
      | refine xw_block ?_
      | (refine ite_two ?_ ?_ <;> intro _ <;> first | (exfalso; omega) | skip)
      | refine ord_split (by kernel_rfl) ?_
      | (refine xw_ret ?_ <;> try simp only [sq, bl, LQ])
      | ((first | refine xw_reg ?_ | refine xw_regd ?_ | refine xw_if ?_ | refine xw_skip ?_ | refine xw_exit ?_ | refine xw_label ?_ | refine post_ret ?_ | refine post_normal ?_ | refine postE_ret ?_ | refine postE_normal ?_) <;> simp (config := { maxSteps := 3000000 }) (disch := first | assumption | omega | exact VG.okg (by assumption) | (simp only [List.length_set, List.length_append, List.length_cons, List.length_nil, List.length_replicate]; omega)) only [go_sem, ↓reduceIte, Int.reduceLE, Int.reduceLT, Int.reduceToNat, Int.reduceNeg, Int.reduceAdd, Int.reduceSub, Int.reduceMul, Int.reduceEq, Int.reduceNe, Nat.reduceEqDiff, Nat.reduceAdd, Nat.reduceSub, Nat.reduceMul, Nat.reduceLT, Nat.reduceLeDiff, Nat.reduceBEq, Nat.reduceBNe, UInt8.reduceToNat, Tryz.results140, hfx, hlx, he, hp, hnt])
      | (((first | refine at_region ?_ | refine at_out ?_ | refine at_cond ?_); split) <;> first | (exfalso; omega; done) | simp (config := { maxSteps := 3000000 }) (disch := first | assumption | omega | exact VG.okg (by assumption) | (simp only [List.length_set, List.length_append, List.length_cons, List.length_nil, List.length_replicate]; omega)) only [go_sem, ↓reduceIte, Int.reduceLE, Int.reduceLT, Int.reduceToNat, Int.reduceNeg, Int.reduceAdd, Int.reduceSub, Int.reduceMul, Int.reduceEq, Int.reduceNe, Nat.reduceEqDiff, Nat.reduceAdd, Nat.reduceSub, Nat.reduceMul, Nat.reduceLT, Nat.reduceLeDiff, Nat.reduceBEq, Nat.reduceBNe, UInt8.reduceToNat, Tryz.results140, hfx, hlx, he, hp, hnt] | skip))
  · rw [if_neg hE] at he
    refine xw_call (fn := Tryz.f140) rfl Tryz.func140 rfl ⟨Nat.le_of_ble_eq_true rfl, rfl, rfl⟩ ?_
    repeat' (first
      | refine xw_seq ?_
      | refine xw_block ?_
      | (refine ite_two ?_ ?_ <;> intro _ <;> first | (exfalso; omega) | skip)
      | refine ord_split (by kernel_rfl) ?_
      | (refine xw_ret ?_ <;> try simp only [sq, bl, LQ])
      | ((first | refine xw_reg ?_ | refine xw_regd ?_ | refine xw_if ?_ | refine xw_skip ?_ | refine xw_exit ?_ | refine xw_label ?_ | refine post_ret ?_ | refine post_normal ?_ | refine postE_ret ?_ | refine postE_normal ?_) <;> simp (config := { maxSteps := 3000000 }) (disch := first | assumption | omega | exact VG.okg (by assumption) | (simp only [List.length_set, List.length_append, List.length_cons, List.length_nil, List.length_replicate]; omega)) only [go_sem, ↓reduceIte, Int.reduceLE, Int.reduceLT, Int.reduceToNat, Int.reduceNeg, Int.reduceAdd, Int.reduceSub, Int.reduceMul, Int.reduceEq, Int.reduceNe, Nat.reduceEqDiff, Nat.reduceAdd, Nat.reduceSub, Nat.reduceMul, Nat.reduceLT, Nat.reduceLeDiff, Nat.reduceBEq, Nat.reduceBNe, UInt8.reduceToNat, Tryz.results140, hfx, hlx, he, hp, hnt])
      | (((first | refine at_region ?_ | refine at_out ?_ | refine at_cond ?_); split) <;> first | (exfalso; omega; done) | simp (config := { maxSteps := 3000000 }) (disch := first | assumption | omega | exact VG.okg (by assumption) | (simp only [List.length_set, List.length_append, List.length_cons, List.length_nil, List.length_replicate]; omega)) only [go_sem, ↓reduceIte, Int.reduceLE, Int.reduceLT, Int.reduceToNat, Int.reduceNeg, Int.reduceAdd, Int.reduceSub, Int.reduceMul, Int.reduceEq, Int.reduceNe, Nat.reduceEqDiff, Nat.reduceAdd, Nat.reduceSub, Nat.reduceMul, Nat.reduceLT, Nat.reduceLeDiff, Nat.reduceBEq, Nat.reduceBNe, UInt8.reduceToNat, Tryz.results140, hfx, hlx, he, hp, hnt] | skip))
theorem no10_two {w : List UInt8} (h : (10 : UInt8) ∉ w) {a b : Int} (ha : 0 ≤ a ∧ a < 100) (hb : 0 ≤ b ∧ b < 100) : (10 : UInt8) ∉ w ++ 32 :: (dgt a ++ 32 :: dgt b) := by
  simp only [List.mem_append, List.mem_cons, not_or]
  exact ⟨h, by decide, dec2_no (by omega) (by decide), by decide, dec2_no (by omega) (by decide)⟩
theorem nums2 (a b : Int) : numsT [a, b] = 32 :: (dgt a ++ 32 :: dgt b) := by simp [numsT]
theorem c_dyNumbers2 (a b : Int) (ha : 0 ≤ a ∧ a < 100) (hb : 0 ≤ b ∧ b < 100) : KP 17 [.i (.lst [[.v (.int .i64 a)], [.v (.int .i64 b)]])] [] = some (S (numsT [a, b]), [], []) :=
  c_dyNumbers [a, b] (fun x hx => by simp at hx; rcases hx with rfl | rfl <;> assumption) (by simp)
end Go.Proofs.YtdjdgnabcecdlaaGreatDoor.X
