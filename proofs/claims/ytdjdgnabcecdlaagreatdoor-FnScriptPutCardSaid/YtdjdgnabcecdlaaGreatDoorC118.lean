/- What functions compute: the line that puts an edge. -/
import Derived.Test.YtdjdgnabcecdlaaGreatDoorKAJ
import Derived.Test.YtdjdgnabcecdlaaGreatDoorKAE
set_option linter.unusedSimpArgs false
set_option linter.unusedVariables false
set_option maxHeartbeats 8000000
set_option maxRecDepth 100000
namespace Go.Proofs.YtdjdgnabcecdlaaGreatDoor.X
open Go Go.Proofs
theorem eof {a b : Int} (h : a < b) : edgeOf b a = (a, b) := by unfold edgeOf; rw [if_neg (by omega)]
theorem cnt_le16 {n : Int} {es : List (Int × Int)} (h : n ≤ 16) : cnt n es ≤ 16 := by
  have := cnt_le (n := n) (es := es)
  omega
theorem c_nl_put (n a b : Int) (x y z : IV) (ts : List Tl) (h3 : LV3 x y z ts) (hP : PlOK n ts (a, b)) (hab : 0 ≤ a ∧ a < b ∧ b < 16) :
    KP 140 [.ptr 1000 0 0 0, S [112, 117, 116], .i (.lst [[.v (.int .i64 b)], [.v (.int .i64 a)]])] [.box 0 [I n, .i x, .i y, .i z]] =
      some (S ([112, 97, 114, 116, 115] ++ numsT [(cnt n (putE (a, b) (esT ts)) : Int)] ++ [10]), [.box 0 [I n, .i (.lst ((esT (plL ts (a, b))).map encE)), .i (.lst ((lvT (plL ts (a, b))).map encI)), .i (.lst ((trT (plL ts (a, b))).map encT))]], []) := by
  have hfx := h3.fx
  have hlx := h3.lx
  have hfy := h3.fy
  have hly := h3.ly
  have hfz := h3.fz
  have hlz := h3.lz
  have hVp := hP.2.2.2
  have hel := hVp.2.2.1
  obtain ⟨r, own, hpl, him⟩ := c_PutLevel n a b ts hP
  have hes := putT_es (a, b) (!decide (Conn (esT ts) a b)) ts
  have he := c_EdgeOf b a
  rw [if_pos (show eOk b a by unfold eOk; omega), eof hab.2.1] at he
  have hpc := c_PartCount n (putE (a, b) (esT ts)) (by omega)
  rw [if_pos hVp, ← hes] at hpc
  have hc16 := cnt_le16 (es := putE (a, b) (esT ts)) hVp.2.1
  have hnt : KP 175 [S [112, 97, 114, 116, 115], .i (.lst [[.v (.int .i64 (cnt n (putE (a, b) (esT ts)) : Int))]])] [] = _ := c_numbersText [112, 97, 114, 116, 115] [(cnt n (putE (a, b) (esT ts)) : Int)] (fun v hv => by simp at hv; omega) (by simp) (by simp)
  rw [← hes] at hnt ⊢
  generalize hU : plL ts (a, b) = us at *
  have hU' : putT (a, b) (!decide (Conn (esT ts) a b)) ts = us := hU
  rw [hU'] at hpc hnt ⊢
  generalize (cnt n (esT us) : Int) = c at *
  generalize hR : ([112, 97, 114, 116, 115] : List UInt8) ++ numsT [c] ++ [10] = R at *
  refine xw_call (fn := Tryz.f140) rfl Tryz.func140 rfl ⟨Nat.le_of_ble_eq_true rfl, rfl, rfl⟩ ?_
  repeat' (first
    | refine xw_seq ?_
    | refine xw_block ?_
    | (refine ite_two ?_ ?_ <;> intro _ <;> first | (exfalso; omega) | skip)
    | refine ord_split (by kernel_rfl) ?_
    | (refine xw_ret ?_ <;> try simp only [sq, bl, LQ])
    | ((first | refine xw_reg ?_ | refine xw_regd ?_ | refine xw_if ?_ | refine xw_skip ?_ | refine xw_exit ?_ | refine xw_label ?_ | refine post_ret ?_ | refine post_normal ?_ | refine postE_ret ?_ | refine postE_normal ?_) <;> simp (config := { maxSteps := 3000000 }) (disch := first | assumption | omega | exact VG.okg (by assumption) | (simp only [List.length_set, List.length_append, List.length_cons, List.length_nil, List.length_replicate]; omega)) only [go_sem, ↓reduceIte, Int.reduceLE, Int.reduceLT, Int.reduceToNat, Int.reduceNeg, Int.reduceAdd, Int.reduceSub, Int.reduceMul, Int.reduceEq, Int.reduceNe, Nat.reduceEqDiff, Nat.reduceAdd, Nat.reduceSub, Nat.reduceMul, Nat.reduceLT, Nat.reduceLeDiff, Nat.reduceBEq, Nat.reduceBNe, UInt8.reduceToNat, Tryz.results140, hfx, hlx, hfy, hly, hfz, hlz, he, hpl, him, hpc, hnt])
    | (((first | refine at_region ?_ | refine at_out ?_ | refine at_cond ?_); split) <;> first | (exfalso; omega; done) | simp (config := { maxSteps := 3000000 }) (disch := first | assumption | omega | exact VG.okg (by assumption) | (simp only [List.length_set, List.length_append, List.length_cons, List.length_nil, List.length_replicate]; omega)) only [go_sem, ↓reduceIte, Int.reduceLE, Int.reduceLT, Int.reduceToNat, Int.reduceNeg, Int.reduceAdd, Int.reduceSub, Int.reduceMul, Int.reduceEq, Int.reduceNe, Nat.reduceEqDiff, Nat.reduceAdd, Nat.reduceSub, Nat.reduceMul, Nat.reduceLT, Nat.reduceLeDiff, Nat.reduceBEq, Nat.reduceBNe, UInt8.reduceToNat, Tryz.results140, hfx, hlx, hfy, hly, hfz, hlz, he, hpl, him, hpc, hnt] | skip))
end Go.Proofs.YtdjdgnabcecdlaaGreatDoor.X
