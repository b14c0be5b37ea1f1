/- What functions compute: the line of blocks. -/
import Derived.Test.YtdjdgnabcecdlaaGreatDoorKAN
import Derived.Test.YtdjdgnabcecdlaaGreatDoorC48
set_option linter.unusedSimpArgs false
set_option linter.unusedVariables false
set_option maxHeartbeats 8000000
set_option maxRecDepth 100000
namespace Go.Proofs.YtdjdgnabcecdlaaGreatDoor.X
open Go Go.Proofs
/-- Lines of edges. -/
def linesE (D : List UInt8) (ps : List (List (Int × Int))) : List UInt8 := ps.flatMap fun p => D ++ edsT p ++ [10]
theorem linesE_snoc (D : List UInt8) (ps : List (List (Int × Int))) (p : List (Int × Int)) : linesE D (ps ++ [p]) = linesE D ps ++ (D ++ edsT p ++ [10]) := by simp [linesE]
theorem linesE_len (D : List UInt8) (k : Nat) : ∀ ps : List (List (Int × Int)), (∀ p ∈ ps, p.length ≤ k) → (linesE D ps).length ≤ ps.length * (D.length + 6 * k + 1)
  | [], _ => by simp [linesE]
  | p :: ps, h => by
    have h1 := linesE_len D k ps (fun q hq => h q (by simp [hq]))
    have h2 := edsT_len p
    have h3 := h p (by simp)
    have e : linesE D (p :: ps) = D ++ edsT p ++ [10] ++ linesE D ps := by simp [linesE]
    rw [e, List.length_append, List.length_append, List.length_append, List.length_cons, List.length_cons, Nat.add_mul ps.length 1, Nat.one_mul]
    simp only [List.length_nil]
    omega
theorem blocks_small {n : Int} {es : List (Int × Int)} (hV : VG n es) : (∀ b ∈ blocksL es, smallE b ∧ b.length ≤ 40) ∧ (blocksL es).length ≤ 40 := by
  have ho := hV.okg.ok
  have h16 := hV.2.1
  have hel := hV.2.2.1
  refine ⟨fun b hb => ?_, by have := blocks_len (es := es); omega⟩
  obtain ⟨h1, h2⟩ := blocks_ok ho hb
  refine ⟨fun e he => ?_, by omega⟩
  have := h1 e he
  unfold okE at this
  omega
theorem c_wl_blocks (n : Int) (x y z : IV) (ts : List Tl) (h3 : LV3 x y z ts) (hV : VG n (esT ts)) :
    KP 137 [.ptr 1000 0 0 0, S [98, 108, 111, 99, 107, 115]] [.box 0 [I n, .i x, .i y, .i z]] = some (S (linesE [98, 108, 111, 99, 107] (blocksL (esT ts)) ++ [101, 110, 100, 10]), [.box 0 [I n, .i x, .i y, .i z]], []) := by
  have hfx := h3.fx
  have hlx := h3.lx
  have hel := hV.2.2.1
  have hc := c_BlocksOf n (esT ts) (by omega)
  rw [if_pos hV] at hc
  obtain ⟨hs, hk⟩ := blocks_small hV
  generalize blocksL (esT ts) = ps at *
  have hb1 := fun k : Nat => linesE_len [98, 108, 111, 99, 107] 40 (ps.take k) (fun p hp => (hs p (List.mem_of_mem_take hp)).2)
  have hb2 : ∀ k : Nat, (linesE [98, 108, 111, 99, 107] (ps.take k)).length ≤ 40 * 246 := fun k => Nat.le_trans (hb1 k) (Nat.mul_le_mul (by rw [List.length_take]; omega) (by simp))
  refine xw_call (fn := Tryz.f137) rfl Tryz.func137 rfl ⟨Nat.le_of_ble_eq_true rfl, rfl, rfl⟩ ?_
  repeat' (first
    | refine xw_seq ?_
    | refine xw_block ?_
    | (refine ite_two ?_ ?_ <;> intro _ <;> first | (exfalso; omega) | skip)
    | refine ord_split (by kernel_rfl) ?_
    | (refine xw_ret ?_ <;> try simp only [sq, bl, LQ])
    | ((first | refine xw_reg ?_ | refine xw_regd ?_ | refine xw_if ?_ | refine xw_skip ?_ | refine xw_exit ?_ | refine xw_label ?_ | refine post_ret ?_ | refine post_normal ?_ | refine postE_ret ?_ | refine postE_normal ?_ | (((first | refine at_region ?_ | refine at_out ?_ | refine at_cond ?_); split) <;> first | (exfalso; omega; done) | skip)) <;> try simp (config := { maxSteps := 3000000 }) (disch := first | assumption | omega | exact VG.okg (by assumption) | (simp only [List.length_set, List.length_append, List.length_cons, List.length_nil, List.length_replicate]; omega)) only [go_sem, ↓reduceIte, Int.reduceLE, Int.reduceLT, Int.reduceToNat, Int.reduceNeg, Int.reduceAdd, Int.reduceSub, Int.reduceMul, Int.reduceEq, Int.reduceNe, Nat.reduceEqDiff, Nat.reduceAdd, Nat.reduceSub, Nat.reduceMul, Nat.reduceLT, Nat.reduceLeDiff, Nat.reduceBEq, Nat.reduceBNe, UInt8.reduceToNat, Tryz.results137, hfx, hlx, hc]))
  refine xw_loopR (fun (i : Int) s => s.ρ 0 = .ptr 1000 0 0 0 ∧ s.m 1000 = some (.box 0 [I n, .i x, .i y, .i z]) ∧ s.ρ 53 = LLE ps ∧ s.ρ 54 = I ps.length ∧ s.ρ 55 = I i ∧ s.ρ 6 = S (linesE [98, 108, 111, 99, 107] (ps.take i.toNat)) ∧ 0 ≤ i ∧ i ≤ ps.length) (fun i => (ps.length - i).toNat) 0 ?_ ?_
  · refine ⟨?_, ?_, ?_, ?_, ?_, ?_, by omega, by omega⟩
    all_goals (simp [upd, linesE]; done)
  rintro i ⟨ρ, m⟩ ⟨e0, m1000, e53, e54, e55, e6, g0, g1⟩
  simp only at e0 m1000 e53 e54 e55 e6 g0 g1
  have hbi := hb2 i.toNat
  by_cases hi : i < ps.length
  rotate_left
  · rw [take_all (by omega)] at e6 hbi
    repeat' (first
      | refine xw_seq ?_
      | refine xw_block ?_
      | (refine ite_two ?_ ?_ <;> intro _ <;> first | (exfalso; omega) | skip)
      | refine ord_split (by kernel_rfl) ?_
      | (refine xw_ret ?_ <;> try simp only [sq, bl, LQ])
      | ((first | refine xw_reg ?_ | refine xw_regd ?_ | refine xw_if ?_ | refine xw_skip ?_ | refine xw_exit ?_ | refine xw_label ?_ | refine post_ret ?_ | refine post_normal ?_ | refine postE_ret ?_ | refine postE_normal ?_ | (((first | refine at_region ?_ | refine at_out ?_ | refine at_cond ?_); split) <;> first | (exfalso; omega; done) | skip)) <;> try simp (config := { maxSteps := 3000000 }) (disch := first | assumption | omega | exact VG.okg (by assumption) | (simp only [List.length_set, List.length_append, List.length_cons, List.length_nil, List.length_replicate]; omega)) only [go_sem, ↓reduceIte, Int.reduceLE, Int.reduceLT, Int.reduceToNat, Int.reduceNeg, Int.reduceAdd, Int.reduceSub, Int.reduceMul, Int.reduceEq, Int.reduceNe, Nat.reduceEqDiff, Nat.reduceAdd, Nat.reduceSub, Nat.reduceMul, Nat.reduceLT, Nat.reduceLeDiff, Nat.reduceBEq, Nat.reduceBNe, UInt8.reduceToNat, Tryz.results137, e0, m1000, e53, e54, e55, e6, hlx]))
  have hm := getD_mem (d := []) (show i.toNat < ps.length by omega)
  have hgi : (ps.map encLE)[i.toNat]? = some [.lst ((ps.getD i.toNat []).map encE)] := by
    have : i.toNat < ps.length := by omega
    simp [encLE, this]
  have hnx : linesE [98, 108, 111, 99, 107] (ps.take (i + 1).toNat) = linesE [98, 108, 111, 99, 107] (ps.take i.toNat) ++ ([98, 108, 111, 99, 107] ++ edsT (ps.getD i.toNat []) ++ [10]) := by
    rw [take_int [] g0 hi, linesE_snoc]
  have hl8 := (hs _ hm).2
  have het := c_edgesText [98, 108, 111, 99, 107] (ps.getD i.toNat []) (hs _ hm).1 (by simp) (by omega)
  have hl7 := edsT_len (ps.getD i.toNat [])
  generalize linesE [98, 108, 111, 99, 107] (ps.take i.toNat) = T at *
  generalize ps.getD i.toNat [] = p at *
  generalize hQ : ([98, 108, 111, 99, 107] : List UInt8) ++ edsT p = Q at *
  have hQl : Q.length ≤ 300 := by rw [← hQ]; simp only [List.length_append, List.length_cons, List.length_nil]; omega
  repeat' (first
    | refine xw_seq ?_
    | refine xw_block ?_
    | (refine ite_two ?_ ?_ <;> intro _ <;> first | (exfalso; omega) | skip)
    | refine ord_split (by kernel_rfl) ?_
    | (refine xw_ret ?_ <;> try simp only [sq, bl, LQ])
    | ((first | refine xw_reg ?_ | refine xw_regd ?_ | refine xw_if ?_ | refine xw_skip ?_ | refine xw_exit ?_ | refine xw_label ?_ | refine post_ret ?_ | refine post_normal ?_ | refine postE_ret ?_ | refine postE_normal ?_ | (((first | refine at_region ?_ | refine at_out ?_ | refine at_cond ?_); split) <;> first | (exfalso; omega; done) | skip)) <;> try simp (config := { maxSteps := 3000000 }) (disch := first | assumption | omega | exact VG.okg (by assumption) | (simp only [List.length_set, List.length_append, List.length_cons, List.length_nil, List.length_replicate]; omega)) only [go_sem, ↓reduceIte, Int.reduceLE, Int.reduceLT, Int.reduceToNat, Int.reduceNeg, Int.reduceAdd, Int.reduceSub, Int.reduceMul, Int.reduceEq, Int.reduceNe, Nat.reduceEqDiff, Nat.reduceAdd, Nat.reduceSub, Nat.reduceMul, Nat.reduceLT, Nat.reduceLeDiff, Nat.reduceBEq, Nat.reduceBNe, UInt8.reduceToNat, Tryz.results137, e0, m1000, e53, e54, e55, e6, hgi, het, hlx]))
  exact ⟨by rw [hnx], by omega, by omega, by omega⟩
end Go.Proofs.YtdjdgnabcecdlaaGreatDoor.X
