/- What functions compute: a graph is loaded by a line. -/
import Derived.Test.YtdjdgnabcecdlaaGreatDoorC104
import Derived.Test.YtdjdgnabcecdlaaGreatDoorC100
set_option linter.unusedSimpArgs false
set_option linter.unusedVariables false
set_option maxHeartbeats 8000000
set_option maxRecDepth 100000
namespace Go.Proofs.YtdjdgnabcecdlaaGreatDoor.X
open Go Go.Proofs
/-- A list as it stands in a graph with levels: nothing, or a list. -/
structure LV3 (x y z : IV) (ts : List Tl) : Prop where
  fx : ∀ n, frz n (.i x) = .ret (.lst ((esT ts).map encE))
  fy : ∀ n, frz n (.i y) = .ret (.lst ((lvT ts).map encI))
  fz : ∀ n, frz n (.i z) = .ret (.lst ((trT ts).map encT))
  lx : x.flat = true
  ly : y.flat = true
  lz : z.flat = true
theorem LV3.emp : LV3 .emp .emp .emp [] := ⟨fun n => by cases n <;> rfl, fun n => by cases n <;> rfl, fun n => by cases n <;> rfl, rfl, rfl, rfl⟩
theorem LV3.lst (ts : List Tl) : LV3 (.lst ((esT ts).map encE)) (.lst ((lvT ts).map encI)) (.lst ((trT ts).map encT)) ts := ⟨fun n => by cases n <;> rfl, fun n => by cases n <;> rfl, fun n => by cases n <;> rfl, rfl, rfl, rfl⟩
/-- .. of the edges in order. -/
def exI (k : Nat) (ts : List Tl) : IV := if k = 0 then .emp else .lst ((esT ts).map encE)
def eyI (k : Nat) (ts : List Tl) : IV := if k = 0 then .emp else .lst ((lvT ts).map encI)
def ezI (k : Nat) (ts : List Tl) : IV := if k = 0 then .emp else .lst ((trT ts).map encT)
theorem exyz {k : Nat} {ts : List Tl} (h : k = 0 → ts = []) : LV3 (exI k ts) (eyI k ts) (ezI k ts) ts := by
  unfold exI eyI ezI
  by_cases hk : k = 0
  · rw [if_pos hk, if_pos hk, if_pos hk, h hk]; exact LV3.emp
  · rw [if_neg hk, if_neg hk, if_neg hk]; exact LV3.lst ts
theorem c_ParseGraphL (n : Int) (es : List (Int × Int)) (hV : VG n es) : ∃ r own, KP 180 [S (fmtG n es)] [] = some (r, [], own) ∧ imm 2 own r = some (.tup [.agg [I n, .i (qe es)], B true]) := by
  refine ⟨_, _, c_ParseGraph n es hV, ?_⟩
  unfold qP qA qe
  split
  · rfl
  · have : List.take es.length (es.map encE) = es.map encE := List.take_of_length_le (by simp)
    simp [imm, imm1, mapO, this]
theorem c_NewLevels1 (n : Int) (h : 1 ≤ n ∧ n ≤ 16) : KP 70 [I n] [] = some (.tup [.agg [I n, .i .emp, .i .emp, .i .emp], B true], [], []) := by
  obtain ⟨h1, h2⟩ := h
  refine xw_call (fn := Tryz.f70) rfl Tryz.func70 rfl ⟨Nat.le_of_ble_eq_true rfl, rfl, rfl⟩ ?_
  repeat' (first
    | refine xw_seq ?_
    | refine xw_block ?_
    | (refine ite_two ?_ ?_ <;> intro _ <;> first | (exfalso; omega) | skip)
    | refine ord_split (by kernel_rfl) ?_
    | (refine xw_ret ?_ <;> try simp only [sq, bl, LQ])
    | ((first | refine xw_reg ?_ | refine xw_regd ?_ | refine xw_if ?_ | refine xw_skip ?_ | refine xw_exit ?_ | refine xw_label ?_ | refine post_ret ?_ | refine post_normal ?_ | refine postE_ret ?_ | refine postE_normal ?_) <;> simp (config := { maxSteps := 3000000 }) (disch := first | assumption | omega | exact VG.okg (by assumption) | (simp only [List.length_set, List.length_append, List.length_cons, List.length_nil, List.length_replicate]; omega)) only [go_sem, ↓reduceIte, Int.reduceLE, Int.reduceLT, Int.reduceToNat, Int.reduceNeg, Int.reduceAdd, Int.reduceSub, Int.reduceMul, Int.reduceEq, Int.reduceNe, Nat.reduceEqDiff, Nat.reduceAdd, Nat.reduceSub, Nat.reduceMul, Nat.reduceLT, Nat.reduceLeDiff, Nat.reduceBEq, Nat.reduceBNe, UInt8.reduceToNat, Tryz.results70])
    | (((first | refine at_region ?_ | refine at_out ?_ | refine at_cond ?_); split) <;> first | (exfalso; omega; done) | simp (config := { maxSteps := 3000000 }) (disch := first | assumption | omega | exact VG.okg (by assumption) | (simp only [List.length_set, List.length_append, List.length_cons, List.length_nil, List.length_replicate]; omega)) only [go_sem, ↓reduceIte, Int.reduceLE, Int.reduceLT, Int.reduceToNat, Int.reduceNeg, Int.reduceAdd, Int.reduceSub, Int.reduceMul, Int.reduceEq, Int.reduceNe, Nat.reduceEqDiff, Nat.reduceAdd, Nat.reduceSub, Nat.reduceMul, Nat.reduceLT, Nat.reduceLeDiff, Nat.reduceBEq, Nat.reduceBNe, UInt8.reduceToNat, Tryz.results70] | skip))
theorem c_graphLine (n : Int) (es : List (Int × Int)) (hV : VG n es) (n0 : Int) (x y z : IV) (ts0 : List Tl) (h3 : LV3 x y z ts0) :
    KP 138 [.ptr 1000 0 0 0, S (fmtG n es)] [.box 0 [I n0, .i x, .i y, .i z]] = some (S [111, 107, 10], [.box 0 [I n, .i (exI es.length (ldT es)), .i (eyI es.length (ldT es)), .i (ezI es.length (ldT es))]], []) := by
  obtain ⟨hs, m0, m1⟩ := hV.small
  have hel := hV.2.2.1
  obtain ⟨rp, op, hpg, hpi⟩ := c_ParseGraphL n es hV
  have hnl := c_NewLevels1 n ⟨hV.1, hV.2.1⟩
  have hlx := h3.lx
  have hly := h3.ly
  have hlz := h3.lz
  have hqe := lenP_qe (es := es)
  have hqf := flat_qe (es := es)
  have hia := (EQ.qe es).ia
  refine xw_call (fn := Tryz.f138) rfl Tryz.func138 rfl ⟨Nat.le_of_ble_eq_true rfl, rfl, rfl⟩ ?_
  repeat' (first
    | refine xw_seq ?_
    | refine xw_block ?_
    | (refine ite_two ?_ ?_ <;> intro _ <;> first | (exfalso; omega) | skip)
    | refine ord_split (by kernel_rfl) ?_
    | (refine xw_ret ?_ <;> try simp only [sq, bl, LQ])
    | ((first | refine xw_reg ?_ | refine xw_regd ?_ | refine xw_if ?_ | refine xw_skip ?_ | refine xw_exit ?_ | refine xw_label ?_ | refine post_ret ?_ | refine post_normal ?_ | refine postE_ret ?_ | refine postE_normal ?_) <;> simp (config := { maxSteps := 3000000 }) (disch := first | assumption | omega | exact VG.okg (by assumption) | (simp only [List.length_set, List.length_append, List.length_cons, List.length_nil, List.length_replicate]; omega)) only [go_sem, ↓reduceIte, Int.reduceLE, Int.reduceLT, Int.reduceToNat, Int.reduceNeg, Int.reduceAdd, Int.reduceSub, Int.reduceMul, Int.reduceEq, Int.reduceNe, Nat.reduceEqDiff, Nat.reduceAdd, Nat.reduceSub, Nat.reduceMul, Nat.reduceLT, Nat.reduceLeDiff, Nat.reduceBEq, Nat.reduceBNe, UInt8.reduceToNat, Tryz.results138, hpg, hpi, hnl, hlx, hly, hlz, hqe, hqf])
    | (((first | refine at_region ?_ | refine at_out ?_ | refine at_cond ?_); split) <;> first | (exfalso; omega; done) | simp (config := { maxSteps := 3000000 }) (disch := first | assumption | omega | exact VG.okg (by assumption) | (simp only [List.length_set, List.length_append, List.length_cons, List.length_nil, List.length_replicate]; omega)) only [go_sem, ↓reduceIte, Int.reduceLE, Int.reduceLT, Int.reduceToNat, Int.reduceNeg, Int.reduceAdd, Int.reduceSub, Int.reduceMul, Int.reduceEq, Int.reduceNe, Nat.reduceEqDiff, Nat.reduceAdd, Nat.reduceSub, Nat.reduceMul, Nat.reduceLT, Nat.reduceLeDiff, Nat.reduceBEq, Nat.reduceBNe, UInt8.reduceToNat, Tryz.results138, hpg, hpi, hnl, hlx, hly, hlz, hqe, hqf] | skip))
  refine xw_loopR (fun (i : Int) s => s.ρ 0 = .ptr 1000 0 0 0 ∧ s.m 1000 = some (.box 0 [I n0, .i x, .i y, .i z]) ∧ s.ρ 5 = .ptr 5 0 0 0 ∧ s.m 5 = some (.box 0 [I n, .i (qe es)]) ∧ s.ρ 7 = .ptr 7 0 0 0 ∧
    s.m 7 = some (.box 0 [I n, .i (exI i.toNat (ldT (es.take i.toNat))), .i (eyI i.toNat (ldT (es.take i.toNat))), .i (ezI i.toNat (ldT (es.take i.toNat)))]) ∧ s.ρ 25 = .i (qe es) ∧ s.ρ 26 = I es.length ∧ s.ρ 27 = I i ∧ 0 ≤ i ∧ i ≤ es.length) (fun i => (es.length - i).toNat) 0 ?_ ?_
  · refine ⟨?_, ?_, ?_, ?_, ?_, ?_, ?_, ?_, ?_, by omega, by omega⟩
    all_goals first | rfl | (simp [upd]; done)
  rintro i ⟨ρ, m⟩ ⟨e0, m1000, e5, m5, e7, m7, e25, e26, e27, g0, g1⟩
  simp only at e0 m1000 e5 m5 e7 m7 e25 e26 e27 g0 g1
  have hL := exyz (k := i.toNat) (ts := ldT (es.take i.toNat)) (fun h => by rw [h]; rfl)
  have hfx := hL.fx
  have hfy := hL.fy
  have hfz := hL.fz
  have hx' := hL.lx
  have hy' := hL.ly
  have hz' := hL.lz
  by_cases hi : i < es.length
  rotate_left
  · have hlen : i.toNat = es.length := by omega
    rw [take_all (by omega), hlen] at m7 hx' hy' hz'
    repeat' (first
      | refine xw_seq ?_
      | refine xw_block ?_
      | (refine ite_two ?_ ?_ <;> intro _ <;> first | (exfalso; omega) | skip)
      | refine ord_split (by kernel_rfl) ?_
      | (refine xw_ret ?_ <;> try simp only [sq, bl, LQ])
      | ((first | refine xw_reg ?_ | refine xw_regd ?_ | refine xw_if ?_ | refine xw_skip ?_ | refine xw_exit ?_ | refine xw_label ?_ | refine post_ret ?_ | refine post_normal ?_ | refine postE_ret ?_ | refine postE_normal ?_) <;> simp (config := { maxSteps := 3000000 }) (disch := first | assumption | omega | exact VG.okg (by assumption) | (simp only [List.length_set, List.length_append, List.length_cons, List.length_nil, List.length_replicate]; omega)) only [go_sem, ↓reduceIte, Int.reduceLE, Int.reduceLT, Int.reduceToNat, Int.reduceNeg, Int.reduceAdd, Int.reduceSub, Int.reduceMul, Int.reduceEq, Int.reduceNe, Nat.reduceEqDiff, Nat.reduceAdd, Nat.reduceSub, Nat.reduceMul, Nat.reduceLT, Nat.reduceLeDiff, Nat.reduceBEq, Nat.reduceBNe, UInt8.reduceToNat, Tryz.results138, e0, m1000, e5, m5, e7, m7, e25, e26, e27, hlx, hly, hlz, hx', hy', hz'])
      | (((first | refine at_region ?_ | refine at_out ?_ | refine at_cond ?_); split) <;> first | (exfalso; omega; done) | simp (config := { maxSteps := 3000000 }) (disch := first | assumption | omega | exact VG.okg (by assumption) | (simp only [List.length_set, List.length_append, List.length_cons, List.length_nil, List.length_replicate]; omega)) only [go_sem, ↓reduceIte, Int.reduceLE, Int.reduceLT, Int.reduceToNat, Int.reduceNeg, Int.reduceAdd, Int.reduceSub, Int.reduceMul, Int.reduceEq, Int.reduceNe, Nat.reduceEqDiff, Nat.reduceAdd, Nat.reduceSub, Nat.reduceMul, Nat.reduceLT, Nat.reduceLeDiff, Nat.reduceBEq, Nat.reduceBNe, UInt8.reduceToNat, Tryz.results138, e0, m1000, e5, m5, e7, m7, e25, e26, e27, hlx, hly, hlz, hx', hy', hz'] | skip))
  have hgi := getE es i.toNat (by omega)
  have htk := take_int (l := es) (0, 0) g0 hi
  have hld : LD n (es.take i.toNat) := ld (hV.sub (List.take_sublist _ _))
  have hld1 : VG n (es.take (i + 1).toNat) := hV.sub (List.take_sublist _ _)
  have hia' := fun el => hia el i g0 hi
  generalize es.getD i.toNat (0, 0) = e at hgi htk
  obtain ⟨a, b⟩ := e
  simp only at hgi
  rw [htk] at hld1
  have hP := hld.put hld1
  obtain ⟨r, own, hpl, him⟩ := c_PutLevel n a b (ldT (es.take i.toNat)) hP
  have hnx : ldT (es.take (i + 1).toNat) = plL (ldT (es.take i.toNat)) (a, b) := by rw [htk, ldT_snoc]
  have h1 : ¬ (i + 1).toNat = 0 := by omega
  have hX : exI (i + 1).toNat (ldT (es.take (i + 1).toNat)) = .lst ((esT (plL (ldT (es.take i.toNat)) (a, b))).map encE) := by rw [exI, if_neg h1, hnx]
  have hY : eyI (i + 1).toNat (ldT (es.take (i + 1).toNat)) = .lst ((lvT (plL (ldT (es.take i.toNat)) (a, b))).map encI) := by rw [eyI, if_neg h1, hnx]
  have hZ : ezI (i + 1).toNat (ldT (es.take (i + 1).toNat)) = .lst ((trT (plL (ldT (es.take i.toNat)) (a, b))).map encT) := by rw [ezI, if_neg h1, hnx]
  generalize plL (ldT (es.take i.toNat)) (a, b) = us at *
  generalize ldT (es.take i.toNat) = ts at *
  generalize exI i.toNat ts = X0 at *
  generalize eyI i.toNat ts = Y0 at *
  generalize ezI i.toNat ts = Z0 at *
  repeat' (first
    | refine xw_seq ?_
    | refine xw_block ?_
    | (refine ite_two ?_ ?_ <;> intro _ <;> first | (exfalso; omega) | skip)
    | refine ord_split (by kernel_rfl) ?_
    | (refine xw_ret ?_ <;> try simp only [sq, bl, LQ])
    | ((first | refine xw_reg ?_ | refine xw_regd ?_ | refine xw_if ?_ | refine xw_skip ?_ | refine xw_exit ?_ | refine xw_label ?_ | refine post_ret ?_ | refine post_normal ?_ | refine postE_ret ?_ | refine postE_normal ?_) <;> simp (config := { maxSteps := 3000000 }) (disch := first | assumption | omega | exact VG.okg (by assumption) | (simp only [List.length_set, List.length_append, List.length_cons, List.length_nil, List.length_replicate]; omega)) only [go_sem, ↓reduceIte, Int.reduceLE, Int.reduceLT, Int.reduceToNat, Int.reduceNeg, Int.reduceAdd, Int.reduceSub, Int.reduceMul, Int.reduceEq, Int.reduceNe, Nat.reduceEqDiff, Nat.reduceAdd, Nat.reduceSub, Nat.reduceMul, Nat.reduceLT, Nat.reduceLeDiff, Nat.reduceBEq, Nat.reduceBNe, UInt8.reduceToNat, Tryz.results138, e0, m1000, e5, m5, e7, m7, e25, e26, e27, hx', hy', hz', hfx, hfy, hfz, hgi, hia', hpl, him])
    | (((first | refine at_region ?_ | refine at_out ?_ | refine at_cond ?_); split) <;> first | (exfalso; omega; done) | simp (config := { maxSteps := 3000000 }) (disch := first | assumption | omega | exact VG.okg (by assumption) | (simp only [List.length_set, List.length_append, List.length_cons, List.length_nil, List.length_replicate]; omega)) only [go_sem, ↓reduceIte, Int.reduceLE, Int.reduceLT, Int.reduceToNat, Int.reduceNeg, Int.reduceAdd, Int.reduceSub, Int.reduceMul, Int.reduceEq, Int.reduceNe, Nat.reduceEqDiff, Nat.reduceAdd, Nat.reduceSub, Nat.reduceMul, Nat.reduceLT, Nat.reduceLeDiff, Nat.reduceBEq, Nat.reduceBNe, UInt8.reduceToNat, Tryz.results138, e0, m1000, e5, m5, e7, m7, e25, e26, e27, hx', hy', hz', hfx, hfy, hfz, hgi, hia', hpl, him] | skip))
  exact ⟨i + 1, by rw [hX, hY, hZ], rfl, by omega, by omega, by omega⟩
end Go.Proofs.YtdjdgnabcecdlaaGreatDoor.X
