/- What functions answer, and the plain laws behind it. -/
import Derived.Test.YtdjdgnabcecdlaaGreatDoorKAJ
import Derived.Test.YtdjdgnabcecdlaaGreatDoorKAL
import Derived.Test.YtdjdgnabcecdlaaGreatDoorKAH
import Derived.Test.YtdjdgnabcecdlaaGreatDoorKAI
/- What functions compute: a graph is loaded by a line. -/
set_option linter.unusedSimpArgs false
set_option linter.unusedVariables false
set_option maxHeartbeats 8000000
set_option maxRecDepth 100000
namespace Go.Proofs.YtdjdgnabcecdlaaGreatDoor.X
open Go Go.Proofs
/-- A list as it stands in a graph with levels: nothing, or a list. -/
structure LV3 (x y z : IV) (ts : List Tl) : Prop where
  fx : ∀ n, frz n (.i x) = .ret (.lst ((esT ts).map encE))
  fy : ∀ n, frz n (.i y) = .ret (.lst ((lvT ts).map encI))
  fz : ∀ n, frz n (.i z) = .ret (.lst ((trT ts).map encT))
  lx : x.flat = true
  ly : y.flat = true
  lz : z.flat = true
theorem LV3.emp : LV3 .emp .emp .emp [] := ⟨fun n => by cases n <;> rfl, fun n => by cases n <;> rfl, fun n => by cases n <;> rfl, rfl, rfl, rfl⟩
theorem LV3.lst (ts : List Tl) : LV3 (.lst ((esT ts).map encE)) (.lst ((lvT ts).map encI)) (.lst ((trT ts).map encT)) ts := ⟨fun n => by cases n <;> rfl, fun n => by cases n <;> rfl, fun n => by cases n <;> rfl, rfl, rfl, rfl⟩
/-- .. of the edges in order. -/
def exI (k : Nat) (ts : List Tl) : IV := if k = 0 then .emp else .lst ((esT ts).map encE)
def eyI (k : Nat) (ts : List Tl) : IV := if k = 0 then .emp else .lst ((lvT ts).map encI)
def ezI (k : Nat) (ts : List Tl) : IV := if k = 0 then .emp else .lst ((trT ts).map encT)
theorem exyz {k : Nat} {ts : List Tl} (h : k = 0 → ts = []) : LV3 (exI k ts) (eyI k ts) (ezI k ts) ts := by
  unfold exI eyI ezI
  by_cases hk : k = 0
  · rw [if_pos hk, if_pos hk, if_pos hk, h hk]; exact LV3.emp
  · rw [if_neg hk, if_neg hk, if_neg hk]; exact LV3.lst ts
theorem c_ParseGraphL (n : Int) (es : List (Int × Int)) (hV : VG n es) : ∃ r own, KP 180 [S (fmtG n es)] [] = some (r, [], own) ∧ imm 2 own r = some (.tup [.agg [I n, .i (qe es)], B true]) := by
  refine ⟨_, _, c_ParseGraph n es hV, ?_⟩
  unfold qP qA qe
  split
  · rfl
  · have : List.take es.length (es.map encE) = es.map encE := List.take_of_length_le (by simp)
    simp [imm, imm1, mapO, this]
theorem c_NewLevels1 (n : Int) (h : 1 ≤ n ∧ n ≤ 16) : KP 70 [I n] [] = some (.tup [.agg [I n, .i .emp, .i .emp, .i .emp], B true], [], []) := by
  obtain ⟨h1, h2⟩ := h
  refine xw_call (fn := Tryz.f70) rfl Tryz.func70 rfl ⟨Nat.le_of_ble_eq_true rfl, rfl, rfl⟩ ?_
  repeat' (first
    | refine xw_seq ?_
    | refine xw_block ?_
    | (refine ite_two ?_ ?_ <;> intro _ <;> first | (exfalso; omega) | skip)
    | refine ord_split (by kernel_rfl) ?_
    | (refine xw_ret ?_ <;> try simp only [sq, bl, LQ])
    | ((first | refine xw_reg ?_ | refine xw_regd ?_ | refine xw_if ?_ | refine xw_skip ?_ | refine xw_exit ?_ | refine xw_label ?_ | refine post_ret ?_ | refine post_normal ?_ | refine postE_ret ?_ | refine postE_normal ?_ | (((first | refine at_region ?_ | refine at_out ?_ | refine at_cond ?_); split) <;> first | (exfalso; omega; done) | skip)) <;> try simp (config := { maxSteps := 3000000 }) (disch := first | assumption | omega | exact VG.okg (by assumption) | (simp only [List.length_set, List.length_append, List.length_cons, List.length_nil, List.length_replicate]; omega)) only [go_sem, ↓reduceIte, Int.reduceLE, Int.reduceLT, Int.reduceToNat, Int.reduceNeg, Int.reduceAdd, Int.reduceSub, Int.reduceMul, Int.reduceEq, Int.reduceNe, Nat.reduceEqDiff, Nat.reduceAdd, Nat.reduceSub, Nat.reduceMul, Nat.reduceLT, Nat.reduceLeDiff, Nat.reduceBEq, Nat.reduceBNe, UInt8.reduceToNat, Tryz.results70]))
theorem c_graphLine (n : Int) (es : List (Int × Int)) (hV : VG n es) (n0 : Int) (x y z : IV) (ts0 : List Tl) (h3 : LV3 x y z ts0) :
    KP 138 [.ptr 1000 0 0 0, S (fmtG n es)] [.box 0 [I n0, .i x, .i y, .i z]] = some (S [111, 107, 10], [.box 0 [I n, .i (exI es.length (ldT es)), .i (eyI es.length (ldT es)), .i (ezI es.length (ldT es))]], []) := by
  obtain ⟨hs, m0, m1⟩ := hV.small
  have hel := hV.2.2.1
  obtain ⟨rp, op, hpg, hpi⟩ := c_ParseGraphL n es hV
  have hnl := c_NewLevels1 n ⟨hV.1, hV.2.1⟩
  have hlx := h3.lx
  have hly := h3.ly
  have hlz := h3.lz
  have hqe := lenP_qe (es := es)
  have hqf := flat_qe (es := es)
  have hia := (EQ.qe es).ia
  refine xw_call (fn := Tryz.f138) rfl Tryz.func138 rfl ⟨Nat.le_of_ble_eq_true rfl, rfl, rfl⟩ ?_
  repeat' (first
    | refine xw_seq ?_
    | refine xw_block ?_
    | (refine ite_two ?_ ?_ <;> intro _ <;> first | (exfalso; omega) | skip)
    | refine ord_split (by kernel_rfl) ?_
    | (refine xw_ret ?_ <;> try simp only [sq, bl, LQ])
    | ((first | refine xw_reg ?_ | refine xw_regd ?_ | refine xw_if ?_ | refine xw_skip ?_ | refine xw_exit ?_ | refine xw_label ?_ | refine post_ret ?_ | refine post_normal ?_ | refine postE_ret ?_ | refine postE_normal ?_ | (((first | refine at_region ?_ | refine at_out ?_ | refine at_cond ?_); split) <;> first | (exfalso; omega; done) | skip)) <;> try simp (config := { maxSteps := 3000000 }) (disch := first | assumption | omega | exact VG.okg (by assumption) | (simp only [List.length_set, List.length_append, List.length_cons, List.length_nil, List.length_replicate]; omega)) only [go_sem, ↓reduceIte, Int.reduceLE, Int.reduceLT, Int.reduceToNat, Int.reduceNeg, Int.reduceAdd, Int.reduceSub, Int.reduceMul, Int.reduceEq, Int.reduceNe, Nat.reduceEqDiff, Nat.reduceAdd, Nat.reduceSub, Nat.reduceMul, Nat.reduceLT, Nat.reduceLeDiff, Nat.reduceBEq, Nat.reduceBNe, UInt8.reduceToNat, Tryz.results138, hpg, hpi, hnl, hlx, hly, hlz, hqe, hqf]))
  refine xw_loopR (fun (i : Int) s => s.ρ 0 = .ptr 1000 0 0 0 ∧ s.m 1000 = some (.box 0 [I n0, .i x, .i y, .i z]) ∧ s.ρ 5 = .ptr 5 0 0 0 ∧ s.m 5 = some (.box 0 [I n, .i (qe es)]) ∧ s.ρ 7 = .ptr 7 0 0 0 ∧
    s.m 7 = some (.box 0 [I n, .i (exI i.toNat (ldT (es.take i.toNat))), .i (eyI i.toNat (ldT (es.take i.toNat))), .i (ezI i.toNat (ldT (es.take i.toNat)))]) ∧ s.ρ 25 = .i (qe es) ∧ s.ρ 26 = I es.length ∧ s.ρ 27 = I i ∧ 0 ≤ i ∧ i ≤ es.length) (fun i => (es.length - i).toNat) 0 ?_ ?_
  · refine ⟨?_, ?_, ?_, ?_, ?_, ?_, ?_, ?_, ?_, by omega, by omega⟩
    all_goals first | rfl | (simp [upd]; done)
  rintro i ⟨ρ, m⟩ ⟨e0, m1000, e5, m5, e7, m7, e25, e26, e27, g0, g1⟩
  simp only at e0 m1000 e5 m5 e7 m7 e25 e26 e27 g0 g1
  have hL := exyz (k := i.toNat) (ts := ldT (es.take i.toNat)) (fun h => by rw [h]; rfl)
  have hfx := hL.fx
  have hfy := hL.fy
  have hfz := hL.fz
  have hx' := hL.lx
  have hy' := hL.ly
  have hz' := hL.lz
  by_cases hi : i < es.length
  rotate_left
  · have hlen : i.toNat = es.length := by omega
    rw [take_all (by omega), hlen] at m7 hx' hy' hz'
    repeat' (first
      | refine xw_seq ?_
      | refine xw_block ?_
      | (refine ite_two ?_ ?_ <;> intro _ <;> first | (exfalso; omega) | skip)
      | refine ord_split (by kernel_rfl) ?_
      | (refine xw_ret ?_ <;> try simp only [sq, bl, LQ])
      | ((first | refine xw_reg ?_ | refine xw_regd ?_ | refine xw_if ?_ | refine xw_skip ?_ | refine xw_exit ?_ | refine xw_label ?_ | refine post_ret ?_ | refine post_normal ?_ | refine postE_ret ?_ | refine postE_normal ?_ | (((first | refine at_region ?_ | refine at_out ?_ | refine at_cond ?_); split) <;> first | (exfalso; omega; done) | skip)) <;> try simp (config := { maxSteps := 3000000 }) (disch := first | assumption | omega | exact VG.okg (by assumption) | (simp only [List.length_set, List.length_append, List.length_cons, List.length_nil, List.length_replicate]; omega)) only [go_sem, ↓reduceIte, Int.reduceLE, Int.reduceLT, Int.reduceToNat, Int.reduceNeg, Int.reduceAdd, Int.reduceSub, Int.reduceMul, Int.reduceEq, Int.reduceNe, Nat.reduceEqDiff, Nat.reduceAdd, Nat.reduceSub, Nat.reduceMul, Nat.reduceLT, Nat.reduceLeDiff, Nat.reduceBEq, Nat.reduceBNe, UInt8.reduceToNat, Tryz.results138, e0, m1000, e5, m5, e7, m7, e25, e26, e27, hlx, hly, hlz, hx', hy', hz']))
  have hgi := getE es i.toNat (by omega)
  have htk := take_int (l := es) (0, 0) g0 hi
  have hld : LD n (es.take i.toNat) := ld (hV.sub (List.take_sublist _ _))
  have hld1 : VG n (es.take (i + 1).toNat) := hV.sub (List.take_sublist _ _)
  have hia' := fun el => hia el i g0 hi
  generalize es.getD i.toNat (0, 0) = e at hgi htk
  obtain ⟨a, b⟩ := e
  simp only at hgi
  rw [htk] at hld1
  have hP := hld.put hld1
  obtain ⟨r, own, hpl, him⟩ := c_PutLevel n a b (ldT (es.take i.toNat)) hP
  have hnx : ldT (es.take (i + 1).toNat) = plL (ldT (es.take i.toNat)) (a, b) := by rw [htk, ldT_snoc]
  have h1 : ¬ (i + 1).toNat = 0 := by omega
  have hX : exI (i + 1).toNat (ldT (es.take (i + 1).toNat)) = .lst ((esT (plL (ldT (es.take i.toNat)) (a, b))).map encE) := by rw [exI, if_neg h1, hnx]
  have hY : eyI (i + 1).toNat (ldT (es.take (i + 1).toNat)) = .lst ((lvT (plL (ldT (es.take i.toNat)) (a, b))).map encI) := by rw [eyI, if_neg h1, hnx]
  have hZ : ezI (i + 1).toNat (ldT (es.take (i + 1).toNat)) = .lst ((trT (plL (ldT (es.take i.toNat)) (a, b))).map encT) := by rw [ezI, if_neg h1, hnx]
  generalize plL (ldT (es.take i.toNat)) (a, b) = us at *
  generalize ldT (es.take i.toNat) = ts at *
  generalize exI i.toNat ts = X0 at *
  generalize eyI i.toNat ts = Y0 at *
  generalize ezI i.toNat ts = Z0 at *
  repeat' (first
    | refine xw_seq ?_
    | refine xw_block ?_
    | (refine ite_two ?_ ?_ <;> intro _ <;> first | (exfalso; omega) | skip)
    | refine ord_split (by kernel_rfl) ?_
    | (refine xw_ret ?_ <;> try simp only [sq, bl, LQ])
    | ((first | refine xw_reg ?_ | refine xw_regd ?_ | refine xw_if ?_ | refine xw_skip ?_ | refine xw_exit ?_ | refine xw_label ?_ | refine post_ret ?_ | refine post_normal ?_ | refine postE_ret ?_ | refine postE_normal ?_ | (((first | refine at_region ?_ | refine at_out ?_ | refine at_cond ?_); split) <;> first | (exfalso; omega; done) | skip)) <;> try simp (config := { maxSteps := 3000000 }) (disch := first | assumption | omega | exact VG.okg (by assumption) | (simp only [List.length_set, List.length_append, List.length_cons, List.length_nil, List.length_replicate]; omega)) only [go_sem, ↓reduceIte, Int.reduceLE, Int.reduceLT, Int.reduceToNat, Int.reduceNeg, Int.reduceAdd, Int.reduceSub, Int.reduceMul, Int.reduceEq, Int.reduceNe, Nat.reduceEqDiff, Nat.reduceAdd, Nat.reduceSub, Nat.reduceMul, Nat.reduceLT, Nat.reduceLeDiff, Nat.reduceBEq, Nat.reduceBNe, UInt8.reduceToNat, Tryz.results138, e0, m1000, e5, m5, e7, m7, e25, e26, e27, hx', hy', hz', hfx, hfy, hfz, hgi, hia', hpl, him]))
  exact ⟨i + 1, by rw [hX, hY, hZ], rfl, by omega, by omega, by omega⟩
end Go.Proofs.YtdjdgnabcecdlaaGreatDoor.X

/- What functions compute: lines of a word alone. -/
set_option linter.unusedSimpArgs false
set_option linter.unusedVariables false
set_option maxHeartbeats 8000000
set_option maxRecDepth 100000
namespace Go.Proofs.YtdjdgnabcecdlaaGreatDoor.X
open Go Go.Proofs
end Go.Proofs.YtdjdgnabcecdlaaGreatDoor.X

/- What functions compute: a script's lines, a script. -/
set_option linter.unusedSimpArgs false
set_option linter.unusedVariables false
set_option maxHeartbeats 8000000
set_option maxRecDepth 100000
namespace Go.Proofs.YtdjdgnabcecdlaaGreatDoor.X
open Go Go.Proofs
/-- What holds of a line: the state and the text that come of it. -/
def LineOK (l : List UInt8) (n : Int) (x y z : IV) (R : List UInt8) (n' : Int) (x' y' z' : IV) : Prop :=
  KP 72 [.ptr 1000 0 0 0, S l] [.box 0 [I n, .i x, .i y, .i z]] = some (S R, [.box 0 [I n', .i x', .i y', .i z']], [])
theorem line_graph {T : List UInt8} (n : Int) (es : List (Int × Int)) (hV : VG n es) (hT : T = [103, 114, 97, 112, 104] ++ 32 :: fmtG n es) (n0 : Int) (x y z : IV) (ts0 : List Tl) (h3 : LV3 x y z ts0) :
    LineOK T n0 x y z [111, 107, 10] n (exI es.length (ldT es)) (eyI es.length (ldT es)) (ezI es.length (ldT es)) := by
  have hel := hV.2.2.1
  have hlen := fmtG_len n es
  have hc := c_Cut_at [103, 114, 97, 112, 104] (fmtG n es) 32 (by decide) (by simp; omega)
  rw [← hT] at hc
  have hg := c_graphLine n es hV n0 x y z ts0 h3
  clear hT
  generalize fmtG n es = F at *
  unfold LineOK
  refine xw_call (fn := Tryz.f72) rfl Tryz.func72 rfl ⟨Nat.le_of_ble_eq_true rfl, rfl, rfl⟩ ?_
  repeat' (first
    | refine xw_seq ?_
    | refine xw_block ?_
    | (refine ite_two ?_ ?_ <;> intro _ <;> first | (exfalso; omega) | skip)
    | refine ord_split (by kernel_rfl) ?_
    | (refine xw_ret ?_ <;> try simp only [sq, bl, LQ])
    | ((first | refine xw_reg ?_ | refine xw_regd ?_ | refine xw_if ?_ | refine xw_skip ?_ | refine xw_exit ?_ | refine xw_label ?_ | refine post_ret ?_ | refine post_normal ?_ | refine postE_ret ?_ | refine postE_normal ?_ | (((first | refine at_region ?_ | refine at_out ?_ | refine at_cond ?_); split) <;> first | (exfalso; omega; done) | skip)) <;> try simp (config := { maxSteps := 3000000 }) (disch := first | assumption | omega | exact VG.okg (by assumption) | (simp only [List.length_set, List.length_append, List.length_cons, List.length_nil, List.length_replicate]; omega)) only [go_sem, ↓reduceIte, Int.reduceLE, Int.reduceLT, Int.reduceToNat, Int.reduceNeg, Int.reduceAdd, Int.reduceSub, Int.reduceMul, Int.reduceEq, Int.reduceNe, Nat.reduceEqDiff, Nat.reduceAdd, Nat.reduceSub, Nat.reduceMul, Nat.reduceLT, Nat.reduceLeDiff, Nat.reduceBEq, Nat.reduceBNe, UInt8.reduceToNat, Tryz.results72, hc, hg]))
/-- The words of lines with two numbers. -/
def word2 (w : List UInt8) : Prop := w = [112, 117, 116] ∨ w = [99, 117, 116] ∨ w = [112, 97, 116, 104] ∨ w = [98, 101, 116, 119, 101, 101, 110] ∨ w = [102, 108, 111, 119]
theorem line_two {T w : List UInt8} (hw : word2 w) (a b : Int) (ha : 0 ≤ a ∧ a < 100) (hb : 0 ≤ b ∧ b < 100) (hT : T = w ++ 32 :: (dgt a ++ 32 :: dgt b)) {n n' : Int} {x y z x' y' z' : IV} {R : List UInt8}
    (h : KP 140 [.ptr 1000 0 0 0, S w, .i (.lst [[.v (.int .i64 a)], [.v (.int .i64 b)]])] [.box 0 [I n, .i x, .i y, .i z]] = some (S R, [.box 0 [I n', .i x', .i y', .i z']], [])) : LineOK T n x y z R n' x' y' z' := by
  have hsn := c_scriptNumbers2 a b ha hb
  have l1 : (dgt a).length ≤ 2 := (dec2_len (n := a.toNat)).2
  have l2 : (dgt b).length ≤ 2 := (dec2_len (n := b.toNat)).2
  have hn32 : (32 : UInt8) ∉ w := by rcases hw with rfl | rfl | rfl | rfl | rfl <;> decide
  have hwl : w.length ≤ 7 := by rcases hw with rfl | rfl | rfl | rfl | rfl <;> decide
  have hc := c_Cut_at w (dgt a ++ 32 :: dgt b) 32 hn32 (by simp; omega)
  rw [← hT] at hc
  clear hT
  generalize dgt a ++ 32 :: dgt b = F at *
  unfold LineOK
  rcases hw with rfl | rfl | rfl | rfl | rfl
  all_goals
    refine xw_call (fn := Tryz.f72) rfl Tryz.func72 rfl ⟨Nat.le_of_ble_eq_true rfl, rfl, rfl⟩ ?_
    repeat' (first
      | refine xw_seq ?_
      | refine xw_block ?_
      | (refine ite_two ?_ ?_ <;> intro _ <;> first | (exfalso; omega) | skip)
      | refine ord_split (by kernel_rfl) ?_
      | (refine xw_ret ?_ <;> try simp only [sq, bl, LQ])
      | ((first | refine xw_reg ?_ | refine xw_regd ?_ | refine xw_if ?_ | refine xw_skip ?_ | refine xw_exit ?_ | refine xw_label ?_ | refine post_ret ?_ | refine post_normal ?_ | refine postE_ret ?_ | refine postE_normal ?_ | (((first | refine at_region ?_ | refine at_out ?_ | refine at_cond ?_); split) <;> first | (exfalso; omega; done) | skip)) <;> try simp (config := { maxSteps := 3000000 }) (disch := first | assumption | omega | exact VG.okg (by assumption) | (simp only [List.length_set, List.length_append, List.length_cons, List.length_nil, List.length_replicate]; omega)) only [go_sem, ↓reduceIte, Int.reduceLE, Int.reduceLT, Int.reduceToNat, Int.reduceNeg, Int.reduceAdd, Int.reduceSub, Int.reduceMul, Int.reduceEq, Int.reduceNe, Nat.reduceEqDiff, Nat.reduceAdd, Nat.reduceSub, Nat.reduceMul, Nat.reduceLT, Nat.reduceLeDiff, Nat.reduceBEq, Nat.reduceBNe, UInt8.reduceToNat, Tryz.results72, hc, hsn, h]))
/-- What a script's lines tell, one after another. -/
inductive Runs : List (List UInt8) → Int → IV → IV → IV → List UInt8 → List UInt8 → Prop
  | nil {n : Int} {x y z : IV} {o : List UInt8} : Runs [] n x y z o o
  | skip {r : List (List UInt8)} {n : Int} {x y z : IV} {o R : List UInt8} (h : Runs r n x y z o R) : Runs ([] :: r) n x y z o R
  | line {l : List UInt8} {r : List (List UInt8)} {n n' : Int} {x y z x' y' z' : IV} {o t R : List UInt8} (hl : l ≠ []) (ho : o.length ≤ 40000) (ht : t.length ≤ 100000) (h1 : LineOK l n x y z t n' x' y' z') (h : Runs r n' x' y' z' (o ++ t) R) : Runs (l :: r) n x y z o R
theorem c_RunScript (T : List UInt8) (ls : List (List UInt8)) (R : List UInt8) (hT : pcs 10 T = ls) (hl : T.length ≤ 20000) (hn : ls.length ≤ 200) (h : Runs ls 1 .emp .emp .emp [] R) : KP 18 [S T] [] = some (S R, [], []) := by
  have hsp := c_Split T 10 (by omega)
  rw [hT] at hsp
  have hnl := c_NewLevels1 1 (by decide)
  have hlen : (ls.map encS).length = ls.length := by simp
  refine xw_call (fn := Tryz.f18) rfl Tryz.func18 rfl ⟨Nat.le_of_ble_eq_true rfl, rfl, rfl⟩ ?_
  repeat' (first
    | refine xw_seq ?_
    | refine xw_block ?_
    | (refine ite_two ?_ ?_ <;> intro _ <;> first | (exfalso; omega) | skip)
    | refine ord_split (by kernel_rfl) ?_
    | (refine xw_ret ?_ <;> try simp only [sq, bl, LQ])
    | ((first | refine xw_reg ?_ | refine xw_regd ?_ | refine xw_if ?_ | refine xw_skip ?_ | refine xw_exit ?_ | refine xw_label ?_ | refine post_ret ?_ | refine post_normal ?_ | refine postE_ret ?_ | refine postE_normal ?_ | (((first | refine at_region ?_ | refine at_out ?_ | refine at_cond ?_); split) <;> first | (exfalso; omega; done) | skip)) <;> try simp (config := { maxSteps := 3000000 }) (disch := first | assumption | omega | exact VG.okg (by assumption) | (simp only [List.length_set, List.length_append, List.length_cons, List.length_nil, List.length_replicate]; omega)) only [go_sem, ↓reduceIte, Int.reduceLE, Int.reduceLT, Int.reduceToNat, Int.reduceNeg, Int.reduceAdd, Int.reduceSub, Int.reduceMul, Int.reduceEq, Int.reduceNe, Nat.reduceEqDiff, Nat.reduceAdd, Nat.reduceSub, Nat.reduceMul, Nat.reduceLT, Nat.reduceLeDiff, Nat.reduceBEq, Nat.reduceBNe, UInt8.reduceToNat, Tryz.results18, hsp, hnl, hlen]))
  refine xw_loopR (fun (u : Int × Int × IV × IV × IV × List UInt8) s => s.ρ 16 = .i (.lst (ls.map encS)) ∧ s.ρ 17 = I ls.length ∧ s.ρ 18 = I u.1 ∧ s.ρ 3 = .ptr 3 0 0 0 ∧ s.m 3 = some (.box 0 [I u.2.1, .i u.2.2.1, .i u.2.2.2.1, .i u.2.2.2.2.1]) ∧ s.ρ 5 = S u.2.2.2.2.2 ∧ 0 ≤ u.1 ∧ u.1 ≤ ls.length ∧
    Runs (ls.drop u.1.toNat) u.2.1 u.2.2.1 u.2.2.2.1 u.2.2.2.2.1 u.2.2.2.2.2 R) (fun u => (ls.length - u.1).toNat) (0, 1, .emp, .emp, .emp, []) ?_ ?_
  · refine ⟨?_, ?_, rfl, rfl, rfl, rfl, by simp, by simp, h⟩
    all_goals (simp [upd]; done)
  clear h
  rintro ⟨i, n, x, y, z, o⟩ ⟨ρ, m⟩ ⟨e16, e17, e18, e3, m3, e5, g0, g1, hr⟩
  simp only at e16 e17 e18 e3 m3 e5 g0 g1 hr
  by_cases hi : i < ls.length
  rotate_left
  · rw [List.drop_of_length_le (by omega)] at hr
    cases hr
    repeat' (first
      | refine xw_seq ?_
      | refine xw_block ?_
      | (refine ite_two ?_ ?_ <;> intro _ <;> first | (exfalso; omega) | skip)
      | refine ord_split (by kernel_rfl) ?_
      | (refine xw_ret ?_ <;> try simp only [sq, bl, LQ])
      | ((first | refine xw_reg ?_ | refine xw_regd ?_ | refine xw_if ?_ | refine xw_skip ?_ | refine xw_exit ?_ | refine xw_label ?_ | refine post_ret ?_ | refine post_normal ?_ | refine postE_ret ?_ | refine postE_normal ?_ | (((first | refine at_region ?_ | refine at_out ?_ | refine at_cond ?_); split) <;> first | (exfalso; omega; done) | skip)) <;> try simp (config := { maxSteps := 3000000 }) (disch := first | assumption | omega | exact VG.okg (by assumption) | (simp only [List.length_set, List.length_append, List.length_cons, List.length_nil, List.length_replicate]; omega)) only [go_sem, ↓reduceIte, Int.reduceLE, Int.reduceLT, Int.reduceToNat, Int.reduceNeg, Int.reduceAdd, Int.reduceSub, Int.reduceMul, Int.reduceEq, Int.reduceNe, Nat.reduceEqDiff, Nat.reduceAdd, Nat.reduceSub, Nat.reduceMul, Nat.reduceLT, Nat.reduceLeDiff, Nat.reduceBEq, Nat.reduceBNe, UInt8.reduceToNat, Tryz.results18, e16, e17, e18, e3, m3, e5]))
  have hgi := getS ls i.toNat (by omega)
  have hdr : ls.drop i.toNat = ls.getD i.toNat [] :: ls.drop (i + 1).toNat := by
    have hil : i.toNat < ls.length := by omega
    rw [show (i + 1).toNat = i.toNat + 1 by omega, List.drop_eq_getElem_cons hil]
    simp [hil]
  rw [hdr] at hr
  generalize ls.getD i.toNat [] = l at hgi hr
  cases hr with
  | skip h =>
    repeat' (first
      | refine xw_seq ?_
      | refine xw_block ?_
      | (refine ite_two ?_ ?_ <;> intro _ <;> first | (exfalso; omega) | skip)
      | refine ord_split (by kernel_rfl) ?_
      | (refine xw_ret ?_ <;> try simp only [sq, bl, LQ])
      | ((first | refine xw_reg ?_ | refine xw_regd ?_ | refine xw_if ?_ | refine xw_skip ?_ | refine xw_exit ?_ | refine xw_label ?_ | refine post_ret ?_ | refine post_normal ?_ | refine postE_ret ?_ | refine postE_normal ?_ | (((first | refine at_region ?_ | refine at_out ?_ | refine at_cond ?_); split) <;> first | (exfalso; omega; done) | skip)) <;> try simp (config := { maxSteps := 3000000 }) (disch := first | assumption | omega | exact VG.okg (by assumption) | (simp only [List.length_set, List.length_append, List.length_cons, List.length_nil, List.length_replicate]; omega)) only [go_sem, ↓reduceIte, Int.reduceLE, Int.reduceLT, Int.reduceToNat, Int.reduceNeg, Int.reduceAdd, Int.reduceSub, Int.reduceMul, Int.reduceEq, Int.reduceNe, Nat.reduceEqDiff, Nat.reduceAdd, Nat.reduceSub, Nat.reduceMul, Nat.reduceLT, Nat.reduceLeDiff, Nat.reduceBEq, Nat.reduceBNe, UInt8.reduceToNat, Tryz.results18, e16, e17, e18, e3, m3, e5, hgi]))
    exact ⟨n, x, y, z, rfl, o, rfl, by omega, by omega, h, by omega⟩
  | line hl ho ht h1 h =>
    rename_i n' x' y' z' t
    have hne := eqS_ne hl
    unfold LineOK at h1
    repeat' (first
      | refine xw_seq ?_
      | refine xw_block ?_
      | (refine ite_two ?_ ?_ <;> intro _ <;> first | (exfalso; omega) | skip)
      | refine ord_split (by kernel_rfl) ?_
      | (refine xw_ret ?_ <;> try simp only [sq, bl, LQ])
      | ((first | refine xw_reg ?_ | refine xw_regd ?_ | refine xw_if ?_ | refine xw_skip ?_ | refine xw_exit ?_ | refine xw_label ?_ | refine post_ret ?_ | refine post_normal ?_ | refine postE_ret ?_ | refine postE_normal ?_ | (((first | refine at_region ?_ | refine at_out ?_ | refine at_cond ?_); split) <;> first | (exfalso; omega; done) | skip)) <;> try simp (config := { maxSteps := 3000000 }) (disch := first | assumption | omega | exact VG.okg (by assumption) | (simp only [List.length_set, List.length_append, List.length_cons, List.length_nil, List.length_replicate]; omega)) only [go_sem, ↓reduceIte, Int.reduceLE, Int.reduceLT, Int.reduceToNat, Int.reduceNeg, Int.reduceAdd, Int.reduceSub, Int.reduceMul, Int.reduceEq, Int.reduceNe, Nat.reduceEqDiff, Nat.reduceAdd, Nat.reduceSub, Nat.reduceMul, Nat.reduceLT, Nat.reduceLeDiff, Nat.reduceBEq, Nat.reduceBNe, UInt8.reduceToNat, Tryz.results18, e16, e17, e18, e3, m3, e5, hgi, hne, h1]))
    exact ⟨n', x', y', z', rfl, o ++ t, rfl, by omega, by omega, h, by omega⟩
end Go.Proofs.YtdjdgnabcecdlaaGreatDoor.X

/- What functions compute: scripts that load a graph and give one or two orders. -/
set_option linter.unusedSimpArgs false
set_option linter.unusedVariables false
set_option maxHeartbeats 8000000
set_option maxRecDepth 100000
namespace Go.Proofs.YtdjdgnabcecdlaaGreatDoor.X
open Go Go.Proofs
theorem gr_no {n : Int} {es : List (Int × Int)} (hV : VG n es) : (10 : UInt8) ∉ ([103, 114, 97, 112, 104, 32] : List UInt8) ++ fmtG n es := by
  obtain ⟨hs, m⟩ := hV.small
  rw [List.mem_append, not_or]
  exact ⟨by decide, fmtG_no m hs (by decide) (by decide) (by decide)⟩
theorem gr_line {n : Int} {es : List (Int × Int)} (hV : VG n es) : LineOK ([103, 114, 97, 112, 104, 32] ++ fmtG n es) 1 .emp .emp .emp [111, 107, 10] n (exI es.length (ldT es)) (eyI es.length (ldT es)) (ezI es.length (ldT es)) :=
  line_graph n es hV rfl 1 .emp .emp .emp [] LV3.emp
/-- One order. -/
theorem script1 {n : Int} {es : List (Int × Int)} (hV : VG n es) {w t : List UInt8} (h10 : (10 : UInt8) ∉ w) (hne : w ≠ []) (hl : w.length ≤ 1000) (ht : t.length ≤ 100000) {n' : Int} {x' y' z' : IV}
    (h : LineOK w n (exI es.length (ldT es)) (eyI es.length (ldT es)) (ezI es.length (ldT es)) t n' x' y' z') :
    KP 18 [S (103 :: 114 :: 97 :: 112 :: 104 :: 32 :: (fmtG n es ++ 10 :: (w ++ [10])))] [] = some (S (111 :: 107 :: 10 :: t), [], []) := by
  have hel := hV.2.2.1
  have hlen := fmtG_len n es
  have e : (103 :: 114 :: 97 :: 112 :: 104 :: 32 :: (fmtG n es ++ 10 :: (w ++ [10])) : List UInt8) = (([103, 114, 97, 112, 104, 32] : List UInt8) ++ fmtG n es) ++ 10 :: (w ++ 10 :: []) := by simp
  have hp : pcs 10 ((([103, 114, 97, 112, 104, 32] : List UInt8) ++ fmtG n es) ++ 10 :: (w ++ 10 :: [])) = [([103, 114, 97, 112, 104, 32] : List UInt8) ++ fmtG n es, w, []] := by
    rw [pcs_app _ (gr_no hV), pcs_app _ h10]; rfl
  rw [e]
  refine c_RunScript _ _ _ hp (by simp only [List.length_append, List.length_cons, List.length_nil]; omega) (by simp) ?_
  exact .line (by simp) (by simp) (by simp) (gr_line hV) (.line hne (by simp) ht h (.skip .nil))
theorem ld3 {n : Int} {es : List (Int × Int)} (hV : VG n es) : LV3 (exI es.length (ldT es)) (eyI es.length (ldT es)) (ezI es.length (ldT es)) (ldT es) :=
  exyz fun h => by rw [List.length_eq_zero_iff.1 h]; rfl
end Go.Proofs.YtdjdgnabcecdlaaGreatDoor.X

/- What functions compute: lines with numbers. -/
set_option linter.unusedSimpArgs false
set_option linter.unusedVariables false
set_option maxHeartbeats 8000000
set_option maxRecDepth 100000
namespace Go.Proofs.YtdjdgnabcecdlaaGreatDoor.X
open Go Go.Proofs
theorem dgt_len (a : Int) : (dgt a).length ≤ 2 := (dec2_len (n := a.toNat)).2
theorem no10_two {w : List UInt8} (h : (10 : UInt8) ∉ w) {a b : Int} (ha : 0 ≤ a ∧ a < 100) (hb : 0 ≤ b ∧ b < 100) : (10 : UInt8) ∉ w ++ 32 :: (dgt a ++ 32 :: dgt b) := by
  simp only [List.mem_append, List.mem_cons, not_or]
  exact ⟨h, by decide, dec2_no (by omega) (by decide), by decide, dec2_no (by omega) (by decide)⟩
theorem nums2 (a b : Int) : numsT [a, b] = 32 :: (dgt a ++ 32 :: dgt b) := by simp [numsT]
theorem c_dyNumbers2 (a b : Int) (ha : 0 ≤ a ∧ a < 100) (hb : 0 ≤ b ∧ b < 100) : KP 17 [.i (.lst [[.v (.int .i64 a)], [.v (.int .i64 b)]])] [] = some (S (numsT [a, b]), [], []) :=
  c_dyNumbers [a, b] (fun x hx => by simp at hx; rcases hx with rfl | rfl <;> assumption) (by simp)
theorem c_dyNumbers1 (a : Int) (ha : 0 ≤ a ∧ a < 100) : KP 17 [.i (.lst [[.v (.int .i64 a)]])] [] = some (S (numsT [a]), [], []) :=
  c_dyNumbers [a] (fun x hx => by simp at hx; subst hx; assumption) (by simp)
end Go.Proofs.YtdjdgnabcecdlaaGreatDoor.X

/- Rows of rows of numbers. -/
set_option linter.unusedSimpArgs false
set_option linter.unusedVariables false
set_option maxHeartbeats 4000000
namespace Go.Proofs.YtdjdgnabcecdlaaGreatDoor.X
open Go Go.Proofs
/-- Rows of rows of numbers. -/
def encL (p : List Int) : List IV := [.lst (p.map encI)]
abbrev LL (ps : List (List Int)) : PV := .i (.lst (ps.map encL))
theorem getLs (ps : List (List Int)) (i : Nat) (h : i < ps.length) : (ps.map encL)[i]? = some [.lst ((ps.getD i []).map encI)] := by simp [encL, h]
theorem appLs (ps : List (List Int)) (p : List Int) : ps.map encL ++ [[.lst (p.map encI)]] = (ps ++ [p]).map encL := by simp [encL]
attribute [go_sem] getLs appLs
end Go.Proofs.YtdjdgnabcecdlaaGreatDoor.X
