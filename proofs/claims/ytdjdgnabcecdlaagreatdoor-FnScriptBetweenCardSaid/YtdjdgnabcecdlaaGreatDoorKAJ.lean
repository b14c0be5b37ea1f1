/- What functions answer, and the plain laws behind it. -/
import Derived.Test.YtdjdgnabcecdlaaGreatDoorKAI
import Derived.Test.YtdjdgnabcecdlaaGreatDoorKAD
/- What functions compute: a script's lines, a script. -/
set_option linter.unusedSimpArgs false
set_option linter.unusedVariables false
set_option maxHeartbeats 8000000
set_option maxRecDepth 100000
namespace Go.Proofs.YtdjdgnabcecdlaaGreatDoor.X
open Go Go.Proofs
/-- What holds of a line: the state and the text that come of it. -/
def LineOK (l : List UInt8) (n : Int) (x y z : IV) (R : List UInt8) (n' : Int) (x' y' z' : IV) : Prop :=
  KP 72 [.ptr 1000 0 0 0, S l] [.box 0 [I n, .i x, .i y, .i z]] = some (S R, [.box 0 [I n', .i x', .i y', .i z']], [])
theorem line_word (w : List UInt8) (hw : (32 : UInt8) ∉ w) (hl : w.length ≤ 1000) {n n' : Int} {x y z x' y' z' : IV} {R : List UInt8}
    (h : KP 137 [.ptr 1000 0 0 0, S w] [.box 0 [I n, .i x, .i y, .i z]] = some (S R, [.box 0 [I n', .i x', .i y', .i z']], [])) : LineOK w n x y z R n' x' y' z' := by
  have hc := c_Cut_no w 32 hw (by omega)
  unfold LineOK
  refine xw_call (fn := Tryz.f72) rfl Tryz.func72 rfl ⟨Nat.le_of_ble_eq_true rfl, rfl, rfl⟩ ?_
  repeat' (first
    | refine xw_seq ?_
    | refine xw_block ?_
    | (refine ite_two ?_ ?_ <;> intro _ <;> first | (exfalso; omega) | skip)
    | refine ord_split (by kernel_rfl) ?_
    | (refine xw_ret ?_ <;> try simp only [sq, bl, LQ])
    | ((first | refine xw_reg ?_ | refine xw_regd ?_ | refine xw_if ?_ | refine xw_skip ?_ | refine xw_exit ?_ | refine xw_label ?_ | refine post_ret ?_ | refine post_normal ?_ | refine postE_ret ?_ | refine postE_normal ?_) <;> simp (config := { maxSteps := 3000000 }) (disch := first | assumption | omega | exact VG.okg (by assumption) | (simp only [List.length_set, List.length_append, List.length_cons, List.length_nil, List.length_replicate]; omega)) only [go_sem, ↓reduceIte, Int.reduceLE, Int.reduceLT, Int.reduceToNat, Int.reduceNeg, Int.reduceAdd, Int.reduceSub, Int.reduceMul, Int.reduceEq, Int.reduceNe, Nat.reduceEqDiff, Nat.reduceAdd, Nat.reduceSub, Nat.reduceMul, Nat.reduceLT, Nat.reduceLeDiff, Nat.reduceBEq, Nat.reduceBNe, UInt8.reduceToNat, Tryz.results72, hc, h])
    | (((first | refine at_region ?_ | refine at_out ?_ | refine at_cond ?_); split) <;> first | (exfalso; omega; done) | simp (config := { maxSteps := 3000000 }) (disch := first | assumption | omega | exact VG.okg (by assumption) | (simp only [List.length_set, List.length_append, List.length_cons, List.length_nil, List.length_replicate]; omega)) only [go_sem, ↓reduceIte, Int.reduceLE, Int.reduceLT, Int.reduceToNat, Int.reduceNeg, Int.reduceAdd, Int.reduceSub, Int.reduceMul, Int.reduceEq, Int.reduceNe, Nat.reduceEqDiff, Nat.reduceAdd, Nat.reduceSub, Nat.reduceMul, Nat.reduceLT, Nat.reduceLeDiff, Nat.reduceBEq, Nat.reduceBNe, UInt8.reduceToNat, Tryz.results72, hc, h] | skip))
theorem line_graph {T : List UInt8} (n : Int) (es : List (Int × Int)) (hV : VG n es) (hT : T = [103, 114, 97, 112, 104] ++ 32 :: fmtG n es) (n0 : Int) (x y z : IV) (ts0 : List Tl) (h3 : LV3 x y z ts0) :
    LineOK T n0 x y z [111, 107, 10] n (exI es.length (ldT es)) (eyI es.length (ldT es)) (ezI es.length (ldT es)) := by
  have hel := hV.2.2.1
  have hlen := fmtG_len n es
  have hc := c_Cut_at [103, 114, 97, 112, 104] (fmtG n es) 32 (by decide) (by simp; omega)
  rw [← hT] at hc
  have hg := c_graphLine n es hV n0 x y z ts0 h3
  clear hT
  generalize fmtG n es = F at *
  unfold LineOK
  refine xw_call (fn := Tryz.f72) rfl Tryz.func72 rfl ⟨Nat.le_of_ble_eq_true rfl, rfl, rfl⟩ ?_
  repeat' (first
    | refine xw_seq ?_
    | refine xw_block ?_
    | (refine ite_two ?_ ?_ <;> intro _ <;> first | (exfalso; omega) | skip)
    | refine ord_split (by kernel_rfl) ?_
    | (refine xw_ret ?_ <;> try simp only [sq, bl, LQ])
    | ((first | refine xw_reg ?_ | refine xw_regd ?_ | refine xw_if ?_ | refine xw_skip ?_ | refine xw_exit ?_ | refine xw_label ?_ | refine post_ret ?_ | refine post_normal ?_ | refine postE_ret ?_ | refine postE_normal ?_) <;> simp (config := { maxSteps := 3000000 }) (disch := first | assumption | omega | exact VG.okg (by assumption) | (simp only [List.length_set, List.length_append, List.length_cons, List.length_nil, List.length_replicate]; omega)) only [go_sem, ↓reduceIte, Int.reduceLE, Int.reduceLT, Int.reduceToNat, Int.reduceNeg, Int.reduceAdd, Int.reduceSub, Int.reduceMul, Int.reduceEq, Int.reduceNe, Nat.reduceEqDiff, Nat.reduceAdd, Nat.reduceSub, Nat.reduceMul, Nat.reduceLT, Nat.reduceLeDiff, Nat.reduceBEq, Nat.reduceBNe, UInt8.reduceToNat, Tryz.results72, hc, hg])
    | (((first | refine at_region ?_ | refine at_out ?_ | refine at_cond ?_); split) <;> first | (exfalso; omega; done) | simp (config := { maxSteps := 3000000 }) (disch := first | assumption | omega | exact VG.okg (by assumption) | (simp only [List.length_set, List.length_append, List.length_cons, List.length_nil, List.length_replicate]; omega)) only [go_sem, ↓reduceIte, Int.reduceLE, Int.reduceLT, Int.reduceToNat, Int.reduceNeg, Int.reduceAdd, Int.reduceSub, Int.reduceMul, Int.reduceEq, Int.reduceNe, Nat.reduceEqDiff, Nat.reduceAdd, Nat.reduceSub, Nat.reduceMul, Nat.reduceLT, Nat.reduceLeDiff, Nat.reduceBEq, Nat.reduceBNe, UInt8.reduceToNat, Tryz.results72, hc, hg] | skip))
/-- The words of lines with two numbers. -/
def word2 (w : List UInt8) : Prop := w = [112, 117, 116] ∨ w = [99, 117, 116] ∨ w = [112, 97, 116, 104] ∨ w = [98, 101, 116, 119, 101, 101, 110] ∨ w = [102, 108, 111, 119]
theorem line_two {T w : List UInt8} (hw : word2 w) (a b : Int) (ha : 0 ≤ a ∧ a < 100) (hb : 0 ≤ b ∧ b < 100) (hT : T = w ++ 32 :: (dgt a ++ 32 :: dgt b)) {n n' : Int} {x y z x' y' z' : IV} {R : List UInt8}
    (h : KP 140 [.ptr 1000 0 0 0, S w, .i (.lst [[.v (.int .i64 a)], [.v (.int .i64 b)]])] [.box 0 [I n, .i x, .i y, .i z]] = some (S R, [.box 0 [I n', .i x', .i y', .i z']], [])) : LineOK T n x y z R n' x' y' z' := by
  have hsn := c_scriptNumbers2 a b ha hb
  have l1 : (dgt a).length ≤ 2 := (dec2_len (n := a.toNat)).2
  have l2 : (dgt b).length ≤ 2 := (dec2_len (n := b.toNat)).2
  have hn32 : (32 : UInt8) ∉ w := by rcases hw with rfl | rfl | rfl | rfl | rfl <;> decide
  have hwl : w.length ≤ 7 := by rcases hw with rfl | rfl | rfl | rfl | rfl <;> decide
  have hc := c_Cut_at w (dgt a ++ 32 :: dgt b) 32 hn32 (by simp; omega)
  rw [← hT] at hc
  clear hT
  generalize dgt a ++ 32 :: dgt b = F at *
  unfold LineOK
  rcases hw with rfl | rfl | rfl | rfl | rfl
  all_goals
    refine xw_call (fn := Tryz.f72) rfl Tryz.func72 rfl ⟨Nat.le_of_ble_eq_true rfl, rfl, rfl⟩ ?_
    repeat' (first
      | refine xw_seq ?_
      | refine xw_block ?_
      | (refine ite_two ?_ ?_ <;> intro _ <;> first | (exfalso; omega) | skip)
      | refine ord_split (by kernel_rfl) ?_
      | (refine xw_ret ?_ <;> try simp only [sq, bl, LQ])
      | ((first | refine xw_reg ?_ | refine xw_regd ?_ | refine xw_if ?_ | refine xw_skip ?_ | refine xw_exit ?_ | refine xw_label ?_ | refine post_ret ?_ | refine post_normal ?_ | refine postE_ret ?_ | refine postE_normal ?_) <;> simp (config := { maxSteps := 3000000 }) (disch := first | assumption | omega | exact VG.okg (by assumption) | (simp only [List.length_set, List.length_append, List.length_cons, List.length_nil, List.length_replicate]; omega)) only [go_sem, ↓reduceIte, Int.reduceLE, Int.reduceLT, Int.reduceToNat, Int.reduceNeg, Int.reduceAdd, Int.reduceSub, Int.reduceMul, Int.reduceEq, Int.reduceNe, Nat.reduceEqDiff, Nat.reduceAdd, Nat.reduceSub, Nat.reduceMul, Nat.reduceLT, Nat.reduceLeDiff, Nat.reduceBEq, Nat.reduceBNe, UInt8.reduceToNat, Tryz.results72, hc, hsn, h])
      | (((first | refine at_region ?_ | refine at_out ?_ | refine at_cond ?_); split) <;> first | (exfalso; omega; done) | simp (config := { maxSteps := 3000000 }) (disch := first | assumption | omega | exact VG.okg (by assumption) | (simp only [List.length_set, List.length_append, List.length_cons, List.length_nil, List.length_replicate]; omega)) only [go_sem, ↓reduceIte, Int.reduceLE, Int.reduceLT, Int.reduceToNat, Int.reduceNeg, Int.reduceAdd, Int.reduceSub, Int.reduceMul, Int.reduceEq, Int.reduceNe, Nat.reduceEqDiff, Nat.reduceAdd, Nat.reduceSub, Nat.reduceMul, Nat.reduceLT, Nat.reduceLeDiff, Nat.reduceBEq, Nat.reduceBNe, UInt8.reduceToNat, Tryz.results72, hc, hsn, h] | skip))
/-- What a script's lines tell, one after another. -/
inductive Runs : List (List UInt8) → Int → IV → IV → IV → List UInt8 → List UInt8 → Prop
  | nil {n : Int} {x y z : IV} {o : List UInt8} : Runs [] n x y z o o
  | skip {r : List (List UInt8)} {n : Int} {x y z : IV} {o R : List UInt8} (h : Runs r n x y z o R) : Runs ([] :: r) n x y z o R
  | line {l : List UInt8} {r : List (List UInt8)} {n n' : Int} {x y z x' y' z' : IV} {o t R : List UInt8} (hl : l ≠ []) (ho : o.length ≤ 40000) (ht : t.length ≤ 100000) (h1 : LineOK l n x y z t n' x' y' z') (h : Runs r n' x' y' z' (o ++ t) R) : Runs (l :: r) n x y z o R
theorem c_RunScript (T : List UInt8) (ls : List (List UInt8)) (R : List UInt8) (hT : pcs 10 T = ls) (hl : T.length ≤ 20000) (hn : ls.length ≤ 200) (h : Runs ls 1 .emp .emp .emp [] R) : KP 18 [S T] [] = some (S R, [], []) := by
  have hsp := c_Split T 10 (by omega)
  rw [hT] at hsp
  have hnl := c_NewLevels1 1 (by decide)
  have hlen : (ls.map encS).length = ls.length := by simp
  refine xw_call (fn := Tryz.f18) rfl Tryz.func18 rfl ⟨Nat.le_of_ble_eq_true rfl, rfl, rfl⟩ ?_
  repeat' (first
    | refine xw_seq ?_
    | refine xw_block ?_
    | (refine ite_two ?_ ?_ <;> intro _ <;> first | (exfalso; omega) | skip)
    | refine ord_split (by kernel_rfl) ?_
    | (refine xw_ret ?_ <;> try simp only [sq, bl, LQ])
    | ((first | refine xw_reg ?_ | refine xw_regd ?_ | refine xw_if ?_ | refine xw_skip ?_ | refine xw_exit ?_ | refine xw_label ?_ | refine post_ret ?_ | refine post_normal ?_ | refine postE_ret ?_ | refine postE_normal ?_) <;> simp (config := { maxSteps := 3000000 }) (disch := first | assumption | omega | exact VG.okg (by assumption) | (simp only [List.length_set, List.length_append, List.length_cons, List.length_nil, List.length_replicate]; omega)) only [go_sem, ↓reduceIte, Int.reduceLE, Int.reduceLT, Int.reduceToNat, Int.reduceNeg, Int.reduceAdd, Int.reduceSub, Int.reduceMul, Int.reduceEq, Int.reduceNe, Nat.reduceEqDiff, Nat.reduceAdd, Nat.reduceSub, Nat.reduceMul, Nat.reduceLT, Nat.reduceLeDiff, Nat.reduceBEq, Nat.reduceBNe, UInt8.reduceToNat, Tryz.results18, hsp, hnl, hlen])
    | (((first | refine at_region ?_ | refine at_out ?_ | refine at_cond ?_); split) <;> first | (exfalso; omega; done) | simp (config := { maxSteps := 3000000 }) (disch := first | assumption | omega | exact VG.okg (by assumption) | (simp only [List.length_set, List.length_append, List.length_cons, List.length_nil, List.length_replicate]; omega)) only [go_sem, ↓reduceIte, Int.reduceLE, Int.reduceLT, Int.reduceToNat, Int.reduceNeg, Int.reduceAdd, Int.reduceSub, Int.reduceMul, Int.reduceEq, Int.reduceNe, Nat.reduceEqDiff, Nat.reduceAdd, Nat.reduceSub, Nat.reduceMul, Nat.reduceLT, Nat.reduceLeDiff, Nat.reduceBEq, Nat.reduceBNe, UInt8.reduceToNat, Tryz.results18, hsp, hnl, hlen] | skip))
  refine xw_loopR (fun (u : Int × Int × IV × IV × IV × List UInt8) s => s.ρ 16 = .i (.lst (ls.map encS)) ∧ s.ρ 17 = I ls.length ∧ s.ρ 18 = I u.1 ∧ s.ρ 3 = .ptr 3 0 0 0 ∧ s.m 3 = some (.box 0 [I u.2.1, .i u.2.2.1, .i u.2.2.2.1, .i u.2.2.2.2.1]) ∧ s.ρ 5 = S u.2.2.2.2.2 ∧ 0 ≤ u.1 ∧ u.1 ≤ ls.length ∧
    Runs (ls.drop u.1.toNat) u.2.1 u.2.2.1 u.2.2.2.1 u.2.2.2.2.1 u.2.2.2.2.2 R) (fun u => (ls.length - u.1).toNat) (0, 1, .emp, .emp, .emp, []) ?_ ?_
  · refine ⟨?_, ?_, rfl, rfl, rfl, rfl, by simp, by simp, h⟩
    all_goals (simp [upd]; done)
  clear h
  rintro ⟨i, n, x, y, z, o⟩ ⟨ρ, m⟩ ⟨e16, e17, e18, e3, m3, e5, g0, g1, hr⟩
  simp only at e16 e17 e18 e3 m3 e5 g0 g1 hr
  by_cases hi : i < ls.length
  rotate_left
  · rw [List.drop_of_length_le (by omega)] at hr
    cases hr
    repeat' (first
      | refine xw_seq ?_
      | refine xw_block ?_
      | (refine ite_two ?_ ?_ <;> intro _ <;> first | (exfalso; omega) | skip)
      | refine ord_split (by kernel_rfl) ?_
      | (refine xw_ret ?_ <;> try simp only [sq, bl, LQ])
      | ((first | refine xw_reg ?_ | refine xw_regd ?_ | refine xw_if ?_ | refine xw_skip ?_ | refine xw_exit ?_ | refine xw_label ?_ | refine post_ret ?_ | refine post_normal ?_ | refine postE_ret ?_ | refine postE_normal ?_) <;> simp (config := { maxSteps := 3000000 }) (disch := first | assumption | omega | exact VG.okg (by assumption) | (simp only [List.length_set, List.length_append, List.length_cons, List.length_nil, List.length_replicate]; omega)) only [go_sem, ↓reduceIte, Int.reduceLE, Int.reduceLT, Int.reduceToNat, Int.reduceNeg, Int.reduceAdd, Int.reduceSub, Int.reduceMul, Int.reduceEq, Int.reduceNe, Nat.reduceEqDiff, Nat.reduceAdd, Nat.reduceSub, Nat.reduceMul, Nat.reduceLT, Nat.reduceLeDiff, Nat.reduceBEq, Nat.reduceBNe, UInt8.reduceToNat, Tryz.results18, e16, e17, e18, e3, m3, e5])
      | (((first | refine at_region ?_ | refine at_out ?_ | refine at_cond ?_); split) <;> first | (exfalso; omega; done) | simp (config := { maxSteps := 3000000 }) (disch := first | assumption | omega | exact VG.okg (by assumption) | (simp only [List.length_set, List.length_append, List.length_cons, List.length_nil, List.length_replicate]; omega)) only [go_sem, ↓reduceIte, Int.reduceLE, Int.reduceLT, Int.reduceToNat, Int.reduceNeg, Int.reduceAdd, Int.reduceSub, Int.reduceMul, Int.reduceEq, Int.reduceNe, Nat.reduceEqDiff, Nat.reduceAdd, Nat.reduceSub, Nat.reduceMul, Nat.reduceLT, Nat.reduceLeDiff, Nat.reduceBEq, Nat.reduceBNe, UInt8.reduceToNat, Tryz.results18, e16, e17, e18, e3, m3, e5] | skip))
  have hgi := getS ls i.toNat (by omega)
  have hdr : ls.drop i.toNat = ls.getD i.toNat [] :: ls.drop (i + 1).toNat := by
    have hil : i.toNat < ls.length := by omega
    rw [show (i + 1).toNat = i.toNat + 1 by omega, List.drop_eq_getElem_cons hil]
    simp [hil]
  rw [hdr] at hr
  generalize ls.getD i.toNat [] = l at hgi hr
  cases hr with
  | skip h =>
    repeat' (first
      | refine xw_seq ?_
      | refine xw_block ?_
      | (refine ite_two ?_ ?_ <;> intro _ <;> first | (exfalso; omega) | skip)
      | refine ord_split (by kernel_rfl) ?_
      | (refine xw_ret ?_ <;> try simp only [sq, bl, LQ])
      | ((first | refine xw_reg ?_ | refine xw_regd ?_ | refine xw_if ?_ | refine xw_skip ?_ | refine xw_exit ?_ | refine xw_label ?_ | refine post_ret ?_ | refine post_normal ?_ | refine postE_ret ?_ | refine postE_normal ?_) <;> simp (config := { maxSteps := 3000000 }) (disch := first | assumption | omega | exact VG.okg (by assumption) | (simp only [List.length_set, List.length_append, List.length_cons, List.length_nil, List.length_replicate]; omega)) only [go_sem, ↓reduceIte, Int.reduceLE, Int.reduceLT, Int.reduceToNat, Int.reduceNeg, Int.reduceAdd, Int.reduceSub, Int.reduceMul, Int.reduceEq, Int.reduceNe, Nat.reduceEqDiff, Nat.reduceAdd, Nat.reduceSub, Nat.reduceMul, Nat.reduceLT, Nat.reduceLeDiff, Nat.reduceBEq, Nat.reduceBNe, UInt8.reduceToNat, Tryz.results18, e16, e17, e18, e3, m3, e5, hgi])
      | (((first | refine at_region ?_ | refine at_out ?_ | refine at_cond ?_); split) <;> first | (exfalso; omega; done) | simp (config := { maxSteps := 3000000 }) (disch := first | assumption | omega | exact VG.okg (by assumption) | (simp only [List.length_set, List.length_append, List.length_cons, List.length_nil, List.length_replicate]; omega)) only [go_sem, ↓reduceIte, Int.reduceLE, Int.reduceLT, Int.reduceToNat, Int.reduceNeg, Int.reduceAdd, Int.reduceSub, Int.reduceMul, Int.reduceEq, Int.reduceNe, Nat.reduceEqDiff, Nat.reduceAdd, Nat.reduceSub, Nat.reduceMul, Nat.reduceLT, Nat.reduceLeDiff, Nat.reduceBEq, Nat.reduceBNe, UInt8.reduceToNat, Tryz.results18, e16, e17, e18, e3, m3, e5, hgi] | skip))
    exact ⟨n, x, y, z, rfl, o, rfl, by omega, by omega, h, by omega⟩
  | line hl ho ht h1 h =>
    rename_i n' x' y' z' t
    have hne := eqS_ne hl
    unfold LineOK at h1
    repeat' (first
      | refine xw_seq ?_
      | refine xw_block ?_
      | (refine ite_two ?_ ?_ <;> intro _ <;> first | (exfalso; omega) | skip)
      | refine ord_split (by kernel_rfl) ?_
      | (refine xw_ret ?_ <;> try simp only [sq, bl, LQ])
      | ((first | refine xw_reg ?_ | refine xw_regd ?_ | refine xw_if ?_ | refine xw_skip ?_ | refine xw_exit ?_ | refine xw_label ?_ | refine post_ret ?_ | refine post_normal ?_ | refine postE_ret ?_ | refine postE_normal ?_) <;> simp (config := { maxSteps := 3000000 }) (disch := first | assumption | omega | exact VG.okg (by assumption) | (simp only [List.length_set, List.length_append, List.length_cons, List.length_nil, List.length_replicate]; omega)) only [go_sem, ↓reduceIte, Int.reduceLE, Int.reduceLT, Int.reduceToNat, Int.reduceNeg, Int.reduceAdd, Int.reduceSub, Int.reduceMul, Int.reduceEq, Int.reduceNe, Nat.reduceEqDiff, Nat.reduceAdd, Nat.reduceSub, Nat.reduceMul, Nat.reduceLT, Nat.reduceLeDiff, Nat.reduceBEq, Nat.reduceBNe, UInt8.reduceToNat, Tryz.results18, e16, e17, e18, e3, m3, e5, hgi, hne, h1])
      | (((first | refine at_region ?_ | refine at_out ?_ | refine at_cond ?_); split) <;> first | (exfalso; omega; done) | simp (config := { maxSteps := 3000000 }) (disch := first | assumption | omega | exact VG.okg (by assumption) | (simp only [List.length_set, List.length_append, List.length_cons, List.length_nil, List.length_replicate]; omega)) only [go_sem, ↓reduceIte, Int.reduceLE, Int.reduceLT, Int.reduceToNat, Int.reduceNeg, Int.reduceAdd, Int.reduceSub, Int.reduceMul, Int.reduceEq, Int.reduceNe, Nat.reduceEqDiff, Nat.reduceAdd, Nat.reduceSub, Nat.reduceMul, Nat.reduceLT, Nat.reduceLeDiff, Nat.reduceBEq, Nat.reduceBNe, UInt8.reduceToNat, Tryz.results18, e16, e17, e18, e3, m3, e5, hgi, hne, h1] | skip))
    exact ⟨n', x', y', z', rfl, o ++ t, rfl, by omega, by omega, h, by omega⟩
end Go.Proofs.YtdjdgnabcecdlaaGreatDoor.X

/- What functions compute: scripts that load a graph and give one or two orders. -/
set_option linter.unusedSimpArgs false
set_option linter.unusedVariables false
set_option maxHeartbeats 8000000
set_option maxRecDepth 100000
namespace Go.Proofs.YtdjdgnabcecdlaaGreatDoor.X
open Go Go.Proofs
theorem gr_no {n : Int} {es : List (Int × Int)} (hV : VG n es) : (10 : UInt8) ∉ ([103, 114, 97, 112, 104, 32] : List UInt8) ++ fmtG n es := by
  obtain ⟨hs, m⟩ := hV.small
  rw [List.mem_append, not_or]
  exact ⟨by decide, fmtG_no m hs (by decide) (by decide) (by decide)⟩
theorem gr_line {n : Int} {es : List (Int × Int)} (hV : VG n es) : LineOK ([103, 114, 97, 112, 104, 32] ++ fmtG n es) 1 .emp .emp .emp [111, 107, 10] n (exI es.length (ldT es)) (eyI es.length (ldT es)) (ezI es.length (ldT es)) :=
  line_graph n es hV rfl 1 .emp .emp .emp [] LV3.emp
/-- One order. -/
theorem script1 {n : Int} {es : List (Int × Int)} (hV : VG n es) {w t : List UInt8} (h10 : (10 : UInt8) ∉ w) (hne : w ≠ []) (hl : w.length ≤ 1000) (ht : t.length ≤ 100000) {n' : Int} {x' y' z' : IV}
    (h : LineOK w n (exI es.length (ldT es)) (eyI es.length (ldT es)) (ezI es.length (ldT es)) t n' x' y' z') :
    KP 18 [S (103 :: 114 :: 97 :: 112 :: 104 :: 32 :: (fmtG n es ++ 10 :: (w ++ [10])))] [] = some (S (111 :: 107 :: 10 :: t), [], []) := by
  have hel := hV.2.2.1
  have hlen := fmtG_len n es
  have e : (103 :: 114 :: 97 :: 112 :: 104 :: 32 :: (fmtG n es ++ 10 :: (w ++ [10])) : List UInt8) = (([103, 114, 97, 112, 104, 32] : List UInt8) ++ fmtG n es) ++ 10 :: (w ++ 10 :: []) := by simp
  have hp : pcs 10 ((([103, 114, 97, 112, 104, 32] : List UInt8) ++ fmtG n es) ++ 10 :: (w ++ 10 :: [])) = [([103, 114, 97, 112, 104, 32] : List UInt8) ++ fmtG n es, w, []] := by
    rw [pcs_app _ (gr_no hV), pcs_app _ h10]; rfl
  rw [e]
  refine c_RunScript _ _ _ hp (by simp only [List.length_append, List.length_cons, List.length_nil]; omega) (by simp) ?_
  exact .line (by simp) (by simp) (by simp) (gr_line hV) (.line hne (by simp) ht h (.skip .nil))
/-- Two orders. -/
theorem script2 {n : Int} {es : List (Int × Int)} (hV : VG n es) {w1 t1 w2 t2 : List UInt8} (h10 : (10 : UInt8) ∉ w1) (hne : w1 ≠ []) (hl : w1.length ≤ 1000) (ht : t1.length ≤ 30000) (h10' : (10 : UInt8) ∉ w2) (hne' : w2 ≠ []) (hl' : w2.length ≤ 1000) (ht' : t2.length ≤ 30000)
    {n' : Int} {x' y' z' : IV} {n'' : Int} {x'' y'' z'' : IV}
    (h : LineOK w1 n (exI es.length (ldT es)) (eyI es.length (ldT es)) (ezI es.length (ldT es)) t1 n' x' y' z') (h' : LineOK w2 n' x' y' z' t2 n'' x'' y'' z'') :
    KP 18 [S (103 :: 114 :: 97 :: 112 :: 104 :: 32 :: (fmtG n es ++ 10 :: (w1 ++ 10 :: (w2 ++ [10]))))] [] = some (S (111 :: 107 :: 10 :: (t1 ++ t2)), [], []) := by
  have hel := hV.2.2.1
  have hlen := fmtG_len n es
  have e : (103 :: 114 :: 97 :: 112 :: 104 :: 32 :: (fmtG n es ++ 10 :: (w1 ++ 10 :: (w2 ++ [10]))) : List UInt8) = (([103, 114, 97, 112, 104, 32] : List UInt8) ++ fmtG n es) ++ 10 :: (w1 ++ 10 :: (w2 ++ 10 :: [])) := by simp
  have hp : pcs 10 ((([103, 114, 97, 112, 104, 32] : List UInt8) ++ fmtG n es) ++ 10 :: (w1 ++ 10 :: (w2 ++ 10 :: []))) = [([103, 114, 97, 112, 104, 32] : List UInt8) ++ fmtG n es, w1, w2, []] := by
    rw [pcs_app _ (gr_no hV), pcs_app _ h10, pcs_app _ h10']; rfl
  rw [e]
  refine c_RunScript _ _ _ hp (by simp only [List.length_append, List.length_cons, List.length_nil]; omega) (by simp) ?_
  exact .line (by simp) (by simp) (by simp) (gr_line hV) (.line hne (by simp) (by omega) h (.line hne' (by simp; omega) (by omega) h' (.skip .nil)))
theorem ld3 {n : Int} {es : List (Int × Int)} (hV : VG n es) : LV3 (exI es.length (ldT es)) (eyI es.length (ldT es)) (ezI es.length (ldT es)) (ldT es) :=
  exyz fun h => by rw [List.length_eq_zero_iff.1 h]; rfl
end Go.Proofs.YtdjdgnabcecdlaaGreatDoor.X

/- What functions compute: lines with numbers. -/
set_option linter.unusedSimpArgs false
set_option linter.unusedVariables false
set_option maxHeartbeats 8000000
set_option maxRecDepth 100000
namespace Go.Proofs.YtdjdgnabcecdlaaGreatDoor.X
open Go Go.Proofs
theorem dgt_len (a : Int) : (dgt a).length ≤ 2 := (dec2_len (n := a.toNat)).2
theorem no10_two {w : List UInt8} (h : (10 : UInt8) ∉ w) {a b : Int} (ha : 0 ≤ a ∧ a < 100) (hb : 0 ≤ b ∧ b < 100) : (10 : UInt8) ∉ w ++ 32 :: (dgt a ++ 32 :: dgt b) := by
  simp only [List.mem_append, List.mem_cons, not_or]
  exact ⟨h, by decide, dec2_no (by omega) (by decide), by decide, dec2_no (by omega) (by decide)⟩
theorem nums2 (a b : Int) : numsT [a, b] = 32 :: (dgt a ++ 32 :: dgt b) := by simp [numsT]
theorem c_dyNumbers2 (a b : Int) (ha : 0 ≤ a ∧ a < 100) (hb : 0 ≤ b ∧ b < 100) : KP 17 [.i (.lst [[.v (.int .i64 a)], [.v (.int .i64 b)]])] [] = some (S (numsT [a, b]), [], []) :=
  c_dyNumbers [a, b] (fun x hx => by simp at hx; rcases hx with rfl | rfl <;> assumption) (by simp)
theorem c_dyNumbers1 (a : Int) (ha : 0 ≤ a ∧ a < 100) : KP 17 [.i (.lst [[.v (.int .i64 a)]])] [] = some (S (numsT [a]), [], []) :=
  c_dyNumbers [a] (fun x hx => by simp at hx; subst hx; assumption) (by simp)
end Go.Proofs.YtdjdgnabcecdlaaGreatDoor.X
