/- What functions answer, and the plain laws behind it. -/
import Derived.Test.YtdjdgnabcecdlaaGreatDoorKAM
import Derived.Test.YtdjdgnabcecdlaaGreatDoorKAH
/- What functions compute: a script's lines, a script. -/
set_option linter.unusedSimpArgs false
set_option linter.unusedVariables false
set_option maxHeartbeats 8000000
set_option maxRecDepth 100000
namespace Go.Proofs.YtdjdgnabcecdlaaGreatDoor.X
open Go Go.Proofs
/-- What holds of a line: the state and the text that come of it. -/
def LineOK (l : List UInt8) (n : Int) (x y z : IV) (R : List UInt8) (n' : Int) (x' y' z' : IV) : Prop :=
  KP 72 [.ptr 1000 0 0 0, S l] [.box 0 [I n, .i x, .i y, .i z]] = some (S R, [.box 0 [I n', .i x', .i y', .i z']], [])
theorem line_word (w : List UInt8) (hw : (32 : UInt8) ∉ w) (hl : w.length ≤ 1000) {n n' : Int} {x y z x' y' z' : IV} {R : List UInt8}
    (h : KP 137 [.ptr 1000 0 0 0, S w] [.box 0 [I n, .i x, .i y, .i z]] = some (S R, [.box 0 [I n', .i x', .i y', .i z']], [])) : LineOK w n x y z R n' x' y' z' := by
  have hc := c_Cut_no w 32 hw (by omega)
  unfold LineOK
  refine xw_call (fn := Tryz.f72) rfl Tryz.func72 rfl ⟨Nat.le_of_ble_eq_true rfl, rfl, rfl⟩ ?_
  repeat' (first
    | refine xw_seq ?_
    | refine xw_block ?_
    | (refine ite_two ?_ ?_ <;> intro _ <;> first | (exfalso; omega) | skip)
    | refine ord_split (by kernel_rfl) ?_
    | (refine xw_ret ?_ <;> try simp only [sq, bl, LQ])
    | ((first | refine xw_reg ?_ | refine xw_regd ?_ | refine xw_if ?_ | refine xw_skip ?_ | refine xw_exit ?_ | refine xw_label ?_ | refine post_ret ?_ | refine post_normal ?_ | refine postE_ret ?_ | refine postE_normal ?_ | (((first | refine at_region ?_ | refine at_out ?_ | refine at_cond ?_); split) <;> first | (exfalso; omega; done) | skip)) <;> try simp (config := { maxSteps := 3000000 }) (disch := first | assumption | omega | exact VG.okg (by assumption) | (simp only [List.length_set, List.length_append, List.length_cons, List.length_nil, List.length_replicate]; omega)) only [go_sem, ↓reduceIte, Int.reduceLE, Int.reduceLT, Int.reduceToNat, Int.reduceNeg, Int.reduceAdd, Int.reduceSub, Int.reduceMul, Int.reduceEq, Int.reduceNe, Nat.reduceEqDiff, Nat.reduceAdd, Nat.reduceSub, Nat.reduceMul, Nat.reduceLT, Nat.reduceLeDiff, Nat.reduceBEq, Nat.reduceBNe, UInt8.reduceToNat, Tryz.results72, hc, h]))
theorem line_graph {T : List UInt8} (n : Int) (es : List (Int × Int)) (hV : VG n es) (hT : T = [103, 114, 97, 112, 104] ++ 32 :: fmtG n es) (n0 : Int) (x y z : IV) (ts0 : List Tl) (h3 : LV3 x y z ts0) :
    LineOK T n0 x y z [111, 107, 10] n (exI es.length (ldT es)) (eyI es.length (ldT es)) (ezI es.length (ldT es)) := by
  have hel := hV.2.2.1
  have hlen := fmtG_len n es
  have hc := c_Cut_at [103, 114, 97, 112, 104] (fmtG n es) 32 (by decide) (by simp; omega)
  rw [← hT] at hc
  have hg := c_graphLine n es hV n0 x y z ts0 h3
  clear hT
  generalize fmtG n es = F at *
  unfold LineOK
  refine xw_call (fn := Tryz.f72) rfl Tryz.func72 rfl ⟨Nat.le_of_ble_eq_true rfl, rfl, rfl⟩ ?_
  repeat' (first
    | refine xw_seq ?_
    | refine xw_block ?_
    | (refine ite_two ?_ ?_ <;> intro _ <;> first | (exfalso; omega) | skip)
    | refine ord_split (by kernel_rfl) ?_
    | (refine xw_ret ?_ <;> try simp only [sq, bl, LQ])
    | ((first | refine xw_reg ?_ | refine xw_regd ?_ | refine xw_if ?_ | refine xw_skip ?_ | refine xw_exit ?_ | refine xw_label ?_ | refine post_ret ?_ | refine post_normal ?_ | refine postE_ret ?_ | refine postE_normal ?_ | (((first | refine at_region ?_ | refine at_out ?_ | refine at_cond ?_); split) <;> first | (exfalso; omega; done) | skip)) <;> try simp (config := { maxSteps := 3000000 }) (disch := first | assumption | omega | exact VG.okg (by assumption) | (simp only [List.length_set, List.length_append, List.length_cons, List.length_nil, List.length_replicate]; omega)) only [go_sem, ↓reduceIte, Int.reduceLE, Int.reduceLT, Int.reduceToNat, Int.reduceNeg, Int.reduceAdd, Int.reduceSub, Int.reduceMul, Int.reduceEq, Int.reduceNe, Nat.reduceEqDiff, Nat.reduceAdd, Nat.reduceSub, Nat.reduceMul, Nat.reduceLT, Nat.reduceLeDiff, Nat.reduceBEq, Nat.reduceBNe, UInt8.reduceToNat, Tryz.results72, hc, hg]))
/-- The words of lines with two numbers. -/
def word2 (w : List UInt8) : Prop := w = [112, 117, 116] ∨ w = [99, 117, 116] ∨ w = [112, 97, 116, 104] ∨ w = [98, 101, 116, 119, 101, 101, 110] ∨ w = [102, 108, 111, 119]
/-- What a script's lines tell, one after another. -/
inductive Runs : List (List UInt8) → Int → IV → IV → IV → List UInt8 → List UInt8 → Prop
  | nil {n : Int} {x y z : IV} {o : List UInt8} : Runs [] n x y z o o
  | skip {r : List (List UInt8)} {n : Int} {x y z : IV} {o R : List UInt8} (h : Runs r n x y z o R) : Runs ([] :: r) n x y z o R
  | line {l : List UInt8} {r : List (List UInt8)} {n n' : Int} {x y z x' y' z' : IV} {o t R : List UInt8} (hl : l ≠ []) (ho : o.length ≤ 40000) (ht : t.length ≤ 100000) (h1 : LineOK l n x y z t n' x' y' z') (h : Runs r n' x' y' z' (o ++ t) R) : Runs (l :: r) n x y z o R
theorem c_RunScript (T : List UInt8) (ls : List (List UInt8)) (R : List UInt8) (hT : pcs 10 T = ls) (hl : T.length ≤ 20000) (hn : ls.length ≤ 200) (h : Runs ls 1 .emp .emp .emp [] R) : KP 18 [S T] [] = some (S R, [], []) := by
  have hsp := c_Split T 10 (by omega)
  rw [hT] at hsp
  have hnl := c_NewLevels1 1 (by decide)
  have hlen : (ls.map encS).length = ls.length := by simp
  refine xw_call (fn := Tryz.f18) rfl Tryz.func18 rfl ⟨Nat.le_of_ble_eq_true rfl, rfl, rfl⟩ ?_
  repeat' (first
    | refine xw_seq ?_
    | refine xw_block ?_
    | (refine ite_two ?_ ?_ <;> intro _ <;> first | (exfalso; omega) | skip)
    | refine ord_split (by kernel_rfl) ?_
    | (refine xw_ret ?_ <;> try simp only [sq, bl, LQ])
    | ((first | refine xw_reg ?_ | refine xw_regd ?_ | refine xw_if ?_ | refine xw_skip ?_ | refine xw_exit ?_ | refine xw_label ?_ | refine post_ret ?_ | refine post_normal ?_ | refine postE_ret ?_ | refine postE_normal ?_ | (((first | refine at_region ?_ | refine at_out ?_ | refine at_cond ?_); split) <;> first | (exfalso; omega; done) | skip)) <;> try simp (config := { maxSteps := 3000000 }) (disch := first | assumption | omega | exact VG.okg (by assumption) | (simp only [List.length_set, List.length_append, List.length_cons, List.length_nil, List.length_replicate]; omega)) only [go_sem, ↓reduceIte, Int.reduceLE, Int.reduceLT, Int.reduceToNat, Int.reduceNeg, Int.reduceAdd, Int.reduceSub, Int.reduceMul, Int.reduceEq, Int.reduceNe, Nat.reduceEqDiff, Nat.reduceAdd, Nat.reduceSub, Nat.reduceMul, Nat.reduceLT, Nat.reduceLeDiff, Nat.reduceBEq, Nat.reduceBNe, UInt8.reduceToNat, Tryz.results18, hsp, hnl, hlen]))
  refine xw_loopR (fun (u : Int × Int × IV × IV × IV × List UInt8) s => s.ρ 16 = .i (.lst (ls.map encS)) ∧ s.ρ 17 = I ls.length ∧ s.ρ 18 = I u.1 ∧ s.ρ 3 = .ptr 3 0 0 0 ∧ s.m 3 = some (.box 0 [I u.2.1, .i u.2.2.1, .i u.2.2.2.1, .i u.2.2.2.2.1]) ∧ s.ρ 5 = S u.2.2.2.2.2 ∧ 0 ≤ u.1 ∧ u.1 ≤ ls.length ∧
    Runs (ls.drop u.1.toNat) u.2.1 u.2.2.1 u.2.2.2.1 u.2.2.2.2.1 u.2.2.2.2.2 R) (fun u => (ls.length - u.1).toNat) (0, 1, .emp, .emp, .emp, []) ?_ ?_
  · refine ⟨?_, ?_, rfl, rfl, rfl, rfl, by simp, by simp, h⟩
    all_goals (simp [upd]; done)
  clear h
  rintro ⟨i, n, x, y, z, o⟩ ⟨ρ, m⟩ ⟨e16, e17, e18, e3, m3, e5, g0, g1, hr⟩
  simp only at e16 e17 e18 e3 m3 e5 g0 g1 hr
  by_cases hi : i < ls.length
  rotate_left
  · rw [List.drop_of_length_le (by omega)] at hr
    cases hr
    repeat' (first
      | refine xw_seq ?_
      | refine xw_block ?_
      | (refine ite_two ?_ ?_ <;> intro _ <;> first | (exfalso; omega) | skip)
      | refine ord_split (by kernel_rfl) ?_
      | (refine xw_ret ?_ <;> try simp only [sq, bl, LQ])
      | ((first | refine xw_reg ?_ | refine xw_regd ?_ | refine xw_if ?_ | refine xw_skip ?_ | refine xw_exit ?_ | refine xw_label ?_ | refine post_ret ?_ | refine post_normal ?_ | refine postE_ret ?_ | refine postE_normal ?_ | (((first | refine at_region ?_ | refine at_out ?_ | refine at_cond ?_); split) <;> first | (exfalso; omega; done) | skip)) <;> try simp (config := { maxSteps := 3000000 }) (disch := first | assumption | omega | exact VG.okg (by assumption) | (simp only [List.length_set, List.length_append, List.length_cons, List.length_nil, List.length_replicate]; omega)) only [go_sem, ↓reduceIte, Int.reduceLE, Int.reduceLT, Int.reduceToNat, Int.reduceNeg, Int.reduceAdd, Int.reduceSub, Int.reduceMul, Int.reduceEq, Int.reduceNe, Nat.reduceEqDiff, Nat.reduceAdd, Nat.reduceSub, Nat.reduceMul, Nat.reduceLT, Nat.reduceLeDiff, Nat.reduceBEq, Nat.reduceBNe, UInt8.reduceToNat, Tryz.results18, e16, e17, e18, e3, m3, e5]))
  have hgi := getS ls i.toNat (by omega)
  have hdr : ls.drop i.toNat = ls.getD i.toNat [] :: ls.drop (i + 1).toNat := by
    have hil : i.toNat < ls.length := by omega
    rw [show (i + 1).toNat = i.toNat + 1 by omega, List.drop_eq_getElem_cons hil]
    simp [hil]
  rw [hdr] at hr
  generalize ls.getD i.toNat [] = l at hgi hr
  cases hr with
  | skip h =>
    repeat' (first
      | refine xw_seq ?_
      | refine xw_block ?_
      | (refine ite_two ?_ ?_ <;> intro _ <;> first | (exfalso; omega) | skip)
      | refine ord_split (by kernel_rfl) ?_
      | (refine xw_ret ?_ <;> try simp only [sq, bl, LQ])
      | ((first | refine xw_reg ?_ | refine xw_regd ?_ | refine xw_if ?_ | refine xw_skip ?_ | refine xw_exit ?_ | refine xw_label ?_ | refine post_ret ?_ | refine post_normal ?_ | refine postE_ret ?_ | refine postE_normal ?_ | (((first | refine at_region ?_ | refine at_out ?_ | refine at_cond ?_); split) <;> first | (exfalso; omega; done) | skip)) <;> try simp (config := { maxSteps := 3000000 }) (disch := first | assumption | omega | exact VG.okg (by assumption) | (simp only [List.length_set, List.length_append, List.length_cons, List.length_nil, List.length_replicate]; omega)) only [go_sem, ↓reduceIte, Int.reduceLE, Int.reduceLT, Int.reduceToNat, Int.reduceNeg, Int.reduceAdd, Int.reduceSub, Int.reduceMul, Int.reduceEq, Int.reduceNe, Nat.reduceEqDiff, Nat.reduceAdd, Nat.reduceSub, Nat.reduceMul, Nat.reduceLT, Nat.reduceLeDiff, Nat.reduceBEq, Nat.reduceBNe, UInt8.reduceToNat, Tryz.results18, e16, e17, e18, e3, m3, e5, hgi]))
    exact ⟨n, x, y, z, rfl, o, rfl, by omega, by omega, h, by omega⟩
  | line hl ho ht h1 h =>
    rename_i n' x' y' z' t
    have hne := eqS_ne hl
    unfold LineOK at h1
    repeat' (first
      | refine xw_seq ?_
      | refine xw_block ?_
      | (refine ite_two ?_ ?_ <;> intro _ <;> first | (exfalso; omega) | skip)
      | refine ord_split (by kernel_rfl) ?_
      | (refine xw_ret ?_ <;> try simp only [sq, bl, LQ])
      | ((first | refine xw_reg ?_ | refine xw_regd ?_ | refine xw_if ?_ | refine xw_skip ?_ | refine xw_exit ?_ | refine xw_label ?_ | refine post_ret ?_ | refine post_normal ?_ | refine postE_ret ?_ | refine postE_normal ?_ | (((first | refine at_region ?_ | refine at_out ?_ | refine at_cond ?_); split) <;> first | (exfalso; omega; done) | skip)) <;> try simp (config := { maxSteps := 3000000 }) (disch := first | assumption | omega | exact VG.okg (by assumption) | (simp only [List.length_set, List.length_append, List.length_cons, List.length_nil, List.length_replicate]; omega)) only [go_sem, ↓reduceIte, Int.reduceLE, Int.reduceLT, Int.reduceToNat, Int.reduceNeg, Int.reduceAdd, Int.reduceSub, Int.reduceMul, Int.reduceEq, Int.reduceNe, Nat.reduceEqDiff, Nat.reduceAdd, Nat.reduceSub, Nat.reduceMul, Nat.reduceLT, Nat.reduceLeDiff, Nat.reduceBEq, Nat.reduceBNe, UInt8.reduceToNat, Tryz.results18, e16, e17, e18, e3, m3, e5, hgi, hne, h1]))
    exact ⟨n', x', y', z', rfl, o ++ t, rfl, by omega, by omega, h, by omega⟩
end Go.Proofs.YtdjdgnabcecdlaaGreatDoor.X

/- What functions compute: scripts that load a graph and give one or two orders. -/
set_option linter.unusedSimpArgs false
set_option linter.unusedVariables false
set_option maxHeartbeats 8000000
set_option maxRecDepth 100000
namespace Go.Proofs.YtdjdgnabcecdlaaGreatDoor.X
open Go Go.Proofs
theorem gr_no {n : Int} {es : List (Int × Int)} (hV : VG n es) : (10 : UInt8) ∉ ([103, 114, 97, 112, 104, 32] : List UInt8) ++ fmtG n es := by
  obtain ⟨hs, m⟩ := hV.small
  rw [List.mem_append, not_or]
  exact ⟨by decide, fmtG_no m hs (by decide) (by decide) (by decide)⟩
theorem gr_line {n : Int} {es : List (Int × Int)} (hV : VG n es) : LineOK ([103, 114, 97, 112, 104, 32] ++ fmtG n es) 1 .emp .emp .emp [111, 107, 10] n (exI es.length (ldT es)) (eyI es.length (ldT es)) (ezI es.length (ldT es)) :=
  line_graph n es hV rfl 1 .emp .emp .emp [] LV3.emp
/-- One order. -/
theorem script1 {n : Int} {es : List (Int × Int)} (hV : VG n es) {w t : List UInt8} (h10 : (10 : UInt8) ∉ w) (hne : w ≠ []) (hl : w.length ≤ 1000) (ht : t.length ≤ 100000) {n' : Int} {x' y' z' : IV}
    (h : LineOK w n (exI es.length (ldT es)) (eyI es.length (ldT es)) (ezI es.length (ldT es)) t n' x' y' z') :
    KP 18 [S (103 :: 114 :: 97 :: 112 :: 104 :: 32 :: (fmtG n es ++ 10 :: (w ++ [10])))] [] = some (S (111 :: 107 :: 10 :: t), [], []) := by
  have hel := hV.2.2.1
  have hlen := fmtG_len n es
  have e : (103 :: 114 :: 97 :: 112 :: 104 :: 32 :: (fmtG n es ++ 10 :: (w ++ [10])) : List UInt8) = (([103, 114, 97, 112, 104, 32] : List UInt8) ++ fmtG n es) ++ 10 :: (w ++ 10 :: []) := by simp
  have hp : pcs 10 ((([103, 114, 97, 112, 104, 32] : List UInt8) ++ fmtG n es) ++ 10 :: (w ++ 10 :: [])) = [([103, 114, 97, 112, 104, 32] : List UInt8) ++ fmtG n es, w, []] := by
    rw [pcs_app _ (gr_no hV), pcs_app _ h10]; rfl
  rw [e]
  refine c_RunScript _ _ _ hp (by simp only [List.length_append, List.length_cons, List.length_nil]; omega) (by simp) ?_
  exact .line (by simp) (by simp) (by simp) (gr_line hV) (.line hne (by simp) ht h (.skip .nil))
/-- Two orders. -/
theorem script2 {n : Int} {es : List (Int × Int)} (hV : VG n es) {w1 t1 w2 t2 : List UInt8} (h10 : (10 : UInt8) ∉ w1) (hne : w1 ≠ []) (hl : w1.length ≤ 1000) (ht : t1.length ≤ 30000) (h10' : (10 : UInt8) ∉ w2) (hne' : w2 ≠ []) (hl' : w2.length ≤ 1000) (ht' : t2.length ≤ 30000)
    {n' : Int} {x' y' z' : IV} {n'' : Int} {x'' y'' z'' : IV}
    (h : LineOK w1 n (exI es.length (ldT es)) (eyI es.length (ldT es)) (ezI es.length (ldT es)) t1 n' x' y' z') (h' : LineOK w2 n' x' y' z' t2 n'' x'' y'' z'') :
    KP 18 [S (103 :: 114 :: 97 :: 112 :: 104 :: 32 :: (fmtG n es ++ 10 :: (w1 ++ 10 :: (w2 ++ [10]))))] [] = some (S (111 :: 107 :: 10 :: (t1 ++ t2)), [], []) := by
  have hel := hV.2.2.1
  have hlen := fmtG_len n es
  have e : (103 :: 114 :: 97 :: 112 :: 104 :: 32 :: (fmtG n es ++ 10 :: (w1 ++ 10 :: (w2 ++ [10]))) : List UInt8) = (([103, 114, 97, 112, 104, 32] : List UInt8) ++ fmtG n es) ++ 10 :: (w1 ++ 10 :: (w2 ++ 10 :: [])) := by simp
  have hp : pcs 10 ((([103, 114, 97, 112, 104, 32] : List UInt8) ++ fmtG n es) ++ 10 :: (w1 ++ 10 :: (w2 ++ 10 :: []))) = [([103, 114, 97, 112, 104, 32] : List UInt8) ++ fmtG n es, w1, w2, []] := by
    rw [pcs_app _ (gr_no hV), pcs_app _ h10, pcs_app _ h10']; rfl
  rw [e]
  refine c_RunScript _ _ _ hp (by simp only [List.length_append, List.length_cons, List.length_nil]; omega) (by simp) ?_
  exact .line (by simp) (by simp) (by simp) (gr_line hV) (.line hne (by simp) (by omega) h (.line hne' (by simp; omega) (by omega) h' (.skip .nil)))
theorem ld3 {n : Int} {es : List (Int × Int)} (hV : VG n es) : LV3 (exI es.length (ldT es)) (eyI es.length (ldT es)) (ezI es.length (ldT es)) (ldT es) :=
  exyz fun h => by rw [List.length_eq_zero_iff.1 h]; rfl
end Go.Proofs.YtdjdgnabcecdlaaGreatDoor.X

/- What functions compute: bridges and nodes between two nodes, and the reference's bridges. -/
set_option linter.unusedSimpArgs false
set_option linter.unusedVariables false
set_option maxHeartbeats 2000000
namespace Go.Proofs.YtdjdgnabcecdlaaGreatDoor.X
open Go Go.Proofs
/-- The nodes between two nodes. -/
noncomputable def cutsB (n x y : Int) (es : List (Int × Int)) : List Int := (iota n).filter fun v => decide (v ≠ x ∧ v ≠ y ∧ ¬ Conn (alone v es) x y)
/-- The bridges between two nodes. -/
noncomputable def brgsB (x y : Int) (es : List (Int × Int)) : List (Int × Int) := es.filter fun e => !decide (Conn (cutE e es) x y)
@[go_sem] theorem c_l4Bridge (n a b : Int) (es : List (Int × Int)) (h : OKG n es) (he : okE n (a, b)) : KP 165 [GL n es, PE a b] [] = some (B (decide (Brg es (a, b))), [], []) := by
  have hl := h.len
  have hok := h.cutE (a, b)
  have hw := c_l1Without a b es (by omega)
  unfold okE at he; simp only at he
  refine xw_call (fn := Tryz.f165) rfl Tryz.func165 rfl ⟨Nat.le_of_ble_eq_true rfl, rfl, rfl⟩ ?_
  repeat' (first
    | refine xw_seq ?_
    | refine xw_block ?_
    | (refine ite_two ?_ ?_ <;> intro _ <;> first | (exfalso; omega) | skip)
    | refine ord_split (by kernel_rfl) ?_
    | (refine xw_ret ?_ <;> try simp only [sq, bl, LQ])
    | ((first | refine xw_reg ?_ | refine xw_regd ?_ | refine xw_if ?_ | refine xw_skip ?_ | refine xw_exit ?_ | refine xw_label ?_ | refine post_ret ?_ | refine post_normal ?_ | refine postE_ret ?_ | refine postE_normal ?_ | (((first | refine at_region ?_ | refine at_out ?_ | refine at_cond ?_); split) <;> first | (exfalso; omega; done) | skip)) <;> try simp (config := { maxSteps := 3000000 }) (disch := first | assumption | omega | exact VG.okg (by assumption) | (simp only [List.length_set, List.length_append, List.length_cons, List.length_nil, List.length_replicate]; omega)) only [go_sem, ↓reduceIte, Int.reduceLE, Int.reduceLT, Int.reduceToNat, Int.reduceNeg, Int.reduceAdd, Int.reduceSub, Int.reduceMul, Int.reduceEq, Int.reduceNe, Nat.reduceEqDiff, Nat.reduceAdd, Nat.reduceSub, Nat.reduceMul, Nat.reduceLT, Nat.reduceLeDiff, Nat.reduceBEq, Nat.reduceBNe, UInt8.reduceToNat, Tryz.results165, hw]))
  all_goals exact brg_dec
@[go_sem] theorem c_l4Bridges (n : Int) (es : List (Int × Int)) (h : OKG n es) : KP 119 [GL n es] [] = some (.ref 2000 0 0 (brgs es).length, [], [.arr 0 2 ((brgs es).map encE)]) := by
  have hl := h.len
  refine xw_call (fn := Tryz.f119) rfl Tryz.func119 rfl ⟨Nat.le_of_ble_eq_true rfl, rfl, rfl⟩ ?_
  repeat' (first
    | refine xw_seq ?_
    | refine xw_block ?_
    | (refine ite_two ?_ ?_ <;> intro _ <;> first | (exfalso; omega) | skip)
    | refine ord_split (by kernel_rfl) ?_
    | (refine xw_ret ?_ <;> try simp only [sq, bl, LQ])
    | ((first | refine xw_reg ?_ | refine xw_regd ?_ | refine xw_if ?_ | refine xw_skip ?_ | refine xw_exit ?_ | refine xw_label ?_ | refine post_ret ?_ | refine post_normal ?_ | refine postE_ret ?_ | refine postE_normal ?_ | (((first | refine at_region ?_ | refine at_out ?_ | refine at_cond ?_); split) <;> first | (exfalso; omega; done) | skip)) <;> try simp (config := { maxSteps := 3000000 }) (disch := first | assumption | omega | exact VG.okg (by assumption) | (simp only [List.length_set, List.length_append, List.length_cons, List.length_nil, List.length_replicate]; omega)) only [go_sem, ↓reduceIte, Int.reduceLE, Int.reduceLT, Int.reduceToNat, Int.reduceNeg, Int.reduceAdd, Int.reduceSub, Int.reduceMul, Int.reduceEq, Int.reduceNe, Nat.reduceEqDiff, Nat.reduceAdd, Nat.reduceSub, Nat.reduceMul, Nat.reduceLT, Nat.reduceLeDiff, Nat.reduceBEq, Nat.reduceBNe, UInt8.reduceToNat, Tryz.results119]))
  refine xw_loopR (fun (x : Int × Nat × List (Int × Int)) s => s.m 5 = some (.arr x.2.1 2 (x.2.2.map encE)) ∧ s.ρ 3 = .ref 5 x.2.1 0 x.2.2.length ∧ s.ρ 4 = I x.1 ∧ s.ρ 1 = .ptr 1 0 0 0 ∧ s.m 1 = some (.box 0 [I n, LE es]) ∧
    0 ≤ x.1 ∧ x.1 ≤ es.length ∧ (x.2.2.length : Int) ≤ x.1 ∧ x.2.2 = (es.take x.1.toNat).filter fun e => decide (Brg es e)) (fun x => (es.length - x.1).toNat) (0, 0, []) (by simp [upd]) ?_
  rintro ⟨i, w, xs⟩ ⟨ρ, m⟩ ⟨m5, h3, h4, h1, m1, g0, g1, g2, g3⟩
  simp only at m5 h3 h4 h1 m1 g0 g1 g2 g3
  by_cases hj : i < es.length
  · have hoe := h.ok _ (getD_mem (d := (0, 0)) (show i.toNat < es.length by omega))
    have hoe' : okE n ((es.getD i.toNat (0, 0)).1, (es.getD i.toNat (0, 0)).2) := hoe
    repeat' (first
      | refine xw_seq ?_
      | refine xw_block ?_
      | (refine ite_two ?_ ?_ <;> intro _ <;> first | (exfalso; omega) | skip)
      | refine ord_split (by kernel_rfl) ?_
      | (refine xw_ret ?_ <;> try simp only [sq, bl, LQ])
      | ((first | refine xw_reg ?_ | refine xw_regd ?_ | refine xw_if ?_ | refine xw_skip ?_ | refine xw_exit ?_ | refine xw_label ?_ | refine post_ret ?_ | refine post_normal ?_ | refine postE_ret ?_ | refine postE_normal ?_ | (((first | refine at_region ?_ | refine at_out ?_ | refine at_cond ?_); split) <;> first | (exfalso; omega; done) | skip)) <;> try simp (config := { maxSteps := 3000000 }) (disch := first | assumption | omega | exact VG.okg (by assumption) | (simp only [List.length_set, List.length_append, List.length_cons, List.length_nil, List.length_replicate]; omega)) only [go_sem, ↓reduceIte, Int.reduceLE, Int.reduceLT, Int.reduceToNat, Int.reduceNeg, Int.reduceAdd, Int.reduceSub, Int.reduceMul, Int.reduceEq, Int.reduceNe, Nat.reduceEqDiff, Nat.reduceAdd, Nat.reduceSub, Nat.reduceMul, Nat.reduceLT, Nat.reduceLeDiff, Nat.reduceBEq, Nat.reduceBNe, UInt8.reduceToNat, Tryz.results119, m5, h3, h4, h1, m1]))
    · refine ⟨by omega, by omega, by omega, ?_, by omega⟩
      rw [g3, filt_yes g0 hj (by simpa using ‹_›)]
    · refine ⟨by omega, by omega, by omega, ?_, by omega⟩
      rw [g3, filt_no g0 hj (by simpa using ‹_›)]
  · repeat' (first
      | refine xw_seq ?_
      | refine xw_block ?_
      | (refine ite_two ?_ ?_ <;> intro _ <;> first | (exfalso; omega) | skip)
      | refine ord_split (by kernel_rfl) ?_
      | (refine xw_ret ?_ <;> try simp only [sq, bl, LQ])
      | ((first | refine xw_reg ?_ | refine xw_regd ?_ | refine xw_if ?_ | refine xw_skip ?_ | refine xw_exit ?_ | refine xw_label ?_ | refine post_ret ?_ | refine post_normal ?_ | refine postE_ret ?_ | refine postE_normal ?_ | (((first | refine at_region ?_ | refine at_out ?_ | refine at_cond ?_); split) <;> first | (exfalso; omega; done) | skip)) <;> try simp (config := { maxSteps := 3000000 }) (disch := first | assumption | omega | exact VG.okg (by assumption) | (simp only [List.length_set, List.length_append, List.length_cons, List.length_nil, List.length_replicate]; omega)) only [go_sem, ↓reduceIte, Int.reduceLE, Int.reduceLT, Int.reduceToNat, Int.reduceNeg, Int.reduceAdd, Int.reduceSub, Int.reduceMul, Int.reduceEq, Int.reduceNe, Nat.reduceEqDiff, Nat.reduceAdd, Nat.reduceSub, Nat.reduceMul, Nat.reduceLT, Nat.reduceLeDiff, Nat.reduceBEq, Nat.reduceBNe, UInt8.reduceToNat, Tryz.results119, m5, h3, h4, h1, m1]))
    rw [take_all (by omega)] at g3
    rw [g3]
    exact ⟨rfl, rfl⟩
theorem c_sBridgesOf (n : Int) (es : List (Int × Int)) (hl : es.length ≤ 1048576) : KP 54 [GL n es] [] = some (if VG n es then (LE (brgs es), [], []) else (.ref 2000 0 0 0, [], [.arr 0 2 []])) := by
  by_cases h : VG n es
  · have hb := h.okg
    refine xw_call (fn := Tryz.f54) rfl Tryz.func54 rfl ⟨Nat.le_of_ble_eq_true rfl, rfl, rfl⟩ ?_
    repeat' (first
      | refine xw_seq ?_
      | refine xw_block ?_
      | (refine ite_two ?_ ?_ <;> intro _ <;> first | (exfalso; omega) | skip)
      | refine ord_split (by kernel_rfl) ?_
      | (refine xw_ret ?_ <;> try simp only [sq, bl, LQ])
      | ((first | refine xw_reg ?_ | refine xw_regd ?_ | refine xw_if ?_ | refine xw_skip ?_ | refine xw_exit ?_ | refine xw_label ?_ | refine post_ret ?_ | refine post_normal ?_ | refine postE_ret ?_ | refine postE_normal ?_ | (((first | refine at_region ?_ | refine at_out ?_ | refine at_cond ?_); split) <;> first | (exfalso; omega; done) | skip)) <;> try simp (config := { maxSteps := 3000000 }) (disch := first | assumption | omega | exact VG.okg (by assumption) | (simp only [List.length_set, List.length_append, List.length_cons, List.length_nil, List.length_replicate]; omega)) only [go_sem, ↓reduceIte, Int.reduceLE, Int.reduceLT, Int.reduceToNat, Int.reduceNeg, Int.reduceAdd, Int.reduceSub, Int.reduceMul, Int.reduceEq, Int.reduceNe, Nat.reduceEqDiff, Nat.reduceAdd, Nat.reduceSub, Nat.reduceMul, Nat.reduceLT, Nat.reduceLeDiff, Nat.reduceBEq, Nat.reduceBNe, UInt8.reduceToNat, Tryz.results54]))
  · refine xw_call (fn := Tryz.f54) rfl Tryz.func54 rfl ⟨Nat.le_of_ble_eq_true rfl, rfl, rfl⟩ ?_
    repeat' (first
      | refine xw_seq ?_
      | refine xw_block ?_
      | (refine ite_two ?_ ?_ <;> intro _ <;> first | (exfalso; omega) | skip)
      | refine ord_split (by kernel_rfl) ?_
      | (refine xw_ret ?_ <;> try simp only [sq, bl, LQ])
      | ((first | refine xw_reg ?_ | refine xw_regd ?_ | refine xw_if ?_ | refine xw_skip ?_ | refine xw_exit ?_ | refine xw_label ?_ | refine post_ret ?_ | refine post_normal ?_ | refine postE_ret ?_ | refine postE_normal ?_ | (((first | refine at_region ?_ | refine at_out ?_ | refine at_cond ?_); split) <;> first | (exfalso; omega; done) | skip)) <;> try simp (config := { maxSteps := 3000000 }) (disch := first | assumption | omega | exact VG.okg (by assumption) | (simp only [List.length_set, List.length_append, List.length_cons, List.length_nil, List.length_replicate]; omega)) only [go_sem, ↓reduceIte, Int.reduceLE, Int.reduceLT, Int.reduceToNat, Int.reduceNeg, Int.reduceAdd, Int.reduceSub, Int.reduceMul, Int.reduceEq, Int.reduceNe, Nat.reduceEqDiff, Nat.reduceAdd, Nat.reduceSub, Nat.reduceMul, Nat.reduceLT, Nat.reduceLeDiff, Nat.reduceBEq, Nat.reduceBNe, UInt8.reduceToNat, Tryz.results54]))
theorem c_dyEdges (xs ys : List (Int × Int)) (hl : xs.length ≤ 1048576) : KP 34 [LE xs, LE ys] [] = some (B (decide (xs = ys)), [], []) := by
  refine xw_call (fn := Tryz.f34) rfl Tryz.func34 rfl ⟨Nat.le_of_ble_eq_true rfl, rfl, rfl⟩ ?_
  by_cases hle : xs.length = ys.length
  rotate_left
  · have hne : xs ≠ ys := fun h => hle (by rw [h])
    repeat' (first
      | refine xw_seq ?_
      | refine xw_block ?_
      | (refine ite_two ?_ ?_ <;> intro _ <;> first | (exfalso; omega) | skip)
      | refine ord_split (by kernel_rfl) ?_
      | (refine xw_ret ?_ <;> try simp only [sq, bl, LQ])
      | ((first | refine xw_reg ?_ | refine xw_regd ?_ | refine xw_if ?_ | refine xw_skip ?_ | refine xw_exit ?_ | refine xw_label ?_ | refine post_ret ?_ | refine post_normal ?_ | refine postE_ret ?_ | refine postE_normal ?_ | (((first | refine at_region ?_ | refine at_out ?_ | refine at_cond ?_); split) <;> first | (exfalso; omega; done) | skip)) <;> try simp (config := { maxSteps := 3000000 }) (disch := first | assumption | omega | exact VG.okg (by assumption) | (simp only [List.length_set, List.length_append, List.length_cons, List.length_nil, List.length_replicate]; omega)) only [go_sem, ↓reduceIte, Int.reduceLE, Int.reduceLT, Int.reduceToNat, Int.reduceNeg, Int.reduceAdd, Int.reduceSub, Int.reduceMul, Int.reduceEq, Int.reduceNe, Nat.reduceEqDiff, Nat.reduceAdd, Nat.reduceSub, Nat.reduceMul, Nat.reduceLT, Nat.reduceLeDiff, Nat.reduceBEq, Nat.reduceBNe, UInt8.reduceToNat, Tryz.results34]))
    simp [hne]
  repeat' (first
    | refine xw_seq ?_
    | refine xw_block ?_
    | (refine ite_two ?_ ?_ <;> intro _ <;> first | (exfalso; omega) | skip)
    | refine ord_split (by kernel_rfl) ?_
    | (refine xw_ret ?_ <;> try simp only [sq, bl, LQ])
    | ((first | refine xw_reg ?_ | refine xw_regd ?_ | refine xw_if ?_ | refine xw_skip ?_ | refine xw_exit ?_ | refine xw_label ?_ | refine post_ret ?_ | refine post_normal ?_ | refine postE_ret ?_ | refine postE_normal ?_ | (((first | refine at_region ?_ | refine at_out ?_ | refine at_cond ?_); split) <;> first | (exfalso; omega; done) | skip)) <;> try simp (config := { maxSteps := 3000000 }) (disch := first | assumption | omega | exact VG.okg (by assumption) | (simp only [List.length_set, List.length_append, List.length_cons, List.length_nil, List.length_replicate]; omega)) only [go_sem, ↓reduceIte, Int.reduceLE, Int.reduceLT, Int.reduceToNat, Int.reduceNeg, Int.reduceAdd, Int.reduceSub, Int.reduceMul, Int.reduceEq, Int.reduceNe, Nat.reduceEqDiff, Nat.reduceAdd, Nat.reduceSub, Nat.reduceMul, Nat.reduceLT, Nat.reduceLeDiff, Nat.reduceBEq, Nat.reduceBNe, UInt8.reduceToNat, Tryz.results34]))
  refine xw_loopR (fun (i : Int) s => s.ρ 0 = LE xs ∧ s.ρ 1 = LE ys ∧ s.ρ 5 = I i ∧ 0 ≤ i ∧ i ≤ xs.length ∧ xs.take i.toNat = ys.take i.toNat) (fun i => (xs.length - i).toNat) 0 ⟨rfl, rfl, rfl, by simp, by simp, by simp⟩ ?_
  rintro i ⟨ρ, m⟩ ⟨h0, h1, h5, g0, g1, g2⟩
  simp only at h0 h1 h5
  by_cases hj : i < xs.length
  · have hpe : xs.getD i.toNat (0, 0) = ys.getD i.toNat (0, 0) ↔ (xs.getD i.toNat (0, 0)).1 = (ys.getD i.toNat (0, 0)).1 ∧ (xs.getD i.toNat (0, 0)).2 = (ys.getD i.toNat (0, 0)).2 := Prod.ext_iff
    repeat' (first
      | refine xw_seq ?_
      | refine xw_block ?_
      | (refine ite_two ?_ ?_ <;> intro _ <;> first | (exfalso; omega) | skip)
      | refine ord_split (by kernel_rfl) ?_
      | (refine xw_ret ?_ <;> try simp only [sq, bl, LQ])
      | ((first | refine xw_reg ?_ | refine xw_regd ?_ | refine xw_if ?_ | refine xw_skip ?_ | refine xw_exit ?_ | refine xw_label ?_ | refine post_ret ?_ | refine post_normal ?_ | refine postE_ret ?_ | refine postE_normal ?_ | (((first | refine at_region ?_ | refine at_out ?_ | refine at_cond ?_); split) <;> first | (exfalso; omega; done) | skip)) <;> try simp (config := { maxSteps := 3000000 }) (disch := first | assumption | omega | exact VG.okg (by assumption) | (simp only [List.length_set, List.length_append, List.length_cons, List.length_nil, List.length_replicate]; omega)) only [go_sem, ↓reduceIte, Int.reduceLE, Int.reduceLT, Int.reduceToNat, Int.reduceNeg, Int.reduceAdd, Int.reduceSub, Int.reduceMul, Int.reduceEq, Int.reduceNe, Nat.reduceEqDiff, Nat.reduceAdd, Nat.reduceSub, Nat.reduceMul, Nat.reduceLT, Nat.reduceLeDiff, Nat.reduceBEq, Nat.reduceBNe, UInt8.reduceToNat, Tryz.results34, h0, h1, h5]))
    all_goals first
      | (refine ⟨by omega, by omega, ?_, by omega⟩
         rw [take_int (0, 0) g0 (by omega), take_int (0, 0) g0 (by omega), g2, hpe.2 (by grind)])
      | (symm; rw [decide_eq_false_iff_not]
         intro he
         rw [he] at hpe
         grind)
  · repeat' (first
      | refine xw_seq ?_
      | refine xw_block ?_
      | (refine ite_two ?_ ?_ <;> intro _ <;> first | (exfalso; omega) | skip)
      | refine ord_split (by kernel_rfl) ?_
      | (refine xw_ret ?_ <;> try simp only [sq, bl, LQ])
      | ((first | refine xw_reg ?_ | refine xw_regd ?_ | refine xw_if ?_ | refine xw_skip ?_ | refine xw_exit ?_ | refine xw_label ?_ | refine post_ret ?_ | refine post_normal ?_ | refine postE_ret ?_ | refine postE_normal ?_ | (((first | refine at_region ?_ | refine at_out ?_ | refine at_cond ?_); split) <;> first | (exfalso; omega; done) | skip)) <;> try simp (config := { maxSteps := 3000000 }) (disch := first | assumption | omega | exact VG.okg (by assumption) | (simp only [List.length_set, List.length_append, List.length_cons, List.length_nil, List.length_replicate]; omega)) only [go_sem, ↓reduceIte, Int.reduceLE, Int.reduceLT, Int.reduceToNat, Int.reduceNeg, Int.reduceAdd, Int.reduceSub, Int.reduceMul, Int.reduceEq, Int.reduceNe, Nat.reduceEqDiff, Nat.reduceAdd, Nat.reduceSub, Nat.reduceMul, Nat.reduceLT, Nat.reduceLeDiff, Nat.reduceBEq, Nat.reduceBNe, UInt8.reduceToNat, Tryz.results34, h0, h1, h5]))
    symm; rw [decide_eq_true_iff]
    rw [take_all (by omega), take_all (by omega)] at g2
    exact g2
theorem c_dyEdges_nil : KP 34 [.i (.lst []), .i (.lst [])] [] = some (B true, [], []) := c_dyEdges [] [] (by simp)
end Go.Proofs.YtdjdgnabcecdlaaGreatDoor.X
