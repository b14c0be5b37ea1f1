/- What functions answer, and the plain laws behind it. -/
import Derived.Test.YtdjdgnabcecdlaaGreatDoorKAK
import Derived.Test.YtdjdgnabcecdlaaGreatDoorM21
import Derived.Test.YtdjdgnabcecdlaaGreatDoorC46
import Derived.Test.YtdjdgnabcecdlaaGreatDoorKAH
import Derived.Test.YtdjdgnabcecdlaaGreatDoorKAD
/- What functions compute: a script's lines, a script. -/
set_option linter.unusedSimpArgs false
set_option linter.unusedVariables false
set_option maxHeartbeats 8000000
set_option maxRecDepth 100000
namespace Go.Proofs.YtdjdgnabcecdlaaGreatDoor.X
open Go Go.Proofs
/-- What holds of a line: the state and the text that come of it. -/
def LineOK (l : List UInt8) (n : Int) (x y z : IV) (R : List UInt8) (n' : Int) (x' y' z' : IV) : Prop :=
  KP 72 [.ptr 1000 0 0 0, S l] [.box 0 [I n, .i x, .i y, .i z]] = some (S R, [.box 0 [I n', .i x', .i y', .i z']], [])
theorem line_word (w : List UInt8) (hw : (32 : UInt8) ∉ w) (hl : w.length ≤ 1000) {n n' : Int} {x y z x' y' z' : IV} {R : List UInt8}
    (h : KP 137 [.ptr 1000 0 0 0, S w] [.box 0 [I n, .i x, .i y, .i z]] = some (S R, [.box 0 [I n', .i x', .i y', .i z']], [])) : LineOK w n x y z R n' x' y' z' := by
  have hc := c_Cut_no w 32 hw (by omega)
  unfold LineOK
  refine xw_call (fn := Tryz.f72) rfl Tryz.func72 rfl ⟨Nat.le_of_ble_eq_true rfl, rfl, rfl⟩ ?_
  repeat' (first
    | refine xw_seq ?_
    | refine xw_block ?_
    | (refine ite_two ?_ ?_ <;> intro _ <;> first | (exfalso; omega) | skip)
    | refine ord_split (by kernel_rfl) ?_
    | (refine xw_ret ?_ <;> try simp only [sq, bl, LQ])
    | ((first | refine xw_reg ?_ | refine xw_regd ?_ | refine xw_if ?_ | refine xw_skip ?_ | refine xw_exit ?_ | refine xw_label ?_ | refine post_ret ?_ | refine post_normal ?_ | refine postE_ret ?_ | refine postE_normal ?_ | (((first | refine at_region ?_ | refine at_out ?_ | refine at_cond ?_); split) <;> first | (exfalso; omega; done) | skip)) <;> try simp (config := { maxSteps := 3000000 }) (disch := first | assumption | omega | exact VG.okg (by assumption) | (simp only [List.length_set, List.length_append, List.length_cons, List.length_nil, List.length_replicate]; omega)) only [go_sem, ↓reduceIte, Int.reduceLE, Int.reduceLT, Int.reduceToNat, Int.reduceNeg, Int.reduceAdd, Int.reduceSub, Int.reduceMul, Int.reduceEq, Int.reduceNe, Nat.reduceEqDiff, Nat.reduceAdd, Nat.reduceSub, Nat.reduceMul, Nat.reduceLT, Nat.reduceLeDiff, Nat.reduceBEq, Nat.reduceBNe, UInt8.reduceToNat, Tryz.results72, hc, h]))
theorem line_graph {T : List UInt8} (n : Int) (es : List (Int × Int)) (hV : VG n es) (hT : T = [103, 114, 97, 112, 104] ++ 32 :: fmtG n es) (n0 : Int) (x y z : IV) (ts0 : List Tl) (h3 : LV3 x y z ts0) :
    LineOK T n0 x y z [111, 107, 10] n (exI es.length (ldT es)) (eyI es.length (ldT es)) (ezI es.length (ldT es)) := by
  have hel := hV.2.2.1
  have hlen := fmtG_len n es
  have hc := c_Cut_at [103, 114, 97, 112, 104] (fmtG n es) 32 (by decide) (by simp; omega)
  rw [← hT] at hc
  have hg := c_graphLine n es hV n0 x y z ts0 h3
  clear hT
  generalize fmtG n es = F at *
  unfold LineOK
  refine xw_call (fn := Tryz.f72) rfl Tryz.func72 rfl ⟨Nat.le_of_ble_eq_true rfl, rfl, rfl⟩ ?_
  repeat' (first
    | refine xw_seq ?_
    | refine xw_block ?_
    | (refine ite_two ?_ ?_ <;> intro _ <;> first | (exfalso; omega) | skip)
    | refine ord_split (by kernel_rfl) ?_
    | (refine xw_ret ?_ <;> try simp only [sq, bl, LQ])
    | ((first | refine xw_reg ?_ | refine xw_regd ?_ | refine xw_if ?_ | refine xw_skip ?_ | refine xw_exit ?_ | refine xw_label ?_ | refine post_ret ?_ | refine post_normal ?_ | refine postE_ret ?_ | refine postE_normal ?_ | (((first | refine at_region ?_ | refine at_out ?_ | refine at_cond ?_); split) <;> first | (exfalso; omega; done) | skip)) <;> try simp (config := { maxSteps := 3000000 }) (disch := first | assumption | omega | exact VG.okg (by assumption) | (simp only [List.length_set, List.length_append, List.length_cons, List.length_nil, List.length_replicate]; omega)) only [go_sem, ↓reduceIte, Int.reduceLE, Int.reduceLT, Int.reduceToNat, Int.reduceNeg, Int.reduceAdd, Int.reduceSub, Int.reduceMul, Int.reduceEq, Int.reduceNe, Nat.reduceEqDiff, Nat.reduceAdd, Nat.reduceSub, Nat.reduceMul, Nat.reduceLT, Nat.reduceLeDiff, Nat.reduceBEq, Nat.reduceBNe, UInt8.reduceToNat, Tryz.results72, hc, hg]))
/-- The words of lines with two numbers. -/
def word2 (w : List UInt8) : Prop := w = [112, 117, 116] ∨ w = [99, 117, 116] ∨ w = [112, 97, 116, 104] ∨ w = [98, 101, 116, 119, 101, 101, 110] ∨ w = [102, 108, 111, 119]
theorem line_two {T w : List UInt8} (hw : word2 w) (a b : Int) (ha : 0 ≤ a ∧ a < 100) (hb : 0 ≤ b ∧ b < 100) (hT : T = w ++ 32 :: (dgt a ++ 32 :: dgt b)) {n n' : Int} {x y z x' y' z' : IV} {R : List UInt8}
    (h : KP 140 [.ptr 1000 0 0 0, S w, .i (.lst [[.v (.int .i64 a)], [.v (.int .i64 b)]])] [.box 0 [I n, .i x, .i y, .i z]] = some (S R, [.box 0 [I n', .i x', .i y', .i z']], [])) : LineOK T n x y z R n' x' y' z' := by
  have hsn := c_scriptNumbers2 a b ha hb
  have l1 : (dgt a).length ≤ 2 := (dec2_len (n := a.toNat)).2
  have l2 : (dgt b).length ≤ 2 := (dec2_len (n := b.toNat)).2
  have hn32 : (32 : UInt8) ∉ w := by rcases hw with rfl | rfl | rfl | rfl | rfl <;> decide
  have hwl : w.length ≤ 7 := by rcases hw with rfl | rfl | rfl | rfl | rfl <;> decide
  have hc := c_Cut_at w (dgt a ++ 32 :: dgt b) 32 hn32 (by simp; omega)
  rw [← hT] at hc
  clear hT
  generalize dgt a ++ 32 :: dgt b = F at *
  unfold LineOK
  rcases hw with rfl | rfl | rfl | rfl | rfl
  all_goals
    refine xw_call (fn := Tryz.f72) rfl Tryz.func72 rfl ⟨Nat.le_of_ble_eq_true rfl, rfl, rfl⟩ ?_
    repeat' (first
      | refine xw_seq ?_
      | refine xw_block ?_
      | (refine ite_two ?_ ?_ <;> intro _ <;> first | (exfalso; omega) | skip)
      | refine ord_split (by kernel_rfl) ?_
      | (refine xw_ret ?_ <;> try simp only [sq, bl, LQ])
      | ((first | refine xw_reg ?_ | refine xw_regd ?_ | refine xw_if ?_ | refine xw_skip ?_ | refine xw_exit ?_ | refine xw_label ?_ | refine post_ret ?_ | refine post_normal ?_ | refine postE_ret ?_ | refine postE_normal ?_ | (((first | refine at_region ?_ | refine at_out ?_ | refine at_cond ?_); split) <;> first | (exfalso; omega; done) | skip)) <;> try simp (config := { maxSteps := 3000000 }) (disch := first | assumption | omega | exact VG.okg (by assumption) | (simp only [List.length_set, List.length_append, List.length_cons, List.length_nil, List.length_replicate]; omega)) only [go_sem, ↓reduceIte, Int.reduceLE, Int.reduceLT, Int.reduceToNat, Int.reduceNeg, Int.reduceAdd, Int.reduceSub, Int.reduceMul, Int.reduceEq, Int.reduceNe, Nat.reduceEqDiff, Nat.reduceAdd, Nat.reduceSub, Nat.reduceMul, Nat.reduceLT, Nat.reduceLeDiff, Nat.reduceBEq, Nat.reduceBNe, UInt8.reduceToNat, Tryz.results72, hc, hsn, h]))
/-- What a script's lines tell, one after another. -/
inductive Runs : List (List UInt8) → Int → IV → IV → IV → List UInt8 → List UInt8 → Prop
  | nil {n : Int} {x y z : IV} {o : List UInt8} : Runs [] n x y z o o
  | skip {r : List (List UInt8)} {n : Int} {x y z : IV} {o R : List UInt8} (h : Runs r n x y z o R) : Runs ([] :: r) n x y z o R
  | line {l : List UInt8} {r : List (List UInt8)} {n n' : Int} {x y z x' y' z' : IV} {o t R : List UInt8} (hl : l ≠ []) (ho : o.length ≤ 40000) (ht : t.length ≤ 100000) (h1 : LineOK l n x y z t n' x' y' z') (h : Runs r n' x' y' z' (o ++ t) R) : Runs (l :: r) n x y z o R
theorem c_RunScript (T : List UInt8) (ls : List (List UInt8)) (R : List UInt8) (hT : pcs 10 T = ls) (hl : T.length ≤ 20000) (hn : ls.length ≤ 200) (h : Runs ls 1 .emp .emp .emp [] R) : KP 18 [S T] [] = some (S R, [], []) := by
  have hsp := c_Split T 10 (by omega)
  rw [hT] at hsp
  have hnl := c_NewLevels1 1 (by decide)
  have hlen : (ls.map encS).length = ls.length := by simp
  refine xw_call (fn := Tryz.f18) rfl Tryz.func18 rfl ⟨Nat.le_of_ble_eq_true rfl, rfl, rfl⟩ ?_
  repeat' (first
    | refine xw_seq ?_
    | refine xw_block ?_
    | (refine ite_two ?_ ?_ <;> intro _ <;> first | (exfalso; omega) | skip)
    | refine ord_split (by kernel_rfl) ?_
    | (refine xw_ret ?_ <;> try simp only [sq, bl, LQ])
    | ((first | refine xw_reg ?_ | refine xw_regd ?_ | refine xw_if ?_ | refine xw_skip ?_ | refine xw_exit ?_ | refine xw_label ?_ | refine post_ret ?_ | refine post_normal ?_ | refine postE_ret ?_ | refine postE_normal ?_ | (((first | refine at_region ?_ | refine at_out ?_ | refine at_cond ?_); split) <;> first | (exfalso; omega; done) | skip)) <;> try simp (config := { maxSteps := 3000000 }) (disch := first | assumption | omega | exact VG.okg (by assumption) | (simp only [List.length_set, List.length_append, List.length_cons, List.length_nil, List.length_replicate]; omega)) only [go_sem, ↓reduceIte, Int.reduceLE, Int.reduceLT, Int.reduceToNat, Int.reduceNeg, Int.reduceAdd, Int.reduceSub, Int.reduceMul, Int.reduceEq, Int.reduceNe, Nat.reduceEqDiff, Nat.reduceAdd, Nat.reduceSub, Nat.reduceMul, Nat.reduceLT, Nat.reduceLeDiff, Nat.reduceBEq, Nat.reduceBNe, UInt8.reduceToNat, Tryz.results18, hsp, hnl, hlen]))
  refine xw_loopR (fun (u : Int × Int × IV × IV × IV × List UInt8) s => s.ρ 16 = .i (.lst (ls.map encS)) ∧ s.ρ 17 = I ls.length ∧ s.ρ 18 = I u.1 ∧ s.ρ 3 = .ptr 3 0 0 0 ∧ s.m 3 = some (.box 0 [I u.2.1, .i u.2.2.1, .i u.2.2.2.1, .i u.2.2.2.2.1]) ∧ s.ρ 5 = S u.2.2.2.2.2 ∧ 0 ≤ u.1 ∧ u.1 ≤ ls.length ∧
    Runs (ls.drop u.1.toNat) u.2.1 u.2.2.1 u.2.2.2.1 u.2.2.2.2.1 u.2.2.2.2.2 R) (fun u => (ls.length - u.1).toNat) (0, 1, .emp, .emp, .emp, []) ?_ ?_
  · refine ⟨?_, ?_, rfl, rfl, rfl, rfl, by simp, by simp, h⟩
    all_goals (simp [upd]; done)
  clear h
  rintro ⟨i, n, x, y, z, o⟩ ⟨ρ, m⟩ ⟨e16, e17, e18, e3, m3, e5, g0, g1, hr⟩
  simp only at e16 e17 e18 e3 m3 e5 g0 g1 hr
  by_cases hi : i < ls.length
  rotate_left
  · rw [List.drop_of_length_le (by omega)] at hr
    cases hr
    repeat' (first
      | refine xw_seq ?_
      | refine xw_block ?_
      | (refine ite_two ?_ ?_ <;> intro _ <;> first | (exfalso; omega) | skip)
      | refine ord_split (by kernel_rfl) ?_
      | (refine xw_ret ?_ <;> try simp only [sq, bl, LQ])
      | ((first | refine xw_reg ?_ | refine xw_regd ?_ | refine xw_if ?_ | refine xw_skip ?_ | refine xw_exit ?_ | refine xw_label ?_ | refine post_ret ?_ | refine post_normal ?_ | refine postE_ret ?_ | refine postE_normal ?_ | (((first | refine at_region ?_ | refine at_out ?_ | refine at_cond ?_); split) <;> first | (exfalso; omega; done) | skip)) <;> try simp (config := { maxSteps := 3000000 }) (disch := first | assumption | omega | exact VG.okg (by assumption) | (simp only [List.length_set, List.length_append, List.length_cons, List.length_nil, List.length_replicate]; omega)) only [go_sem, ↓reduceIte, Int.reduceLE, Int.reduceLT, Int.reduceToNat, Int.reduceNeg, Int.reduceAdd, Int.reduceSub, Int.reduceMul, Int.reduceEq, Int.reduceNe, Nat.reduceEqDiff, Nat.reduceAdd, Nat.reduceSub, Nat.reduceMul, Nat.reduceLT, Nat.reduceLeDiff, Nat.reduceBEq, Nat.reduceBNe, UInt8.reduceToNat, Tryz.results18, e16, e17, e18, e3, m3, e5]))
  have hgi := getS ls i.toNat (by omega)
  have hdr : ls.drop i.toNat = ls.getD i.toNat [] :: ls.drop (i + 1).toNat := by
    have hil : i.toNat < ls.length := by omega
    rw [show (i + 1).toNat = i.toNat + 1 by omega, List.drop_eq_getElem_cons hil]
    simp [hil]
  rw [hdr] at hr
  generalize ls.getD i.toNat [] = l at hgi hr
  cases hr with
  | skip h =>
    repeat' (first
      | refine xw_seq ?_
      | refine xw_block ?_
      | (refine ite_two ?_ ?_ <;> intro _ <;> first | (exfalso; omega) | skip)
      | refine ord_split (by kernel_rfl) ?_
      | (refine xw_ret ?_ <;> try simp only [sq, bl, LQ])
      | ((first | refine xw_reg ?_ | refine xw_regd ?_ | refine xw_if ?_ | refine xw_skip ?_ | refine xw_exit ?_ | refine xw_label ?_ | refine post_ret ?_ | refine post_normal ?_ | refine postE_ret ?_ | refine postE_normal ?_ | (((first | refine at_region ?_ | refine at_out ?_ | refine at_cond ?_); split) <;> first | (exfalso; omega; done) | skip)) <;> try simp (config := { maxSteps := 3000000 }) (disch := first | assumption | omega | exact VG.okg (by assumption) | (simp only [List.length_set, List.length_append, List.length_cons, List.length_nil, List.length_replicate]; omega)) only [go_sem, ↓reduceIte, Int.reduceLE, Int.reduceLT, Int.reduceToNat, Int.reduceNeg, Int.reduceAdd, Int.reduceSub, Int.reduceMul, Int.reduceEq, Int.reduceNe, Nat.reduceEqDiff, Nat.reduceAdd, Nat.reduceSub, Nat.reduceMul, Nat.reduceLT, Nat.reduceLeDiff, Nat.reduceBEq, Nat.reduceBNe, UInt8.reduceToNat, Tryz.results18, e16, e17, e18, e3, m3, e5, hgi]))
    exact ⟨n, x, y, z, rfl, o, rfl, by omega, by omega, h, by omega⟩
  | line hl ho ht h1 h =>
    rename_i n' x' y' z' t
    have hne := eqS_ne hl
    unfold LineOK at h1
    repeat' (first
      | refine xw_seq ?_
      | refine xw_block ?_
      | (refine ite_two ?_ ?_ <;> intro _ <;> first | (exfalso; omega) | skip)
      | refine ord_split (by kernel_rfl) ?_
      | (refine xw_ret ?_ <;> try simp only [sq, bl, LQ])
      | ((first | refine xw_reg ?_ | refine xw_regd ?_ | refine xw_if ?_ | refine xw_skip ?_ | refine xw_exit ?_ | refine xw_label ?_ | refine post_ret ?_ | refine post_normal ?_ | refine postE_ret ?_ | refine postE_normal ?_ | (((first | refine at_region ?_ | refine at_out ?_ | refine at_cond ?_); split) <;> first | (exfalso; omega; done) | skip)) <;> try simp (config := { maxSteps := 3000000 }) (disch := first | assumption | omega | exact VG.okg (by assumption) | (simp only [List.length_set, List.length_append, List.length_cons, List.length_nil, List.length_replicate]; omega)) only [go_sem, ↓reduceIte, Int.reduceLE, Int.reduceLT, Int.reduceToNat, Int.reduceNeg, Int.reduceAdd, Int.reduceSub, Int.reduceMul, Int.reduceEq, Int.reduceNe, Nat.reduceEqDiff, Nat.reduceAdd, Nat.reduceSub, Nat.reduceMul, Nat.reduceLT, Nat.reduceLeDiff, Nat.reduceBEq, Nat.reduceBNe, UInt8.reduceToNat, Tryz.results18, e16, e17, e18, e3, m3, e5, hgi, hne, h1]))
    exact ⟨n', x', y', z', rfl, o ++ t, rfl, by omega, by omega, h, by omega⟩
end Go.Proofs.YtdjdgnabcecdlaaGreatDoor.X

/- What functions compute: scripts that load a graph and give one or two orders. -/
set_option linter.unusedSimpArgs false
set_option linter.unusedVariables false
set_option maxHeartbeats 8000000
set_option maxRecDepth 100000
namespace Go.Proofs.YtdjdgnabcecdlaaGreatDoor.X
open Go Go.Proofs
theorem gr_no {n : Int} {es : List (Int × Int)} (hV : VG n es) : (10 : UInt8) ∉ ([103, 114, 97, 112, 104, 32] : List UInt8) ++ fmtG n es := by
  obtain ⟨hs, m⟩ := hV.small
  rw [List.mem_append, not_or]
  exact ⟨by decide, fmtG_no m hs (by decide) (by decide) (by decide)⟩
theorem gr_line {n : Int} {es : List (Int × Int)} (hV : VG n es) : LineOK ([103, 114, 97, 112, 104, 32] ++ fmtG n es) 1 .emp .emp .emp [111, 107, 10] n (exI es.length (ldT es)) (eyI es.length (ldT es)) (ezI es.length (ldT es)) :=
  line_graph n es hV rfl 1 .emp .emp .emp [] LV3.emp
/-- Two orders. -/
theorem script2 {n : Int} {es : List (Int × Int)} (hV : VG n es) {w1 t1 w2 t2 : List UInt8} (h10 : (10 : UInt8) ∉ w1) (hne : w1 ≠ []) (hl : w1.length ≤ 1000) (ht : t1.length ≤ 30000) (h10' : (10 : UInt8) ∉ w2) (hne' : w2 ≠ []) (hl' : w2.length ≤ 1000) (ht' : t2.length ≤ 30000)
    {n' : Int} {x' y' z' : IV} {n'' : Int} {x'' y'' z'' : IV}
    (h : LineOK w1 n (exI es.length (ldT es)) (eyI es.length (ldT es)) (ezI es.length (ldT es)) t1 n' x' y' z') (h' : LineOK w2 n' x' y' z' t2 n'' x'' y'' z'') :
    KP 18 [S (103 :: 114 :: 97 :: 112 :: 104 :: 32 :: (fmtG n es ++ 10 :: (w1 ++ 10 :: (w2 ++ [10]))))] [] = some (S (111 :: 107 :: 10 :: (t1 ++ t2)), [], []) := by
  have hel := hV.2.2.1
  have hlen := fmtG_len n es
  have e : (103 :: 114 :: 97 :: 112 :: 104 :: 32 :: (fmtG n es ++ 10 :: (w1 ++ 10 :: (w2 ++ [10]))) : List UInt8) = (([103, 114, 97, 112, 104, 32] : List UInt8) ++ fmtG n es) ++ 10 :: (w1 ++ 10 :: (w2 ++ 10 :: [])) := by simp
  have hp : pcs 10 ((([103, 114, 97, 112, 104, 32] : List UInt8) ++ fmtG n es) ++ 10 :: (w1 ++ 10 :: (w2 ++ 10 :: []))) = [([103, 114, 97, 112, 104, 32] : List UInt8) ++ fmtG n es, w1, w2, []] := by
    rw [pcs_app _ (gr_no hV), pcs_app _ h10, pcs_app _ h10']; rfl
  rw [e]
  refine c_RunScript _ _ _ hp (by simp only [List.length_append, List.length_cons, List.length_nil]; omega) (by simp) ?_
  exact .line (by simp) (by simp) (by simp) (gr_line hV) (.line hne (by simp) (by omega) h (.line hne' (by simp; omega) (by omega) h' (.skip .nil)))
theorem ld3 {n : Int} {es : List (Int × Int)} (hV : VG n es) : LV3 (exI es.length (ldT es)) (eyI es.length (ldT es)) (ezI es.length (ldT es)) (ldT es) :=
  exyz fun h => by rw [List.length_eq_zero_iff.1 h]; rfl
end Go.Proofs.YtdjdgnabcecdlaaGreatDoor.X

/- Operations, the lives of edges: plain law. -/
set_option linter.unusedSimpArgs false
set_option linter.unusedVariables false
set_option maxHeartbeats 4000000
namespace Go.Proofs.YtdjdgnabcecdlaaGreatDoor.X
open Go Go.Proofs
abbrev Op3 := Int × Int × Int
def opE (o : Op3) : Int × Int := o.2
noncomputable def opS (n : Int) (es : List (Int × Int)) (o : Op3) : Option (List (Int × Int)) :=
  if o.1 = 1 then (if PutOK n es o.2 then some (putE o.2 es) else none)
  else if o.1 = 2 then (if o.2 ∈ es then some (cutE o.2 es) else none)
  else if o.1 = 3 then (if 0 ≤ o.2.1 ∧ o.2.1 < o.2.2 ∧ o.2.2 < n then some es else none) else none
noncomputable def runS (n : Int) (ops : List Op3) : Option (List (Int × Int)) := ops.foldl (fun s o => s.bind fun es => opS n es o) (some [])
theorem VG.put {n : Int} {es : List (Int × Int)} {e : Int × Int} (h : PutOK n es e) : VG n (putE e es) := h.2.2
/-- The life of an edge: the edge, from, to. -/
abbrev Lf := (Int × Int) × Int × Int
def endE (ops : List Op3) (i : Nat) (e : Int × Int) : Nat := i + 1 + (ops.drop (i + 1)).findIdx fun o => decide (o = (2, e))
def livesS (ops : List Op3) : List Lf := (List.range ops.length).flatMap fun (i : Nat) => match ops[i]? with | some (k, e) => if k = 1 then [(e, (i : Int), (endE ops i e : Int))] else [] | none => []
def atL (t : Int) (l : Lf) : Bool := decide (l.2.1 ≤ t ∧ t < l.2.2)
/-- The edges that are there in front of an operation. -/
def aliveL (lvs : List Lf) (t : Int) : List (Int × Int) := (lvs.filter (atL t)).map (·.1)
/-- What is united in a span, and what is left for its halves. -/
def covS (lo hi : Int) (l : Lf) : Bool := decide (l.2.1 ≤ lo ∧ hi ≤ l.2.2)
def leftS (lo hi : Int) (l : Lf) : Bool := !covS lo hi l && decide (l.2.1 < hi ∧ lo < l.2.2)
/-- The answers to the questions in a span. -/
noncomputable def ansS (ops : List Op3) (lvs : List Lf) (es : List (Int × Int)) (lo : Int) (k : Nat) : List Bool := (List.range k).flatMap fun (i : Nat) => match ops[lo.toNat + i]? with | some (kd, a, b) => if kd = 3 then [decide (Conn (es ++ aliveL lvs (lo + i)) a b)] else [] | none => []
def workS (lvs : List Lf) (lo hi : Int) : Int := (lvs.map fun l => spanN (hi - lo).toNat lo hi l.2.1 l.2.2).sum
end Go.Proofs.YtdjdgnabcecdlaaGreatDoor.X

/- What functions compute: operations that are made. -/
set_option linter.unusedSimpArgs false
set_option linter.unusedVariables false
set_option maxHeartbeats 16000000
set_option maxRecDepth 100000
namespace Go.Proofs.YtdjdgnabcecdlaaGreatDoor.X
open Go Go.Proofs
def encO (o : Op3) : List IV := [.v (.int .i64 o.1), .v (.int .i64 o.2.1), .v (.int .i64 o.2.2)]
abbrev LO (ops : List Op3) : PV := .i (.lst (ops.map encO))
theorem takeO {ops : List Op3} {n : Nat} : (ops.map encO).take n = (ops.take n).map encO := by simp
theorem dropO {ops : List Op3} {n : Nat} : (ops.map encO).drop n = (ops.drop n).map encO := by simp
theorem lenO_all {ops : List Op3} : (ops.map encO).all (fun e => e.length == 3) = true := by simp [encO]
attribute [go_sem] takeO dropO lenO_all
/-- A list of edges as a value. -/
theorem EL.emp : EL .emp [] := ⟨fun n => by cases n <;> rfl, rfl⟩
/-- The edges in front of an operation, and the answers to the questions so far. -/
noncomputable def stL (n : Int) (ops : List Op3) (i : Nat) : List (Int × Int) := (runS n (ops.take i)).getD []
noncomputable def anR (n : Int) (ops : List Op3) (t : Nat) : List Bool := (List.range t).flatMap fun (i : Nat) => if (ops.getD i (0, 0, 0)).1 = 3 then [decide (Conn (stL n ops i) (ops.getD i (0, 0, 0)).2.1 (ops.getD i (0, 0, 0)).2.2)] else []
/-- Operations that can be made. -/
noncomputable def roS (n : Int) (ops : List Op3) : Option (List (Int × Int)) := if 1 ≤ n ∧ n ≤ 16 ∧ ops.length ≤ 64 then runS n ops else none
/-- A place among operations. -/
noncomputable def gaS (n : Int) (ops : List Op3) (t : Int) : Option (List (Int × Int)) := if (roS n ops).isSome = true ∧ 0 ≤ t ∧ t ≤ ops.length then runS n (ops.take t.toNat) else none
end Go.Proofs.YtdjdgnabcecdlaaGreatDoor.X
