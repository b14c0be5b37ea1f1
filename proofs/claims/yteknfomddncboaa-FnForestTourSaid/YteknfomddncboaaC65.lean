/- What functions compute: rooted trees of a forest. -/
import Derived.Test.YteknfomddncboaaKE
import Derived.Test.YteknfomddncboaaC21
import Derived.Test.YteknfomddncboaaM21
set_option linter.unusedSimpArgs false
set_option linter.unusedVariables false
set_option maxHeartbeats 8000000
set_option maxRecDepth 100000
namespace Go.Proofs.Yteknfomddncboaa.X
open Go Go.Proofs
/-- The label of a node. -/
noncomputable def lbl (es : List (Int × Int)) (x : Int) : Int := (least es x.toNat : Nat)
theorem lbl_at {n x : Int} {es : List (Int × Int)} (hx : inN n x) : (lab n es).getD x.toNat 0 = lbl es x := lab_get (by omega)
theorem lbl_spec {n x : Int} {es : List (Int × Int)} (hx : inN n x) : inN n (lbl es x) ∧ Conn es x (lbl es x) ∧ lbl es x ≤ x := by
  obtain ⟨h1, h2, -⟩ := least_spec es x.toNat
  have e : ((x.toNat : Nat) : Int) = x := Int.toNat_of_nonneg hx.1
  rw [e] at h2
  unfold lbl
  exact ⟨by omega, h2.symm, by omega⟩
theorem lbl_iff {n x y : Int} {es : List (Int × Int)} (hx : inN n x) (hy : inN n y) : lbl es x = lbl es y ↔ Conn es x y := by
  have := lab_iff (es := es) hx hy
  rwa [lbl_at hx, lbl_at hy] at this
/-- The node above a node. -/
noncomputable def upN (n : Int) (es : List (Int × Int)) (x : Int) : Int := if lbl es x = x then -1 else (pathL n (forestL es) x (lbl es x)).getD 1 0
noncomputable def wtN (es : List (Int × Int)) (x : Int) : Int := if lbl es x = x then 0 else 1
noncomputable def upsL (n : Int) (es : List (Int × Int)) (i : Int) : List Int := (iota i).map (upN n es)
noncomputable def wtsL (es : List (Int × Int)) (i : Int) : List Int := (iota i).map (wtN es)
theorem upsL_len {n i : Int} {es : List (Int × Int)} : (upsL n es i).length = i.toNat := by simp [upsL, iota_length]
theorem wtsL_len {i : Int} {es : List (Int × Int)} : (wtsL es i).length = i.toNat := by simp [wtsL, iota_length]
theorem upsL_snoc {n i : Int} {es : List (Int × Int)} (h : 0 ≤ i) : upsL n es (i + 1) = upsL n es i ++ [upN n es i] := by unfold upsL; rw [iota_snoc h, List.map_append]; rfl
theorem wtsL_snoc {i : Int} {es : List (Int × Int)} (h : 0 ≤ i) : wtsL es (i + 1) = wtsL es i ++ [wtN es i] := by unfold wtsL; rw [iota_snoc h, List.map_append]; rfl
/-- The path up from a node that is no root. -/
theorem up_path {n x : Int} {es : List (Int × Int)} (hV : VG n es) (hx : inN n x) (h : lbl es x ≠ x) : Conn (forestL es) x (lbl es x) ∧ 1 < (pathL n (forestL es) x (lbl es x)).length ∧ (pathL n (forestL es) x (lbl es x)).length ≤ 17 := by
  have ho := hV.okg.ok
  obtain ⟨h1, h2, h3⟩ := lbl_spec (es := es) hx
  have hc := (forest_conn ho).2 h2
  have hfo : ∀ e ∈ forestL es, okE n e := fun e he => ho e ((forest_sub ho).subset he)
  have h0 : 0 ≤ n := by have := hV.1; omega
  have hd : dst n (forestL es) (lbl es x) x ≠ 0 := fun e => h (dst_zero hfo hc.symm e).symm
  have hd0 := (dst_spec hfo hc.symm (n := n)).1
  have hlt := dst_le (n := n) (t := lbl es x) (x := x) hfo h0
  rw [pathL_len]
  have := hV.2.1
  refine ⟨hc, by omega, by omega⟩
abbrev RP (ps ws : List Int) : PV := .agg [LI ps, LI ws]
theorem c_RootForest (n : Int) (es : List (Int × Int)) (hl : es.length ≤ 1048576) : KP 36 [GL n es] [] =
    some (if VG n es then (.tup [.agg [.ref 2000 0 0 n.toNat, .ref 2001 0 0 n.toNat], B true], [], [.arr 0 1 ((upsL n es n).map encI), .arr 0 1 ((wtsL es n).map encI)]) else (.tup [.agg [.i .emp, .i .emp], B false], [], [])) := by
  by_cases hV : VG n es
  rotate_left
  · rw [if_neg hV]
    have hg := decide_eq_false hV
    refine xw_call (fn := Try.f36) rfl Try.func36 rfl ⟨Nat.le_of_ble_eq_true rfl, rfl, rfl⟩ ?_
    repeat' (first
      | refine xw_seq ?_
      | refine xw_block ?_
      | (refine ite_two ?_ ?_ <;> intro _ <;> first | (exfalso; omega) | skip)
      | refine ord_split (by kernel_rfl) ?_
      | (refine xw_ret ?_ <;> try simp only [sq, bl, LQ])
      | ((first | refine xw_reg ?_ | refine xw_regd ?_ | refine xw_if ?_ | refine xw_skip ?_ | refine xw_exit ?_ | refine xw_label ?_ | refine post_ret ?_ | refine post_normal ?_ | refine postE_ret ?_ | refine postE_normal ?_) <;> simp (config := { maxSteps := 3000000 }) (disch := first | assumption | omega | exact VG.okg (by assumption) | (simp only [List.length_set, List.length_append, List.length_cons, List.length_nil, List.length_replicate]; omega)) only [go_sem, ↓reduceIte, Int.reduceLE, Int.reduceLT, Int.reduceToNat, Int.reduceNeg, Int.reduceAdd, Int.reduceSub, Int.reduceMul, Int.reduceEq, Int.reduceNe, Nat.reduceEqDiff, Nat.reduceAdd, Nat.reduceSub, Nat.reduceMul, Nat.reduceLT, Nat.reduceLeDiff, Nat.reduceBEq, Nat.reduceBNe, Try.results36, hg])
      | (((first | refine at_region ?_ | refine at_out ?_ | refine at_cond ?_); split) <;> first | (exfalso; omega; done) | simp (config := { maxSteps := 3000000 }) (disch := first | assumption | omega | exact VG.okg (by assumption) | (simp only [List.length_set, List.length_append, List.length_cons, List.length_nil, List.length_replicate]; omega)) only [go_sem, ↓reduceIte, Int.reduceLE, Int.reduceLT, Int.reduceToNat, Int.reduceNeg, Int.reduceAdd, Int.reduceSub, Int.reduceMul, Int.reduceEq, Int.reduceNe, Nat.reduceEqDiff, Nat.reduceAdd, Nat.reduceSub, Nat.reduceMul, Nat.reduceLT, Nat.reduceLeDiff, Nat.reduceBEq, Nat.reduceBNe, Try.results36, hg] | skip))
  rw [if_pos hV]
  have hg := decide_eq_true hV
  have hn1 := hV.1
  have hn16 := hV.2.1
  have hG := hV.okg
  have hVF : VG n (forestL es) := hV.sub (forest_sub hG.ok)
  have hfl := hVF.2.2.1
  have hll := lab_length n es
  refine xw_call (fn := Try.f36) rfl Try.func36 rfl ⟨Nat.le_of_ble_eq_true rfl, rfl, rfl⟩ ?_
  repeat' (first
    | refine xw_seq ?_
    | refine xw_block ?_
    | (refine ite_two ?_ ?_ <;> intro _ <;> first | (exfalso; omega) | skip)
    | refine ord_split (by kernel_rfl) ?_
    | (refine xw_ret ?_ <;> try simp only [sq, bl, LQ])
    | ((first | refine xw_reg ?_ | refine xw_regd ?_ | refine xw_if ?_ | refine xw_skip ?_ | refine xw_exit ?_ | refine xw_label ?_ | refine post_ret ?_ | refine post_normal ?_ | refine postE_ret ?_ | refine postE_normal ?_) <;> simp (config := { maxSteps := 3000000 }) (disch := first | assumption | omega | exact VG.okg (by assumption) | (simp only [List.length_set, List.length_append, List.length_cons, List.length_nil, List.length_replicate]; omega)) only [go_sem, ↓reduceIte, Int.reduceLE, Int.reduceLT, Int.reduceToNat, Int.reduceNeg, Int.reduceAdd, Int.reduceSub, Int.reduceMul, Int.reduceEq, Int.reduceNe, Nat.reduceEqDiff, Nat.reduceAdd, Nat.reduceSub, Nat.reduceMul, Nat.reduceLT, Nat.reduceLeDiff, Nat.reduceBEq, Nat.reduceBNe, Try.results36, hg])
    | (((first | refine at_region ?_ | refine at_out ?_ | refine at_cond ?_); split) <;> first | (exfalso; omega; done) | simp (config := { maxSteps := 3000000 }) (disch := first | assumption | omega | exact VG.okg (by assumption) | (simp only [List.length_set, List.length_append, List.length_cons, List.length_nil, List.length_replicate]; omega)) only [go_sem, ↓reduceIte, Int.reduceLE, Int.reduceLT, Int.reduceToNat, Int.reduceNeg, Int.reduceAdd, Int.reduceSub, Int.reduceMul, Int.reduceEq, Int.reduceNe, Nat.reduceEqDiff, Nat.reduceAdd, Nat.reduceSub, Nat.reduceMul, Nat.reduceLT, Nat.reduceLeDiff, Nat.reduceBEq, Nat.reduceBNe, Try.results36, hg] | skip))
  refine xw_loopR (fun (i : Int) s => s.m 2 = some (.box 0 [.i .emp, .i .emp]) ∧ s.ρ 2 = .ptr 2 0 0 0 ∧ s.m 4 = some (.box 0 [I n, .i (qe (forestL es))]) ∧ s.ρ 4 = .ptr 4 0 0 0 ∧ s.ρ 5 = .ptr 5 0 0 0 ∧ s.ρ 6 = LI (lab n es) ∧ s.ρ 23 = I n ∧ s.ρ 24 = I i ∧ 0 ≤ i ∧ i ≤ n ∧ ((i = 0 ∧ s.m 5 = some (.box 0 [.i .emp, .i .emp])) ∨
    (0 < i ∧ ∃ v w, s.m 5 = some (.box 0 [.ref 36 v 0 i.toNat, .ref 40 w 0 i.toNat]) ∧ s.m 36 = some (.arr v 1 ((upsL n es i).map encI)) ∧ s.m 40 = some (.arr w 1 ((wtsL es i).map encI))))) (fun i => (n - i).toNat) 0 ?_ ?_
  · exact ⟨rfl, rfl, rfl, rfl, rfl, rfl, rfl, rfl, by omega, by omega, .inl ⟨rfl, rfl⟩⟩
  rintro i ⟨ρ, m⟩ ⟨m2, e2, m4, e4, e5, e6, e23, e24, g0, g1, hs⟩
  simp only at m2 e2 m4 e4 e5 e6 e23 e24 g0 g1 hs
  by_cases hi : i < n
  rotate_left
  · have hin : i = n := by omega
    subst hin
    rcases hs with ⟨rfl, m5⟩ | ⟨hp, v, w, m5, m36, m40⟩
    · omega
    · have h1 := upsL_len (n := i) (i := i) (es := es)
      have h2 := wtsL_len (i := i) (es := es)
      repeat' (first
        | refine xw_seq ?_
        | refine xw_block ?_
        | (refine ite_two ?_ ?_ <;> intro _ <;> first | (exfalso; omega) | skip)
        | refine ord_split (by kernel_rfl) ?_
        | (refine xw_ret ?_ <;> try simp only [sq, bl, LQ])
        | ((first | refine xw_reg ?_ | refine xw_regd ?_ | refine xw_if ?_ | refine xw_skip ?_ | refine xw_exit ?_ | refine xw_label ?_ | refine post_ret ?_ | refine post_normal ?_ | refine postE_ret ?_ | refine postE_normal ?_) <;> simp (config := { maxSteps := 3000000 }) (disch := first | assumption | omega | exact VG.okg (by assumption) | (simp only [List.length_set, List.length_append, List.length_cons, List.length_nil, List.length_replicate]; omega)) only [go_sem, ↓reduceIte, Int.reduceLE, Int.reduceLT, Int.reduceToNat, Int.reduceNeg, Int.reduceAdd, Int.reduceSub, Int.reduceMul, Int.reduceEq, Int.reduceNe, Nat.reduceEqDiff, Nat.reduceAdd, Nat.reduceSub, Nat.reduceMul, Nat.reduceLT, Nat.reduceLeDiff, Nat.reduceBEq, Nat.reduceBNe, Try.results36, m2, e2, m4, e4, e5, e6, e23, e24, m5, m36, m40, h1, h2])
        | (((first | refine at_region ?_ | refine at_out ?_ | refine at_cond ?_); split) <;> first | (exfalso; omega; done) | simp (config := { maxSteps := 3000000 }) (disch := first | assumption | omega | exact VG.okg (by assumption) | (simp only [List.length_set, List.length_append, List.length_cons, List.length_nil, List.length_replicate]; omega)) only [go_sem, ↓reduceIte, Int.reduceLE, Int.reduceLT, Int.reduceToNat, Int.reduceNeg, Int.reduceAdd, Int.reduceSub, Int.reduceMul, Int.reduceEq, Int.reduceNe, Nat.reduceEqDiff, Nat.reduceAdd, Nat.reduceSub, Nat.reduceMul, Nat.reduceLT, Nat.reduceLeDiff, Nat.reduceBEq, Nat.reduceBNe, Try.results36, m2, e2, m4, e4, e5, e6, e23, e24, m5, m36, m40, h1, h2] | skip))
  have hla := lbl_at (es := es) ⟨g0, hi⟩
  have hus := upsL_snoc (n := n) (es := es) g0
  have hws := wtsL_snoc (es := es) g0
  have hul := upsL_len (n := n) (i := i) (es := es)
  have hwl := wtsL_len (i := i) (es := es)
  have hpb := c_PathBetween n i (lbl es i) (forestL es) (by omega)
  have hsi : (i + 1).toNat = i.toNat + 1 := by omega
  by_cases hr : lbl es i = i
  · have hu : upN n es i = -1 := if_pos hr
    have hw : wtN es i = 0 := if_pos hr
    rw [hu] at hus
    rw [hw] at hws
    rcases hs with ⟨hz, m5⟩ | ⟨hp, v, w, m5, m36, m40⟩
    · have hu0 : upsL n es i = [] := List.length_eq_zero_iff.1 (by omega)
      have hw0 : wtsL es i = [] := List.length_eq_zero_iff.1 (by omega)
      rw [hu0] at hus
      rw [hw0] at hws
      repeat' (first
        | refine xw_seq ?_
        | refine xw_block ?_
        | (refine ite_two ?_ ?_ <;> intro _ <;> first | (exfalso; omega) | skip)
        | refine ord_split (by kernel_rfl) ?_
        | (refine xw_ret ?_ <;> try simp only [sq, bl, LQ])
        | ((first | refine xw_reg ?_ | refine xw_regd ?_ | refine xw_if ?_ | refine xw_skip ?_ | refine xw_exit ?_ | refine xw_label ?_ | refine post_ret ?_ | refine post_normal ?_ | refine postE_ret ?_ | refine postE_normal ?_) <;> simp (config := { maxSteps := 3000000 }) (disch := first | assumption | omega | exact VG.okg (by assumption) | (simp only [List.length_set, List.length_append, List.length_cons, List.length_nil, List.length_replicate]; omega)) only [go_sem, ↓reduceIte, Int.reduceLE, Int.reduceLT, Int.reduceToNat, Int.reduceNeg, Int.reduceAdd, Int.reduceSub, Int.reduceMul, Int.reduceEq, Int.reduceNe, Nat.reduceEqDiff, Nat.reduceAdd, Nat.reduceSub, Nat.reduceMul, Nat.reduceLT, Nat.reduceLeDiff, Nat.reduceBEq, Nat.reduceBNe, Try.results36, m2, e2, m4, e4, e5, e6, e23, e24, m5, hla, hr])
        | (((first | refine at_region ?_ | refine at_out ?_ | refine at_cond ?_); split) <;> first | (exfalso; omega; done) | simp (config := { maxSteps := 3000000 }) (disch := first | assumption | omega | exact VG.okg (by assumption) | (simp only [List.length_set, List.length_append, List.length_cons, List.length_nil, List.length_replicate]; omega)) only [go_sem, ↓reduceIte, Int.reduceLE, Int.reduceLT, Int.reduceToNat, Int.reduceNeg, Int.reduceAdd, Int.reduceSub, Int.reduceMul, Int.reduceEq, Int.reduceNe, Nat.reduceEqDiff, Nat.reduceAdd, Nat.reduceSub, Nat.reduceMul, Nat.reduceLT, Nat.reduceLeDiff, Nat.reduceBEq, Nat.reduceBNe, Try.results36, m2, e2, m4, e4, e5, e6, e23, e24, m5, hla, hr] | skip))
      exact ⟨by omega, by omega, .inr ⟨by omega, _, _, by rw [show (i + 1).toNat = 1 by omega], rfl, by rw [hus]; rfl, rfl, by rw [hws]; rfl⟩, by omega⟩
    · repeat' (first
        | refine xw_seq ?_
        | refine xw_block ?_
        | (refine ite_two ?_ ?_ <;> intro _ <;> first | (exfalso; omega) | skip)
        | refine ord_split (by kernel_rfl) ?_
        | (refine xw_ret ?_ <;> try simp only [sq, bl, LQ])
        | ((first | refine xw_reg ?_ | refine xw_regd ?_ | refine xw_if ?_ | refine xw_skip ?_ | refine xw_exit ?_ | refine xw_label ?_ | refine post_ret ?_ | refine post_normal ?_ | refine postE_ret ?_ | refine postE_normal ?_) <;> simp (config := { maxSteps := 3000000 }) (disch := first | assumption | omega | exact VG.okg (by assumption) | (simp only [List.length_set, List.length_append, List.length_cons, List.length_nil, List.length_replicate]; omega)) only [go_sem, ↓reduceIte, Int.reduceLE, Int.reduceLT, Int.reduceToNat, Int.reduceNeg, Int.reduceAdd, Int.reduceSub, Int.reduceMul, Int.reduceEq, Int.reduceNe, Nat.reduceEqDiff, Nat.reduceAdd, Nat.reduceSub, Nat.reduceMul, Nat.reduceLT, Nat.reduceLeDiff, Nat.reduceBEq, Nat.reduceBNe, Try.results36, m2, e2, m4, e4, e5, e6, e23, e24, m5, m36, m40, hla, hr, hul, hwl])
        | (((first | refine at_region ?_ | refine at_out ?_ | refine at_cond ?_); split) <;> first | (exfalso; omega; done) | simp (config := { maxSteps := 3000000 }) (disch := first | assumption | omega | exact VG.okg (by assumption) | (simp only [List.length_set, List.length_append, List.length_cons, List.length_nil, List.length_replicate]; omega)) only [go_sem, ↓reduceIte, Int.reduceLE, Int.reduceLT, Int.reduceToNat, Int.reduceNeg, Int.reduceAdd, Int.reduceSub, Int.reduceMul, Int.reduceEq, Int.reduceNe, Nat.reduceEqDiff, Nat.reduceAdd, Nat.reduceSub, Nat.reduceMul, Nat.reduceLT, Nat.reduceLeDiff, Nat.reduceBEq, Nat.reduceBNe, Try.results36, m2, e2, m4, e4, e5, e6, e23, e24, m5, m36, m40, hla, hr, hul, hwl] | skip))
      exact ⟨by omega, by omega, .inr ⟨by omega, v + 1, w + 1, by rw [hsi], rfl, hus.symm, rfl, hws.symm⟩, by omega⟩
  · have hu : upN n es i = (pathL n (forestL es) i (lbl es i)).getD 1 0 := if_neg hr
    have hw : wtN es i = 1 := if_neg hr
    rw [hu] at hus
    rw [hw] at hws
    obtain ⟨hc, hp1, hp2⟩ := up_path hV ⟨g0, hi⟩ hr
    obtain ⟨⟨b0, b1⟩, -, -⟩ := lbl_spec (es := es) ⟨g0, hi⟩
    rw [if_pos ⟨hVF, g0, hi, b0, b1, hc⟩] at hpb
    generalize pathL n (forestL es) i (lbl es i) = p at hpb hus hp1 hp2
    rcases hs with ⟨hz, m5⟩ | ⟨hp, v, w, m5, m36, m40⟩
    · exfalso
      have := (lbl_spec (es := es) (n := n) (x := i) ⟨g0, hi⟩)
      omega
    · have hg1 := getI p 1 hp1
      repeat' (first
        | refine xw_seq ?_
        | refine xw_block ?_
        | (refine ite_two ?_ ?_ <;> intro _ <;> first | (exfalso; omega) | skip)
        | refine ord_split (by kernel_rfl) ?_
        | (refine xw_ret ?_ <;> try simp only [sq, bl, LQ])
        | ((first | refine xw_reg ?_ | refine xw_regd ?_ | refine xw_if ?_ | refine xw_skip ?_ | refine xw_exit ?_ | refine xw_label ?_ | refine post_ret ?_ | refine post_normal ?_ | refine postE_ret ?_ | refine postE_normal ?_) <;> simp (config := { maxSteps := 3000000 }) (disch := first | assumption | omega | exact VG.okg (by assumption) | (simp only [List.length_set, List.length_append, List.length_cons, List.length_nil, List.length_replicate]; omega)) only [go_sem, ↓reduceIte, Int.reduceLE, Int.reduceLT, Int.reduceToNat, Int.reduceNeg, Int.reduceAdd, Int.reduceSub, Int.reduceMul, Int.reduceEq, Int.reduceNe, Nat.reduceEqDiff, Nat.reduceAdd, Nat.reduceSub, Nat.reduceMul, Nat.reduceLT, Nat.reduceLeDiff, Nat.reduceBEq, Nat.reduceBNe, Try.results36, m2, e2, m4, e4, e5, e6, e23, e24, m5, m36, m40, hla, hr, hul, hwl, hpb, hg1, frz_qe])
        | (((first | refine at_region ?_ | refine at_out ?_ | refine at_cond ?_); split) <;> first | (exfalso; omega; done) | simp (config := { maxSteps := 3000000 }) (disch := first | assumption | omega | exact VG.okg (by assumption) | (simp only [List.length_set, List.length_append, List.length_cons, List.length_nil, List.length_replicate]; omega)) only [go_sem, ↓reduceIte, Int.reduceLE, Int.reduceLT, Int.reduceToNat, Int.reduceNeg, Int.reduceAdd, Int.reduceSub, Int.reduceMul, Int.reduceEq, Int.reduceNe, Nat.reduceEqDiff, Nat.reduceAdd, Nat.reduceSub, Nat.reduceMul, Nat.reduceLT, Nat.reduceLeDiff, Nat.reduceBEq, Nat.reduceBNe, Try.results36, m2, e2, m4, e4, e5, e6, e23, e24, m5, m36, m40, hla, hr, hul, hwl, hpb, hg1, frz_qe] | skip))
      exact ⟨by omega, by omega, .inr ⟨by omega, v + 1, w + 1, by rw [hsi], rfl, hus.symm, rfl, hws.symm⟩, by omega⟩
theorem set_last {xs : List Int} {a b : Int} {i : Nat} (h : xs.length = i) : (xs ++ [a]).set i b = xs ++ [b] := by
  subst h
  rw [List.set_append_right _ _ (Nat.le_refl _), Nat.sub_self]; rfl
theorem c_sRootForest (n : Int) (es : List (Int × Int)) (hl : es.length ≤ 1048576) : KP 37 [GL n es] [] =
    some (if VG n es then (.tup [.agg [.ref 2000 0 0 n.toNat, .ref 2001 0 0 n.toNat], B true], [], [.arr 0 1 ((upsL n es n).map encI), .arr 0 1 ((wtsL es n).map encI)]) else (.tup [.agg [.i .emp, .i .emp], B false], [], [])) := by
  by_cases hV : VG n es
  rotate_left
  · rw [if_neg hV]
    refine xw_call (fn := Try.f37) rfl Try.func37 rfl ⟨Nat.le_of_ble_eq_true rfl, rfl, rfl⟩ ?_
    repeat' (first
      | refine xw_seq ?_
      | refine xw_block ?_
      | (refine ite_two ?_ ?_ <;> intro _ <;> first | (exfalso; omega) | skip)
      | refine ord_split (by kernel_rfl) ?_
      | (refine xw_ret ?_ <;> try simp only [sq, bl, LQ])
      | ((first | refine xw_reg ?_ | refine xw_regd ?_ | refine xw_if ?_ | refine xw_skip ?_ | refine xw_exit ?_ | refine xw_label ?_ | refine post_ret ?_ | refine post_normal ?_ | refine postE_ret ?_ | refine postE_normal ?_) <;> simp (config := { maxSteps := 3000000 }) (disch := first | assumption | omega | exact VG.okg (by assumption) | (simp only [List.length_set, List.length_append, List.length_cons, List.length_nil, List.length_replicate]; omega)) only [go_sem, ↓reduceIte, Int.reduceLE, Int.reduceLT, Int.reduceToNat, Int.reduceNeg, Int.reduceAdd, Int.reduceSub, Int.reduceMul, Int.reduceEq, Int.reduceNe, Nat.reduceEqDiff, Nat.reduceAdd, Nat.reduceSub, Nat.reduceMul, Nat.reduceLT, Nat.reduceLeDiff, Nat.reduceBEq, Nat.reduceBNe, Try.results37])
      | (((first | refine at_region ?_ | refine at_out ?_ | refine at_cond ?_); split) <;> first | (exfalso; omega; done) | simp (config := { maxSteps := 3000000 }) (disch := first | assumption | omega | exact VG.okg (by assumption) | (simp only [List.length_set, List.length_append, List.length_cons, List.length_nil, List.length_replicate]; omega)) only [go_sem, ↓reduceIte, Int.reduceLE, Int.reduceLT, Int.reduceToNat, Int.reduceNeg, Int.reduceAdd, Int.reduceSub, Int.reduceMul, Int.reduceEq, Int.reduceNe, Nat.reduceEqDiff, Nat.reduceAdd, Nat.reduceSub, Nat.reduceMul, Nat.reduceLT, Nat.reduceLeDiff, Nat.reduceBEq, Nat.reduceBNe, Try.results37] | skip))
  rw [if_pos hV]
  have hn1 := hV.1
  have hn16 := hV.2.1
  have hG := hV.okg
  have hVF : VG n (forestL es) := hV.sub (forest_sub hG.ok)
  have hfl := hVF.2.2.1
  have hll := lab_length n es
  refine xw_call (fn := Try.f37) rfl Try.func37 rfl ⟨Nat.le_of_ble_eq_true rfl, rfl, rfl⟩ ?_
  repeat' (first
    | refine xw_seq ?_
    | refine xw_block ?_
    | (refine ite_two ?_ ?_ <;> intro _ <;> first | (exfalso; omega) | skip)
    | refine ord_split (by kernel_rfl) ?_
    | (refine xw_ret ?_ <;> try simp only [sq, bl, LQ])
    | ((first | refine xw_reg ?_ | refine xw_regd ?_ | refine xw_if ?_ | refine xw_skip ?_ | refine xw_exit ?_ | refine xw_label ?_ | refine post_ret ?_ | refine post_normal ?_ | refine postE_ret ?_ | refine postE_normal ?_) <;> simp (config := { maxSteps := 3000000 }) (disch := first | assumption | omega | exact VG.okg (by assumption) | (simp only [List.length_set, List.length_append, List.length_cons, List.length_nil, List.length_replicate]; omega)) only [go_sem, ↓reduceIte, Int.reduceLE, Int.reduceLT, Int.reduceToNat, Int.reduceNeg, Int.reduceAdd, Int.reduceSub, Int.reduceMul, Int.reduceEq, Int.reduceNe, Nat.reduceEqDiff, Nat.reduceAdd, Nat.reduceSub, Nat.reduceMul, Nat.reduceLT, Nat.reduceLeDiff, Nat.reduceBEq, Nat.reduceBNe, Try.results37])
    | (((first | refine at_region ?_ | refine at_out ?_ | refine at_cond ?_); split) <;> first | (exfalso; omega; done) | simp (config := { maxSteps := 3000000 }) (disch := first | assumption | omega | exact VG.okg (by assumption) | (simp only [List.length_set, List.length_append, List.length_cons, List.length_nil, List.length_replicate]; omega)) only [go_sem, ↓reduceIte, Int.reduceLE, Int.reduceLT, Int.reduceToNat, Int.reduceNeg, Int.reduceAdd, Int.reduceSub, Int.reduceMul, Int.reduceEq, Int.reduceNe, Nat.reduceEqDiff, Nat.reduceAdd, Nat.reduceSub, Nat.reduceMul, Nat.reduceLT, Nat.reduceLeDiff, Nat.reduceBEq, Nat.reduceBNe, Try.results37] | skip))
  refine xw_loopR (fun (i : Int) s => s.m 1 = some (.box 0 [I n, LE es]) ∧ s.ρ 1 = .ptr 1 0 0 0 ∧ s.m 2 = some (.box 0 [.i .emp, .i .emp]) ∧ s.ρ 2 = .ptr 2 0 0 0 ∧ s.m 4 = some (.box 0 [I n, LE (forestL es)]) ∧ s.ρ 4 = .ptr 4 0 0 0 ∧ s.ρ 6 = .ptr 6 0 0 0 ∧ s.ρ 5 = LI (lab n es) ∧ s.ρ 7 = I i ∧ 0 ≤ i ∧ i ≤ n ∧ ((i = 0 ∧ s.m 6 = some (.box 0 [.i .emp, .i .emp])) ∨
    (0 < i ∧ ∃ v w, s.m 6 = some (.box 0 [.ref 40 v 0 i.toNat, .ref 45 w 0 i.toNat]) ∧ s.m 40 = some (.arr v 1 ((upsL n es i).map encI)) ∧ s.m 45 = some (.arr w 1 ((wtsL es i).map encI))))) (fun i => (n - i).toNat) 0 ?_ ?_
  · exact ⟨rfl, rfl, rfl, rfl, rfl, rfl, rfl, rfl, rfl, by omega, by omega, .inl ⟨rfl, rfl⟩⟩
  rintro i ⟨ρ, m⟩ ⟨m1, e1, m2, e2, m4, e4, e6, e5, e7, g0, g1, hs⟩
  simp only at m1 e1 m2 e2 m4 e4 e6 e5 e7 g0 g1 hs
  by_cases hi : i < n
  rotate_left
  · have hin : i = n := by omega
    subst hin
    rcases hs with ⟨rfl, m6⟩ | ⟨hp, v, w, m6, m40, m45⟩
    · omega
    · have h1 := upsL_len (n := i) (i := i) (es := es)
      have h2 := wtsL_len (i := i) (es := es)
      repeat' (first
        | refine xw_seq ?_
        | refine xw_block ?_
        | (refine ite_two ?_ ?_ <;> intro _ <;> first | (exfalso; omega) | skip)
        | refine ord_split (by kernel_rfl) ?_
        | (refine xw_ret ?_ <;> try simp only [sq, bl, LQ])
        | ((first | refine xw_reg ?_ | refine xw_regd ?_ | refine xw_if ?_ | refine xw_skip ?_ | refine xw_exit ?_ | refine xw_label ?_ | refine post_ret ?_ | refine post_normal ?_ | refine postE_ret ?_ | refine postE_normal ?_) <;> simp (config := { maxSteps := 3000000 }) (disch := first | assumption | omega | exact VG.okg (by assumption) | (simp only [List.length_set, List.length_append, List.length_cons, List.length_nil, List.length_replicate]; omega)) only [go_sem, ↓reduceIte, Int.reduceLE, Int.reduceLT, Int.reduceToNat, Int.reduceNeg, Int.reduceAdd, Int.reduceSub, Int.reduceMul, Int.reduceEq, Int.reduceNe, Nat.reduceEqDiff, Nat.reduceAdd, Nat.reduceSub, Nat.reduceMul, Nat.reduceLT, Nat.reduceLeDiff, Nat.reduceBEq, Nat.reduceBNe, Try.results37, m1, e1, m2, e2, m4, e4, e6, e5, e7, m6, m40, m45, h1, h2])
        | (((first | refine at_region ?_ | refine at_out ?_ | refine at_cond ?_); split) <;> first | (exfalso; omega; done) | simp (config := { maxSteps := 3000000 }) (disch := first | assumption | omega | exact VG.okg (by assumption) | (simp only [List.length_set, List.length_append, List.length_cons, List.length_nil, List.length_replicate]; omega)) only [go_sem, ↓reduceIte, Int.reduceLE, Int.reduceLT, Int.reduceToNat, Int.reduceNeg, Int.reduceAdd, Int.reduceSub, Int.reduceMul, Int.reduceEq, Int.reduceNe, Nat.reduceEqDiff, Nat.reduceAdd, Nat.reduceSub, Nat.reduceMul, Nat.reduceLT, Nat.reduceLeDiff, Nat.reduceBEq, Nat.reduceBNe, Try.results37, m1, e1, m2, e2, m4, e4, e6, e5, e7, m6, m40, m45, h1, h2] | skip))
  have hla := lbl_at (es := es) ⟨g0, hi⟩
  have hus := upsL_snoc (n := n) (es := es) g0
  have hws := wtsL_snoc (es := es) g0
  have hul := upsL_len (n := n) (i := i) (es := es)
  have hwl := wtsL_len (i := i) (es := es)
  have hsi : (i + 1).toNat = i.toNat + 1 := by omega
  obtain ⟨⟨b0, b1⟩, hcf, hble⟩ := lbl_spec (es := es) ⟨g0, hi⟩
  have hpb := c_l2Path n i (lbl es i) (forestL es) ⟨hVF, g0, hi, b0, b1, (forest_conn hG.ok).2 hcf⟩
  by_cases hr : lbl es i = i
  · have hu : upN n es i = -1 := if_pos hr
    have hw : wtN es i = 0 := if_pos hr
    rw [hu] at hus
    rw [hw] at hws
    have hpl : (pathL n (forestL es) i (lbl es i)).length = 1 := by
      rw [pathL_len, hr, dst_self (fun e he => hG.ok e ((forest_sub hG.ok).subset he)) (by omega)]; rfl
    generalize pathL n (forestL es) i (lbl es i) = p at hpb hpl
    rw [hr] at hla hpb
    obtain ⟨q, rfl⟩ := List.length_eq_one_iff.1 hpl
    rcases hs with ⟨hz, m6⟩ | ⟨hp, v, w, m6, m40, m45⟩
    · have hu0 : upsL n es i = [] := List.length_eq_zero_iff.1 (by omega)
      have hw0 : wtsL es i = [] := List.length_eq_zero_iff.1 (by omega)
      rw [hu0] at hus
      rw [hw0] at hws
      repeat' (first
        | refine xw_seq ?_
        | refine xw_block ?_
        | (refine ite_two ?_ ?_ <;> intro _ <;> first | (exfalso; omega) | skip)
        | refine ord_split (by kernel_rfl) ?_
        | (refine xw_ret ?_ <;> try simp only [sq, bl, LQ])
        | ((first | refine xw_reg ?_ | refine xw_regd ?_ | refine xw_if ?_ | refine xw_skip ?_ | refine xw_exit ?_ | refine xw_label ?_ | refine post_ret ?_ | refine post_normal ?_ | refine postE_ret ?_ | refine postE_normal ?_) <;> simp (config := { maxSteps := 3000000 }) (disch := first | assumption | omega | exact VG.okg (by assumption) | (simp only [List.length_set, List.length_append, List.length_cons, List.length_nil, List.length_replicate]; omega)) only [go_sem, ↓reduceIte, Int.reduceLE, Int.reduceLT, Int.reduceToNat, Int.reduceNeg, Int.reduceAdd, Int.reduceSub, Int.reduceMul, Int.reduceEq, Int.reduceNe, Nat.reduceEqDiff, Nat.reduceAdd, Nat.reduceSub, Nat.reduceMul, Nat.reduceLT, Nat.reduceLeDiff, Nat.reduceBEq, Nat.reduceBNe, Try.results37, m1, e1, m2, e2, m4, e4, e6, e5, e7, m6, hla, hpb])
        | (((first | refine at_region ?_ | refine at_out ?_ | refine at_cond ?_); split) <;> first | (exfalso; omega; done) | simp (config := { maxSteps := 3000000 }) (disch := first | assumption | omega | exact VG.okg (by assumption) | (simp only [List.length_set, List.length_append, List.length_cons, List.length_nil, List.length_replicate]; omega)) only [go_sem, ↓reduceIte, Int.reduceLE, Int.reduceLT, Int.reduceToNat, Int.reduceNeg, Int.reduceAdd, Int.reduceSub, Int.reduceMul, Int.reduceEq, Int.reduceNe, Nat.reduceEqDiff, Nat.reduceAdd, Nat.reduceSub, Nat.reduceMul, Nat.reduceLT, Nat.reduceLeDiff, Nat.reduceBEq, Nat.reduceBNe, Try.results37, m1, e1, m2, e2, m4, e4, e6, e5, e7, m6, hla, hpb] | skip))
      exact ⟨by omega, by omega, .inr ⟨by omega, _, _, by rw [show (i + 1).toNat = 1 by omega], rfl, by rw [hus]; rfl, rfl, by rw [hws]; rfl⟩, by omega⟩
    · repeat' (first
        | refine xw_seq ?_
        | refine xw_block ?_
        | (refine ite_two ?_ ?_ <;> intro _ <;> first | (exfalso; omega) | skip)
        | refine ord_split (by kernel_rfl) ?_
        | (refine xw_ret ?_ <;> try simp only [sq, bl, LQ])
        | ((first | refine xw_reg ?_ | refine xw_regd ?_ | refine xw_if ?_ | refine xw_skip ?_ | refine xw_exit ?_ | refine xw_label ?_ | refine post_ret ?_ | refine post_normal ?_ | refine postE_ret ?_ | refine postE_normal ?_) <;> simp (config := { maxSteps := 3000000 }) (disch := first | assumption | omega | exact VG.okg (by assumption) | (simp only [List.length_set, List.length_append, List.length_cons, List.length_nil, List.length_replicate]; omega)) only [go_sem, ↓reduceIte, Int.reduceLE, Int.reduceLT, Int.reduceToNat, Int.reduceNeg, Int.reduceAdd, Int.reduceSub, Int.reduceMul, Int.reduceEq, Int.reduceNe, Nat.reduceEqDiff, Nat.reduceAdd, Nat.reduceSub, Nat.reduceMul, Nat.reduceLT, Nat.reduceLeDiff, Nat.reduceBEq, Nat.reduceBNe, Try.results37, m1, e1, m2, e2, m4, e4, e6, e5, e7, m6, m40, m45, hla, hpb, hul, hwl])
        | (((first | refine at_region ?_ | refine at_out ?_ | refine at_cond ?_); split) <;> first | (exfalso; omega; done) | simp (config := { maxSteps := 3000000 }) (disch := first | assumption | omega | exact VG.okg (by assumption) | (simp only [List.length_set, List.length_append, List.length_cons, List.length_nil, List.length_replicate]; omega)) only [go_sem, ↓reduceIte, Int.reduceLE, Int.reduceLT, Int.reduceToNat, Int.reduceNeg, Int.reduceAdd, Int.reduceSub, Int.reduceMul, Int.reduceEq, Int.reduceNe, Nat.reduceEqDiff, Nat.reduceAdd, Nat.reduceSub, Nat.reduceMul, Nat.reduceLT, Nat.reduceLeDiff, Nat.reduceBEq, Nat.reduceBNe, Try.results37, m1, e1, m2, e2, m4, e4, e6, e5, e7, m6, m40, m45, hla, hpb, hul, hwl] | skip))
      exact ⟨by omega, by omega, .inr ⟨by omega, v + 1, w + 1, by rw [hsi], rfl, hus.symm, rfl, hws.symm⟩, by omega⟩
  · have hu : upN n es i = (pathL n (forestL es) i (lbl es i)).getD 1 0 := if_neg hr
    have hw : wtN es i = 1 := if_neg hr
    rw [hu] at hus
    rw [hw] at hws
    obtain ⟨hc, hp1, hp2⟩ := up_path hV ⟨g0, hi⟩ hr
    generalize pathL n (forestL es) i (lbl es i) = p at hpb hus hp1 hp2
    have hst := set_last (a := -1) (b := p.getD 1 0) hul
    have hst2 := set_last (a := 0) (b := 1) hwl
    rcases hs with ⟨hz, m6⟩ | ⟨hp, v, w, m6, m40, m45⟩
    · exfalso; omega
    · have hg1 := getI p 1 hp1
      repeat' (first
        | refine xw_seq ?_
        | refine xw_block ?_
        | (refine ite_two ?_ ?_ <;> intro _ <;> first | (exfalso; omega) | skip)
        | refine ord_split (by kernel_rfl) ?_
        | (refine xw_ret ?_ <;> try simp only [sq, bl, LQ])
        | ((first | refine xw_reg ?_ | refine xw_regd ?_ | refine xw_if ?_ | refine xw_skip ?_ | refine xw_exit ?_ | refine xw_label ?_ | refine post_ret ?_ | refine post_normal ?_ | refine postE_ret ?_ | refine postE_normal ?_) <;> simp (config := { maxSteps := 3000000 }) (disch := first | assumption | omega | exact VG.okg (by assumption) | (simp only [List.length_set, List.length_append, List.length_cons, List.length_nil, List.length_replicate]; omega)) only [go_sem, ↓reduceIte, Int.reduceLE, Int.reduceLT, Int.reduceToNat, Int.reduceNeg, Int.reduceAdd, Int.reduceSub, Int.reduceMul, Int.reduceEq, Int.reduceNe, Nat.reduceEqDiff, Nat.reduceAdd, Nat.reduceSub, Nat.reduceMul, Nat.reduceLT, Nat.reduceLeDiff, Nat.reduceBEq, Nat.reduceBNe, Try.results37, m1, e1, m2, e2, m4, e4, e6, e5, e7, m6, m40, m45, hla, hpb, hg1, hul, hwl, hst, hst2])
        | (((first | refine at_region ?_ | refine at_out ?_ | refine at_cond ?_); split) <;> first | (exfalso; omega; done) | simp (config := { maxSteps := 3000000 }) (disch := first | assumption | omega | exact VG.okg (by assumption) | (simp only [List.length_set, List.length_append, List.length_cons, List.length_nil, List.length_replicate]; omega)) only [go_sem, ↓reduceIte, Int.reduceLE, Int.reduceLT, Int.reduceToNat, Int.reduceNeg, Int.reduceAdd, Int.reduceSub, Int.reduceMul, Int.reduceEq, Int.reduceNe, Nat.reduceEqDiff, Nat.reduceAdd, Nat.reduceSub, Nat.reduceMul, Nat.reduceLT, Nat.reduceLeDiff, Nat.reduceBEq, Nat.reduceBNe, Try.results37, m1, e1, m2, e2, m4, e4, e6, e5, e7, m6, m40, m45, hla, hpb, hg1, hul, hwl, hst, hst2] | skip))
      exact ⟨by omega, by omega, .inr ⟨by omega, v + 1, w + 1, by rw [hsi], rfl, hus.symm, rfl, hws.symm⟩, by omega⟩
end Go.Proofs.Yteknfomddncboaa.X
