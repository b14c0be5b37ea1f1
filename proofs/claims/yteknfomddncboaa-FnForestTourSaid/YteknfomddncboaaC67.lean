/- What functions compute: ways up in rooted trees. -/
import Derived.Test.YteknfomddncboaaC20
import Derived.Test.YteknfomddncboaaC58
import Derived.Test.YteknfomddncboaaC65
set_option linter.unusedSimpArgs false
set_option linter.unusedVariables false
set_option maxHeartbeats 8000000
set_option maxRecDepth 100000
namespace Go.Proofs.Yteknfomddncboaa.X
open Go Go.Proofs
theorem iota_at {n x : Int} (hx : inN n x) : (iota n).getD x.toNat 0 = x := by
  obtain ⟨h0, h1⟩ := hx
  have : x.toNat < n.toNat := by omega
  simp [iota, List.getD, this]; omega
theorem dst_less {n : Int} {es : List (Int × Int)} {t x : Int} (ho : ∀ e ∈ es, okE n e) (h0 : 0 ≤ n) (ht : inN n t) (hc : Conn es t x) : dst n es t x < n := by
  have hd := (dst_spec ho hc (n := n)).1
  have hl : (pathL n es x t).length = (dst n es t x).toNat + 1 := pathL_len
  have hn : ((pathL n es x t).map (dst n es t)).Nodup := by
    rw [List.nodup_iff_pairwise_ne, List.pairwise_iff_getElem]
    intro i j hi hj hij
    rw [List.length_map] at hi hj
    have a1 := (pathL_at ho h0 hc.symm hi).2.1
    have a2 := (pathL_at ho h0 hc.symm hj).2.1
    simp only [List.getD, List.getElem?_eq_getElem hi, List.getElem?_eq_getElem hj, Option.getD_some] at a1 a2
    rw [List.getElem_map, List.getElem_map, a1, a2]
    omega
  have := len_le_of_sub (l := pathL n es x t) (m := iota n) ((List.pairwise_map.1 hn).imp fun h e => h (by rw [e])) fun v hv => by
    obtain ⟨i, hi, rfl⟩ := List.mem_iff_getElem.1 hv
    have a1 := (pathL_at ho h0 hc.symm hi).1
    simp only [List.getD, List.getElem?_eq_getElem hi, Option.getD_some] at a1
    rcases a1.ok ho with e | ⟨-, -, a, b⟩
    · rw [← e]; exact mem_iota.2 ht
    · exact mem_iota.2 ⟨a, b⟩
  rw [iota_length, hl] at this
  omega
/-- Rooted trees: the root and the depth of each node. -/
structure RF (n : Int) (ps ws : List Int) (rt d : Int → Int) : Prop where
  lp : ps.length = n.toNat
  lw : ws.length = n.toNat
  n1 : 1 ≤ n
  n16 : n ≤ 16
  st : ∀ x, inN n x → (gI ps x = -1 ∧ rt x = x ∧ d x = 0 ∧ gI ws x = 0) ∨ (inN n (gI ps x) ∧ rt (gI ps x) = rt x ∧ d (gI ps x) = d x - 1 ∧ 1 ≤ d x ∧ 0 ≤ gI ws x ∧ gI ws x ≤ 999)
  bd : ∀ x, inN n x → 0 ≤ d x ∧ d x < n
def wyL (ps : List Int) : Nat → Int → List Int
  | 0, x => [x]
  | k + 1, x => x :: wyL ps k (gI ps x)
theorem wyL_len (ps : List Int) : ∀ (k : Nat) (x : Int), (wyL ps k x).length = k + 1
  | 0, x => rfl
  | k + 1, x => by rw [wyL, List.length_cons, wyL_len ps k]
theorem wyL_last {n : Int} {ps ws : List Int} {rt d : Int → Int} (h : RF n ps ws rt d) : ∀ (k : Nat) (x : Int), inN n x → d x = k → (wyL ps k x).getD k 0 = rt x
  | 0, x, hx, hd => by
    rcases h.st x hx with ⟨-, h2, -, -⟩ | ⟨-, -, -, h4, -⟩
    · rw [h2]; rfl
    · omega
  | k + 1, x, hx, hd => by
    rcases h.st x hx with ⟨-, -, h3, -⟩ | ⟨h1, h2, h3, h4, -⟩
    · omega
    · rw [wyL, List.getD_cons_succ, wyL_last h k _ h1 (by omega), h2]
/-- The forest of a graph. -/
theorem rf_ups {n : Int} {es : List (Int × Int)} (hV : VG n es) : RF n (upsL n es n) (wtsL es n) (lbl es) (fun x => dst n (forestL es) (lbl es x) x) := by
  have ho := hV.okg.ok
  have hfo : ∀ e ∈ forestL es, okE n e := fun e he => ho e ((forest_sub ho).subset he)
  have h0 : 0 ≤ n := by have := hV.1; omega
  have hg : ∀ x, inN n x → gI (upsL n es n) x = upN n es x := fun x hx => by
    have := iota_at hx
    unfold upsL gI
    have h1 : x.toNat < (iota n).length := by rw [iota_length]; obtain ⟨a, b⟩ := hx; omega
    simp only [List.getD_eq_getElem?_getD, List.getElem?_map, List.getElem?_eq_getElem h1, Option.map_some, Option.getD_some] at this ⊢
    rw [this]
  have hw : ∀ x, inN n x → gI (wtsL es n) x = wtN es x := fun x hx => by
    have := iota_at hx
    unfold wtsL gI
    have h1 : x.toNat < (iota n).length := by rw [iota_length]; obtain ⟨a, b⟩ := hx; omega
    simp only [List.getD_eq_getElem?_getD, List.getElem?_map, List.getElem?_eq_getElem h1, Option.map_some, Option.getD_some] at this ⊢
    rw [this]
  refine ⟨upsL_len, wtsL_len, hV.1, hV.2.1, fun x hx => ?_, fun x hx => ?_⟩
  · rw [hg x hx, hw x hx]
    unfold upN wtN
    obtain ⟨h1, h2, h3⟩ := lbl_spec (es := es) hx
    by_cases hr : lbl es x = x
    · rw [if_pos hr, if_pos hr]
      refine .inl ⟨rfl, hr, ?_, rfl⟩
      show dst n (forestL es) (lbl es x) x = 0
      rw [hr]; exact dst_self hfo h0
    · rw [if_neg hr, if_neg hr]
      obtain ⟨hc, hp, -⟩ := up_path hV hx hr
      obtain ⟨c1, d1, -⟩ := pathL_at hfo h0 hc hp
      obtain ⟨-, d0, a0⟩ := pathL_at hfo h0 hc (i := 0) (by omega)
      have ha := a0 (by omega)
      have hp0 : (pathL n (forestL es) x (lbl es x)).getD 0 0 = x := by
        unfold pathL
        cases (dst n (forestL es) (lbl es x) x).toNat <;> rfl
      rw [hp0] at ha
      generalize (pathL n (forestL es) x (lbl es x)).getD 1 0 = p at c1 d1 ha
      have hpr := ha.ok hfo
      have hpn : inN n p := ⟨hpr.2.2.1, hpr.2.2.2.1⟩
      have hl : lbl es p = lbl es x := (lbl_iff hpn hx).2 ((forest_conn ho).1 (Conn.of ha.symm))
      have hdx : dst n (forestL es) (lbl es x) x ≠ 0 := fun e => hr (dst_zero hfo hc.symm e).symm
      have hd0 := (dst_spec hfo hc.symm (n := n)).1
      refine .inr ⟨hpn, hl, ?_, ?_, by omega, by omega⟩
      · show dst n (forestL es) (lbl es p) p = dst n (forestL es) (lbl es x) x - 1
        rw [hl]; omega
      · show 1 ≤ dst n (forestL es) (lbl es x) x
        omega
  · obtain ⟨h1, h2, h3⟩ := lbl_spec (es := es) hx
    have hc := (forest_conn ho).2 h2.symm
    have := (dst_spec hfo hc (n := n)).1
    have hlt := dst_less hfo h0 h1 hc
    exact ⟨this, hlt⟩
theorem c_wayUp {n : Int} {ps ws : List Int} {rt d : Int → Int} (h : RF n ps ws rt d) {x : Int} (hx : inN n x) : KP 100 [RP ps ws, I x] [] = some (.tup [.ref 2000 0 0 ((d x).toNat + 1), B true], [], [.arr 0 1 ((wyL ps (d x).toNat x).map encI)]) := by
  have hlp := h.lp
  have hn16 := h.n16
  have hW := wyL_len ps (d x).toNat x
  have hdx := h.bd x hx
  refine xw_call (fn := Try.f100) rfl Try.func100 rfl ⟨Nat.le_of_ble_eq_true rfl, rfl, rfl⟩ ?_
  repeat' (first
    | refine xw_seq ?_
    | refine xw_block ?_
    | (refine ite_two ?_ ?_ <;> intro _ <;> first | (exfalso; omega) | skip)
    | refine ord_split (by kernel_rfl) ?_
    | (refine xw_ret ?_ <;> try simp only [sq, bl, LQ])
    | ((first | refine xw_reg ?_ | refine xw_regd ?_ | refine xw_if ?_ | refine xw_skip ?_ | refine xw_exit ?_ | refine xw_label ?_ | refine post_ret ?_ | refine post_normal ?_ | refine postE_ret ?_ | refine postE_normal ?_) <;> simp (config := { maxSteps := 3000000 }) (disch := first | assumption | omega | exact VG.okg (by assumption) | (simp only [List.length_set, List.length_append, List.length_cons, List.length_nil, List.length_replicate]; omega)) only [go_sem, ↓reduceIte, Int.reduceLE, Int.reduceLT, Int.reduceToNat, Int.reduceNeg, Int.reduceAdd, Int.reduceSub, Int.reduceMul, Int.reduceEq, Int.reduceNe, Nat.reduceEqDiff, Nat.reduceAdd, Nat.reduceSub, Nat.reduceMul, Nat.reduceLT, Nat.reduceLeDiff, Nat.reduceBEq, Nat.reduceBNe, Try.results100])
    | (((first | refine at_region ?_ | refine at_out ?_ | refine at_cond ?_); split) <;> first | (exfalso; omega; done) | simp (config := { maxSteps := 3000000 }) (disch := first | assumption | omega | exact VG.okg (by assumption) | (simp only [List.length_set, List.length_append, List.length_cons, List.length_nil, List.length_replicate]; omega)) only [go_sem, ↓reduceIte, Int.reduceLE, Int.reduceLT, Int.reduceToNat, Int.reduceNeg, Int.reduceAdd, Int.reduceSub, Int.reduceMul, Int.reduceEq, Int.reduceNe, Nat.reduceEqDiff, Nat.reduceAdd, Nat.reduceSub, Nat.reduceMul, Nat.reduceLT, Nat.reduceLeDiff, Nat.reduceBEq, Nat.reduceBNe, Try.results100] | skip))
  refine xw_loopR (fun (u : Int × Nat × List Int) s => s.m 2 = some (.box 0 [LI ps, LI ws]) ∧ s.ρ 2 = .ptr 2 0 0 0 ∧ s.m 7 = some (.arr u.2.1 1 (u.2.2.map encI)) ∧ s.ρ 6 = .ref 7 u.2.1 0 u.2.2.length ∧ s.ρ 1 = I u.1 ∧
    ((inN n u.1 ∧ u.2.2 ++ wyL ps (d u.1).toNat u.1 = wyL ps (d x).toNat x) ∨ (u.1 = -1 ∧ u.2.2 = wyL ps (d x).toNat x))) (fun u => n.toNat + 2 - u.2.2.length) (x, 0, []) ?_ ?_
  · exact ⟨rfl, rfl, rfl, rfl, rfl, .inl ⟨hx, rfl⟩⟩
  rintro ⟨y, v, acc⟩ ⟨ρ, m⟩ ⟨m2, e2, m7, e6, e1, hy⟩
  simp only at m2 e2 m7 e6 e1 hy
  rcases hy with ⟨hy, ha⟩ | ⟨rfl, ha⟩
  rotate_left
  · subst ha
    repeat' (first
      | refine xw_seq ?_
      | refine xw_block ?_
      | (refine ite_two ?_ ?_ <;> intro _ <;> first | (exfalso; omega) | skip)
      | refine ord_split (by kernel_rfl) ?_
      | (refine xw_ret ?_ <;> try simp only [sq, bl, LQ])
      | ((first | refine xw_reg ?_ | refine xw_regd ?_ | refine xw_if ?_ | refine xw_skip ?_ | refine xw_exit ?_ | refine xw_label ?_ | refine post_ret ?_ | refine post_normal ?_ | refine postE_ret ?_ | refine postE_normal ?_) <;> simp (config := { maxSteps := 3000000 }) (disch := first | assumption | omega | exact VG.okg (by assumption) | (simp only [List.length_set, List.length_append, List.length_cons, List.length_nil, List.length_replicate]; omega)) only [go_sem, ↓reduceIte, Int.reduceLE, Int.reduceLT, Int.reduceToNat, Int.reduceNeg, Int.reduceAdd, Int.reduceSub, Int.reduceMul, Int.reduceEq, Int.reduceNe, Nat.reduceEqDiff, Nat.reduceAdd, Nat.reduceSub, Nat.reduceMul, Nat.reduceLT, Nat.reduceLeDiff, Nat.reduceBEq, Nat.reduceBNe, Try.results100, m2, e2, m7, e6, e1])
      | (((first | refine at_region ?_ | refine at_out ?_ | refine at_cond ?_); split) <;> first | (exfalso; omega; done) | simp (config := { maxSteps := 3000000 }) (disch := first | assumption | omega | exact VG.okg (by assumption) | (simp only [List.length_set, List.length_append, List.length_cons, List.length_nil, List.length_replicate]; omega)) only [go_sem, ↓reduceIte, Int.reduceLE, Int.reduceLT, Int.reduceToNat, Int.reduceNeg, Int.reduceAdd, Int.reduceSub, Int.reduceMul, Int.reduceEq, Int.reduceNe, Nat.reduceEqDiff, Nat.reduceAdd, Nat.reduceSub, Nat.reduceMul, Nat.reduceLT, Nat.reduceLeDiff, Nat.reduceBEq, Nat.reduceBNe, Try.results100, m2, e2, m7, e6, e1] | skip))
    rw [hW]
  obtain ⟨y0, y1⟩ := id hy
  have hyl := congrArg List.length ha
  rw [List.length_append, wyL_len, wyL_len] at hyl
  have hyd := h.bd y hy
  have hg : ps.getD y.toNat 0 = gI ps y := rfl
  have hlen : ¬ ((acc.length : Int) = ps.length) := by omega
  rcases h.st y hy with ⟨h1, h2, h3, -⟩ | ⟨h1, h2, h3, h4, -⟩
  · rw [h3] at ha
    have ha' : acc ++ [y] = wyL ps (d x).toNat x := ha
    repeat' (first
      | refine xw_seq ?_
      | refine xw_block ?_
      | (refine ite_two ?_ ?_ <;> intro _ <;> first | (exfalso; omega) | skip)
      | refine ord_split (by kernel_rfl) ?_
      | (refine xw_ret ?_ <;> try simp only [sq, bl, LQ])
      | ((first | refine xw_reg ?_ | refine xw_regd ?_ | refine xw_if ?_ | refine xw_skip ?_ | refine xw_exit ?_ | refine xw_label ?_ | refine post_ret ?_ | refine post_normal ?_ | refine postE_ret ?_ | refine postE_normal ?_) <;> simp (config := { maxSteps := 3000000 }) (disch := first | assumption | omega | exact VG.okg (by assumption) | (simp only [List.length_set, List.length_append, List.length_cons, List.length_nil, List.length_replicate]; omega)) only [go_sem, ↓reduceIte, Int.reduceLE, Int.reduceLT, Int.reduceToNat, Int.reduceNeg, Int.reduceAdd, Int.reduceSub, Int.reduceMul, Int.reduceEq, Int.reduceNe, Nat.reduceEqDiff, Nat.reduceAdd, Nat.reduceSub, Nat.reduceMul, Nat.reduceLT, Nat.reduceLeDiff, Nat.reduceBEq, Nat.reduceBNe, Try.results100, m2, e2, m7, e6, e1, hg, h1, hlen])
      | (((first | refine at_region ?_ | refine at_out ?_ | refine at_cond ?_); split) <;> first | (exfalso; omega; done) | simp (config := { maxSteps := 3000000 }) (disch := first | assumption | omega | exact VG.okg (by assumption) | (simp only [List.length_set, List.length_append, List.length_cons, List.length_nil, List.length_replicate]; omega)) only [go_sem, ↓reduceIte, Int.reduceLE, Int.reduceLT, Int.reduceToNat, Int.reduceNeg, Int.reduceAdd, Int.reduceSub, Int.reduceMul, Int.reduceEq, Int.reduceNe, Nat.reduceEqDiff, Nat.reduceAdd, Nat.reduceSub, Nat.reduceMul, Nat.reduceLT, Nat.reduceLeDiff, Nat.reduceBEq, Nat.reduceBNe, Try.results100, m2, e2, m7, e6, e1, hg, h1, hlen] | skip))
    exact ⟨.inr ha', by omega⟩
  · have e : (d y).toNat = (d (gI ps y)).toNat + 1 := by omega
    rw [e, wyL] at ha
    have ha' : (acc ++ [y]) ++ wyL ps (d (gI ps y)).toNat (gI ps y) = wyL ps (d x).toNat x := by rw [List.append_assoc]; exact ha
    generalize gI ps y = p at *
    repeat' (first
      | refine xw_seq ?_
      | refine xw_block ?_
      | (refine ite_two ?_ ?_ <;> intro _ <;> first | (exfalso; omega) | skip)
      | refine ord_split (by kernel_rfl) ?_
      | (refine xw_ret ?_ <;> try simp only [sq, bl, LQ])
      | ((first | refine xw_reg ?_ | refine xw_regd ?_ | refine xw_if ?_ | refine xw_skip ?_ | refine xw_exit ?_ | refine xw_label ?_ | refine post_ret ?_ | refine post_normal ?_ | refine postE_ret ?_ | refine postE_normal ?_) <;> simp (config := { maxSteps := 3000000 }) (disch := first | assumption | omega | exact VG.okg (by assumption) | (simp only [List.length_set, List.length_append, List.length_cons, List.length_nil, List.length_replicate]; omega)) only [go_sem, ↓reduceIte, Int.reduceLE, Int.reduceLT, Int.reduceToNat, Int.reduceNeg, Int.reduceAdd, Int.reduceSub, Int.reduceMul, Int.reduceEq, Int.reduceNe, Nat.reduceEqDiff, Nat.reduceAdd, Nat.reduceSub, Nat.reduceMul, Nat.reduceLT, Nat.reduceLeDiff, Nat.reduceBEq, Nat.reduceBNe, Try.results100, m2, e2, m7, e6, e1, hg, hlen])
      | (((first | refine at_region ?_ | refine at_out ?_ | refine at_cond ?_); split) <;> first | (exfalso; omega; done) | simp (config := { maxSteps := 3000000 }) (disch := first | assumption | omega | exact VG.okg (by assumption) | (simp only [List.length_set, List.length_append, List.length_cons, List.length_nil, List.length_replicate]; omega)) only [go_sem, ↓reduceIte, Int.reduceLE, Int.reduceLT, Int.reduceToNat, Int.reduceNeg, Int.reduceAdd, Int.reduceSub, Int.reduceMul, Int.reduceEq, Int.reduceNe, Nat.reduceEqDiff, Nat.reduceAdd, Nat.reduceSub, Nat.reduceMul, Nat.reduceLT, Nat.reduceLeDiff, Nat.reduceBEq, Nat.reduceBNe, Try.results100, m2, e2, m7, e6, e1, hg, hlen] | skip))
    exact ⟨.inl ⟨h1.1, h1.2, ha'⟩, by omega⟩
theorem c_RootedValid {n : Int} {ps ws : List Int} {rt d : Int → Int} (h : RF n ps ws rt d) : KP 137 [RP ps ws] [] = some (B true, [], []) := by
  have hlp := h.lp
  have hlw := h.lw
  have hn1 := h.n1
  have hn16 := h.n16
  refine xw_call (fn := Try.f137) rfl Try.func137 rfl ⟨Nat.le_of_ble_eq_true rfl, rfl, rfl⟩ ?_
  repeat' (first
    | refine xw_seq ?_
    | refine xw_block ?_
    | (refine ite_two ?_ ?_ <;> intro _ <;> first | (exfalso; omega) | skip)
    | refine ord_split (by kernel_rfl) ?_
    | (refine xw_ret ?_ <;> try simp only [sq, bl, LQ])
    | ((first | refine xw_reg ?_ | refine xw_regd ?_ | refine xw_if ?_ | refine xw_skip ?_ | refine xw_exit ?_ | refine xw_label ?_ | refine post_ret ?_ | refine post_normal ?_ | refine postE_ret ?_ | refine postE_normal ?_) <;> simp (config := { maxSteps := 3000000 }) (disch := first | assumption | omega | exact VG.okg (by assumption) | (simp only [List.length_set, List.length_append, List.length_cons, List.length_nil, List.length_replicate]; omega)) only [go_sem, ↓reduceIte, Int.reduceLE, Int.reduceLT, Int.reduceToNat, Int.reduceNeg, Int.reduceAdd, Int.reduceSub, Int.reduceMul, Int.reduceEq, Int.reduceNe, Nat.reduceEqDiff, Nat.reduceAdd, Nat.reduceSub, Nat.reduceMul, Nat.reduceLT, Nat.reduceLeDiff, Nat.reduceBEq, Nat.reduceBNe, Try.results137, hlp, hlw])
    | (((first | refine at_region ?_ | refine at_out ?_ | refine at_cond ?_); split) <;> first | (exfalso; omega; done) | simp (config := { maxSteps := 3000000 }) (disch := first | assumption | omega | exact VG.okg (by assumption) | (simp only [List.length_set, List.length_append, List.length_cons, List.length_nil, List.length_replicate]; omega)) only [go_sem, ↓reduceIte, Int.reduceLE, Int.reduceLT, Int.reduceToNat, Int.reduceNeg, Int.reduceAdd, Int.reduceSub, Int.reduceMul, Int.reduceEq, Int.reduceNe, Nat.reduceEqDiff, Nat.reduceAdd, Nat.reduceSub, Nat.reduceMul, Nat.reduceLT, Nat.reduceLeDiff, Nat.reduceBEq, Nat.reduceBNe, Try.results137, hlp, hlw] | skip))
  refine xw_loopR (fun (i : Int) s => s.m 1 = some (.box 0 [LI ps, LI ws]) ∧ s.ρ 1 = .ptr 1 0 0 0 ∧ s.ρ 3 = I n ∧ s.ρ 26 = LI ps ∧ s.ρ 27 = I n ∧ s.ρ 28 = I i ∧ 0 ≤ i ∧ i ≤ n) (fun i => (n - i).toNat) 0 ?_ ?_
  · refine ⟨rfl, rfl, ?_, rfl, ?_, rfl, by omega, by omega⟩
    all_goals (simp [upd, hlp]; omega)
  rintro i ⟨ρ, m⟩ ⟨m1, e1, e3, e26, e27, e28, g0, g1⟩
  simp only at m1 e1 e3 e26 e27 e28 g0 g1
  by_cases hi : i < n
  · have hgp : ps.getD i.toNat 0 = gI ps i := rfl
    have hgw : ws.getD i.toNat 0 = gI ws i := rfl
    rcases h.st i ⟨g0, hi⟩ with ⟨h1, h2, h3, h4⟩ | ⟨⟨p0, p1⟩, h2, h3, h4, w0, w1⟩
    · repeat' (first
        | refine xw_seq ?_
        | refine xw_block ?_
        | (refine ite_two ?_ ?_ <;> intro _ <;> first | (exfalso; omega) | skip)
        | refine ord_split (by kernel_rfl) ?_
        | (refine xw_ret ?_ <;> try simp only [sq, bl, LQ])
        | ((first | refine xw_reg ?_ | refine xw_regd ?_ | refine xw_if ?_ | refine xw_skip ?_ | refine xw_exit ?_ | refine xw_label ?_ | refine post_ret ?_ | refine post_normal ?_ | refine postE_ret ?_ | refine postE_normal ?_) <;> simp (config := { maxSteps := 3000000 }) (disch := first | assumption | omega | exact VG.okg (by assumption) | (simp only [List.length_set, List.length_append, List.length_cons, List.length_nil, List.length_replicate]; omega)) only [go_sem, ↓reduceIte, Int.reduceLE, Int.reduceLT, Int.reduceToNat, Int.reduceNeg, Int.reduceAdd, Int.reduceSub, Int.reduceMul, Int.reduceEq, Int.reduceNe, Nat.reduceEqDiff, Nat.reduceAdd, Nat.reduceSub, Nat.reduceMul, Nat.reduceLT, Nat.reduceLeDiff, Nat.reduceBEq, Nat.reduceBNe, Try.results137, m1, e1, e3, e26, e27, e28, hgp, hgw, h1, h4])
        | (((first | refine at_region ?_ | refine at_out ?_ | refine at_cond ?_); split) <;> first | (exfalso; omega; done) | simp (config := { maxSteps := 3000000 }) (disch := first | assumption | omega | exact VG.okg (by assumption) | (simp only [List.length_set, List.length_append, List.length_cons, List.length_nil, List.length_replicate]; omega)) only [go_sem, ↓reduceIte, Int.reduceLE, Int.reduceLT, Int.reduceToNat, Int.reduceNeg, Int.reduceAdd, Int.reduceSub, Int.reduceMul, Int.reduceEq, Int.reduceNe, Nat.reduceEqDiff, Nat.reduceAdd, Nat.reduceSub, Nat.reduceMul, Nat.reduceLT, Nat.reduceLeDiff, Nat.reduceBEq, Nat.reduceBNe, Try.results137, m1, e1, e3, e26, e27, e28, hgp, hgw, h1, h4] | skip))
      exact ⟨by omega, by omega, by omega⟩
    · generalize gI ps i = p at *
      generalize gI ws i = w at *
      repeat' (first
        | refine xw_seq ?_
        | refine xw_block ?_
        | (refine ite_two ?_ ?_ <;> intro _ <;> first | (exfalso; omega) | skip)
        | refine ord_split (by kernel_rfl) ?_
        | (refine xw_ret ?_ <;> try simp only [sq, bl, LQ])
        | ((first | refine xw_reg ?_ | refine xw_regd ?_ | refine xw_if ?_ | refine xw_skip ?_ | refine xw_exit ?_ | refine xw_label ?_ | refine post_ret ?_ | refine post_normal ?_ | refine postE_ret ?_ | refine postE_normal ?_) <;> simp (config := { maxSteps := 3000000 }) (disch := first | assumption | omega | exact VG.okg (by assumption) | (simp only [List.length_set, List.length_append, List.length_cons, List.length_nil, List.length_replicate]; omega)) only [go_sem, ↓reduceIte, Int.reduceLE, Int.reduceLT, Int.reduceToNat, Int.reduceNeg, Int.reduceAdd, Int.reduceSub, Int.reduceMul, Int.reduceEq, Int.reduceNe, Nat.reduceEqDiff, Nat.reduceAdd, Nat.reduceSub, Nat.reduceMul, Nat.reduceLT, Nat.reduceLeDiff, Nat.reduceBEq, Nat.reduceBNe, Try.results137, m1, e1, e3, e26, e27, e28, hgp, hgw])
        | (((first | refine at_region ?_ | refine at_out ?_ | refine at_cond ?_); split) <;> first | (exfalso; omega; done) | simp (config := { maxSteps := 3000000 }) (disch := first | assumption | omega | exact VG.okg (by assumption) | (simp only [List.length_set, List.length_append, List.length_cons, List.length_nil, List.length_replicate]; omega)) only [go_sem, ↓reduceIte, Int.reduceLE, Int.reduceLT, Int.reduceToNat, Int.reduceNeg, Int.reduceAdd, Int.reduceSub, Int.reduceMul, Int.reduceEq, Int.reduceNe, Nat.reduceEqDiff, Nat.reduceAdd, Nat.reduceSub, Nat.reduceMul, Nat.reduceLT, Nat.reduceLeDiff, Nat.reduceBEq, Nat.reduceBNe, Try.results137, m1, e1, e3, e26, e27, e28, hgp, hgw] | skip))
      exact ⟨by omega, by omega, by omega⟩
  repeat' (first
    | refine xw_seq ?_
    | refine xw_block ?_
    | (refine ite_two ?_ ?_ <;> intro _ <;> first | (exfalso; omega) | skip)
    | refine ord_split (by kernel_rfl) ?_
    | (refine xw_ret ?_ <;> try simp only [sq, bl, LQ])
    | ((first | refine xw_reg ?_ | refine xw_regd ?_ | refine xw_if ?_ | refine xw_skip ?_ | refine xw_exit ?_ | refine xw_label ?_ | refine post_ret ?_ | refine post_normal ?_ | refine postE_ret ?_ | refine postE_normal ?_) <;> simp (config := { maxSteps := 3000000 }) (disch := first | assumption | omega | exact VG.okg (by assumption) | (simp only [List.length_set, List.length_append, List.length_cons, List.length_nil, List.length_replicate]; omega)) only [go_sem, ↓reduceIte, Int.reduceLE, Int.reduceLT, Int.reduceToNat, Int.reduceNeg, Int.reduceAdd, Int.reduceSub, Int.reduceMul, Int.reduceEq, Int.reduceNe, Nat.reduceEqDiff, Nat.reduceAdd, Nat.reduceSub, Nat.reduceMul, Nat.reduceLT, Nat.reduceLeDiff, Nat.reduceBEq, Nat.reduceBNe, Try.results137, m1, e1, e3, e26, e27, e28])
    | (((first | refine at_region ?_ | refine at_out ?_ | refine at_cond ?_); split) <;> first | (exfalso; omega; done) | simp (config := { maxSteps := 3000000 }) (disch := first | assumption | omega | exact VG.okg (by assumption) | (simp only [List.length_set, List.length_append, List.length_cons, List.length_nil, List.length_replicate]; omega)) only [go_sem, ↓reduceIte, Int.reduceLE, Int.reduceLT, Int.reduceToNat, Int.reduceNeg, Int.reduceAdd, Int.reduceSub, Int.reduceMul, Int.reduceEq, Int.reduceNe, Nat.reduceEqDiff, Nat.reduceAdd, Nat.reduceSub, Nat.reduceMul, Nat.reduceLT, Nat.reduceLeDiff, Nat.reduceBEq, Nat.reduceBNe, Try.results137, m1, e1, e3, e26, e27, e28] | skip))
  refine xw_loopR (fun (i : Int) s => s.m 1 = some (.box 0 [LI ps, LI ws]) ∧ s.ρ 1 = .ptr 1 0 0 0 ∧ s.ρ 71 = I n ∧ s.ρ 72 = I i ∧ 0 ≤ i ∧ i ≤ n) (fun i => (n - i).toNat) 0 ?_ ?_
  · refine ⟨m1, e1, ?_, rfl, by omega, by omega⟩
    simp [upd, hlp]; omega
  rintro i ⟨ρ, m⟩ ⟨m1, e1, e71, e72, g0, g1⟩
  simp only at m1 e1 e71 e72 g0 g1
  by_cases hi : i < n
  · have hw := c_wayUp h ⟨g0, hi⟩
    repeat' (first
      | refine xw_seq ?_
      | refine xw_block ?_
      | (refine ite_two ?_ ?_ <;> intro _ <;> first | (exfalso; omega) | skip)
      | refine ord_split (by kernel_rfl) ?_
      | (refine xw_ret ?_ <;> try simp only [sq, bl, LQ])
      | ((first | refine xw_reg ?_ | refine xw_regd ?_ | refine xw_if ?_ | refine xw_skip ?_ | refine xw_exit ?_ | refine xw_label ?_ | refine post_ret ?_ | refine post_normal ?_ | refine postE_ret ?_ | refine postE_normal ?_) <;> simp (config := { maxSteps := 3000000 }) (disch := first | assumption | omega | exact VG.okg (by assumption) | (simp only [List.length_set, List.length_append, List.length_cons, List.length_nil, List.length_replicate]; omega)) only [go_sem, ↓reduceIte, Int.reduceLE, Int.reduceLT, Int.reduceToNat, Int.reduceNeg, Int.reduceAdd, Int.reduceSub, Int.reduceMul, Int.reduceEq, Int.reduceNe, Nat.reduceEqDiff, Nat.reduceAdd, Nat.reduceSub, Nat.reduceMul, Nat.reduceLT, Nat.reduceLeDiff, Nat.reduceBEq, Nat.reduceBNe, Try.results137, m1, e1, e71, e72, hw])
      | (((first | refine at_region ?_ | refine at_out ?_ | refine at_cond ?_); split) <;> first | (exfalso; omega; done) | simp (config := { maxSteps := 3000000 }) (disch := first | assumption | omega | exact VG.okg (by assumption) | (simp only [List.length_set, List.length_append, List.length_cons, List.length_nil, List.length_replicate]; omega)) only [go_sem, ↓reduceIte, Int.reduceLE, Int.reduceLT, Int.reduceToNat, Int.reduceNeg, Int.reduceAdd, Int.reduceSub, Int.reduceMul, Int.reduceEq, Int.reduceNe, Nat.reduceEqDiff, Nat.reduceAdd, Nat.reduceSub, Nat.reduceMul, Nat.reduceLT, Nat.reduceLeDiff, Nat.reduceBEq, Nat.reduceBNe, Try.results137, m1, e1, e71, e72, hw] | skip))
    exact ⟨by omega, by omega, by omega⟩
  · repeat' (first
      | refine xw_seq ?_
      | refine xw_block ?_
      | (refine ite_two ?_ ?_ <;> intro _ <;> first | (exfalso; omega) | skip)
      | refine ord_split (by kernel_rfl) ?_
      | (refine xw_ret ?_ <;> try simp only [sq, bl, LQ])
      | ((first | refine xw_reg ?_ | refine xw_regd ?_ | refine xw_if ?_ | refine xw_skip ?_ | refine xw_exit ?_ | refine xw_label ?_ | refine post_ret ?_ | refine post_normal ?_ | refine postE_ret ?_ | refine postE_normal ?_) <;> simp (config := { maxSteps := 3000000 }) (disch := first | assumption | omega | exact VG.okg (by assumption) | (simp only [List.length_set, List.length_append, List.length_cons, List.length_nil, List.length_replicate]; omega)) only [go_sem, ↓reduceIte, Int.reduceLE, Int.reduceLT, Int.reduceToNat, Int.reduceNeg, Int.reduceAdd, Int.reduceSub, Int.reduceMul, Int.reduceEq, Int.reduceNe, Nat.reduceEqDiff, Nat.reduceAdd, Nat.reduceSub, Nat.reduceMul, Nat.reduceLT, Nat.reduceLeDiff, Nat.reduceBEq, Nat.reduceBNe, Try.results137, m1, e1, e71, e72])
      | (((first | refine at_region ?_ | refine at_out ?_ | refine at_cond ?_); split) <;> first | (exfalso; omega; done) | simp (config := { maxSteps := 3000000 }) (disch := first | assumption | omega | exact VG.okg (by assumption) | (simp only [List.length_set, List.length_append, List.length_cons, List.length_nil, List.length_replicate]; omega)) only [go_sem, ↓reduceIte, Int.reduceLE, Int.reduceLT, Int.reduceToNat, Int.reduceNeg, Int.reduceAdd, Int.reduceSub, Int.reduceMul, Int.reduceEq, Int.reduceNe, Nat.reduceEqDiff, Nat.reduceAdd, Nat.reduceSub, Nat.reduceMul, Nat.reduceLT, Nat.reduceLeDiff, Nat.reduceBEq, Nat.reduceBNe, Try.results137, m1, e1, e71, e72] | skip))
theorem c_rHasNode {n : Int} {ps ws : List Int} {rt d : Int → Int} (h : RF n ps ws rt d) {x : Int} (hx : inN n x) : KP 95 [RP ps ws, I x] [] = some (B true, [], []) := by
  have hlp := h.lp
  obtain ⟨x0, x1⟩ := id hx
  have hv := c_RootedValid h
  refine xw_call (fn := Try.f95) rfl Try.func95 rfl ⟨Nat.le_of_ble_eq_true rfl, rfl, rfl⟩ ?_
  repeat' (first
    | refine xw_seq ?_
    | refine xw_block ?_
    | (refine ite_two ?_ ?_ <;> intro _ <;> first | (exfalso; omega) | skip)
    | refine ord_split (by kernel_rfl) ?_
    | (refine xw_ret ?_ <;> try simp only [sq, bl, LQ])
    | ((first | refine xw_reg ?_ | refine xw_regd ?_ | refine xw_if ?_ | refine xw_skip ?_ | refine xw_exit ?_ | refine xw_label ?_ | refine post_ret ?_ | refine post_normal ?_ | refine postE_ret ?_ | refine postE_normal ?_) <;> simp (config := { maxSteps := 3000000 }) (disch := first | assumption | omega | exact VG.okg (by assumption) | (simp only [List.length_set, List.length_append, List.length_cons, List.length_nil, List.length_replicate]; omega)) only [go_sem, ↓reduceIte, Int.reduceLE, Int.reduceLT, Int.reduceToNat, Int.reduceNeg, Int.reduceAdd, Int.reduceSub, Int.reduceMul, Int.reduceEq, Int.reduceNe, Nat.reduceEqDiff, Nat.reduceAdd, Nat.reduceSub, Nat.reduceMul, Nat.reduceLT, Nat.reduceLeDiff, Nat.reduceBEq, Nat.reduceBNe, Try.results95, hv])
    | (((first | refine at_region ?_ | refine at_out ?_ | refine at_cond ?_); split) <;> first | (exfalso; omega; done) | simp (config := { maxSteps := 3000000 }) (disch := first | assumption | omega | exact VG.okg (by assumption) | (simp only [List.length_set, List.length_append, List.length_cons, List.length_nil, List.length_replicate]; omega)) only [go_sem, ↓reduceIte, Int.reduceLE, Int.reduceLT, Int.reduceToNat, Int.reduceNeg, Int.reduceAdd, Int.reduceSub, Int.reduceMul, Int.reduceEq, Int.reduceNe, Nat.reduceEqDiff, Nat.reduceAdd, Nat.reduceSub, Nat.reduceMul, Nat.reduceLT, Nat.reduceLeDiff, Nat.reduceBEq, Nat.reduceBNe, Try.results95, hv] | skip))
  omega
theorem c_rRoot {n : Int} {ps ws : List Int} {rt d : Int → Int} (h : RF n ps ws rt d) {x : Int} (hx : inN n x) : KP 96 [RP ps ws, I x] [] = some (I (rt x), [], []) := by
  have hw := c_wayUp h hx
  have hdx := h.bd x hx
  have hn16 := h.n16
  have hl := wyL_last h (d x).toNat x hx (by omega)
  have hlen := wyL_len ps (d x).toNat x
  generalize wyL ps (d x).toNat x = l at *
  have hg := getI l (d x).toNat (by omega)
  rw [hl] at hg
  have htk : l.take ((d x).toNat + 1) = l := List.take_of_length_le (by omega)
  have hz : ((l.length : Int) - 1).toNat = (d x).toNat := by omega
  refine xw_call (fn := Try.f96) rfl Try.func96 rfl ⟨Nat.le_of_ble_eq_true rfl, rfl, rfl⟩ ?_
  repeat' (first
    | refine xw_seq ?_
    | refine xw_block ?_
    | (refine ite_two ?_ ?_ <;> intro _ <;> first | (exfalso; omega) | skip)
    | refine ord_split (by kernel_rfl) ?_
    | (refine xw_ret ?_ <;> try simp only [sq, bl, LQ])
    | ((first | refine xw_reg ?_ | refine xw_regd ?_ | refine xw_if ?_ | refine xw_skip ?_ | refine xw_exit ?_ | refine xw_label ?_ | refine post_ret ?_ | refine post_normal ?_ | refine postE_ret ?_ | refine postE_normal ?_) <;> simp (config := { maxSteps := 3000000 }) (disch := first | assumption | omega | exact VG.okg (by assumption) | (simp only [List.length_set, List.length_append, List.length_cons, List.length_nil, List.length_replicate]; omega)) only [go_sem, ↓reduceIte, Int.reduceLE, Int.reduceLT, Int.reduceToNat, Int.reduceNeg, Int.reduceAdd, Int.reduceSub, Int.reduceMul, Int.reduceEq, Int.reduceNe, Nat.reduceEqDiff, Nat.reduceAdd, Nat.reduceSub, Nat.reduceMul, Nat.reduceLT, Nat.reduceLeDiff, Nat.reduceBEq, Nat.reduceBNe, Try.results96, hw, htk, hg, hz, hlen])
    | (((first | refine at_region ?_ | refine at_out ?_ | refine at_cond ?_); split) <;> first | (exfalso; omega; done) | simp (config := { maxSteps := 3000000 }) (disch := first | assumption | omega | exact VG.okg (by assumption) | (simp only [List.length_set, List.length_append, List.length_cons, List.length_nil, List.length_replicate]; omega)) only [go_sem, ↓reduceIte, Int.reduceLE, Int.reduceLT, Int.reduceToNat, Int.reduceNeg, Int.reduceAdd, Int.reduceSub, Int.reduceMul, Int.reduceEq, Int.reduceNe, Nat.reduceEqDiff, Nat.reduceAdd, Nat.reduceSub, Nat.reduceMul, Nat.reduceLT, Nat.reduceLeDiff, Nat.reduceBEq, Nat.reduceBNe, Try.results96, hw, htk, hg, hz, hlen] | skip))
  rw [show (((d x).toNat + 1 : Nat) - 1 : Int).toNat = (d x).toNat by omega]
  exact hl
theorem c_RootOf {n : Int} {ps ws : List Int} {rt d : Int → Int} (h : RF n ps ws rt d) {x : Int} (hx : inN n x) : KP 40 [RP ps ws, I x] [] = some (.tup [I (rt x), B true], [], []) := by
  have h1 := c_rHasNode h hx
  have h2 := c_rRoot h hx
  refine xw_call (fn := Try.f40) rfl Try.func40 rfl ⟨Nat.le_of_ble_eq_true rfl, rfl, rfl⟩ ?_
  repeat' (first
    | refine xw_seq ?_
    | refine xw_block ?_
    | (refine ite_two ?_ ?_ <;> intro _ <;> first | (exfalso; omega) | skip)
    | refine ord_split (by kernel_rfl) ?_
    | (refine xw_ret ?_ <;> try simp only [sq, bl, LQ])
    | ((first | refine xw_reg ?_ | refine xw_regd ?_ | refine xw_if ?_ | refine xw_skip ?_ | refine xw_exit ?_ | refine xw_label ?_ | refine post_ret ?_ | refine post_normal ?_ | refine postE_ret ?_ | refine postE_normal ?_) <;> simp (config := { maxSteps := 3000000 }) (disch := first | assumption | omega | exact VG.okg (by assumption) | (simp only [List.length_set, List.length_append, List.length_cons, List.length_nil, List.length_replicate]; omega)) only [go_sem, ↓reduceIte, Int.reduceLE, Int.reduceLT, Int.reduceToNat, Int.reduceNeg, Int.reduceAdd, Int.reduceSub, Int.reduceMul, Int.reduceEq, Int.reduceNe, Nat.reduceEqDiff, Nat.reduceAdd, Nat.reduceSub, Nat.reduceMul, Nat.reduceLT, Nat.reduceLeDiff, Nat.reduceBEq, Nat.reduceBNe, Try.results40, h1, h2])
    | (((first | refine at_region ?_ | refine at_out ?_ | refine at_cond ?_); split) <;> first | (exfalso; omega; done) | simp (config := { maxSteps := 3000000 }) (disch := first | assumption | omega | exact VG.okg (by assumption) | (simp only [List.length_set, List.length_append, List.length_cons, List.length_nil, List.length_replicate]; omega)) only [go_sem, ↓reduceIte, Int.reduceLE, Int.reduceLT, Int.reduceToNat, Int.reduceNeg, Int.reduceAdd, Int.reduceSub, Int.reduceMul, Int.reduceEq, Int.reduceNe, Nat.reduceEqDiff, Nat.reduceAdd, Nat.reduceSub, Nat.reduceMul, Nat.reduceLT, Nat.reduceLeDiff, Nat.reduceBEq, Nat.reduceBNe, Try.results40, h1, h2] | skip))
theorem c_dyRooted (ps ws : List Int) (h1 : ps.length ≤ 1000) (h2 : ws.length ≤ 1000) : KP 38 [RP ps ws, RP ps ws] [] = some (B true, [], []) := by
  have e1 := c_dyInts ps ps (by omega)
  have e2 := c_dyInts ws ws (by omega)
  refine xw_call (fn := Try.f38) rfl Try.func38 rfl ⟨Nat.le_of_ble_eq_true rfl, rfl, rfl⟩ ?_
  repeat' (first
    | refine xw_seq ?_
    | refine xw_block ?_
    | (refine ite_two ?_ ?_ <;> intro _ <;> first | (exfalso; omega) | skip)
    | refine ord_split (by kernel_rfl) ?_
    | (refine xw_ret ?_ <;> try simp only [sq, bl, LQ])
    | ((first | refine xw_reg ?_ | refine xw_regd ?_ | refine xw_if ?_ | refine xw_skip ?_ | refine xw_exit ?_ | refine xw_label ?_ | refine post_ret ?_ | refine post_normal ?_ | refine postE_ret ?_ | refine postE_normal ?_) <;> simp (config := { maxSteps := 3000000 }) (disch := first | assumption | omega | exact VG.okg (by assumption) | (simp only [List.length_set, List.length_append, List.length_cons, List.length_nil, List.length_replicate]; omega)) only [go_sem, ↓reduceIte, Int.reduceLE, Int.reduceLT, Int.reduceToNat, Int.reduceNeg, Int.reduceAdd, Int.reduceSub, Int.reduceMul, Int.reduceEq, Int.reduceNe, Nat.reduceEqDiff, Nat.reduceAdd, Nat.reduceSub, Nat.reduceMul, Nat.reduceLT, Nat.reduceLeDiff, Nat.reduceBEq, Nat.reduceBNe, Try.results38, e1, e2, decide_true])
    | (((first | refine at_region ?_ | refine at_out ?_ | refine at_cond ?_); split) <;> first | (exfalso; omega; done) | simp (config := { maxSteps := 3000000 }) (disch := first | assumption | omega | exact VG.okg (by assumption) | (simp only [List.length_set, List.length_append, List.length_cons, List.length_nil, List.length_replicate]; omega)) only [go_sem, ↓reduceIte, Int.reduceLE, Int.reduceLT, Int.reduceToNat, Int.reduceNeg, Int.reduceAdd, Int.reduceSub, Int.reduceMul, Int.reduceEq, Int.reduceNe, Nat.reduceEqDiff, Nat.reduceAdd, Nat.reduceSub, Nat.reduceMul, Nat.reduceLT, Nat.reduceLeDiff, Nat.reduceBEq, Nat.reduceBNe, Try.results38, e1, e2, decide_true] | skip))
theorem c_dyRooted_nil : KP 38 [.agg [.i (.lst []), .i (.lst [])], .agg [.i (.lst []), .i (.lst [])]] [] = some (B true, [], []) := c_dyRooted [] [] (by simp) (by simp)
theorem c_DrawRootForest (bs : List Int) (hb : ∀ b ∈ bs, 0 ≤ b ∧ b < 256) (hl : bs.length ≤ 1000000000) :
    ∃ (n : Int) (es : List (Int × Int)), 0 ≤ n ∧ n ≤ 17 ∧ es.length ≤ 40 ∧ KP 35 [LB bs] [] = some (GL n es, [], []) := by
  obtain ⟨n, es, h1, h2, h3, hd⟩ := c_DrawGraphValid bs hb hl
  refine ⟨n, es, h1, h2, h3, xw_call (fn := Try.f35) rfl Try.func35 rfl ⟨Nat.le_of_ble_eq_true rfl, rfl, rfl⟩ ?_⟩
  repeat' (first
    | refine xw_seq ?_
    | refine xw_block ?_
    | (refine ite_two ?_ ?_ <;> intro _ <;> first | (exfalso; omega) | skip)
    | refine ord_split (by kernel_rfl) ?_
    | (refine xw_ret ?_ <;> try simp only [sq, bl, LQ])
    | ((first | refine xw_reg ?_ | refine xw_regd ?_ | refine xw_if ?_ | refine xw_skip ?_ | refine xw_exit ?_ | refine xw_label ?_ | refine post_ret ?_ | refine post_normal ?_ | refine postE_ret ?_ | refine postE_normal ?_) <;> simp (config := { maxSteps := 3000000 }) (disch := first | assumption | omega | exact VG.okg (by assumption) | (simp only [List.length_set, List.length_append, List.length_cons, List.length_nil, List.length_replicate]; omega)) only [go_sem, ↓reduceIte, Int.reduceLE, Int.reduceLT, Int.reduceToNat, Int.reduceNeg, Int.reduceAdd, Int.reduceSub, Int.reduceMul, Int.reduceEq, Int.reduceNe, Nat.reduceEqDiff, Nat.reduceAdd, Nat.reduceSub, Nat.reduceMul, Nat.reduceLT, Nat.reduceLeDiff, Nat.reduceBEq, Nat.reduceBNe, Try.results35, hd])
    | (((first | refine at_region ?_ | refine at_out ?_ | refine at_cond ?_); split) <;> first | (exfalso; omega; done) | simp (config := { maxSteps := 3000000 }) (disch := first | assumption | omega | exact VG.okg (by assumption) | (simp only [List.length_set, List.length_append, List.length_cons, List.length_nil, List.length_replicate]; omega)) only [go_sem, ↓reduceIte, Int.reduceLE, Int.reduceLT, Int.reduceToNat, Int.reduceNeg, Int.reduceAdd, Int.reduceSub, Int.reduceMul, Int.reduceEq, Int.reduceNe, Nat.reduceEqDiff, Nat.reduceAdd, Nat.reduceSub, Nat.reduceMul, Nat.reduceLT, Nat.reduceLeDiff, Nat.reduceBEq, Nat.reduceBNe, Try.results35, hd] | skip))
end Go.Proofs.Yteknfomddncboaa.X
