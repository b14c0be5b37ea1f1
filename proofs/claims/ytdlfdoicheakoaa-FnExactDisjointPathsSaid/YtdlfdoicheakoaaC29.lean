/- What functions compute: paths without common edges. -/
import Derived.Test.YtdlfdoicheakoaaKAH
set_option linter.unusedSimpArgs false
set_option linter.unusedVariables false
set_option maxHeartbeats 8000000
namespace Go.Proofs.Ytdlfdoicheakoaa.X
open Go Go.Proofs
theorem c_l10Path (n x y : Int) (es fs : List (Int × Int)) (F : Un) (hV : VG n es) (hx : 0 ≤ x ∧ x < n) (hF : FR fs F) (hO : OKF es F) (hy : y ∈ (bfs n es F x).2) (hfl : fs.length ≤ 1048576) :
    KP 56 [I n, FL fs, I x, I y] [] = some (LI (wayL n (bfs n es F x).1 x y), [], []) := by
  have ho := hV.okg.ok
  have hn16 := hV.2.1
  have hn1 := hV.1
  have hnd := hV.nodup
  have hbk := fun t h0 h1 => way_back (n := n) (fr := (bfs n es F x).1) (x := x) (y := y) (t := t) h0 h1
  have hway := bfs_way ho hx hy
  generalize hp : wayL n (bfs n es F x).1 x y = p at hway hbk
  refine gc Try.func56 ?_
  unfold FL
  have Fz:=fz1 Try.results56
  repeat'(first|exact trivial|refine go1 ?_|(refine go2 ?_ ?_<;>intro _<;>try(exfalso;omega))|(refine go4 ?_;split<;>((try(exfalso;omega));try refine go3 ?_)))
  refine xw_loopR (fun (u : Int × Nat × List Int) s => s.m 16 = some (.arr u.2.1 1 (u.2.2.map encI)) ∧ s.ρ 9 = .ref 16 u.2.1 0 u.2.2.length ∧ s.ρ 10 = I u.1 ∧ s.ρ 0 = I n ∧ s.ρ 2 = I x ∧ s.ρ 3 = I y ∧ s.ρ 5 = .ptr 5 0 0 0 ∧ s.m 5 = some (.box 0 [LI (fsI fs), LI (snI fs)]) ∧
    0 ≤ u.1 ∧ u.1 ≤ n ∧ u.2.2.length = u.1.toNat ∧ u.2.2 = List.replicate u.1.toNat (-1)) (fun u => (n - u.1).toNat) (0, 0, []) ⟨rfl, rfl, rfl, rfl, rfl, rfl, rfl, rfl, by simp, by simp only; omega, rfl, rfl⟩ ?_
  rintro ⟨i, v, xs⟩ ⟨ρ, m⟩ ⟨m16, h9, h10, h0, h2, h3, h5, m5, g0, g1, g2, g3⟩
  simp only at m16 h9 h10 h0 h2 h3 h5 m5 g0 g1 g2 g3
  have Fz:=fz9 Try.results56 m16 h9 h10 h0 h2 h3 h5 m5
  repeat'(first|exact trivial|refine go1 ?_|(refine go2 ?_ ?_<;>intro _<;>try(exfalso;omega))|(refine go4 ?_;split<;>((try(exfalso;omega));try refine go3 ?_)))
  · refine ⟨by omega, by omega, by omega, ?_, by omega⟩
    rw [g3, show (i + 1).toNat = i.toNat + 1 by omega, List.replicate_succ']
  have hin : i.toNat = n.toNat := by omega
  rw [hin] at g2 g3
  subst g3
  refine xw_loopR (fun (u : Nat × Nat × List Int × List Int × List Int × List Int) s => s.m 16 = some (.arr v 1 (u.2.2.2.2.1.map encI)) ∧ s.ρ 9 = .ref 16 v 0 n.toNat ∧ s.m 30 = some (.arr u.2.1 1 ((u.2.2.1 ++ u.2.2.2.1).map encI)) ∧ s.ρ 11 = .ref 30 u.2.1 u.2.2.1.length u.2.2.2.1.length ∧ s.ρ 0 = I n ∧ s.ρ 2 = I x ∧ s.ρ 3 = I y ∧ s.ρ 5 = .ptr 5 0 0 0 ∧ s.m 5 = some (.box 0 [LI (fsI fs), LI (snI fs)]) ∧
    u.1 ≤ u.2.2.2.2.2.length ∧ u.2.2.2.1 = u.2.2.2.2.2.drop u.1 ∧ u.2.2.2.2 = bfsS n es F x u.1) (fun u => n.toNat + 1 - u.1) (0, nv (m 30), [], [x], bfsS n es F x 0) ?_ ?_
  · refine ⟨by simp [upd, bfsS], by simp [upd, h9], by simp [upd, encI], by simp [upd], by simp [upd, h0], by simp [upd, h2], by simp [upd, h3], by simp [upd, h5], by simp [upd, m5], by simp, by simp [bfsS], rfl⟩
  rintro ⟨k, w, pre, q, fr, ord⟩ ⟨ρ, m⟩ ⟨m16, h9, m30, h11, h0, h2, h3, h5, m5, g0, gq, g1⟩
  simp only at m16 h9 m30 h11 h0 h2 h3 h5 m5 g0 gq g1
  obtain ⟨hI, -⟩ := bfsS_inv (goes := F) ho hx k
  rw [← g1] at hI
  have hol := hI.le
  have hfl' := hI.len
  simp only at hol hfl'
  cases q with
  | nil =>
    have hk : ord.length ≤ k := List.drop_eq_nil_iff.1 gq.symm
    have hst := bfs_eq (goes := F) ho hx (i := k) (by rw [← g1]; simp only; omega)
    rw [← g1] at hst
    rw [← hst] at hbk hp
    simp only at hbk hp
    have hin : ∀ i, i < p.length → 0 ≤ p.getD i 0 ∧ p.getD i 0 < n := fun i hi => by
      by_cases h0 : i + 1 < p.length
      · have := (hway.st i h0).1.ok ho; omega
      · have e : i = p.length - 1 := by omega
        rw [e, hway.la]
        exact hI.rng y (by have h := hy; rw [← hst] at h; exact h)
    have hpp := hway.pos
    have hdl : ∀ t, t < p.length → p.drop t = p.getD t 0 :: p.drop (t + 1) := fun t ht => by
      rw [List.drop_eq_getElem_cons ht]
      simp [ht]
    have Fz:=fz10 Try.results56 m16 h9 m30 h11 h0 h2 h3 h5 m5
    repeat'(first|exact trivial|refine go1 ?_|(refine go2 ?_ ?_<;>intro _<;>try(exfalso;omega))|(refine go4 ?_;split<;>((try(exfalso;omega));try refine go3 ?_)))
    refine xw_loopR (fun (t : Nat) s => s.m 16 = some (.arr v 1 (fr.map encI)) ∧ s.ρ 9 = .ref 16 v 0 n.toNat ∧ s.ρ 2 = I x ∧ s.ρ 14 = LI (p.drop t) ∧ s.ρ 15 = I (p.getD t 0) ∧ t < p.length) (fun t => t) (p.length - 1) ?_ ?_
    · refine ⟨by simp [upd, m16], by simp [upd, h9], by simp [upd, h2], ?_, by rw [hway.la]; simp [upd], by omega⟩
      have e1 : p.drop (p.length - 1) = [y] := by
        rw [hdl _ (by omega), hway.la, List.drop_eq_nil_of_le (by omega)]
      rw [e1]
      simp [upd, encI]
    rintro t ⟨ρ, m⟩ ⟨m16, h9, h2, h14, h15, f0⟩
    simp only at m16 h9 h2 h14 h15 f0
    by_cases ht : t = 0
    · subst ht
      rw [List.drop_zero] at h14
      rw [hway.hd] at h15
      have Fz:=fz6 Try.results56 m16 h9 h2 h14 h15
      repeat'(first|exact trivial|refine go1 ?_|(refine go2 ?_ ?_<;>intro _<;>try(exfalso;omega))|(refine go4 ?_;split<;>((try(exfalso;omega));try refine go3 ?_)))
    have hne : p.getD t 0 ≠ x := fun e => by
      rw [← hway.hd] at e
      simp only [List.getD, List.getElem?_eq_getElem f0, List.getElem?_eq_getElem hpp, Option.getD_some] at e
      exact ht ((List.getElem_inj hway.nd).1 e)
    have hbt := hbk t (by omega) f0
    have hpt := hin t f0
    have hdt := hdl (t - 1) (by omega)
    rw [show t - 1 + 1 = t by omega] at hdt
    have hpl : p.length ≤ 16 := by
      have := len_le_of_sub (l := p) (m := iota n) hway.nd fun v hv => by
        obtain ⟨i, hi, he⟩ := List.mem_iff_getElem.1 hv
        have := hin i hi
        simp only [List.getD, List.getElem?_eq_getElem hi, Option.getD_some, he] at this
        exact mem_iota.2 this
      rw [iota_length] at this
      omega
    have hrl : (p.drop t).length ≤ 16 := by rw [List.length_drop]; omega
    generalize hq : p.getD t 0 = q at *
    generalize hr : p.drop t = r at *
    have Fz:=fz7 Try.results56 m16 h9 h2 h14 h15 hbt
    repeat'(first|exact trivial|refine go1 ?_|(refine go2 ?_ ?_<;>intro _<;>try(exfalso;omega))|(refine go4 ?_;split<;>((try(exfalso;omega));try refine go3 ?_)))
    refine ⟨t - 1, ?_, rfl, by omega, by omega⟩
    rw [hdt, List.take_of_length_le (by simp; omega)]
    simp [encI]
  | cons a q =>
    have hk : k < ord.length := by
      refine Classical.byContradiction fun h => ?_
      rw [List.drop_eq_nil_of_le (by omega)] at gq
      cases gq
    have hae : ord.getD k 0 = a ∧ ord.drop (k + 1) = q := by
      rw [List.drop_eq_getElem_cons hk, List.cons.injEq] at gq
      refine ⟨?_, gq.2.symm⟩
      simp only [List.getD, List.getElem?_eq_getElem hk, Option.getD_some]
      exact gq.1.symm
    obtain ⟨hae, hqe⟩ := hae
    have hatm := getD_mem (d := 0) (show k < ord.length by omega)
    have hat := hI.rng _ hatm
    rw [hae] at hatm hat
    have hg := getD_len_append pre q a
    have hql : q.length ≤ n.toNat := by rw [← hqe, List.length_drop]; omega
    simp only [List.length_cons] at h11
    have Fz:=fz11 Try.results56 m16 h9 m30 h11 h0 h2 h3 h5 m5 hg
    repeat'(first|exact trivial|refine go1 ?_|(refine go2 ?_ ?_<;>intro _<;>try(exfalso;omega))|(refine go4 ?_;split<;>((try(exfalso;omega));try refine go3 ?_)))
    refine xw_loopR (fun (u : Int × Nat × List Int × List Int × List Int × List Int) s => s.m 16 = some (.arr v 1 (u.2.2.2.2.1.map encI)) ∧ s.ρ 9 = .ref 16 v 0 n.toNat ∧ s.m 30 = some (.arr u.2.1 1 ((u.2.2.1 ++ u.2.2.2.1).map encI)) ∧ s.ρ 11 = .ref 30 u.2.1 u.2.2.1.length u.2.2.2.1.length ∧ s.ρ 0 = I n ∧ s.ρ 2 = I x ∧ s.ρ 3 = I y ∧ s.ρ 5 = .ptr 5 0 0 0 ∧ s.m 5 = some (.box 0 [LI (fsI fs), LI (snI fs)]) ∧
      s.ρ 12 = I a ∧ s.ρ 13 = I u.1 ∧ 0 ≤ u.1 ∧ u.1 ≤ n ∧ u.2.2.2.1 = u.2.2.2.2.2.drop (k + 1) ∧ BI n es F x u.2.2.2.2 ∧ ord.length ≤ u.2.2.2.2.2.length ∧ u.2.2.2.2 = (iota u.1).foldl (look F a) (fr, ord)) (fun u => (n - u.1).toNat) (0, w, pre ++ [a], q, fr, ord) ?_ ?_
    · refine ⟨by simp [upd, m16], by simp [upd, h9], by simp [upd, m30], by simp [upd], by simp [upd, h0], by simp [upd, h2], by simp [upd, h3], by simp [upd, h5], by simp [upd, m5], by simp [upd], by simp [upd], by simp, by simp only; omega, hqe.symm, hI, Nat.le_refl _, by simp [iota]⟩
    rintro ⟨j, w', pr, q', fr', ord'⟩ ⟨ρ, m⟩ ⟨m16, h9, m30, h11, h0, h2, h3, h5, m5, h12, h13, f0, f1, fq, fI, hpl, f2⟩
    simp only at m16 h9 m30 h11 h0 h2 h3 h5 m5 h12 h13 f0 f1 fq fI hpl f2
    have hol' := fI.le
    have hfl2 := fI.len
    simp only at hol' hfl2
    have hql' : q'.length ≤ n.toNat := by rw [fq, List.length_drop]; omega
    by_cases hj : j < n
    rotate_left
    · have hjn : j = n := by omega
      subst hjn
      have hb : (fr', ord') = bfsS j es F x (k + 1) := by
        rw [f2, units_fold ho hnd hO, bfsS, ← g1, bstep, if_pos (by simp only; omega)]
        simp only [hae]
      have Fz:=fz12 Try.results56 m16 h9 m30 h11 h0 h2 h3 h5 m5 h12 h13
      repeat'(first|exact trivial|refine go1 ?_|(refine go2 ?_ ?_<;>intro _<;>try(exfalso;omega))|(refine go4 ?_;split<;>((try(exfalso;omega));try refine go3 ?_)))
      exact ⟨k + 1, w', pr, q', fr', by assumption, rfl, rfl, rfl, rfl, rfl, ord', by omega, fq, hb, by omega⟩
    have hhas := c_l10Has fs a j hfl
    unfold FL at hhas
    have hlk : (iota (j + 1)).foldl (look F a) (fr, ord) = look F a (fr', ord') j := by
      rw [iota_snoc f0, List.foldl_append, ← f2]; rfl
    have hfa := hF a j
    rw [look_eq] at hlk
    simp only at hlk
    have ham : a ∈ ord' := by
      have hpre : ord <+: ord' := by
        have := (hI.fold (vs := (iota j).filter fun v => F a v) hatm fun v hv => ⟨by have := mem_iota.1 (List.mem_filter.1 hv).1; omega, hO.adj a v (List.mem_filter.1 hv).2⟩).2.1
        rw [← fold_skip, ← f2] at this
        exact this
      exact hpre.subset hatm
    by_cases hn0 : fr'.getD j.toNat 0 < 0
    · by_cases h1 : (a, j) ∈ fs
      · have hFa := hfa.1 h1
        have hnew := (fI.look ham ⟨f0, hj⟩ (hO.adj a j hFa)).1
        rw [look_eq] at hnew
        simp only at hnew
        rw [decide_eq_true h1] at hhas
        rw [if_pos ⟨hn0, hFa⟩] at hlk hnew
        have Fz:=fz13 Try.results56 m16 h9 m30 h11 h0 h2 h3 h5 m5 h12 h13 hhas
        repeat'(first|exact trivial|refine go1 ?_|(refine go2 ?_ ?_<;>intro _<;>try(exfalso;omega))|(refine go4 ?_;split<;>((try(exfalso;omega));try refine go3 ?_)))
        exact ⟨j + 1, [], q' ++ [j], by simp, rfl, by simp, rfl, by omega, by omega, ord' ++ [j], by rw [List.drop_append_of_le_length (by omega), ← fq], hnew, by rw [List.length_append]; omega, hlk.symm, by omega⟩
      · rw [decide_eq_false h1] at hhas
        rw [if_neg (fun k => h1 (hfa.2 k.2))] at hlk
        have Fz:=fz13 Try.results56 m16 h9 m30 h11 h0 h2 h3 h5 m5 h12 h13 hhas
        repeat'(first|exact trivial|refine go1 ?_|(refine go2 ?_ ?_<;>intro _<;>try(exfalso;omega))|(refine go4 ?_;split<;>((try(exfalso;omega));try refine go3 ?_)))
        exact ⟨j + 1, pr, q', rfl, rfl, rfl, rfl, by omega, by omega, ord', fq, fI, hpl, hlk.symm, by omega⟩
    · rw [if_neg (fun k => hn0 k.1)] at hlk
      have Fz:=fz13 Try.results56 m16 h9 m30 h11 h0 h2 h3 h5 m5 h12 h13 hhas
      repeat'(first|exact trivial|refine go1 ?_|(refine go2 ?_ ?_<;>intro _<;>try(exfalso;omega))|(refine go4 ?_;split<;>((try(exfalso;omega));try refine go3 ?_)))
      exact ⟨j + 1, pr, q', rfl, rfl, rfl, rfl, by omega, by omega, ord', fq, fI, hpl, hlk.symm, by omega⟩
/-- The paths that are found. -/
def dpPs (n : Int) (es : List (Int × Int)) (x y : Int) (k : Nat) : List (List Int) := (List.range k).map fun i => dpP n es x y i
theorem dpPs_len (n : Int) (es : List (Int × Int)) (x y : Int) (k : Nat) : (dpPs n es x y k).length = k := by simp [dpPs]
theorem dpPs_snoc (n : Int) (es : List (Int × Int)) (x y : Int) (k : Nat) : dpPs n es x y (k + 1) = dpPs n es x y k ++ [dpP n es x y k] := by simp [dpPs, List.range_succ]
theorem way_in {n : Int} {es : List (Int × Int)} {F : Un} {x y : Int} {p : List Int} (ho : ∀ e ∈ es, okE n e) (hw : Way es F x y p) (hy : 0 ≤ y ∧ y < n) : ∀ i, i < p.length → 0 ≤ p.getD i 0 ∧ p.getD i 0 < n := fun i hi => by
  by_cases h0 : i + 1 < p.length
  · have := (hw.st i h0).1.ok ho; omega
  · have e : i = p.length - 1 := by omega
    rw [e, hw.la]; exact hy
theorem way_len {n : Int} {es : List (Int × Int)} {F : Un} {x y : Int} {p : List Int} (ho : ∀ e ∈ es, okE n e) (hw : Way es F x y p) (hy : 0 ≤ y ∧ y < n) (hn : n ≤ 16) : p.length ≤ 16 := by
  have := len_le_of_sub (l := p) (m := iota n) hw.nd fun v hv => by
    obtain ⟨i, hi, he⟩ := List.mem_iff_getElem.1 hv
    have := way_in ho hw hy i hi
    simp only [List.getD, List.getElem?_eq_getElem hi, Option.getD_some, he] at this
    exact mem_iota.2 this
  rw [iota_length] at this
  omega
theorem c_sDisjointPaths (n x y : Int) (es : List (Int × Int)) (hl : es.length ≤ 1048576) : KP 14 [GL n es, I x, I y] [] =
    some (if Pr n x y es then (.tup [.ref 2000 0 0 (dpPs n es x y (flN n es x y)).length, B true], [], [.arr 0 1 ((dpPs n es x y (flN n es x y)).map encL)]) else (.tup [.ref 2000 0 0 0, B false], [], [.arr 0 1 []])) := by
  by_cases h : Pr n x y es
  rotate_left
  · rw [if_neg h]
    refine gc Try.func14 ?_
    have Fz:=fz1 Try.results14
    repeat'(first|exact trivial|refine go1 ?_|(refine go2 ?_ ?_<;>intro _<;>try(exfalso;omega))|(refine go4 ?_;split<;>((try(exfalso;omega));try refine go3 ?_)))
  rw [if_pos h]
  obtain ⟨hV, hx, hy, hxy⟩ := id h
  have ho := hV.okg.ok
  have hnd := hV.nodup
  have hn16 := hV.2.1
  have hle := hV.okg.len
  obtain ⟨fs, hu, hfl, hf⟩ := c_l10Run n x y es hV hx hy hxy
  have hk40 : flN n es x y ≤ 40 := by
    have h1 := (flow_deg ho hnd hx hy hxy).1
    have h2 := alone_length x es
    omega
  unfold FQ at hf
  refine gc Try.func14 ?_
  have Fz:=fz2 Try.results14 hf
  repeat'(first|exact trivial|refine go1 ?_|(refine go2 ?_ ?_<;>intro _<;>try(exfalso;omega))|(refine go4 ?_;split<;>((try(exfalso;omega));try refine go3 ?_)))
  refine xw_loopR (fun (u : Nat × Nat × List (Int × Int)) s => s.m 14 = some (.arr u.2.1 1 ((dpPs n es x y u.1).map encL)) ∧ s.ρ 8 = .ref 14 u.2.1 0 u.1 ∧ s.ρ 9 = .ptr 9 0 0 0 ∧ s.m 9 = some (.box 0 [.i (iq (fsI u.2.2)), .i (iq (snI u.2.2))]) ∧ s.ρ 10 = I (flN n es x y : Int) ∧ s.ρ 11 = I (u.1 : Int) ∧ s.ρ 1 = I x ∧ s.ρ 2 = I y ∧ s.ρ 3 = .ptr 3 0 0 0 ∧ s.m 3 = some (.box 0 [I n, LE es]) ∧
    u.1 ≤ flN n es x y ∧ FR u.2.2 (dpF n es x y u.1) ∧ u.2.2.length ≤ 1000) (fun u => flN n es x y - u.1) (0, 0, fs) ?_ ?_
  · refine ⟨by simp [upd, dpPs], by simp [upd], by simp [upd], by simp [upd], by simp [upd], by simp [upd], by simp [upd], by simp [upd], by simp [upd], by simp [upd], Nat.zero_le _, hu, hfl⟩
  rintro ⟨i, v, gs⟩ ⟨ρ, m⟩ ⟨m14, h8, h9, m9, h10, h11, h1, h2, h3, m3, g0, g1, g2⟩
  simp only at m14 h8 h9 m9 h10 h11 h1 h2 h3 m3 g0 g1 g2
  have hpsl := dpPs_len n es x y i
  by_cases hi : i < flN n es x y
  rotate_left
  · have hie : i = flN n es x y := by omega
    rw [← hie]
    rw [← hie] at h10
    have Fz:=fz11 Try.results14 m14 h8 h9 m9 h10 h11 h1 h2 h3 m3
    repeat'(first|exact trivial|refine go1 ?_|(refine go2 ?_ ?_<;>intro _<;>try(exfalso;omega))|(refine go4 ?_;split<;>((try(exfalso;omega));try refine go3 ?_)))
    rw [hpsl]
  have hO := (dp_inv ho hnd hx hy hxy i (by omega)).1
  have hw := dp_way ho hnd hx hy hxy hi
  have hlp := c_l10Path n x y es gs _ hV hx g1 hO (dp_mem ho hnd hx hy hxy hi) (by omega)
  have hpe : wayL n (bfs n es (dpF n es x y i) x).1 x y = dpP n es x y i := rfl
  rw [hpe] at hlp
  have hsn := dpPs_snoc n es x y i
  have hnx : dpF n es x y (i + 1) = dropP (dpF n es x y i) (dpP n es x y i) := rfl
  have hpl := way_len ho hw hy hn16
  have hpp := hw.pos
  generalize hpq : dpP n es x y i = p at *
  unfold FL at hlp
  have Fz:=fz12 Try.results14 m14 h8 h9 m9 h10 h11 h1 h2 h3 m3 hlp
  repeat'(first|exact trivial|refine go1 ?_|(refine go2 ?_ ?_<;>intro _<;>try(exfalso;omega))|(refine go4 ?_;split<;>((try(exfalso;omega));try refine go3 ?_)))
  refine xw_loopR (fun (u : Int × List (Int × Int)) s => s.m 14 = some (.arr v 1 ((dpPs n es x y i).map encL)) ∧ s.ρ 8 = .ref 14 v 0 i ∧ s.ρ 9 = .ptr 9 0 0 0 ∧ s.m 9 = some (.box 0 [.i (iq (fsI u.2)), .i (iq (snI u.2))]) ∧ s.ρ 10 = I (flN n es x y : Int) ∧ s.ρ 11 = I (i : Int) ∧ s.ρ 1 = I x ∧ s.ρ 2 = I y ∧ s.ρ 3 = .ptr 3 0 0 0 ∧ s.m 3 = some (.box 0 [I n, LE es]) ∧
    s.ρ 12 = LI p ∧ s.ρ 13 = I u.1 ∧ 1 ≤ u.1 ∧ u.1 ≤ p.length ∧ FR u.2 (dropP (dpF n es x y i) (p.take u.1.toNat)) ∧ u.2.length ≤ 1000) (fun u => (p.length - u.1).toNat) (1, gs) ?_ ?_
  · have e1 : dropP (dpF n es x y i) (p.take 1) = dpF n es x y i := by
      cases p with
      | nil => rfl
      | cons a r => rfl
    refine ⟨by simp [upd, m14], by simp [upd, h8], by simp [upd, h9], by simp [upd, m9], by simp [upd, h10], by simp [upd, h11], by simp [upd, h1], by simp [upd, h2], by simp [upd, h3], by simp [upd, m3], by simp [upd], by simp [upd], by simp, by simp only; omega, ?_, g2⟩
    show FR gs (dropP (dpF n es x y i) (p.take 1))
    rw [e1]; exact g1
  rintro ⟨k, hs⟩ ⟨ρ, m⟩ ⟨m14, h8, h9, m9, h10, h11, h1, h2, h3, m3, h12, h13, f0, f1, f2, f3⟩
  simp only at m14 h8 h9 m9 h10 h11 h1 h2 h3 m3 h12 h13 f0 f1 f2 f3
  by_cases hk : k < p.length
  · have hdt := dropP_take (F := dpF n es x y i) (p := p) (i := k.toNat) (by omega) (by omega)
    rw [show k.toNat + 1 = (k + 1).toNat by omega, show k.toNat - 1 = (k - 1).toNat by omega] at hdt
    have hd := f2.drop (p.getD (k - 1).toNat 0) (p.getD k.toNat 0)
    rw [← hdt] at hd
    have hwo := c_l10Without hs (p.getD (k - 1).toNat 0) (p.getD k.toNat 0) (by omega)
    have hwl := woL_len hs (p.getD (k - 1).toNat 0) (p.getD k.toNat 0)
    unfold FL at hwo
    have Fz:=fz15 Try.results14 m14 h8 h9 m9 h10 h11 h1 h2 h3 m3 h12 h13 hwo @FQ.eq_1
    repeat'(first|exact trivial|refine go1 ?_|(refine go2 ?_ ?_<;>intro _<;>try(exfalso;omega))|(refine go4 ?_;split<;>((try(exfalso;omega));try refine go3 ?_)))
    exact ⟨k + 1, _, rfl, rfl, by omega, by omega, hd, by omega, by omega⟩
  · rw [take_all (by omega), ← hnx] at f2
    have Fz:=fz14 Try.results14 m14 h8 h9 m9 h10 h11 h1 h2 h3 m3 h12 h13 hpsl
    repeat'(first|exact trivial|refine go1 ?_|(refine go2 ?_ ?_<;>intro _<;>try(exfalso;omega))|(refine go4 ?_;split<;>((try(exfalso;omega));try refine go3 ?_)))
    exact ⟨i + 1, by rw [hsn], rfl, hs, rfl, by omega, by omega, f2, f3, by omega⟩
theorem clo_DisjointPaths (us : List Bool) (F : Un) (h : UR us F) : CloG (.fn 62 [] [.eptr (us.map bI) 0]) (fun v => 0 ≤ v ∧ v < 16) F := by
  have hl := h.1
  have k : ∀ a b : Int, 0 ≤ a ∧ a < 16 → 0 ≤ b ∧ b < 16 → KP 62 [I a, I b, .i (.eptr (us.map bI) 0)] [] = some (B (F a b), [], []) := by
    intro a b ha hb
    have hg := h.2 a b ha.1 ha.2 hb.1 hb.2
    refine gc Try.func62 ?_
    have Fz:=fz2 Try.results62 hg
    repeat'(first|exact trivial|refine go1 ?_|(refine go2 ?_ ?_<;>intro _<;>try(exfalso;omega))|(refine go4 ?_;split<;>((try(exfalso;omega));try refine go3 ?_)))
    all_goals (rw [Nat.mul_one, hg])
  refine ⟨fun n => by cases n <;> rfl, rfl, fun me d a b ha hb => ?_⟩
  have hx := k a b ha hb
  simp only [go_sem, ↓reduceIte, Int.reduceLE, Int.reduceLT, Int.reduceToNat, Int.reduceNeg, Int.reduceAdd, Int.reduceSub, Int.reduceMul, Int.reduceEq, Int.reduceNe, Nat.reduceEqDiff, Nat.reduceAdd, Nat.reduceSub, Nat.reduceMul, Nat.reduceLT, Nat.reduceLeDiff, Nat.reduceBEq, Nat.reduceBNe, UInt8.reduceToNat, hx, ite_self]
theorem UR.drop {us : List Bool} {F : Un} {a b : Int} (h : UR us F) (ha : 0 ≤ a ∧ a < 16) (hb : 0 ≤ b ∧ b < 16) : UR (us.set (a.toNat * 16 + b.toNat) false) (dropF F a b) := by
  refine ⟨by simpa using h.1, fun c d h0 h1 h2 h3 => ?_⟩
  have hlen := h.1
  unfold dropF
  rw [getT_set (by omega)]
  by_cases he : c = a ∧ d = b
  · obtain ⟨rfl, rfl⟩ := he
    rw [if_pos rfl, if_pos ⟨rfl, rfl⟩]
  · rw [if_neg (by omega), if_neg he]
    exact h.2 c d h0 h1 h2 h3
end Go.Proofs.Ytdlfdoicheakoaa.X
