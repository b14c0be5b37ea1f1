/- What functions answer, and the plain laws behind it. -/
import Derived.Test.YtdlfdoicheakoaaGreatC151
import Derived.Test.YtdlfdoicheakoaaGreatC161
import Derived.Test.YtdlfdoicheakoaaGreatC162
import Derived.Test.YtdlfdoicheakoaaGreatC163
import Derived.Test.YtdlfdoicheakoaaGreatC164
import Derived.Test.YtdlfdoicheakoaaGreatC165
import Derived.Test.YtdlfdoicheakoaaGreatKAL
import Derived.Test.YtdlfdoicheakoaaGreatKAG
/- What functions compute: graphs with levels are drawn. -/
set_option linter.unusedSimpArgs false
set_option linter.unusedVariables false
set_option maxHeartbeats 16000000
set_option maxRecDepth 100000
namespace Go.Proofs.YtdlfdoicheakoaaGreat.X
open Go Go.Proofs
theorem c_l7Draw (bs : List Int) (hb : ∀ b ∈ bs, 0 ≤ b ∧ b < 256) (hl : bs.length ≤ 1000000000) : ∃ (n : Int) (res : PV × List Arr × List Arr), DrR n res ∧ KP 10 [LB bs] [] = some res := by
  obtain ⟨cs, hcs, hopen⟩ := c_l14Open bs hb hl
  obtain ⟨n, es, p0, hn1, hn2, ho, hes, hel, hp1, hp2, hdraw⟩ := c_l1Draw cs 0 hcs (by omega)
  have hV : VG n es := ⟨hn1, hn2, by omega, hes, ho⟩
  obtain ⟨i0, hi0, -, hpi⟩ := c_pick cs p0 5 hcs (by omega) (by omega)
  have hi0' := hi0 (by omega)
  have hof := c_l7Of n es hV
  have hD := ld hV
  have hTl := ldT_len hV
  refine ⟨n, ?_⟩
  suffices hgoal : ∃ res, DrR n res ∧ KP 10 [LB bs] [] = some res from hgoal
  refine xw_callE (fn := Tryz.f10) rfl Tryz.func10 rfl ⟨Nat.le_of_ble_eq_true rfl, rfl, rfl⟩ ?_
  have hof1 : (es = [] → KP 32 [GL n es] [] = some (.agg [I n, .i .emp, .i .emp, .i .emp], [], [])) ∧ (es ≠ [] → KP 32 [GL n es] [] = some (refsP n (ldT es), [], refsA (ldT es))) := by
    constructor
    · intro h; rw [if_pos h] at hof; exact hof
    · intro h; rw [if_neg h] at hof; exact hof
  have hLd := hD.lv
  have hTz : es = [] → ldT es = [] := fun h => by rw [h]; rfl
  generalize ldT es = T at *
  by_cases hz : es = []
  all_goals first | have hc := hof1.1 hz | have hc := hof1.2 hz
  all_goals (
    have Fz:=fz5 Tryz.results10 hopen hdraw hc hpi
    repeat'(first|exact trivial|refine go1 ?_|(refine go2 ?_ ?_<;>intro _<;>try(exfalso;omega))|(refine go4 ?_;split<;>((try(exfalso;omega));try refine go3 ?_)))
    refine xw_loopR (fun (w : Int × Int × List Tl × Nat × Nat × Nat) s => DrI n cs w.1 w.2 s ∧ 0 ≤ w.1 ∧ w.1 ≤ 4 ∧ 0 ≤ w.2.1 ∧ w.2.1 + 4 * w.1 ≤ 1000) (fun w => w.1.toNat) (i0, p0 + 1, T, 0, 0, 0) ?_ ?_)
  · refine ⟨⟨⟨?_, ?_, ?_, ?_, ?_, ?_⟩, hLd, .inl ⟨hTz hz, ?_⟩⟩, by simp only; omega, by simp only; omega, by simp only; omega, by simp only; omega⟩
    all_goals first | rfl | trace_state
  rotate_left
  · refine ⟨⟨⟨?_, ?_, ?_, ?_, ?_, ?_⟩, hLd, .inr (.inr (.inl ⟨?_, ?_, ?_, ?_⟩))⟩, by simp only; omega, by simp only; omega, by simp only; omega, by simp only; omega⟩
    all_goals first | rfl | trace_state
  all_goals (
    rintro ⟨i, p, ts, v0, v1, v2⟩ st ⟨⟨hB, hL, hsh⟩, g0, g1, r0, r1⟩
    simp only at hB hL hsh g0 g1 r0 r1
    have hVt := hL.vg
    have hll := lv_in hL
    have l1 := esT_len' ts
    have l2 := lvT_len ts
    have l3 := trT_len ts
    have fin : ∀ b, XW Tryz.prog cfg 10 b st (LQ (fun (w : Int × List Tl × Nat × Nat × Nat) t => DrI n cs (i - 1) w t ∧ p ≤ w.1 ∧ w.1 ≤ p + 4) (fun _ => 0) 1 (fun _ _ => False)) → 0 < i → ∀ Q, XW Tryz.prog cfg 10 b st (LQ (fun (w : Int × Int × List Tl × Nat × Nat × Nat) s => DrI n cs w.1 w.2 s ∧ 0 ≤ w.1 ∧ w.1 ≤ 4 ∧ 0 ≤ w.2.1 ∧ w.2.1 + 4 * w.1 ≤ 1000) (fun w => w.1.toNat) i.toNat Q) := by
      intro b hx hi Q
      refine hx.mono fun e t ht => ?_
      cases e with
      | normal =>
        obtain ⟨w, ⟨h1, h2, h3⟩, -⟩ := ht
        exact ⟨(i - 1, w), ⟨h1, by simp only; omega, by simp only; omega, by simp only; omega, by simp only; omega⟩, by simp only; omega⟩
      | exit _ => exact ht.elim
      | ret => exact ht.elim
    rcases hsh with ⟨hz0, hA⟩ | ⟨hz0, hA⟩ | hA | hA | hA
    · exact dr_exit0 hn1 hn2 st hB hA _ _ rfl rfl
    · exact dr_exit1 hn1 hn2 st hB hA _ _ rfl rfl
    · by_cases hgo : 0 < i ∧ 0 < ts.length
      · exact fin _ (dr_step3144 hcs ⟨r0, by omega⟩ hL hgo.2 hgo.1 g1 st hB hA _ rfl) hgo.1 _
      · exact dr_exit3144 hcs ⟨r0, by omega⟩ hL hgo st hB hA _ _ rfl rfl
    · by_cases hgo : 0 < i ∧ 0 < ts.length
      · exact fin _ (dr_step3360 hcs ⟨r0, by omega⟩ hL hgo.2 hgo.1 g1 st hB hA _ rfl) hgo.1 _
      · exact dr_exit3360 hcs ⟨r0, by omega⟩ hL hgo st hB hA _ _ rfl rfl
    · by_cases hgo : 0 < i ∧ 0 < ts.length
      · exact fin _ (dr_step3600 hcs ⟨r0, by omega⟩ hL hgo.2 hgo.1 g1 st hB hA _ rfl) hgo.1 _
      · exact dr_exit3600 hcs ⟨r0, by omega⟩ hL hgo st hB hA _ _ rfl rfl)
end Go.Proofs.YtdlfdoicheakoaaGreat.X

/- What functions compute: draws of graphs with levels and edges; levels that are too few. -/
set_option linter.unusedSimpArgs false
set_option linter.unusedVariables false
set_option maxHeartbeats 8000000
set_option maxRecDepth 100000
namespace Go.Proofs.YtdlfdoicheakoaaGreat.X
open Go Go.Proofs
/-- Rows of edges, levels and marks. -/
theorem rows_of : ∀ (es : List (Int × Int)) (lv : List Int) (tr : List Bool), lv.length = es.length → tr.length = es.length → ∃ ts : List Tl, esT ts = es ∧ lvT ts = lv ∧ trT ts = tr
  | [], [], [], _, _ => ⟨[], rfl, rfl, rfl⟩
  | e :: es, l :: lv, t :: tr, h1, h2 => by
    obtain ⟨ts, a, b, c⟩ := rows_of es lv tr (by simpa using h1) (by simpa using h2)
    exact ⟨(e, l, t) :: ts, by simp only [esT, List.map_cons] at a ⊢; rw [a], by simp only [lvT, List.map_cons] at b ⊢; rw [b], by simp only [trT, List.map_cons] at c ⊢; rw [c]⟩
theorem FV.two {x : IV} {l : List (List IV)} (h : FV x l) : (x = .emp ∧ l = []) ∨ x = .lst l := by
  have := h.f 0
  cases x with
  | emp => simp only [frz, Mm.ret.injEq, IV.lst.injEq] at this; exact .inl ⟨rfl, this.symm⟩
  | lst xs => simp only [frz, Mm.ret.injEq, IV.lst.injEq] at this; exact .inr (by rw [this])
  | _ => simp [frz] at this
abbrev LvQ (n : Int) (es : List (Int × Int)) (lv : List Int) (tr : List Bool) : PV := .agg [I n, LE es, LI lv, LT tr]
theorem c_LevelsValid_few (n : Int) (es : List (Int × Int)) (lv : List Int) (tr : List Bool) (hV : VG n es) (hl : ¬ (lv.length : Int) = es.length) (h1 : lv.length ≤ 1000) : KP 14 [LvQ n es lv tr] [] = some (B false, [], []) := by
  have hel := hV.2.2.1
  have hgv := c_GraphValid n es (by omega)
  rw [decide_eq_true hV] at hgv
  refine xw_call (fn := Tryz.f14) rfl Tryz.func14 rfl ⟨Nat.le_of_ble_eq_true rfl, rfl, rfl⟩ ?_
  have Fz:=fz3 Tryz.results14 hgv hl
  repeat'(first|exact trivial|refine go1 ?_|(refine go2 ?_ ?_<;>intro _<;>try(exfalso;omega))|(refine go4 ?_;split<;>((try(exfalso;omega));try refine go3 ?_)))
theorem c_sLevelsValid_few (n : Int) (es : List (Int × Int)) (lv : List Int) (tr : List Bool) (hV : VG n es) (hl : ¬ (lv.length : Int) = es.length) (h1 : lv.length ≤ 1000) : KP 24 [LvQ n es lv tr] [] = some (B false, [], []) := by
  have hel := hV.2.2.1
  have hgv := c_sGraphValid n es (by omega)
  rw [decide_eq_true hV] at hgv
  refine xw_call (fn := Tryz.f24) rfl Tryz.func24 rfl ⟨Nat.le_of_ble_eq_true rfl, rfl, rfl⟩ ?_
  have Fz:=fz3 Tryz.results24 hgv hl
  repeat'(first|exact trivial|refine go1 ?_|(refine go2 ?_ ?_<;>intro _<;>try(exfalso;omega))|(refine go4 ?_;split<;>((try(exfalso;omega));try refine go3 ?_)))
theorem c_CutLevel_few (n a b : Int) (es : List (Int × Int)) (lv : List Int) (tr : List Bool) (hV : VG n es) (hl : ¬ (lv.length : Int) = es.length) (h1 : lv.length ≤ 1000) : KP 5 [LvQ n es lv tr, PE a b] [] = some (.tup [.agg [I 0, .i .emp, .i .emp, .i .emp], I 0, B false, B false], [], []) := by
  have hlv := c_LevelsValid_few n es lv tr hV hl h1
  refine xw_call (fn := Tryz.f5) rfl Tryz.func5 rfl ⟨Nat.le_of_ble_eq_true rfl, rfl, rfl⟩ ?_
  have Fz:=fz2 Tryz.results5 hlv
  repeat'(first|exact trivial|refine go1 ?_|(refine go2 ?_ ?_<;>intro _<;>try(exfalso;omega))|(refine go4 ?_;split<;>((try(exfalso;omega));try refine go3 ?_)))
theorem c_sCutLevel_few (n a b : Int) (es : List (Int × Int)) (lv : List Int) (tr : List Bool) (hV : VG n es) (hl : ¬ (lv.length : Int) = es.length) (h1 : lv.length ≤ 1000) : KP 6 [LvQ n es lv tr, PE a b] [] = some (.tup [.agg [I 0, .i .emp, .i .emp, .i .emp], I 0, B false, B false], [], []) := by
  have hlv := c_sLevelsValid_few n es lv tr hV hl h1
  have hel := hV.2.2.1
  have hfi := c_l1Find es a b (by omega)
  by_cases hf : findE es (a, b) < 0
  · generalize findE es (a, b) = f at *
    refine xw_call (fn := Tryz.f6) rfl Tryz.func6 rfl ⟨Nat.le_of_ble_eq_true rfl, rfl, rfl⟩ ?_
    have Fz:=fz3 Tryz.results6 hfi hf
    repeat'(first|exact trivial|refine go1 ?_|(refine go2 ?_ ?_<;>intro _<;>try(exfalso;omega))|(refine go4 ?_;split<;>((try(exfalso;omega));try refine go3 ?_)))
  · generalize findE es (a, b) = f at *
    refine xw_call (fn := Tryz.f6) rfl Tryz.func6 rfl ⟨Nat.le_of_ble_eq_true rfl, rfl, rfl⟩ ?_
    have Fz:=fz4 Tryz.results6 hlv hfi hf
    repeat'(first|exact trivial|refine go1 ?_|(refine go2 ?_ ?_<;>intro _<;>try(exfalso;omega))|(refine go4 ?_;split<;>((try(exfalso;omega));try refine go3 ?_)))
/-- A drawn graph with levels, in closed form. -/
def DrL (n : Int) (es : List (Int × Int)) (lv : List Int) (tr : List Bool) (x y z : IV) : Prop := VG n es ∧ tr.length = es.length ∧ (lv.length = es.length ∨ lv.length + 1 = es.length) ∧ (∀ v ∈ lv, -1 ≤ v ∧ v ≤ 5) ∧ FV x (es.map encE) ∧ FV y (lv.map encI) ∧ FV z (tr.map encT)
theorem c_DrawCutLevel (bs : List Int) (hb : ∀ b ∈ bs, 0 ≤ b ∧ b < 256) (hl : bs.length ≤ 1000000000) :
    ∃ (n a b : Int) (es : List (Int × Int)) (lv : List Int) (tr : List Bool) (x y z : IV), DrL n es lv tr x y z ∧ KP 4 [LB bs] [] = some (.tup [.agg [I n, .i x, .i y, .i z], PE a b], [], []) := by
  obtain ⟨n, ⟨r, ps, own⟩, hD, hdr⟩ := c_l7Draw bs hb hl
  obtain ⟨es, lv, tr, x, y, z, hV, h1, h2, h3, fx, fy, fz, hps, him⟩ := hD
  simp only at hps him
  subst hps
  obtain ⟨cs, hcs, hopen⟩ := c_l14Open bs hb hl
  have hn1 := hV.1
  have hn2 := hV.2.1
  have hel := hV.2.2.1
  have ax := fx.f
  have ay := fy.f
  have az := fz.f
  have bx := fx.fl
  have by' := fy.fl
  have bz := fz.fl
  obtain ⟨v0, -, hnum0⟩ := c_num cs 0 [1, 2, 16] hcs (by omega) (by simp) (by simp)
  obtain ⟨v1, -, hnum1⟩ := c_num cs 1 [1, 2, 16] hcs (by omega) (by simp) (by simp)
  simp only [List.map_cons, List.map_nil, encI, List.length_cons, List.length_nil, Nat.reduceAdd] at hnum0 hnum1
  obtain ⟨w, hw, -, hpw⟩ := c_pick cs 0 12 hcs (by omega) (by omega)
  obtain ⟨k, hk, -, hpk⟩ := c_pick cs 1 es.length hcs (by omega) (by omega)
  by_cases hz : es.length = 0
  · obtain rfl : es = [] := List.length_eq_zero_iff.1 hz
    rcases fx.two with ⟨rfl, -⟩ | rfl
    all_goals
      refine ⟨n, 0, v0, [], lv, tr, _, y, z, ⟨hV, h1, h2, h3, fx, fy, fz⟩, xw_call (fn := Tryz.f4) rfl Tryz.func4 rfl ⟨Nat.le_of_ble_eq_true rfl, rfl, rfl⟩ ?_⟩
      have Fz:=fz9 Tryz.results4 hdr him hopen hnum0 ay az by' bz
      repeat'(first|exact trivial|refine go1 ?_|(refine go2 ?_ ?_<;>intro _<;>try(exfalso;omega))|(refine go4 ?_;split<;>((try(exfalso;omega));try refine go3 ?_)))
  obtain rfl : x = .lst (es.map encE) := by
    rcases fx.two with ⟨-, h⟩ | h
    · exact absurd (by simpa using congrArg List.length h) hz
    · exact h
  have hk' := hk (by omega)
  by_cases hw0 : w = 0
  · refine ⟨n, 0, v1, es, lv, tr, _, y, z, ⟨hV, h1, h2, h3, fx, fy, fz⟩, xw_call (fn := Tryz.f4) rfl Tryz.func4 rfl ⟨Nat.le_of_ble_eq_true rfl, rfl, rfl⟩ ?_⟩
    have Fz:=fz12 Tryz.results4 hdr him hopen hz hpw hw0 hnum1 ay az by' bz
    repeat'(first|exact trivial|refine go1 ?_|(refine go2 ?_ ?_<;>intro _<;>try(exfalso;omega))|(refine go4 ?_;split<;>((try(exfalso;omega));try refine go3 ?_)))
  · have hge := getE es k.toNat (by omega)
    generalize es.getD k.toNat (0, 0) = e at *
    obtain ⟨a, b⟩ := e
    simp only at hge
    refine ⟨n, a, b, es, lv, tr, _, y, z, ⟨hV, h1, h2, h3, fx, fy, fz⟩, xw_call (fn := Tryz.f4) rfl Tryz.func4 rfl ⟨Nat.le_of_ble_eq_true rfl, rfl, rfl⟩ ?_⟩
    have Fz:=fz13 Tryz.results4 hdr him hopen hz hpw hw0 hpk hge ay az by' bz
    repeat'(first|exact trivial|refine go1 ?_|(refine go2 ?_ ?_<;>intro _<;>try(exfalso;omega))|(refine go4 ?_;split<;>((try(exfalso;omega));try refine go3 ?_)))
theorem c_dyLeveled (n : Int) (es : List (Int × Int)) (lv : List Int) (tr : List Bool) (h1 : es.length ≤ 1048576) (h2 : lv.length ≤ 1048576) (h3 : tr.length ≤ 1048576) : KP 7 [LvQ n es lv tr, LvQ n es lv tr] [] = some (B true, [], []) := by
  have hgs := c_GraphSame n n es es (by omega)
  rw [decide_eq_true ⟨rfl, rfl⟩] at hgs
  have hd := c_dyInts lv lv h2
  rw [decide_eq_true rfl] at hd
  refine xw_call (fn := Tryz.f7) rfl Tryz.func7 rfl ⟨Nat.le_of_ble_eq_true rfl, rfl, rfl⟩ ?_
  have Fz:=fz3 Tryz.results7 hgs hd
  repeat'(first|exact trivial|refine go1 ?_|(refine go2 ?_ ?_<;>intro _<;>try(exfalso;omega))|(refine go4 ?_;split<;>((try(exfalso;omega));try refine go3 ?_)))
  refine xw_loopR (fun (i : Int) s => s.m 2 = some (.box 0 [I n, LE es, LI lv, LT tr]) ∧ s.ρ 2 = .ptr 2 0 0 0 ∧ s.m 3 = some (.box 0 [I n, LE es, LI lv, LT tr]) ∧ s.ρ 3 = .ptr 3 0 0 0 ∧ s.ρ 5 = I i ∧ 0 ≤ i ∧ i ≤ tr.length) (fun i => (tr.length - i).toNat) 0 ⟨rfl, rfl, rfl, rfl, rfl, by simp, by simp⟩ ?_
  rintro i ⟨ρ, m⟩ ⟨m1, e1, m2, e2, e3, g0, g1⟩
  simp only at m1 e1 m2 e2 e3 g0 g1
  by_cases hj : i < tr.length
  · have Fz:=fz6 Tryz.results7 m1 e1 m2 e2 e3
    repeat'(first|exact trivial|refine go1 ?_|(refine go2 ?_ ?_<;>intro _<;>try(exfalso;omega))|(refine go4 ?_;split<;>((try(exfalso;omega));try refine go3 ?_)))
    exact ⟨by omega, by omega, by omega⟩
  · have Fz:=fz6 Tryz.results7 m1 e1 m2 e2 e3
    repeat'(first|exact trivial|refine go1 ?_|(refine go2 ?_ ?_<;>intro _<;>try(exfalso;omega))|(refine go4 ?_;split<;>((try(exfalso;omega));try refine go3 ?_)))
theorem c_dyLeveled0 : KP 7 [LvQ 0 [] [] [], LvQ 0 [] [] []] [] = some (B true, [], []) := c_dyLeveled 0 [] [] [] (by simp) (by simp) (by simp)
end Go.Proofs.YtdlfdoicheakoaaGreat.X
