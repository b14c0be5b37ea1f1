/- The law: edges take places. -/
import Derived.Test.YtdlfdoicheakoaaGreatKAP
import Derived.Test.YtdlfdoicheakoaaGreatKAO
import Derived.Test.YtdlfdoicheakoaaGreatKAD
import Derived.Test.YtdlfdoicheakoaaGreatKAI
set_option linter.unusedSimpArgs false
set_option linter.unusedVariables false
set_option maxHeartbeats 16000000
set_option maxRecDepth 100000
namespace Go.Proofs.YtdlfdoicheakoaaGreat.X
open Go Go.Proofs
theorem c_LevelForestF (n : Int) (ts : List Tl) (hL : LV n ts) : KP 9 [LvP n ts, I 0] [] = some (.tup [.i (qe (abT ts 0 true)), B true], [], []) := by
  have hV := hL.vg
  have hel := hV.2.2.1
  have l1 := esT_len' ts
  have hlv := c_LevelsValid n ts hV
  rw [decide_eq_true hL] at hlv
  have hab := c_above n 0 true ts (by omega)
  unfold qP qA at hab
  unfold qe
  by_cases hz : abT ts 0 true = []
  · rw [if_pos hz, if_pos hz] at hab
    rw [if_pos hz]
    refine xw_call (fn := Tryz.f9) rfl Tryz.func9 rfl ⟨Nat.le_of_ble_eq_true rfl, rfl, rfl⟩ ?_
    have Fz:=fz3 Tryz.results9 hlv hab
    repeat'(first|exact trivial|refine go1 ?_|(refine go2 ?_ ?_<;>intro _<;>try(exfalso;omega))|(refine go4 ?_;split<;>((try(exfalso;omega));try refine go3 ?_)))
  · rw [if_neg hz, if_neg hz] at hab
    rw [if_neg hz]
    refine xw_call (fn := Tryz.f9) rfl Tryz.func9 rfl ⟨Nat.le_of_ble_eq_true rfl, rfl, rfl⟩ ?_
    have Fz:=fz3 Tryz.results9 hlv hab
    repeat'(first|exact trivial|refine go1 ?_|(refine go2 ?_ ?_<;>intro _<;>try(exfalso;omega))|(refine go4 ?_;split<;>((try(exfalso;omega));try refine go3 ?_)))
/-- What a cut finds. -/
theorem ct_found {n : Int} {ts : List Tl} {e : Int × Int} (hL : LV n ts) (hm : e ∈ esT ts) :
    ∃ q : Bool, (ts.any fun t => t.2.2 && decide (t.1 = e)) = q ∧ (ctR n ts e).2.2 = (q && decide (Conn (cutE e (esT ts)) e.1 e.2)) ∧
      ((abT (ctR n ts e).1 0 true).length : Int) = (abT ts 0 true).length - (if Conn (cutE e (esT ts)) e.1 e.2 then 0 else 1) := by
  have hV := hL.vg
  obtain ⟨k, l, q, hk, hf, hg, hsp⟩ := find_split hm
  have hces := cut_es hV hsp
  have hct0 : ctR n ts e = if q = true then cutR n e.1 e.2 (l + 1).toNat (ts.take k ++ ts.drop (k + 1)) else (ts.take k ++ ts.drop (k + 1), 0, false) := by
    unfold ctR
    rw [hf]
    simp only [Int.toNat_natCast]
    rw [hg]
  have hLb := hL
  rw [hsp] at hLb
  have hLab : ∀ t ∈ ts.take k ++ ts.drop (k + 1), t.1 ≠ e := fun t ht he => by
    have h1 : t.1 ∈ esT (ts.take k ++ ts.drop (k + 1)) := List.mem_map.2 ⟨t, ht, rfl⟩
    rw [hces, he] at h1
    have h2 := (List.mem_filter.1 h1).2
    simp at h2
  have hany : (ts.any fun t => t.2.2 && decide (t.1 = e)) = q := by
    rw [hsp, List.any_append, List.any_cons]
    have hn : ∀ s : List Tl, (∀ t ∈ s, t ∈ ts.take k ++ ts.drop (k + 1)) → (s.any fun t => t.2.2 && decide (t.1 = e)) = false := fun s hs => by
      rw [Bool.eq_false_iff]
      intro h
      obtain ⟨t, ht, hp⟩ := List.any_eq_true.1 h
      rw [Bool.and_eq_true, decide_eq_true_eq] at hp
      exact hLab t (hs t ht) hp.2
    rw [hn _ fun t ht => List.mem_append_left _ ht, hn _ fun t ht => List.mem_append_right _ ht]
    simp
  refine ⟨q, hany, ?_⟩
  generalize hbs : ts.take k ++ ts.drop (k + 1) = bs at *
  have hcA := abT_mid (p := ts.take k) (r := ts.drop (k + 1)) (e := e) (l := l) (j := 0) (b := q) (f := true)
  rw [← hsp, hbs] at hcA
  cases q with
  | false =>
    rw [hct0, if_neg (by simp)]
    have hab : abT ts 0 true = abT bs 0 true := hcA.2 fun h => by cases h.2 rfl
    have hcn : Conn (cutE e (esT ts)) e.1 e.2 := by
      have h0 : Conn (abT ts 0 false) e.1 e.2 := by
        rw [abT_zero fun t ht => (hL.lv t ht).1]
        exact Conn.edge hm
      have h1 := hL.cn 0 (by omega) (by omega) _ _ h0
      rw [hab] at h1
      rw [← hces]
      exact h1.mono abT_sub_es
    rw [if_pos hcn, hab]
    exact ⟨rfl, by simp⟩
  | true =>
    rw [hct0, if_pos rfl]
    have hMV : MV n bs e.1 e.2 l ∧ 0 ≤ l := by
      have := LV.cutT hLb
      rw [hbs] at this
      exact this
    obtain ⟨hMV, hl0⟩ := hMV
    obtain ⟨c1, c2, c3, c4, -, -⟩ := cutR_spec (n := n) (a := e.1) (b := e.2) (l + 1).toNat (ts := bs) (by rw [show (((l + 1).toNat : Nat) : Int) - 1 = l by omega]; exact hMV)
    have hlen : (abT ts 0 true).length = (abT bs 0 true).length + 1 := by
      have := (hcA.1 ⟨hl0, fun _ => rfl⟩).length_eq
      rw [List.length_cons] at this
      exact this
    rw [← hces]
    by_cases hcn : Conn (esT bs) e.1 e.2
    · have h3 := c3.2 hcn
      rw [h3] at c4 ⊢
      rw [if_pos hcn, decide_eq_true hcn]
      refine ⟨rfl, ?_⟩
      rw [if_pos rfl] at c4
      omega
    · have h3 : (cutR n e.1 e.2 (l + 1).toNat bs).2.2 = false := Bool.eq_false_iff.2 fun h => hcn (c3.1 h)
      rw [h3] at c4 ⊢
      rw [if_neg hcn, decide_eq_false hcn]
      refine ⟨rfl, ?_⟩
      rw [if_neg (by simp)] at c4
      omega
theorem any_snoc {ts : List Tl} {e : Int × Int} {i : Int} (h0 : 0 ≤ i) (h1 : i < ts.length) : ((ts.take (i + 1).toNat).any fun t => t.2.2 && decide (t.1 = e)) = (((ts.take i.toNat).any fun t => t.2.2 && decide (t.1 = e)) || ((ts.getD i.toNat dT).2.2 && decide ((ts.getD i.toNat dT).1 = e))) := by
  rw [take_int dT h0 h1, List.any_append]
  simp
theorem law_CutFound (bs : List Int) (hb : ∀ b ∈ bs, 0 ≤ b ∧ b < 256) : KP 3 [LB bs] [] = some (B true, [], []) := by
  by_cases hbig : (1048576 : Int) < bs.length
  · refine xw_call (fn := Tryz.f3) rfl Tryz.func3 rfl ⟨Nat.le_of_ble_eq_true rfl, rfl, rfl⟩ ?_
    have Fz:=fz1 Tryz.results3
    repeat'(first|exact trivial|refine go1 ?_|(refine go2 ?_ ?_<;>intro _<;>try(exfalso;omega))|(refine go4 ?_;split<;>((try(exfalso;omega));try refine go3 ?_)))
  obtain ⟨n, a, b, es, lv, tr, x, y, z, ⟨hV, h1, h2, h3, fx, fy, fz⟩, hdraw⟩ := c_DrawCutLevel bs hb (by omega)
  have ax := fx.f
  have ay := fy.f
  have az := fz.f
  have bx := fx.fl
  have by' := fy.fl
  have bz := fz.fl
  have hel := hV.2.2.1
  have hd0 : KP 7 [.agg [I 0, .i (.lst []), .i (.lst []), .i (.lst [])], .agg [I 0, .i (.lst []), .i (.lst []), .i (.lst [])]] [] = some (B true, [], []) := c_dyLeveled0
  by_cases hle : lv.length = es.length
  rotate_left
  · have hp := c_CutLevel_few n a b es lv tr hV (by omega) (by omega)
    have hs := c_sCutLevel_few n a b es lv tr hV (by omega) (by omega)
    refine xw_call (fn := Tryz.f3) rfl Tryz.func3 rfl ⟨Nat.le_of_ble_eq_true rfl, rfl, rfl⟩ ?_
    have Fz:=fz11 Tryz.results3 hdraw ax ay az bx by' bz hp hs hd0
    repeat'(first|exact trivial|refine go1 ?_|(refine go2 ?_ ?_<;>intro _<;>try(exfalso;omega))|(refine go4 ?_;split<;>((try(exfalso;omega));try refine go3 ?_)))
  obtain ⟨ts, rfl, rfl, rfl⟩ := rows_of es lv tr hle h1
  by_cases hP : LV n ts ∧ (a, b) ∈ esT ts
  rotate_left
  · have hp := c_CutLevel_no n a b ts hV hP
    have hs := c_sCutLevel_no n a b ts hV hP
    refine xw_call (fn := Tryz.f3) rfl Tryz.func3 rfl ⟨Nat.le_of_ble_eq_true rfl, rfl, rfl⟩ ?_
    have Fz:=fz11 Tryz.results3 hdraw ax ay az bx by' bz hp hs hd0
    repeat'(first|exact trivial|refine go1 ?_|(refine go2 ?_ ?_<;>intro _<;>try(exfalso;omega))|(refine go4 ?_;split<;>((try(exfalso;omega));try refine go3 ?_)))
  obtain ⟨hL, hm⟩ := hP
  obtain ⟨r, own, hp, him⟩ := c_CutLevelL n a b ts hL hm
  obtain ⟨sp, sown, hsh, hs⟩ := c_sCutLevel n a b ts hL hm
  obtain ⟨s1, s2, s3, s4, s5⟩ := ct_spec hL hm
  obtain ⟨q, q1, q2, q3⟩ := ct_found hL hm
  have l1 := esT_len' ts
  have l2 := lvT_len ts
  have l3 := trT_len ts
  have hcy := c_CycleThrough n a b (esT ts) (by omega)
  have hf := c_LevelForestF n ts hL
  have hh := c_LevelForestF n (ctR n ts (a, b)).1 s2
  have e1 := esT_len' (ctR n ts (a, b)).1
  have e2 := lvT_len (ctR n ts (a, b)).1
  have e3 := trT_len (ctR n ts (a, b)).1
  have hd := c_dyLeveled n (esT (ctR n ts (a, b)).1) (lvT (ctR n ts (a, b)).1) (trT (ctR n ts (a, b)).1) (by omega) (by omega) (by omega)
  generalize ctR n ts (a, b) = R at *
  obtain ⟨us, rs, fd⟩ := R
  simp only at hsh hs him hh hd q2 q3 s1 s2 s3 s4 s5 e1 e2 e3
  have hW : ∃ wx wy wz : IV, FV wx ((esT us).map encE) ∧ FV wy ((lvT us).map encI) ∧ FV wz ((trT us).map encT) ∧ imm 2 sown (.tup [sp, I rs, B fd, B true]) = some (.tup [.agg [I n, .i wx, .i wy, .i wz], I rs, B fd, B true]) := by
    have k1 := rkE us
    have k2 := rkL us
    have k3 := rkT us
    have href : sp = refsP n us ∧ sown = refsA us → ∃ wx wy wz : IV, FV wx ((esT us).map encE) ∧ FV wy ((lvT us).map encI) ∧ FV wz ((trT us).map encT) ∧ imm 2 sown (.tup [sp, I rs, B fd, B true]) = some (.tup [.agg [I n, .i wx, .i wy, .i wz], I rs, B fd, B true]) := by
      rintro ⟨rfl, rfl⟩
      refine ⟨_, _, _, FV.lstE _, FV.lstI _, FV.lstT _, ?_⟩
      have t1 : ((esT us).map encE).take us.length = (esT us).map encE := List.take_of_length_le (by simp [esT])
      have t2 : ((lvT us).map encI).take us.length = (lvT us).map encI := List.take_of_length_le (by simp [lvT])
      have t3 : ((trT us).map encT).take us.length = (trT us).map encT := List.take_of_length_le (by simp [trT])
      simp [refsP, refsA, imm, imm1, mapO, t1, t2, t3]
    rcases hsh with ⟨u1, u2⟩ | h
    · unfold cutP at u1
      unfold cutA at u2
      by_cases hz : us = []
      · rw [if_pos hz] at u1 u2
        subst hz u1 u2
        exact ⟨.lst [], .emp, .emp, FV.lstE [], FV.emp, FV.emp, rfl⟩
      · rw [if_neg hz] at u1 u2
        exact href ⟨u1, u2⟩
    · exact href h
  obtain ⟨wx, wy, wz, gx, gy, gz, himW⟩ := hW
  generalize hrr : PV.tup [sp, I rs, B fd, B true] = rr at hs himW
  have c1 := gx.f
  have c2 := gy.f
  have c3 := gz.f
  have d1 := gx.fl
  have d2 := gy.fl
  have d3 := gz.fl
  have hpos : 0 < ts.length := by
    have := List.length_pos_of_mem hm
    omega
  have hxl : x = .lst ((esT ts).map encE) := by
    rcases fx.two with ⟨-, h⟩ | h
    · have := congrArg List.length h; rw [List.length_map, List.length_nil] at this; omega
    · exact h
  have hyl : y = .lst ((lvT ts).map encI) := by
    rcases fy.two with ⟨-, h⟩ | h
    · have := congrArg List.length h; rw [List.length_map, List.length_nil] at this; omega
    · exact h
  have hzl : z = .lst ((trT ts).map encT) := by
    rcases fz.two with ⟨-, h⟩ | h
    · have := congrArg List.length h; rw [List.length_map, List.length_nil] at this; omega
    · exact h
  subst hxl hyl hzl
  clear ax ay az bx by' bz fx fy fz
  have hcv : VG n (esT ts) ∧ (a, b) ∈ esT ts ∧ Conn (cutE (a, b) (esT ts)) a b ↔ Conn (cutE (a, b) (esT ts)) a b := ⟨fun h => h.2.2, fun h => ⟨hV, hm, h⟩⟩
  have hal : (abT ts 0 true).length ≤ 40 := by have := abT_len ts 0 true; omega
  have hal2 : (abT us 0 true).length ≤ 40 := by have := abT_len us 0 true; omega
  have hlq := lenP_qe (es := abT ts 0 true)
  have hlq2 := lenP_qe (es := abT us 0 true)
  have hfq := flat_qe (es := abT ts 0 true)
  have hfq2 := flat_qe (es := abT us 0 true)
  generalize hF : qe (abT ts 0 true) = F at *
  generalize hG : qe (abT us 0 true) = G at *
  generalize (abT ts 0 true).length = nf at *
  generalize (abT us 0 true).length = nh at *
  refine xw_call (fn := Tryz.f3) rfl Tryz.func3 rfl ⟨Nat.le_of_ble_eq_true rfl, rfl, rfl⟩ ?_
  have Fz:=fz13 Tryz.results3 hdraw hp hs him himW c1 c2 c3 d1 d2 d3 hd
  repeat'(first|exact trivial|refine go1 ?_|(refine go2 ?_ ?_<;>intro _<;>try(exfalso;omega))|(refine go4 ?_;split<;>((try(exfalso;omega));try refine go3 ?_)))
  refine xw_loopR (fun (i : Int) s => s.ρ 3 = .ptr 3 0 0 0 ∧ s.m 3 = some (.box 0 [I n, LE (esT ts), LI (lvT ts), LT (trT ts)]) ∧ s.ρ 4 = .ptr 4 0 0 0 ∧ s.m 4 = some (.box 0 [I a, I b]) ∧ s.ρ 5 = .ptr 5 0 0 0 ∧ s.m 5 = some (.box 0 [I n, LE (esT us), LI (lvT us), LT (trT us)]) ∧ s.ρ 7 = B fd ∧ s.ρ 13 = B ((ts.take i.toNat).any fun t => t.2.2 && decide (t.1 = (a, b))) ∧ s.ρ 14 = I i ∧ 0 ≤ i ∧ i ≤ ts.length) (fun i => (ts.length - i).toNat) 0 ?_ ?_
  · refine ⟨?_, ?_, ?_, ?_, ?_, ?_, ?_, ?_, ?_, by omega, by omega⟩
    all_goals first | rfl | (simp [upd]; done)
  rintro i ⟨ρ, m⟩ ⟨e3', m3, e4, m4, e5, m5, e7, e13, e14, g0, g1⟩
  simp only at e3' m3 e4 m4 e5 m5 e7 e13 e14 g0 g1
  by_cases hi : i < ts.length
  · have hge := getTe ts i.toNat (by omega)
    have hgt := getTt ts i.toNat (by omega)
    have hsn := any_snoc (e := (a, b)) g0 hi
    generalize (ts.take i.toNat).any (fun t => t.2.2 && decide (t.1 = (a, b))) = q0 at *
    generalize ts.getD i.toNat dT = t at *
    obtain ⟨⟨c, d⟩, l, u⟩ := t
    simp only at hge hgt hsn
    have hde : decide ((c, d) = (a, b)) = decide (c = a ∧ d = b) := decide_eq_decide.2 (by rw [Prod.mk.injEq])
    rw [hde] at hsn
    cases q0 with
    | true =>
      have Fz:=fz13 Tryz.results3 e3' m3 e4 m4 e5 m5 e7 e13 e14 hi l1 l3
      repeat'(first|exact trivial|refine go1 ?_|(refine go2 ?_ ?_<;>intro _<;>try(exfalso;omega))|(refine go4 ?_;split<;>((try(exfalso;omega));try refine go3 ?_)))
      all_goals first | exact ⟨i + 1, by rw [hsn]; rfl, rfl, by omega, by omega, by omega⟩
    | false =>
      cases u with
      | false =>
        have Fz:=fz14 Tryz.results3 e3' m3 e4 m4 e5 m5 e7 e13 e14 hi l1 l3 hgt
        repeat'(first|exact trivial|refine go1 ?_|(refine go2 ?_ ?_<;>intro _<;>try(exfalso;omega))|(refine go4 ?_;split<;>((try(exfalso;omega));try refine go3 ?_)))
        all_goals first | exact ⟨i + 1, by rw [hsn]; rfl, rfl, by omega, by omega, by omega⟩
      | true =>
        by_cases hcd : c = a ∧ d = b
        · obtain ⟨rfl, rfl⟩ := hcd
          have Fz:=fz15 Tryz.results3 e3' m3 e4 m4 e5 m5 e7 e13 e14 hi l1 l3 hgt hge
          repeat'(first|exact trivial|refine go1 ?_|(refine go2 ?_ ?_<;>intro _<;>try(exfalso;omega))|(refine go4 ?_;split<;>((try(exfalso;omega));try refine go3 ?_)))
          all_goals first | exact ⟨i + 1, by rw [hsn]; simp, rfl, by omega, by omega, by omega⟩
        · have hdf : decide (c = a ∧ d = b) = false := decide_eq_false hcd
          have Fz:=fz16 Tryz.results3 e3' m3 e4 m4 e5 m5 e7 e13 e14 hi l1 l3 hgt hge hdf
          repeat'(first|exact trivial|refine go1 ?_|(refine go2 ?_ ?_<;>intro _<;>try(exfalso;omega))|(refine go4 ?_;split<;>((try(exfalso;omega));try refine go3 ?_)))
          all_goals first | exact ⟨i + 1, by rw [hsn, hdf]; rfl, rfl, by omega, by omega, by omega⟩
  · rw [take_all (by omega), q1] at e13
    by_cases hcn : Conn (cutE (a, b) (esT ts)) a b
    · rw [if_pos (hcv.2 hcn)] at hcy
      rw [decide_eq_true hcn, Bool.and_true] at q2
      rw [if_pos hcn] at q3
      subst q2
      generalize pathL n (cutE (a, b) (esT ts)) a b = pp at *
      have hq3 : (nh : Int) = nf := by omega
      have Fz:=fz21 Tryz.results3 e3' m3 e4 m4 e5 m5 e7 e13 e14 hi l1 l3 hcy hf hh hlq hlq2 hfq hfq2 hq3
      repeat'(first|exact trivial|refine go1 ?_|(refine go2 ?_ ?_<;>intro _<;>try(exfalso;omega))|(refine go4 ?_;split<;>((try(exfalso;omega));try refine go3 ?_)))
      all_goals (exfalso; rename_i u1 u2; cases fd; exact u2 rfl; exact u1 rfl)
    · rw [if_neg (fun h => hcn (hcv.1 h))] at hcy
      rw [decide_eq_false hcn, Bool.and_false] at q2
      rw [if_neg hcn] at q3
      subst q2
      have hq3 : (nh : Int) = nf - 1 := by omega
      have Fz:=fz21 Tryz.results3 e3' m3 e4 m4 e5 m5 e7 e13 e14 hi l1 l3 hcy hf hh hlq hlq2 hfq hfq2 hq3
      repeat'(first|exact trivial|refine go1 ?_|(refine go2 ?_ ?_<;>intro _<;>try(exfalso;omega))|(refine go4 ?_;split<;>((try(exfalso;omega));try refine go3 ?_)))
end Go.Proofs.YtdlfdoicheakoaaGreat.X
