/- The law: putting is undone. -/
import Derived.Test.YtdlfdoicheakoaaKAR
import Derived.Test.YtdlfdoicheakoaaKAO
import Derived.Test.YtdlfdoicheakoaaC10
set_option linter.unusedSimpArgs false
set_option linter.unusedVariables false
set_option maxHeartbeats 16000000
set_option maxRecDepth 100000
namespace Go.Proofs.Ytdlfdoicheakoaa.X
open Go Go.Proofs
/-- An edge that was just put is cut. -/
theorem ct_put {n : Int} {ts : List Tl} {e : Int × Int} (hP : PlOK n ts e) :
    e ∈ esT (plL ts e) ∧ cutE e (esT (plL ts e)) = esT ts ∧ (ctR n (plL ts e) e).2.2 = false ∧ (Conn (esT ts) e.1 e.2 → ctR n (plL ts e) e = (ts, 0, false)) := by
  have hL := hP.1
  have hLp : LV n (plL ts e) := hL.putT hP.2
  have hVp := hLp.vg
  obtain ⟨k, hk1, hk2, hk3⟩ := putT_at hP.2.2.1
  have hsp := hk3 (!decide (Conn (esT ts) e.1 e.2))
  have hes : esT (plL ts e) = putE e (esT ts) := putT_es _ _ _
  have hm : e ∈ esT (plL ts e) := by rw [hes]; exact mem_putE.2 (.inl rfl)
  have hf : findE (esT (plL ts e)) e = k := by rw [hes]; exact hk2
  have hlen := putT_len e (!decide (Conn (esT ts) e.1 e.2)) ts
  have htk : (plL ts e).take k = ts.take k := by
    show (putT e _ ts).take k = _
    rw [hsp, List.take_left' (by rw [List.length_take]; omega)]
  have hdr : (plL ts e).drop (k + 1) = ts.drop k := by
    show (putT e _ ts).drop (k + 1) = _
    rw [hsp, show ts.take k ++ (e, 0, !decide (Conn (esT ts) e.1 e.2)) :: ts.drop k = (ts.take k ++ [(e, 0, !decide (Conn (esT ts) e.1 e.2))]) ++ ts.drop k by simp]
    rw [List.drop_left' (by simp; omega)]
  have hg : (plL ts e).getD k dT = (e, 0, !decide (Conn (esT ts) e.1 e.2)) := by
    show (putT e _ ts).getD k dT = _
    rw [hsp, List.getD_eq_getElem?_getD, List.getElem?_append_right (by rw [List.length_take]; omega)]
    rw [List.length_take, Nat.min_eq_left hk1, Nat.sub_self]
    rfl
  have hct : ctR n (plL ts e) e = if (!decide (Conn (esT ts) e.1 e.2)) = true then cutR n e.1 e.2 1 ts else (ts, 0, false) := by
    unfold ctR
    rw [hf]
    simp only [Int.toNat_natCast]
    rw [hg, htk, hdr, List.take_append_drop]
    rfl
  have hces : cutE e (esT (plL ts e)) = esT ts := by
    have h := cut_es hVp (e := e) (k := k) (l := 0) (q := !decide (Conn (esT ts) e.1 e.2)) (by rw [htk, hdr]; exact hsp)
    rw [← h, htk, hdr, List.take_append_drop]
  refine ⟨hm, hces, ?_, ?_⟩
  · by_cases hc : Conn (esT ts) e.1 e.2
    · rw [hct, if_neg (by simp [hc])]
    · rw [hct, if_pos (by simp [hc])]
      have hLs : LV n (ts.take k ++ (e, 0, true) :: ts.drop k) := by
        have := hLp
        rw [show plL ts e = ts.take k ++ (e, 0, !decide (Conn (esT ts) e.1 e.2)) :: ts.drop k from hsp, decide_eq_false hc] at this
        exact this
      obtain ⟨hMV, -⟩ := LV.cutT hLs
      rw [List.take_append_drop] at hMV
      obtain ⟨-, -, h3, -, -, -⟩ := cutR_spec (n := n) (a := e.1) (b := e.2) 1 (ts := ts) hMV
      rw [Bool.eq_false_iff]
      exact fun q => hc (h3.1 q)
  · intro hc
    rw [hct, if_neg (by simp [hc])]
theorem law_PutCutLevel (bs : List Int) (hb : ∀ b ∈ bs, 0 ≤ b ∧ b < 256) : KP 3 [LB bs] [] = some (B true, [], []) := by
  by_cases hbig : (1048576 : Int) < bs.length
  · refine xw_call (fn := Try.f3) rfl Try.func3 rfl ⟨Nat.le_of_ble_eq_true rfl, rfl, rfl⟩ ?_
    repeat'(first|(refine na ?_;constructor)|(refine ite_two ?_ ?_<;>intro _<;>first|(exfalso;omega)|skip)|refine ord_split (by kernel_rfl) ?_|((first|(refine nb ?_;constructor)|refine pn rfl ?_|refine pe rfl ?_|((first|refine at2 ?_|refine at_cond ?_);split<;>first|(exfalso;omega;done)|skip))<;>try simp(config:={maxSteps:=3000000})(disch:=first|assumption|omega|exact VG.okg (by assumption)|(simp only[List.length_set,List.length_append,List.length_cons,List.length_nil,List.length_replicate];omega))only[go_sem,simprocAttr,Try.results3]))
  obtain ⟨n, a, b, es, lv, tr, x, y, z, ⟨hV, h1, h2, h3, fx, fy, fz⟩, ha, hbn, hdraw⟩ := c_DrawPutLevel bs hb (by omega)
  have ax := fx.f
  have ay := fy.f
  have az := fz.f
  have bx := fx.fl
  have by' := fy.fl
  have bz := fz.fl
  have hel := hV.2.2.1
  have hd0 : KP 8 [.agg [I 0, .i (.lst []), .i (.lst []), .i (.lst [])], .agg [I 0, .i (.lst []), .i (.lst []), .i (.lst [])]] [] = some (B true, [], []) := c_dyLeveled0
  by_cases hle : lv.length = es.length
  rotate_left
  · have hp := c_PutLevel_few n a b es lv tr hV (by omega) (by omega)
    have hs := c_sPutLevel_few n a b es lv tr hV (by omega) (by omega)
    refine xw_call (fn := Try.f3) rfl Try.func3 rfl ⟨Nat.le_of_ble_eq_true rfl, rfl, rfl⟩ ?_
    repeat'(first|(refine na ?_;constructor)|(refine ite_two ?_ ?_<;>intro _<;>first|(exfalso;omega)|skip)|refine ord_split (by kernel_rfl) ?_|((first|(refine nb ?_;constructor)|refine pn rfl ?_|refine pe rfl ?_|((first|refine at2 ?_|refine at_cond ?_);split<;>first|(exfalso;omega;done)|skip))<;>try simp(config:={maxSteps:=3000000})(disch:=first|assumption|omega|exact VG.okg (by assumption)|(simp only[List.length_set,List.length_append,List.length_cons,List.length_nil,List.length_replicate];omega))only[go_sem,simprocAttr,Try.results3, hdraw, ax, ay, az, bx, by', bz, hp, hs, hd0]))
  obtain ⟨ts, rfl, rfl, rfl⟩ := rows_of es lv tr hle h1
  by_cases hP : PlOK n ts (a, b)
  rotate_left
  · have hp := c_PutLevel_no n a b ts hV hP
    have hs := c_sPutLevel_no n a b ts hV hP
    refine xw_call (fn := Try.f3) rfl Try.func3 rfl ⟨Nat.le_of_ble_eq_true rfl, rfl, rfl⟩ ?_
    repeat'(first|(refine na ?_;constructor)|(refine ite_two ?_ ?_<;>intro _<;>first|(exfalso;omega)|skip)|refine ord_split (by kernel_rfl) ?_|((first|(refine nb ?_;constructor)|refine pn rfl ?_|refine pe rfl ?_|((first|refine at2 ?_|refine at_cond ?_);split<;>first|(exfalso;omega;done)|skip))<;>try simp(config:={maxSteps:=3000000})(disch:=first|assumption|omega|exact VG.okg (by assumption)|(simp only[List.length_set,List.length_append,List.length_cons,List.length_nil,List.length_replicate];omega))only[go_sem,simprocAttr,Try.results3, hdraw, ax, ay, az, bx, by', bz, hp, hs, hd0]))
  obtain ⟨r, own, hp, him⟩ := c_PutLevel n a b ts hP
  have hs := c_sPutLevel n a b ts hP
  have hL := hP.1
  have hLp : LV n (plL ts (a, b)) := hL.putT hP.2
  have hVp := hLp.vg
  have hlp := hVp.2.2.1
  have k1 := rkE (plL ts (a, b))
  have k2 := rkL (plL ts (a, b))
  have k3 := rkT (plL ts (a, b))
  have l1 := esT_len' (plL ts (a, b))
  have l2 := lvT_len (plL ts (a, b))
  have l3 := trT_len (plL ts (a, b))
  have m1 := esT_len' ts
  have m2 := lvT_len ts
  have m3 := trT_len ts
  have hd := c_dyLeveled n (esT (plL ts (a, b))) (lvT (plL ts (a, b))) (trT (plL ts (a, b))) (by omega) (by omega) (by omega)
  have hd2 := c_dyLeveled n (esT ts) (lvT ts) (trT ts) (by omega) (by omega) (by omega)
  obtain ⟨c1, c2, c3, c4⟩ := ct_put hP
  obtain ⟨s1, s2, s3, s4, s5⟩ := ct_spec hLp c1
  rw [c2] at s1
  obtain ⟨r2, own2, hc, him2⟩ := c_CutLevelL n a b (plL ts (a, b)) hLp c1
  have hlc := c_LeveledConnected n a b ts hL ha hbn
  generalize plL ts (a, b) = us at *
  by_cases hcn : Conn (esT ts) a b
  · rw [decide_eq_true hcn] at hlc
    rw [c4 hcn] at him2
    refine xw_call (fn := Try.f3) rfl Try.func3 rfl ⟨Nat.le_of_ble_eq_true rfl, rfl, rfl⟩ ?_
    repeat'(first|(refine na ?_;constructor)|(refine ite_two ?_ ?_<;>intro _<;>first|(exfalso;omega)|skip)|refine ord_split (by kernel_rfl) ?_|((first|(refine nb ?_;constructor)|refine pn rfl ?_|refine pe rfl ?_|((first|refine at2 ?_|refine at_cond ?_);split<;>first|(exfalso;omega;done)|skip))<;>try simp(config:={maxSteps:=3000000})(disch:=first|assumption|omega|exact VG.okg (by assumption)|(simp only[List.length_set,List.length_append,List.length_cons,List.length_nil,List.length_replicate];omega))only[go_sem,simprocAttr,Try.results3, hdraw, ax, ay, az, bx, by', bz, hp, hs, him, k1, k2, k3, hd, hc, him2, hlc, hd2]))
  · rw [decide_eq_false hcn] at hlc
    have hlv := c_LevelsValid n (ctR n us (a, b)).1 s2.vg
    rw [decide_eq_true s2] at hlv
    have hgs := c_GraphSame n n (esT (ctR n us (a, b)).1) (esT ts) (by rw [s1]; omega)
    rw [decide_eq_true ⟨rfl, s1⟩] at hgs
    generalize ctR n us (a, b) = R at *
    obtain ⟨vs, rs, fd⟩ := R
    simp only at c3 hlv hgs him2
    subst c3
    refine xw_call (fn := Try.f3) rfl Try.func3 rfl ⟨Nat.le_of_ble_eq_true rfl, rfl, rfl⟩ ?_
    repeat'(first|(refine na ?_;constructor)|(refine ite_two ?_ ?_<;>intro _<;>first|(exfalso;omega)|skip)|refine ord_split (by kernel_rfl) ?_|((first|(refine nb ?_;constructor)|refine pn rfl ?_|refine pe rfl ?_|((first|refine at2 ?_|refine at_cond ?_);split<;>first|(exfalso;omega;done)|skip))<;>try simp(config:={maxSteps:=3000000})(disch:=first|assumption|omega|exact VG.okg (by assumption)|(simp only[List.length_set,List.length_append,List.length_cons,List.length_nil,List.length_replicate];omega))only[go_sem,simprocAttr,Try.results3, hdraw, ax, ay, az, bx, by', bz, hp, hs, him, k1, k2, k3, hd, hc, him2, hlc, hgs, hlv]))
end Go.Proofs.Ytdlfdoicheakoaa.X
