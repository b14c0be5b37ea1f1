/- What functions answer, and the plain laws behind it. -/
import Derived.Test.YtdlfdoicheakoaaKAH
import Derived.Test.YtdlfdoicheakoaaKAF
import Derived.Test.YtdlfdoicheakoaaKAG
/- What functions compute: whether a graph with levels is valid (the whole). -/
set_option linter.unusedSimpArgs false
set_option linter.unusedVariables false
set_option maxHeartbeats 8000000
set_option maxRecDepth 100000
namespace Go.Proofs.Ytdlfdoicheakoaa.X
open Go Go.Proofs
theorem abT_okg {n k : Int} {f : Bool} {ts : List Tl} (hV : VG n (esT ts)) : OKG n (abT ts k f) :=
  ⟨by have := hV.1; omega, hV.2.1, by have h1 := abT_len ts k f; have h2 := hV.2.2.1; rw [esT_len'] at h2; omega, fun e he => hV.2.2.2.1 e (abT_sub_es e he)⟩
noncomputable instance decLV (n : Int) (ts : List Tl) : Decidable (LV n ts) := Classical.propDecidable _
theorem c_LevelsValid (n : Int) (ts : List Tl) (hV : VG n (esT ts)) : KP 12 [LvP n ts] [] = some (B (decide (LV n ts)), [], []) := by
  have l1 := esT_len' ts
  have l2 := lvT_len ts
  have l3 := trT_len ts
  have hn1 := hV.1
  have hn16 := hV.2.1
  have hel := hV.2.2.1
  have hgv := c_GraphValid n (esT ts) (by omega)
  rw [decide_eq_true hV] at hgv
  have hcf := c_containsFuncI clo_LV1 (lvT ts) (fun _ _ => trivial) (by omega)
  have hany : (lvT ts).any (fun x => decide (x < 0) || decide (4 < x)) = !decide (∀ t ∈ ts, 0 ≤ t.2.1 ∧ t.2.1 ≤ 4) := by
    rw [Bool.eq_iff_iff, List.any_eq_true, Bool.not_eq_true', decide_eq_false_iff_not]
    constructor
    · rintro ⟨x, hx, hp⟩ h
      obtain ⟨t, ht, rfl⟩ := List.mem_map.1 hx
      have := h t ht
      rw [Bool.or_eq_true, decide_eq_true_eq, decide_eq_true_eq] at hp
      omega
    · intro h
      refine Classical.byContradiction fun hn => h fun t ht => ?_
      refine Classical.byContradiction fun hb => hn ⟨t.2.1, List.mem_map.2 ⟨t, ht, rfl⟩, ?_⟩
      rw [Bool.or_eq_true, decide_eq_true_eq, decide_eq_true_eq]
      omega
  rw [hany] at hcf
  have hlen : ((lvT ts).length : Int) = (esT ts).length := by omega
  have hlen2 : ((trT ts).length : Int) = (esT ts).length := by omega
  by_cases hb : ∀ t ∈ ts, 0 ≤ t.2.1 ∧ t.2.1 ≤ 4
  rotate_left
  · have hno : ¬ LV n ts := fun h => hb h.lv
    rw [decide_eq_false hno]
    rw [decide_eq_false hb] at hcf
    refine xw_call (fn := Try.f12) rfl Try.func12 rfl ⟨Nat.le_of_ble_eq_true rfl, rfl, rfl⟩ ?_
    repeat'(first|(refine na ?_;constructor)|(refine ite_two ?_ ?_<;>intro _<;>first|(exfalso;omega)|skip)|refine ord_split (by kernel_rfl) ?_|((first|(refine nb ?_;constructor)|refine pn rfl ?_|refine pe rfl ?_|((first|refine at2 ?_|refine at_cond ?_);split<;>first|(exfalso;omega;done)|skip))<;>try simp(config:={maxSteps:=3000000})(disch:=first|assumption|omega|exact VG.okg (by assumption)|(simp only[List.length_set,List.length_append,List.length_cons,List.length_nil,List.length_replicate];omega))only[go_sem,simprocAttr,Try.results12, hgv, hlen, hlen2, hcf]))
  rw [decide_eq_true hb] at hcf
  refine xw_call (fn := Try.f12) rfl Try.func12 rfl ⟨Nat.le_of_ble_eq_true rfl, rfl, rfl⟩ ?_
  repeat'(first|(refine na ?_;constructor)|(refine ite_two ?_ ?_<;>intro _<;>first|(exfalso;omega)|skip)|refine ord_split (by kernel_rfl) ?_|((first|(refine nb ?_;constructor)|refine pn rfl ?_|refine pe rfl ?_|((first|refine at2 ?_|refine at_cond ?_);split<;>first|(exfalso;omega;done)|skip))<;>try simp(config:={maxSteps:=3000000})(disch:=first|assumption|omega|exact VG.okg (by assumption)|(simp only[List.length_set,List.length_append,List.length_cons,List.length_nil,List.length_replicate];omega))only[go_sem,simprocAttr,Try.results12, hgv, hlen, hlen2, hcf]))
  refine xw_loopR (fun (k : Int) s => s.m 1 = some (.box 0 [I n, LE (esT ts), LI (lvT ts), LT (trT ts)]) ∧ s.ρ 1 = .ptr 1 0 0 0 ∧ s.ρ 36 = I k ∧ 0 ≤ k ∧ k ≤ 5 ∧ ∀ j : Int, 0 ≤ j → j < k → lvAt n ts j) (fun k => (5 - k).toNat) 0 ?_ ?_
  · exact ⟨rfl, rfl, rfl, by omega, by omega, fun j h0 h1 => by omega⟩
  rintro k ⟨ρ, m⟩ ⟨m1, e1, e36, g0, g1, hj⟩
  simp only at m1 e1 e36 g0 g1 hj
  by_cases hk : k < 5
  rotate_left
  · have hyes : LV n ts := (LV_iff hV).2 ⟨hb, fun j j0 j1 => hj j j0 (by omega)⟩
    rw [decide_eq_true hyes]
    repeat'(first|(refine na ?_;constructor)|(refine ite_two ?_ ?_<;>intro _<;>first|(exfalso;omega)|skip)|refine ord_split (by kernel_rfl) ?_|((first|(refine nb ?_;constructor)|refine pn rfl ?_|refine pe rfl ?_|((first|refine at2 ?_|refine at_cond ?_);split<;>first|(exfalso;omega;done)|skip))<;>try simp(config:={maxSteps:=3000000})(disch:=first|assumption|omega|exact VG.okg (by assumption)|(simp only[List.length_set,List.length_append,List.length_cons,List.length_nil,List.length_replicate];omega))only[go_sem,simprocAttr,Try.results12, m1, e1, e36]))
  have ha1 := c_above n k true ts (by omega)
  have ha2 := c_above n k false ts (by omega)
  have hF : OKG n (abT ts k true) := abT_okg hV
  have hA : OKG n (abT ts k false) := abT_okg hV
  have hff := c_forest n (abT ts k true) hF
  have hp1 := c_parts n (abT ts k true) hF
  have hp2 := c_parts n (abT ts k false) hA
  have hll1 := lab_length n (abT ts k true)
  have hll2 := lab_length n (abT ts k false)
  have hfl := (forest_sub hF.ok).length_le
  have htr := tree_forest (n := n) hF.ok
  have hlq1 := lenP_qe (es := forestL (abT ts k true))
  have hlq2 := lenP_qe (es := abT ts k true)
  have heq := c_equalI (lab n (abT ts k true)) (lab n (abT ts k false)) (by omega)
  by_cases hT : Tree n (abT ts k true)
  rotate_left
  · have hno : ¬ LV n ts := fun h => hT (h.ac k g0 (by omega))
    have hne : (forestL (abT ts k true)).length ≠ (abT ts k true).length := fun e => hT (htr.1 e)
    have hlt : ((forestL (abT ts k true)).length : Int) < (abT ts k true).length := by omega
    rw [decide_eq_false hno]
    repeat'(first|(refine na ?_;constructor)|(refine ite_two ?_ ?_<;>intro _<;>first|(exfalso;omega)|skip)|refine ord_split (by kernel_rfl) ?_|((first|(refine nb ?_;constructor)|refine pn rfl ?_|refine pe rfl ?_|((first|refine at2 ?_|refine at_cond ?_);split<;>first|(exfalso;omega;done)|skip))<;>try simp(config:={maxSteps:=3000000})(disch:=first|assumption|omega|exact VG.okg (by assumption)|(simp only[List.length_set,List.length_append,List.length_cons,List.length_nil,List.length_replicate];omega))only[go_sem,simprocAttr,Try.results12, m1, e1, e36, ha1, ha2, hff, hp2, hlq1, hlq2, hlt, frz_qe, flat_qe]))
  have hte : ((forestL (abT ts k true)).length : Int) = (abT ts k true).length := by have := htr.2 hT; omega
  by_cases hlab : lab n (abT ts k true) = lab n (abT ts k false)
  rotate_left
  · have hno : ¬ LV n ts := fun h => hlab ((LV_iff hV).1 h |>.2 k g0 hk).2.1
    rw [decide_eq_false hno]
    rw [decide_eq_false hlab] at heq
    repeat'(first|(refine na ?_;constructor)|(refine ite_two ?_ ?_<;>intro _<;>first|(exfalso;omega)|skip)|refine ord_split (by kernel_rfl) ?_|((first|(refine nb ?_;constructor)|refine pn rfl ?_|refine pe rfl ?_|((first|refine at2 ?_|refine at_cond ?_);split<;>first|(exfalso;omega;done)|skip))<;>try simp(config:={maxSteps:=3000000})(disch:=first|assumption|omega|exact VG.okg (by assumption)|(simp only[List.length_set,List.length_append,List.length_cons,List.length_nil,List.length_replicate];omega))only[go_sem,simprocAttr,Try.results12, m1, e1, e36, ha1, ha2, hff, hp1, hp2, hlq1, hlq2, hte, heq, frz_qe, flat_qe]))
  rw [decide_eq_true hlab] at heq
  have hcv := c_containsFuncI (clo_LV2 n k ts g0 hk) (cntsL n (lab n (abT ts k false))) (fun _ _ => trivial) (by rw [cntsL_len]; omega)
  have hin : ∀ i, i < (lab n (abT ts k false)).length → inN n ((lab n (abT ts k false)).getD i 0) := fun i hi => by
    have hx : inN n (i : Int) := by unfold inN; omega
    have := lbl_at (es := abT ts k false) hx
    rw [Int.toNat_natCast] at this
    rw [this]; exact (lbl_spec hx).1
  repeat'(first|(refine na ?_;constructor)|(refine ite_two ?_ ?_<;>intro _<;>first|(exfalso;omega)|skip)|refine ord_split (by kernel_rfl) ?_|((first|(refine nb ?_;constructor)|refine pn rfl ?_|refine pe rfl ?_|((first|refine at2 ?_|refine at_cond ?_);split<;>first|(exfalso;omega;done)|skip))<;>try simp(config:={maxSteps:=3000000})(disch:=first|assumption|omega|exact VG.okg (by assumption)|(simp only[List.length_set,List.length_append,List.length_cons,List.length_nil,List.length_replicate];omega))only[go_sem,simprocAttr,Try.results12, m1, e1, e36, ha1, ha2, hff, hp1, hp2, hlq1, hlq2, hte, heq, frz_qe, flat_qe]))
  generalize hls : lab n (abT ts k false) = ls at *
  refine xw_loopR (fun (i : Int) s => s.m 1 = some (.box 0 [I n, LE (esT ts), LI (lvT ts), LT (trT ts)]) ∧ s.ρ 1 = .ptr 1 0 0 0 ∧ s.ρ 36 = I k ∧ s.m 3 = some (.box (nv (m 3)) [I k]) ∧ s.ρ 3 = .ptr 3 (nv (m 3)) 0 0 ∧ s.m 62 = some (.arr (nv (m 62)) 1 ((cntsL n (ls.take i.toNat)).map encI)) ∧ s.ρ 6 = .ref 62 (nv (m 62)) 0 n.toNat ∧ s.ρ 63 = LI ls ∧ s.ρ 64 = I ls.length ∧ s.ρ 65 = I i ∧ 0 ≤ i ∧ i ≤ ls.length) (fun i => (ls.length - i).toNat) 0 ?_ ?_
  · refine ⟨m1, e1, e36, rfl, rfl, ?_, ?_, rfl, rfl, rfl, by omega, by omega⟩
    · show some (Arr.arr (nv (m 62)) 1 ((zI ls.length).map encI)) = some (.arr (nv (m 62)) 1 ((cntsL n []).map encI))
      rw [cntsL_nil, hll2]
    · show PV.ref 62 (nv (m 62)) 0 ls.length = _
      rw [hll2]
  generalize nv (m 3) = v3
  generalize nv (m 62) = v62
  rintro i ⟨ρ, m⟩ ⟨m1, e1, e36, m3, e3, m62, e6, e63, e64, e65, f0, f1⟩
  simp only at m1 e1 e36 m3 e3 m62 e6 e63 e64 e65 f0 f1
  have hcl := cntsL_len n (ls.take i.toNat)
  by_cases hi : i < ls.length
  · have hgi := getI ls i.toNat (by omega)
    have hini := hin i.toNat (by omega)
    have hsn : cntsL n (ls.take (i + 1).toNat) = (cntsL n (ls.take i.toNat)).set (ls.getD i.toNat 0).toNat (gI (cntsL n (ls.take i.toNat)) (ls.getD i.toNat 0) + 1) := by
      rw [take_int 0 f0 hi, cntsL_snoc hini]
    have hbd : 0 ≤ gI (cntsL n (ls.take i.toNat)) (ls.getD i.toNat 0) ∧ gI (cntsL n (ls.take i.toNat)) (ls.getD i.toNat 0) ≤ 1000 := by
      rw [cntsL_get _ hini]
      have := List.length_filter_le (fun y => decide (y = ls.getD i.toNat 0)) (ls.take i.toNat)
      rw [List.length_take] at this
      omega
    generalize ls.getD i.toNat 0 = x at hgi hini hsn hbd
    obtain ⟨x0, x1⟩ := id hini
    have hgx : (cntsL n (ls.take i.toNat)).getD x.toNat 0 = gI (cntsL n (ls.take i.toNat)) x := rfl
    generalize gI (cntsL n (ls.take i.toNat)) x = c at hsn hbd hgx
    repeat'(first|(refine na ?_;constructor)|(refine ite_two ?_ ?_<;>intro _<;>first|(exfalso;omega)|skip)|refine ord_split (by kernel_rfl) ?_|((first|(refine nb ?_;constructor)|refine pn rfl ?_|refine pe rfl ?_|((first|refine at2 ?_|refine at_cond ?_);split<;>first|(exfalso;omega;done)|skip))<;>try simp(config:={maxSteps:=3000000})(disch:=first|assumption|omega|exact VG.okg (by assumption)|(simp only[List.length_set,List.length_append,List.length_cons,List.length_nil,List.length_replicate];omega))only[go_sem,simprocAttr,Try.results12, m1, e1, e36, m3, e3, m62, e6, e63, e64, e65, hgi, hcl, hgx]))
    exact ⟨i + 1, by rw [hsn], rfl, by omega, by omega, by omega⟩
  rw [take_all (by omega)] at m62 hcl
  have htk : (cntsL n ls).take n.toNat = cntsL n ls := List.take_of_length_le (by omega)
  by_cases hs : szOk n k (abT ts k false)
  · have hpf : (cntsL n ls).any (fun x => decide (1 < x) && decide (n / 2 ^ k.toNat < x)) = false := by
      rw [← hls, ← Bool.not_eq_true, szOk_any]; exact fun h => h hs
    rw [hpf] at hcv
    repeat'(first|(refine na ?_;constructor)|(refine ite_two ?_ ?_<;>intro _<;>first|(exfalso;omega)|skip)|refine ord_split (by kernel_rfl) ?_|((first|(refine nb ?_;constructor)|refine pn rfl ?_|refine pe rfl ?_|((first|refine at2 ?_|refine at_cond ?_);split<;>first|(exfalso;omega;done)|skip))<;>try simp(config:={maxSteps:=3000000})(disch:=first|assumption|omega|exact VG.okg (by assumption)|(simp only[List.length_set,List.length_append,List.length_cons,List.length_nil,List.length_replicate];omega))only[go_sem,simprocAttr,Try.results12, m1, e1, e36, m3, e3, m62, e6, e63, e64, e65, hcl, htk, hcv]))
    refine ⟨by omega, by omega, fun j j0 j1 => ?_, by omega⟩
    by_cases e : j = k
    · subst e; exact ⟨hT, hlab.trans hls.symm, hs⟩
    · exact hj j j0 (by omega)
  · have hno : ¬ LV n ts := fun h => hs (h.sz k g0 (by omega))
    have hpf : (cntsL n ls).any (fun x => decide (1 < x) && decide (n / 2 ^ k.toNat < x)) = true := by
      rw [← hls, szOk_any]; exact hs
    rw [hpf] at hcv
    rw [decide_eq_false hno]
    repeat'(first|(refine na ?_;constructor)|(refine ite_two ?_ ?_<;>intro _<;>first|(exfalso;omega)|skip)|refine ord_split (by kernel_rfl) ?_|((first|(refine nb ?_;constructor)|refine pn rfl ?_|refine pe rfl ?_|((first|refine at2 ?_|refine at_cond ?_);split<;>first|(exfalso;omega;done)|skip))<;>try simp(config:={maxSteps:=3000000})(disch:=first|assumption|omega|exact VG.okg (by assumption)|(simp only[List.length_set,List.length_append,List.length_cons,List.length_nil,List.length_replicate];omega))only[go_sem,simprocAttr,Try.results12, m1, e1, e36, m3, e3, m62, e6, e63, e64, e65, hcl, htk, hcv]))
end Go.Proofs.Ytdlfdoicheakoaa.X

/- What functions compute: copies of rows of numbers and of truth values, what goes in and out. -/
set_option linter.unusedSimpArgs false
set_option linter.unusedVariables false
set_option maxHeartbeats 8000000
set_option maxRecDepth 100000
namespace Go.Proofs.Ytdlfdoicheakoaa.X
open Go Go.Proofs
theorem mapAppT {xs ys : List Bool} : xs.map encT ++ ys.map encT = (xs ++ ys).map encT := by simp
theorem dropT {xs : List Bool} {n : Nat} : (xs.map encT).drop n = (xs.drop n).map encT := by simp
theorem takeTB {xs : List Bool} {n : Nat} : (xs.map encT).take n = (xs.take n).map encT := by simp
theorem encT_map_inj {a b : List Bool} : a.map encT = b.map encT ↔ a = b := by
  refine ⟨fun h => ?_, fun h => by rw [h]⟩
  induction a generalizing b with
  | nil => cases b <;> simp_all
  | cons x a ih =>
    cases b with
    | nil => simp at h
    | cons y b =>
      simp only [List.map_cons, List.cons.injEq, encT, IV.v.injEq, Value.bool.injEq, and_true] at h
      rw [ih h.2, h.1]
theorem lenT_all {us : List Bool} : (us.map encT).all (fun e => e.length == 1) = true := by simp [encT]
attribute [go_sem] mapAppT dropT takeTB encT_map_inj lenT_all
@[go_sem] theorem c_cloneI0 : KP 29 [.i (.lst [])] [] = some (.i .emp, [], []) := KK_prim rfl rfl
theorem c_cloneI (xs : List Int) (h : xs ≠ []) (hl : xs.length ≤ 1048576) : KP 29 [LI xs] [] = some (.ref 2000 0 0 xs.length, [], [.arr 0 1 (xs.map encI)]) := by
  have hp : primC cfg 29 [LI xs] [] = none := by
    cases xs with
    | nil => exact absurd rfl h
    | cons e r => rfl
  have hm : xs.map encI ≠ [] := by simpa using h
  refine xw_call (fn := Try.f29) hp Try.func29 rfl ⟨Nat.le_of_ble_eq_true rfl, rfl, rfl⟩ ?_
  repeat'(first|(refine na ?_;constructor)|(refine ite_two ?_ ?_<;>intro _<;>first|(exfalso;omega)|skip)|refine ord_split (by kernel_rfl) ?_|((first|(refine nb ?_;constructor)|refine pn rfl ?_|refine pe rfl ?_|((first|refine at2 ?_|refine at_cond ?_);split<;>first|(exfalso;omega;done)|skip))<;>try simp(config:={maxSteps:=3000000})(disch:=first|assumption|omega|exact VG.okg (by assumption)|(simp only[List.length_set,List.length_append,List.length_cons,List.length_nil,List.length_replicate];omega))only[go_sem,simprocAttr,Try.results29, hm]))
@[go_sem] theorem c_cloneT0 : KP 31 [.i (.lst [])] [] = some (.i .emp, [], []) := KK_prim rfl rfl
theorem c_cloneT (xs : List Bool) (h : xs ≠ []) (hl : xs.length ≤ 1048576) : KP 31 [LT xs] [] = some (.ref 2000 0 0 xs.length, [], [.arr 0 1 (xs.map encT)]) := by
  have hp : primC cfg 31 [LT xs] [] = none := by
    cases xs with
    | nil => exact absurd rfl h
    | cons e r => rfl
  have hm : xs.map encT ≠ [] := by simpa using h
  refine xw_call (fn := Try.f31) hp Try.func31 rfl ⟨Nat.le_of_ble_eq_true rfl, rfl, rfl⟩ ?_
  repeat'(first|(refine na ?_;constructor)|(refine ite_two ?_ ?_<;>intro _<;>first|(exfalso;omega)|skip)|refine ord_split (by kernel_rfl) ?_|((first|(refine nb ?_;constructor)|refine pn rfl ?_|refine pe rfl ?_|((first|refine at2 ?_|refine at_cond ?_);split<;>first|(exfalso;omega;done)|skip))<;>try simp(config:={maxSteps:=3000000})(disch:=first|assumption|omega|exact VG.okg (by assumption)|(simp only[List.length_set,List.length_append,List.length_cons,List.length_nil,List.length_replicate];omega))only[go_sem,simprocAttr,Try.results31, hm]))
theorem c_insI (xs : List Int) (x k : Int) (hl : xs.length ≤ 1000) (h0 : 0 ≤ k) (hk : k < xs.length) :
    KP 28 [.ref 1000 0 0 xs.length, I k, .ref 1001 0 0 1] [.arr 0 1 (xs.map encI), .arr 0 1 [[.v (.int .i64 x)]]] = some (.ref 1000 1 0 (xs.length + 1), [.arr 1 1 ((xs.take k.toNat ++ x :: xs.drop k.toNat).map encI), .arr 0 1 [[.v (.int .i64 x)]]], []) := by
  refine KK_prim rfl ?_
  have : xs.length ≤ 1000000 := by omega
  simp [insP, h0, hk, this, encI]
theorem c_insI_end (xs : List Int) (x : Int) (hl : xs.length ≤ 1000) :
    KP 28 [.ref 1000 0 0 xs.length, I xs.length, .ref 1001 0 0 1] [.arr 0 1 (xs.map encI), .arr 0 1 [[.v (.int .i64 x)]]] = some (.ref 1000 1 0 (xs.length + 1), [.arr 1 1 ((xs ++ [x]).map encI), .arr 0 1 [[.v (.int .i64 x)]]], []) := by
  have hp : primC cfg 28 [.ref 1000 0 0 xs.length, I xs.length, .ref 1001 0 0 1] [.arr 0 1 (xs.map encI), .arr 0 1 [[.v (.int .i64 x)]]] = none := by
    first | rfl | simp [primC, cfg, insP]
  refine xw_call (fn := Try.f28) hp Try.func28 rfl ⟨Nat.le_of_ble_eq_true rfl, rfl, rfl⟩ ?_
  repeat'(first|(refine na ?_;constructor)|(refine ite_two ?_ ?_<;>intro _<;>first|(exfalso;omega)|skip)|refine ord_split (by kernel_rfl) ?_|((first|(refine nb ?_;constructor)|refine pn rfl ?_|refine pe rfl ?_|((first|refine at2 ?_|refine at_cond ?_);split<;>first|(exfalso;omega;done)|skip))<;>try simp(config:={maxSteps:=3000000})(disch:=first|assumption|omega|exact VG.okg (by assumption)|(simp only[List.length_set,List.length_append,List.length_cons,List.length_nil,List.length_replicate];omega))only[go_sem,simprocAttr,Try.results28]))
theorem c_insI_nil (x : Int) :
    KP 28 [.i .emp, I 0, .ref 1000 0 0 1] [.arr 0 1 [[.v (.int .i64 x)]]] = some (.ref 2000 0 0 1, [.arr 0 1 [[.v (.int .i64 x)]]], [.arr 0 1 [[.v (.int .i64 x)]]]) := by
  have hp : primC cfg 28 [.i .emp, I 0, .ref 1000 0 0 1] [.arr 0 1 [[.v (.int .i64 x)]]] = none := by
    first | rfl | simp [primC, cfg, insP]
  refine xw_call (fn := Try.f28) hp Try.func28 rfl ⟨Nat.le_of_ble_eq_true rfl, rfl, rfl⟩ ?_
  repeat'(first|(refine na ?_;constructor)|(refine ite_two ?_ ?_<;>intro _<;>first|(exfalso;omega)|skip)|refine ord_split (by kernel_rfl) ?_|((first|(refine nb ?_;constructor)|refine pn rfl ?_|refine pe rfl ?_|((first|refine at2 ?_|refine at_cond ?_);split<;>first|(exfalso;omega;done)|skip))<;>try simp(config:={maxSteps:=3000000})(disch:=first|assumption|omega|exact VG.okg (by assumption)|(simp only[List.length_set,List.length_append,List.length_cons,List.length_nil,List.length_replicate];omega))only[go_sem,simprocAttr,Try.results28]))
theorem c_insT (xs : List Bool) (x : Bool) (k : Int) (hl : xs.length ≤ 1000) (h0 : 0 ≤ k) (hk : k < xs.length) :
    KP 30 [.ref 1000 0 0 xs.length, I k, .ref 1001 0 0 1] [.arr 0 1 (xs.map encT), .arr 0 1 [[.v (.bool x)]]] = some (.ref 1000 1 0 (xs.length + 1), [.arr 1 1 ((xs.take k.toNat ++ x :: xs.drop k.toNat).map encT), .arr 0 1 [[.v (.bool x)]]], []) := by
  refine KK_prim rfl ?_
  have : xs.length ≤ 1000000 := by omega
  simp [insP, h0, hk, this, encT]
theorem c_insT_end (xs : List Bool) (x : Bool) (hl : xs.length ≤ 1000) :
    KP 30 [.ref 1000 0 0 xs.length, I xs.length, .ref 1001 0 0 1] [.arr 0 1 (xs.map encT), .arr 0 1 [[.v (.bool x)]]] = some (.ref 1000 1 0 (xs.length + 1), [.arr 1 1 ((xs ++ [x]).map encT), .arr 0 1 [[.v (.bool x)]]], []) := by
  have hp : primC cfg 30 [.ref 1000 0 0 xs.length, I xs.length, .ref 1001 0 0 1] [.arr 0 1 (xs.map encT), .arr 0 1 [[.v (.bool x)]]] = none := by
    first | rfl | simp [primC, cfg, insP]
  refine xw_call (fn := Try.f30) hp Try.func30 rfl ⟨Nat.le_of_ble_eq_true rfl, rfl, rfl⟩ ?_
  repeat'(first|(refine na ?_;constructor)|(refine ite_two ?_ ?_<;>intro _<;>first|(exfalso;omega)|skip)|refine ord_split (by kernel_rfl) ?_|((first|(refine nb ?_;constructor)|refine pn rfl ?_|refine pe rfl ?_|((first|refine at2 ?_|refine at_cond ?_);split<;>first|(exfalso;omega;done)|skip))<;>try simp(config:={maxSteps:=3000000})(disch:=first|assumption|omega|exact VG.okg (by assumption)|(simp only[List.length_set,List.length_append,List.length_cons,List.length_nil,List.length_replicate];omega))only[go_sem,simprocAttr,Try.results30]))
theorem c_insT_nil (x : Bool) :
    KP 30 [.i .emp, I 0, .ref 1000 0 0 1] [.arr 0 1 [[.v (.bool x)]]] = some (.ref 2000 0 0 1, [.arr 0 1 [[.v (.bool x)]]], [.arr 0 1 [[.v (.bool x)]]]) := by
  have hp : primC cfg 30 [.i .emp, I 0, .ref 1000 0 0 1] [.arr 0 1 [[.v (.bool x)]]] = none := by
    first | rfl | simp [primC, cfg, insP]
  refine xw_call (fn := Try.f30) hp Try.func30 rfl ⟨Nat.le_of_ble_eq_true rfl, rfl, rfl⟩ ?_
  repeat'(first|(refine na ?_;constructor)|(refine ite_two ?_ ?_<;>intro _<;>first|(exfalso;omega)|skip)|refine ord_split (by kernel_rfl) ?_|((first|(refine nb ?_;constructor)|refine pn rfl ?_|refine pe rfl ?_|((first|refine at2 ?_|refine at_cond ?_);split<;>first|(exfalso;omega;done)|skip))<;>try simp(config:={maxSteps:=3000000})(disch:=first|assumption|omega|exact VG.okg (by assumption)|(simp only[List.length_set,List.length_append,List.length_cons,List.length_nil,List.length_replicate];omega))only[go_sem,simprocAttr,Try.results30]))
theorem del_eq {α : Type} {xs : List α} {d : α} {i : Int} (h0 : 0 ≤ i) (hi : i < xs.length) :
    List.take (xs.length - 1) (List.take i.toNat xs ++ List.drop (i + 1).toNat xs ++ List.drop (xs.length - 1) xs) ++ [d] ++ List.drop (xs.length - 1 + 1) (List.take i.toNat xs ++ List.drop (i + 1).toNat xs ++ List.drop (xs.length - 1) xs) = List.take i.toNat xs ++ List.drop (i.toNat + 1) xs ++ [d] := by
  have e : (i + 1).toNat = i.toNat + 1 := by omega
  rw [e]
  have hA : (List.take i.toNat xs ++ List.drop (i.toNat + 1) xs).length = xs.length - 1 := by simp; omega
  have h2 : List.drop (xs.length - 1 + 1) (List.take i.toNat xs ++ List.drop (i.toNat + 1) xs ++ List.drop (xs.length - 1) xs) = [] := List.drop_eq_nil_of_le (by rw [List.length_append, hA]; simp; omega)
  rw [List.take_left' hA, h2, List.append_nil]
theorem c_delI (xs : List Int) (i : Int) (hl : xs.length ≤ 1000) (h0 : 0 ≤ i) (hi : i < xs.length) :
    KP 40 [.ref 1000 0 0 xs.length, I i, I (i + 1)] [.arr 0 1 (xs.map encI)] = some (.ref 1000 0 0 (xs.length - 1), [.arr 0 1 ((xs.take i.toNat ++ xs.drop (i.toNat + 1) ++ [0]).map encI)], []) := by
  have hb : (i.toNat == xs.length) = false := by simp; omega
  have htk : List.take (xs.length - (i + 1).toNat) (List.drop (i + 1).toNat xs) = List.drop (i + 1).toNat xs := List.take_of_length_le (by simp)
  have hsum : i.toNat + (List.drop (i + 1).toNat xs).length = xs.length - 1 := by simp; omega
  have hle : (↑xs.length : Int) ≤ ↑((List.take i.toNat xs).length + (List.drop (i + 1).toNat xs).length + (List.drop (xs.length - 1) xs).length) := by simp; omega
  have h1 : xs.length - (xs.length - 1) = 1 := by omega
  refine xw_call (fn := Try.f40) rfl Try.func40 rfl ⟨Nat.le_of_ble_eq_true rfl, rfl, rfl⟩ ?_
  repeat'(first|(refine na ?_;constructor)|(refine ite_two ?_ ?_<;>intro _<;>first|(exfalso;omega)|skip)|refine ord_split (by kernel_rfl) ?_|((first|(refine nb ?_;constructor)|refine pn rfl ?_|refine pe rfl ?_|((first|refine at2 ?_|refine at_cond ?_);split<;>first|(exfalso;omega;done)|skip))<;>try simp(config:={maxSteps:=3000000})(disch:=first|assumption|omega|exact VG.okg (by assumption)|(simp only[List.length_set,List.length_append,List.length_cons,List.length_nil,List.length_replicate];omega))only[go_sem,simprocAttr,Try.results40, hb, htk, hsum, hle, h1]))
  rw [del_eq h0 hi]
theorem c_delT (xs : List Bool) (i : Int) (hl : xs.length ≤ 1000) (h0 : 0 ≤ i) (hi : i < xs.length) :
    KP 41 [.ref 1000 0 0 xs.length, I i, I (i + 1)] [.arr 0 1 (xs.map encT)] = some (.ref 1000 0 0 (xs.length - 1), [.arr 0 1 ((xs.take i.toNat ++ xs.drop (i.toNat + 1) ++ [false]).map encT)], []) := by
  have hb : (i.toNat == xs.length) = false := by simp; omega
  have htk : List.take (xs.length - (i + 1).toNat) (List.drop (i + 1).toNat xs) = List.drop (i + 1).toNat xs := List.take_of_length_le (by simp)
  have hsum : i.toNat + (List.drop (i + 1).toNat xs).length = xs.length - 1 := by simp; omega
  have hle : (↑xs.length : Int) ≤ ↑((List.take i.toNat xs).length + (List.drop (i + 1).toNat xs).length + (List.drop (xs.length - 1) xs).length) := by simp; omega
  have h1 : xs.length - (xs.length - 1) = 1 := by omega
  refine xw_call (fn := Try.f41) rfl Try.func41 rfl ⟨Nat.le_of_ble_eq_true rfl, rfl, rfl⟩ ?_
  repeat'(first|(refine na ?_;constructor)|(refine ite_two ?_ ?_<;>intro _<;>first|(exfalso;omega)|skip)|refine ord_split (by kernel_rfl) ?_|((first|(refine nb ?_;constructor)|refine pn rfl ?_|refine pe rfl ?_|((first|refine at2 ?_|refine at_cond ?_);split<;>first|(exfalso;omega;done)|skip))<;>try simp(config:={maxSteps:=3000000})(disch:=first|assumption|omega|exact VG.okg (by assumption)|(simp only[List.length_set,List.length_append,List.length_cons,List.length_nil,List.length_replicate];omega))only[go_sem,simprocAttr,Try.results41, hb, htk, hsum, hle, h1]))
  rw [del_eq h0 hi]
end Go.Proofs.Ytdlfdoicheakoaa.X
