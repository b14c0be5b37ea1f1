/- What functions answer, and the plain laws behind it. -/
import Derived.Test.YtdlfdoicheakoaaGreatKAJ
import Derived.Test.YtdlfdoicheakoaaGreatKAH
import Derived.Test.YtdlfdoicheakoaaGreatKAI
/- What functions compute: whether a graph with levels is valid (the whole). -/
set_option linter.unusedSimpArgs false
set_option linter.unusedVariables false
set_option maxHeartbeats 8000000
set_option maxRecDepth 100000
namespace Go.Proofs.YtdlfdoicheakoaaGreat.X
open Go Go.Proofs
theorem abT_okg {n k : Int} {f : Bool} {ts : List Tl} (hV : VG n (esT ts)) : OKG n (abT ts k f) :=
  ⟨by have := hV.1; omega, hV.2.1, by have h1 := abT_len ts k f; have h2 := hV.2.2.1; rw [esT_len'] at h2; omega, fun e he => hV.2.2.2.1 e (abT_sub_es e he)⟩
noncomputable instance decLV (n : Int) (ts : List Tl) : Decidable (LV n ts) := Classical.propDecidable _
theorem c_LevelsValid (n : Int) (ts : List Tl) (hV : VG n (esT ts)) : KP 14 [LvP n ts] [] = some (B (decide (LV n ts)), [], []) := by
  have l1 := esT_len' ts
  have l2 := lvT_len ts
  have l3 := trT_len ts
  have hn1 := hV.1
  have hn16 := hV.2.1
  have hel := hV.2.2.1
  have hgv := c_GraphValid n (esT ts) (by omega)
  rw [decide_eq_true hV] at hgv
  have hcf := c_containsFuncI clo_LV1 (lvT ts) (fun _ _ => trivial) (by omega)
  have hany : (lvT ts).any (fun x => decide (x < 0) || decide (4 < x)) = !decide (∀ t ∈ ts, 0 ≤ t.2.1 ∧ t.2.1 ≤ 4) := by
    rw [Bool.eq_iff_iff, List.any_eq_true, Bool.not_eq_true', decide_eq_false_iff_not]
    constructor
    · rintro ⟨x, hx, hp⟩ h
      obtain ⟨t, ht, rfl⟩ := List.mem_map.1 hx
      have := h t ht
      rw [Bool.or_eq_true, decide_eq_true_eq, decide_eq_true_eq] at hp
      omega
    · intro h
      refine Classical.byContradiction fun hn => h fun t ht => ?_
      refine Classical.byContradiction fun hb => hn ⟨t.2.1, List.mem_map.2 ⟨t, ht, rfl⟩, ?_⟩
      rw [Bool.or_eq_true, decide_eq_true_eq, decide_eq_true_eq]
      omega
  rw [hany] at hcf
  have hlen : ((lvT ts).length : Int) = (esT ts).length := by omega
  have hlen2 : ((trT ts).length : Int) = (esT ts).length := by omega
  by_cases hb : ∀ t ∈ ts, 0 ≤ t.2.1 ∧ t.2.1 ≤ 4
  rotate_left
  · have hno : ¬ LV n ts := fun h => hb h.lv
    rw [decide_eq_false hno]
    rw [decide_eq_false hb] at hcf
    refine xw_call (fn := Tryz.f14) rfl Tryz.func14 rfl ⟨Nat.le_of_ble_eq_true rfl, rfl, rfl⟩ ?_
    have Fz:=fz5 Tryz.results14 hgv hlen hlen2 hcf
    repeat'(first|exact trivial|refine go1 ?_|(refine go2 ?_ ?_<;>intro _<;>try(exfalso;omega))|(refine go4 ?_;split<;>(try(exfalso;omega);try refine go3 ?_)))
  rw [decide_eq_true hb] at hcf
  refine xw_call (fn := Tryz.f14) rfl Tryz.func14 rfl ⟨Nat.le_of_ble_eq_true rfl, rfl, rfl⟩ ?_
  have Fz:=fz5 Tryz.results14 hgv hlen hlen2 hcf
  repeat'(first|exact trivial|refine go1 ?_|(refine go2 ?_ ?_<;>intro _<;>try(exfalso;omega))|(refine go4 ?_;split<;>(try(exfalso;omega);try refine go3 ?_)))
  refine xw_loopR (fun (k : Int) s => s.m 1 = some (.box 0 [I n, LE (esT ts), LI (lvT ts), LT (trT ts)]) ∧ s.ρ 1 = .ptr 1 0 0 0 ∧ s.ρ 36 = I k ∧ 0 ≤ k ∧ k ≤ 5 ∧ ∀ j : Int, 0 ≤ j → j < k → lvAt n ts j) (fun k => (5 - k).toNat) 0 ?_ ?_
  · exact ⟨rfl, rfl, rfl, by omega, by omega, fun j h0 h1 => by omega⟩
  rintro k ⟨ρ, m⟩ ⟨m1, e1, e36, g0, g1, hj⟩
  simp only at m1 e1 e36 g0 g1 hj
  by_cases hk : k < 5
  rotate_left
  · have hyes : LV n ts := (LV_iff hV).2 ⟨hb, fun j j0 j1 => hj j j0 (by omega)⟩
    rw [decide_eq_true hyes]
    have Fz:=fz4 Tryz.results14 m1 e1 e36
    repeat'(first|exact trivial|refine go1 ?_|(refine go2 ?_ ?_<;>intro _<;>try(exfalso;omega))|(refine go4 ?_;split<;>(try(exfalso;omega);try refine go3 ?_)))
  have ha1 := c_above n k true ts (by omega)
  have ha2 := c_above n k false ts (by omega)
  have hF : OKG n (abT ts k true) := abT_okg hV
  have hA : OKG n (abT ts k false) := abT_okg hV
  have hff := c_forest n (abT ts k true) hF
  have hp1 := c_parts n (abT ts k true) hF
  have hp2 := c_parts n (abT ts k false) hA
  have hll1 := lab_length n (abT ts k true)
  have hll2 := lab_length n (abT ts k false)
  have hfl := (forest_sub hF.ok).length_le
  have htr := tree_forest (n := n) hF.ok
  have hlq1 := lenP_qe (es := forestL (abT ts k true))
  have hlq2 := lenP_qe (es := abT ts k true)
  have heq := c_equalI (lab n (abT ts k true)) (lab n (abT ts k false)) (by omega)
  by_cases hT : Tree n (abT ts k true)
  rotate_left
  · have hno : ¬ LV n ts := fun h => hT (h.ac k g0 (by omega))
    have hne : (forestL (abT ts k true)).length ≠ (abT ts k true).length := fun e => hT (htr.1 e)
    have hlt : ((forestL (abT ts k true)).length : Int) < (abT ts k true).length := by omega
    rw [decide_eq_false hno]
    have Fz:=fz13 Tryz.results14 m1 e1 e36 ha1 ha2 hff hp2 hlq1 hlq2 hlt @frz_qe @flat_qe
    repeat'(first|exact trivial|refine go1 ?_|(refine go2 ?_ ?_<;>intro _<;>try(exfalso;omega))|(refine go4 ?_;split<;>(try(exfalso;omega);try refine go3 ?_)))
  have hte : ((forestL (abT ts k true)).length : Int) = (abT ts k true).length := by have := htr.2 hT; omega
  by_cases hlab : lab n (abT ts k true) = lab n (abT ts k false)
  rotate_left
  · have hno : ¬ LV n ts := fun h => hlab ((LV_iff hV).1 h |>.2 k g0 hk).2.1
    rw [decide_eq_false hno]
    rw [decide_eq_false hlab] at heq
    have Fz:=fz15 Tryz.results14 m1 e1 e36 ha1 ha2 hff hp1 hp2 hlq1 hlq2 hte heq @frz_qe @flat_qe
    repeat'(first|exact trivial|refine go1 ?_|(refine go2 ?_ ?_<;>intro _<;>try(exfalso;omega))|(refine go4 ?_;split<;>(try(exfalso;omega);try refine go3 ?_)))
  rw [decide_eq_true hlab] at heq
  have hcv := c_containsFuncI (clo_LV2 n k ts g0 hk) (cntsL n (lab n (abT ts k false))) (fun _ _ => trivial) (by rw [cntsL_len]; omega)
  have hin : ∀ i, i < (lab n (abT ts k false)).length → inN n ((lab n (abT ts k false)).getD i 0) := fun i hi => by
    have hx : inN n (i : Int) := by unfold inN; omega
    have := lbl_at (es := abT ts k false) hx
    rw [Int.toNat_natCast] at this
    rw [this]; exact (lbl_spec hx).1
  have Fz:=fz15 Tryz.results14 m1 e1 e36 ha1 ha2 hff hp1 hp2 hlq1 hlq2 hte heq @frz_qe @flat_qe
  repeat'(first|exact trivial|refine go1 ?_|(refine go2 ?_ ?_<;>intro _<;>try(exfalso;omega))|(refine go4 ?_;split<;>(try(exfalso;omega);try refine go3 ?_)))
  generalize hls : lab n (abT ts k false) = ls at *
  refine xw_loopR (fun (i : Int) s => s.m 1 = some (.box 0 [I n, LE (esT ts), LI (lvT ts), LT (trT ts)]) ∧ s.ρ 1 = .ptr 1 0 0 0 ∧ s.ρ 36 = I k ∧ s.m 3 = some (.box (nv (m 3)) [I k]) ∧ s.ρ 3 = .ptr 3 (nv (m 3)) 0 0 ∧ s.m 62 = some (.arr (nv (m 62)) 1 ((cntsL n (ls.take i.toNat)).map encI)) ∧ s.ρ 6 = .ref 62 (nv (m 62)) 0 n.toNat ∧ s.ρ 63 = LI ls ∧ s.ρ 64 = I ls.length ∧ s.ρ 65 = I i ∧ 0 ≤ i ∧ i ≤ ls.length) (fun i => (ls.length - i).toNat) 0 ?_ ?_
  · refine ⟨m1, e1, e36, rfl, rfl, ?_, ?_, rfl, rfl, rfl, by omega, by omega⟩
    · show some (Arr.arr (nv (m 62)) 1 ((zI ls.length).map encI)) = some (.arr (nv (m 62)) 1 ((cntsL n []).map encI))
      rw [cntsL_nil, hll2]
    · show PV.ref 62 (nv (m 62)) 0 ls.length = _
      rw [hll2]
  generalize nv (m 3) = v3
  generalize nv (m 62) = v62
  rintro i ⟨ρ, m⟩ ⟨m1, e1, e36, m3, e3, m62, e6, e63, e64, e65, f0, f1⟩
  simp only at m1 e1 e36 m3 e3 m62 e6 e63 e64 e65 f0 f1
  have hcl := cntsL_len n (ls.take i.toNat)
  by_cases hi : i < ls.length
  · have hgi := getI ls i.toNat (by omega)
    have hini := hin i.toNat (by omega)
    have hsn : cntsL n (ls.take (i + 1).toNat) = (cntsL n (ls.take i.toNat)).set (ls.getD i.toNat 0).toNat (gI (cntsL n (ls.take i.toNat)) (ls.getD i.toNat 0) + 1) := by
      rw [take_int 0 f0 hi, cntsL_snoc hini]
    have hbd : 0 ≤ gI (cntsL n (ls.take i.toNat)) (ls.getD i.toNat 0) ∧ gI (cntsL n (ls.take i.toNat)) (ls.getD i.toNat 0) ≤ 1000 := by
      rw [cntsL_get _ hini]
      have := List.length_filter_le (fun y => decide (y = ls.getD i.toNat 0)) (ls.take i.toNat)
      rw [List.length_take] at this
      omega
    generalize ls.getD i.toNat 0 = x at hgi hini hsn hbd
    obtain ⟨x0, x1⟩ := id hini
    have hgx : (cntsL n (ls.take i.toNat)).getD x.toNat 0 = gI (cntsL n (ls.take i.toNat)) x := rfl
    generalize gI (cntsL n (ls.take i.toNat)) x = c at hsn hbd hgx
    have Fz:=fz14 Tryz.results14 m1 e1 e36 m3 e3 m62 e6 e63 e64 e65 hgi hcl hgx
    repeat'(first|exact trivial|refine go1 ?_|(refine go2 ?_ ?_<;>intro _<;>try(exfalso;omega))|(refine go4 ?_;split<;>(try(exfalso;omega);try refine go3 ?_)))
    exact ⟨i + 1, by rw [hsn], rfl, by omega, by omega, by omega⟩
  rw [take_all (by omega)] at m62 hcl
  have htk : (cntsL n ls).take n.toNat = cntsL n ls := List.take_of_length_le (by omega)
  by_cases hs : szOk n k (abT ts k false)
  · have hpf : (cntsL n ls).any (fun x => decide (1 < x) && decide (n / 2 ^ k.toNat < x)) = false := by
      rw [← hls, ← Bool.not_eq_true, szOk_any]; exact fun h => h hs
    rw [hpf] at hcv
    have Fz:=fz14 Tryz.results14 m1 e1 e36 m3 e3 m62 e6 e63 e64 e65 hcl htk hcv
    repeat'(first|exact trivial|refine go1 ?_|(refine go2 ?_ ?_<;>intro _<;>try(exfalso;omega))|(refine go4 ?_;split<;>(try(exfalso;omega);try refine go3 ?_)))
    refine ⟨by omega, by omega, fun j j0 j1 => ?_, by omega⟩
    by_cases e : j = k
    · subst e; exact ⟨hT, hlab.trans hls.symm, hs⟩
    · exact hj j j0 (by omega)
  · have hno : ¬ LV n ts := fun h => hs (h.sz k g0 (by omega))
    have hpf : (cntsL n ls).any (fun x => decide (1 < x) && decide (n / 2 ^ k.toNat < x)) = true := by
      rw [← hls, szOk_any]; exact hs
    rw [hpf] at hcv
    rw [decide_eq_false hno]
    have Fz:=fz14 Tryz.results14 m1 e1 e36 m3 e3 m62 e6 e63 e64 e65 hcl htk hcv
    repeat'(first|exact trivial|refine go1 ?_|(refine go2 ?_ ?_<;>intro _<;>try(exfalso;omega))|(refine go4 ?_;split<;>(try(exfalso;omega);try refine go3 ?_)))
end Go.Proofs.YtdlfdoicheakoaaGreat.X

/- What functions compute: copies of rows of numbers and of truth values, what goes in and out. -/
set_option linter.unusedSimpArgs false
set_option linter.unusedVariables false
set_option maxHeartbeats 8000000
set_option maxRecDepth 100000
namespace Go.Proofs.YtdlfdoicheakoaaGreat.X
open Go Go.Proofs
theorem mapAppT {xs ys : List Bool} : xs.map encT ++ ys.map encT = (xs ++ ys).map encT := by simp
theorem dropT {xs : List Bool} {n : Nat} : (xs.map encT).drop n = (xs.drop n).map encT := by simp
theorem takeTB {xs : List Bool} {n : Nat} : (xs.map encT).take n = (xs.take n).map encT := by simp
theorem encT_map_inj {a b : List Bool} : a.map encT = b.map encT ↔ a = b := by
  refine ⟨fun h => ?_, fun h => by rw [h]⟩
  induction a generalizing b with
  | nil => cases b <;> simp_all
  | cons x a ih =>
    cases b with
    | nil => simp at h
    | cons y b =>
      simp only [List.map_cons, List.cons.injEq, encT, IV.v.injEq, Value.bool.injEq, and_true] at h
      rw [ih h.2, h.1]
theorem lenT_all {us : List Bool} : (us.map encT).all (fun e => e.length == 1) = true := by simp [encT]
attribute [go_sem] mapAppT dropT takeTB encT_map_inj lenT_all
theorem c_cloneI (xs : List Int) (h : xs ≠ []) (hl : xs.length ≤ 1048576) : KP 19 [LI xs] [] = some (.ref 2000 0 0 xs.length, [], [.arr 0 1 (xs.map encI)]) := by
  have hp : primC cfg 19 [LI xs] [] = none := by
    cases xs with
    | nil => exact absurd rfl h
    | cons e r => rfl
  have hm : xs.map encI ≠ [] := by simpa using h
  refine xw_call (fn := Tryz.f19) hp Tryz.func19 rfl ⟨Nat.le_of_ble_eq_true rfl, rfl, rfl⟩ ?_
  have Fz:=fz2 Tryz.results19 hm
  repeat'(first|exact trivial|refine go1 ?_|(refine go2 ?_ ?_<;>intro _<;>try(exfalso;omega))|(refine go4 ?_;split<;>(try(exfalso;omega);try refine go3 ?_)))
theorem c_cloneT (xs : List Bool) (h : xs ≠ []) (hl : xs.length ≤ 1048576) : KP 21 [LT xs] [] = some (.ref 2000 0 0 xs.length, [], [.arr 0 1 (xs.map encT)]) := by
  have hp : primC cfg 21 [LT xs] [] = none := by
    cases xs with
    | nil => exact absurd rfl h
    | cons e r => rfl
  have hm : xs.map encT ≠ [] := by simpa using h
  refine xw_call (fn := Tryz.f21) hp Tryz.func21 rfl ⟨Nat.le_of_ble_eq_true rfl, rfl, rfl⟩ ?_
  have Fz:=fz2 Tryz.results21 hm
  repeat'(first|exact trivial|refine go1 ?_|(refine go2 ?_ ?_<;>intro _<;>try(exfalso;omega))|(refine go4 ?_;split<;>(try(exfalso;omega);try refine go3 ?_)))
theorem del_eq {α : Type} {xs : List α} {d : α} {i : Int} (h0 : 0 ≤ i) (hi : i < xs.length) :
    List.take (xs.length - 1) (List.take i.toNat xs ++ List.drop (i + 1).toNat xs ++ List.drop (xs.length - 1) xs) ++ [d] ++ List.drop (xs.length - 1 + 1) (List.take i.toNat xs ++ List.drop (i + 1).toNat xs ++ List.drop (xs.length - 1) xs) = List.take i.toNat xs ++ List.drop (i.toNat + 1) xs ++ [d] := by
  have e : (i + 1).toNat = i.toNat + 1 := by omega
  rw [e]
  have hA : (List.take i.toNat xs ++ List.drop (i.toNat + 1) xs).length = xs.length - 1 := by simp; omega
  have h2 : List.drop (xs.length - 1 + 1) (List.take i.toNat xs ++ List.drop (i.toNat + 1) xs ++ List.drop (xs.length - 1) xs) = [] := List.drop_eq_nil_of_le (by rw [List.length_append, hA]; simp; omega)
  rw [List.take_left' hA, h2, List.append_nil]
theorem c_delI (xs : List Int) (i : Int) (hl : xs.length ≤ 1000) (h0 : 0 ≤ i) (hi : i < xs.length) :
    KP 18 [.ref 1000 0 0 xs.length, I i, I (i + 1)] [.arr 0 1 (xs.map encI)] = some (.ref 1000 0 0 (xs.length - 1), [.arr 0 1 ((xs.take i.toNat ++ xs.drop (i.toNat + 1) ++ [0]).map encI)], []) := by
  have hb : (i.toNat == xs.length) = false := by simp; omega
  have htk : List.take (xs.length - (i + 1).toNat) (List.drop (i + 1).toNat xs) = List.drop (i + 1).toNat xs := List.take_of_length_le (by simp)
  have hsum : i.toNat + (List.drop (i + 1).toNat xs).length = xs.length - 1 := by simp; omega
  have hle : (↑xs.length : Int) ≤ ↑((List.take i.toNat xs).length + (List.drop (i + 1).toNat xs).length + (List.drop (xs.length - 1) xs).length) := by simp; omega
  have h1 : xs.length - (xs.length - 1) = 1 := by omega
  refine xw_call (fn := Tryz.f18) rfl Tryz.func18 rfl ⟨Nat.le_of_ble_eq_true rfl, rfl, rfl⟩ ?_
  have Fz:=fz6 Tryz.results18 hb htk hsum hle h1
  repeat'(first|exact trivial|refine go1 ?_|(refine go2 ?_ ?_<;>intro _<;>try(exfalso;omega))|(refine go4 ?_;split<;>(try(exfalso;omega);try refine go3 ?_)))
  rw [del_eq h0 hi]
theorem c_delT (xs : List Bool) (i : Int) (hl : xs.length ≤ 1000) (h0 : 0 ≤ i) (hi : i < xs.length) :
    KP 20 [.ref 1000 0 0 xs.length, I i, I (i + 1)] [.arr 0 1 (xs.map encT)] = some (.ref 1000 0 0 (xs.length - 1), [.arr 0 1 ((xs.take i.toNat ++ xs.drop (i.toNat + 1) ++ [false]).map encT)], []) := by
  have hb : (i.toNat == xs.length) = false := by simp; omega
  have htk : List.take (xs.length - (i + 1).toNat) (List.drop (i + 1).toNat xs) = List.drop (i + 1).toNat xs := List.take_of_length_le (by simp)
  have hsum : i.toNat + (List.drop (i + 1).toNat xs).length = xs.length - 1 := by simp; omega
  have hle : (↑xs.length : Int) ≤ ↑((List.take i.toNat xs).length + (List.drop (i + 1).toNat xs).length + (List.drop (xs.length - 1) xs).length) := by simp; omega
  have h1 : xs.length - (xs.length - 1) = 1 := by omega
  refine xw_call (fn := Tryz.f20) rfl Tryz.func20 rfl ⟨Nat.le_of_ble_eq_true rfl, rfl, rfl⟩ ?_
  have Fz:=fz6 Tryz.results20 hb htk hsum hle h1
  repeat'(first|exact trivial|refine go1 ?_|(refine go2 ?_ ?_<;>intro _<;>try(exfalso;omega))|(refine go4 ?_;split<;>(try(exfalso;omega);try refine go3 ?_)))
  rw [del_eq h0 hi]
end Go.Proofs.YtdlfdoicheakoaaGreat.X

/- What functions compute: an edge is looked for that takes the place of another one. -/
set_option linter.unusedSimpArgs false
set_option linter.unusedVariables false
set_option maxHeartbeats 16000000
set_option maxRecDepth 100000
namespace Go.Proofs.YtdlfdoicheakoaaGreat.X
open Go Go.Proofs
/-- How many labels are a number. -/
def cntI (ls : List Int) (x : Int) : Int := ((ls.filter fun y => decide (y = x)).length : Int)
theorem cntI_len (ls : List Int) (x : Int) : 0 ≤ cntI ls x ∧ cntI ls x ≤ ls.length := by
  unfold cntI
  have := List.length_filter_le (fun y => decide (y = x)) ls
  omega
theorem cntI_snoc {ls : List Int} {x : Int} {i : Int} (h0 : 0 ≤ i) (h1 : i < ls.length) : cntI (ls.take (i + 1).toNat) x = cntI (ls.take i.toNat) x + if ls.getD i.toNat 0 = x then 1 else 0 := by
  unfold cntI
  rw [take_int 0 h0 h1, List.filter_append, List.length_append]
  generalize ls.getD i.toNat 0 = y
  by_cases h : y = x
  · simp [h]
  · simp [h]
theorem cntI_lab {n : Int} {es : List (Int × Int)} {x : Int} (hx : inN n x) : cntI (lab n es) (lbl es x) = szC n es x := by
  have h1 := cnts_lbl (es := es) hx
  rw [cntsL_get _ (lbl_spec hx).1] at h1
  exact h1
theorem c_replace1 (ls : List Int) (x : Int) (hl : ls.length ≤ 1000) : KP 46 [I x, .i (.eptr [.lst (ls.map encI)] 0)] [] = some (I (cntI ls x), [], []) := by
  refine xw_call (fn := Tryz.f46) rfl Tryz.func46 rfl ⟨Nat.le_of_ble_eq_true rfl, rfl, rfl⟩ ?_
  have Fz:=fz1 Tryz.results46
  repeat'(first|exact trivial|refine go1 ?_|(refine go2 ?_ ?_<;>intro _<;>try(exfalso;omega))|(refine go4 ?_;split<;>(try(exfalso;omega);try refine go3 ?_)))
  refine xw_loopR (fun (i : Int) s => s.ρ 0 = I x ∧ s.ρ 4 = I (cntI (ls.take i.toNat) x) ∧ s.ρ 7 = LI ls ∧ s.ρ 8 = I (ls.length : Int) ∧ s.ρ 9 = I i ∧ 0 ≤ i ∧ i ≤ ls.length) (fun i => (ls.length - i).toNat) 0 ⟨rfl, rfl, rfl, rfl, rfl, by omega, by omega⟩ ?_
  rintro i ⟨ρ, m⟩ ⟨e0, e4, e7, e8, e9, g0, g1⟩
  simp only at e0 e4 e7 e8 e9 g0 g1
  have hcl := cntI_len (ls.take i.toNat) x
  rw [List.length_take] at hcl
  by_cases hi : i < ls.length
  rotate_left
  · rw [take_all (by omega)] at e4
    have Fz:=fz6 Tryz.results46 e0 e4 e7 e8 e9
    repeat'(first|exact trivial|refine go1 ?_|(refine go2 ?_ ?_<;>intro _<;>try(exfalso;omega))|(refine go4 ?_;split<;>(try(exfalso;omega);try refine go3 ?_)))
  have hgi := getI ls i.toNat (by omega)
  have hsn := cntI_snoc (x := x) g0 hi
  generalize ls.getD i.toNat 0 = y at *
  generalize cntI (ls.take i.toNat) x = c at *
  by_cases hq : y = x
  · rw [if_pos hq] at hsn
    have Fz:=fz8 Tryz.results46 e0 e4 e7 e8 e9 hgi hq
    repeat'(first|exact trivial|refine go1 ?_|(refine go2 ?_ ?_<;>intro _<;>try(exfalso;omega))|(refine go4 ?_;split<;>(try(exfalso;omega);try refine go3 ?_)))
    exact ⟨i + 1, by rw [hsn], rfl, by omega, by omega, by omega⟩
  · rw [if_neg hq] at hsn
    have Fz:=fz8 Tryz.results46 e0 e4 e7 e8 e9 hgi hq
    repeat'(first|exact trivial|refine go1 ?_|(refine go2 ?_ ?_<;>intro _<;>try(exfalso;omega))|(refine go4 ?_;split<;>(try(exfalso;omega);try refine go3 ?_)))
    exact ⟨i + 1, by rw [hsn]; omega, rfl, by omega, by omega, by omega⟩
def mxT (f : Tl → Tl) (ts : List Tl) (i : Nat) : List Tl := (ts.take i).map f ++ ts.drop i
theorem mxT_len (f : Tl → Tl) (ts : List Tl) (i : Nat) : (mxT f ts i).length = ts.length := by
  unfold mxT
  rw [List.length_append, List.length_map, List.length_take, List.length_drop]; omega
theorem mxT_get {f : Tl → Tl} {ts : List Tl} {i : Nat} (h : i < ts.length) : (mxT f ts i).getD i dT = ts.getD i dT := by
  unfold mxT
  have hl : ((ts.take i).map f).length = i := by rw [List.length_map, List.length_take]; omega
  simp only [List.getD]
  rw [List.getElem?_append_right (by omega), hl, Nat.sub_self, List.getElem?_drop, Nat.add_zero]
theorem mxT_next {f : Tl → Tl} {ts : List Tl} {i : Nat} (h : i < ts.length) : mxT f ts (i + 1) = (mxT f ts i).set i (f (ts.getD i dT)) := by
  unfold mxT
  have hl : ((ts.take i).map f).length = i := by rw [List.length_map, List.length_take]; omega
  have hg : ts.getD i dT = ts[i] := by simp [List.getD, h]
  rw [List.set_append_right _ _ (by omega), hl, Nat.sub_self, List.drop_eq_getElem_cons h, List.set_cons_zero, List.take_add_one, List.getElem?_eq_getElem h, hg, Option.toList_some, List.map_append, List.append_assoc]
  rfl
theorem lvT_set (ts : List Tl) (i : Nat) (t : Tl) : lvT (ts.set i t) = (lvT ts).set i t.2.1 := by simp [lvT, List.map_set]
theorem set_self {α : Type} {l : List α} {i : Nat} {d : α} (h : i < l.length) : l.set i (l.getD i d) = l := by
  simp [List.getD, h]
theorem lvT_get {ts : List Tl} {i : Nat} (h : i < ts.length) : (lvT ts).getD i 0 = (ts.getD i dT).2.1 := by simp [lvT, h]
theorem trT_get {ts : List Tl} {i : Nat} (h : i < ts.length) : (trT ts).getD i false = (ts.getD i dT).2.2 := by simp [trT, h]
theorem get_app {α : Type} {l r : List α} {i : Nat} {d : α} (h : i < l.length) : (l ++ r).getD i d = l.getD i d := by simp [List.getD, List.getElem?_append_left h]
theorem set_app {α : Type} {l r : List α} {i : Nat} {x : α} (h : i < l.length) : (l ++ r).set i x = l.set i x ++ r := List.set_append_left _ _ h
theorem tail_getI {A x0 : List Int} {i : Nat} {v : Int} (h : i < A.length) (hv : A.getD i 0 = v) : ((A ++ x0).map encI)[i]? = some [.v (.int .i64 v)] := by
  have := getI (A ++ x0) i (by rw [List.length_append]; omega)
  rw [get_app h, hv] at this
  exact this
theorem tail_getT {A x0 : List Bool} {i : Nat} {v : Bool} (h : i < A.length) (hv : A.getD i false = v) : ((A ++ x0).map encT)[i]? = some [.v (.bool v)] := by
  have := getT (A ++ x0) i (by rw [List.length_append]; omega)
  rw [get_app h, hv] at this
  exact this
theorem lvT_mid {D r : List Tl} {t : Tl} : lvT (D ++ t :: r) = lvT D ++ t.2.1 :: lvT r := by simp [lvT]
theorem trT_mid {D r : List Tl} {t : Tl} : trT (D ++ t :: r) = trT D ++ t.2.2 :: trT r := by simp [trT]
theorem mid_set {α : Type} {D r : List α} {x v : α} {i : Nat} (h : D.length = i) : (D ++ x :: r).set i v = D ++ v :: r := by
  subst h
  rw [List.set_append_right _ _ (Nat.le_refl _), Nat.sub_self]; rfl
theorem mid_get {α : Type} {D r : List α} {x d : α} {i : Nat} (h : D.length = i) : (D ++ x :: r).getD i d = x := by
  subst h; simp
section
variable {S : Int → Prop} [DecidablePred S] {k : Int}
theorem up1_tr (t : Tl) : (up1 S k t).2.2 = t.2.2 := by unfold up1; split <;> rfl
theorem up1_es (t : Tl) : (up1 S k t).1 = t.1 := by unfold up1; split <;> rfl
theorem upc_snoc {ts : List Tl} {i : Int} (h0 : 0 ≤ i) (h1 : i < ts.length) : (((ts.take (i + 1).toNat).filter fun t => decide (t.2.2 = true ∧ t.2.1 = k ∧ S t.1.1 ∧ S t.1.2)).length : Int) = ((ts.take i.toNat).filter fun t => decide (t.2.2 = true ∧ t.2.1 = k ∧ S t.1.1 ∧ S t.1.2)).length + if (ts.getD i.toNat dT).2.2 = true ∧ (ts.getD i.toNat dT).2.1 = k ∧ S (ts.getD i.toNat dT).1.1 ∧ S (ts.getD i.toNat dT).1.2 then 1 else 0 := by
  rw [take_int dT h0 h1, List.filter_append, List.length_append]
  generalize ts.getD i.toNat dT = t
  by_cases h : t.2.2 = true ∧ t.2.1 = k ∧ S t.1.1 ∧ S t.1.2
  · rw [if_pos h, List.filter_cons, if_pos (by simpa using h)]; simp
  · rw [if_neg h, List.filter_cons, if_neg (by simpa using h)]; simp
theorem scanT_skip {t : Tl} {r : List Tl} (h : t.2.2 = true ∨ t.2.1 ≠ k ∨ (¬ S t.1.1 ∧ ¬ S t.1.2)) : scanT S k (t :: r) = (t :: (scanT S k r).1, (scanT S k r).2) := by rw [scanT, if_pos h]
theorem scanT_both {t : Tl} {r : List Tl} (h1 : t.2.2 = false) (h2 : t.2.1 = k) (h3 : S t.1.1 ∧ S t.1.2) : scanT S k (t :: r) = (raT t :: (scanT S k r).1, (scanT S k r).2.1 + 1, (scanT S k r).2.2) := by
  rw [scanT, if_neg (by simp [h1, h2]; exact fun h => absurd h3.1 h), if_pos h3]
theorem scanT_hit {t : Tl} {r : List Tl} (h1 : t.2.2 = false) (h2 : t.2.1 = k) (h3 : ¬ (S t.1.1 ∧ S t.1.2)) (h4 : ¬ (¬ S t.1.1 ∧ ¬ S t.1.2)) : scanT S k (t :: r) = ((t.1, t.2.1, true) :: r, 0, true) := by
  rw [scanT, if_neg (by rw [h1]; simp only [Bool.false_eq_true, false_or]; exact fun h => h.elim (fun h => h h2) h4), if_neg h3]
end
theorem flatP_q {n : Nat} {xs : List (Int × Int)} : flatP n (qP xs) = true := by unfold qP; split <;> cases n <;> rfl
theorem flatA_q {xs : List (Int × Int)} : (qA xs).all flatA = true := by
  unfold qA
  split
  · rfl
  · simp [flatA, encE, flatIV]
attribute [go_sem] flatP_q flatA_q
end Go.Proofs.YtdlfdoicheakoaaGreat.X
