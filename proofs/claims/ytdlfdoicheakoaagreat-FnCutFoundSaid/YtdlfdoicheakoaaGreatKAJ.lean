/- What functions answer, and the plain laws behind it. -/
import Derived.Test.YtdlfdoicheakoaaGreatKAE
import Derived.Test.YtdlfdoicheakoaaGreatKAH
import Derived.Test.YtdlfdoicheakoaaGreatKAI
import Derived.Test.YtdlfdoicheakoaaGreatM23
import Derived.Test.YtdlfdoicheakoaaGreatKAG
/- What functions compute: graphs with levels, whether they are valid. -/
set_option linter.unusedSimpArgs false
set_option linter.unusedVariables false
set_option maxHeartbeats 8000000
set_option maxRecDepth 100000
namespace Go.Proofs.YtdlfdoicheakoaaGreat.X
open Go Go.Proofs
def lvT (ts : List Tl) : List Int := ts.map (·.2.1)
def trT (ts : List Tl) : List Bool := ts.map (·.2.2)
abbrev LvP (n : Int) (ts : List Tl) : PV := .agg [I n, LE (esT ts), LI (lvT ts), LT (trT ts)]
theorem esT_len' (ts : List Tl) : (esT ts).length = ts.length := by simp [esT]
theorem lvT_len (ts : List Tl) : (lvT ts).length = ts.length := by simp [lvT]
theorem trT_len (ts : List Tl) : (trT ts).length = ts.length := by simp [trT]
abbrev dT : Tl := ((0, 0), 0, false)
theorem getTe (ts : List Tl) (i : Nat) (h : i < ts.length) : ((esT ts).map encE)[i]? = some [.v (.int .i64 (ts.getD i dT).1.1), .v (.int .i64 (ts.getD i dT).1.2)] := by simp [esT, encE, h]
theorem getTl (ts : List Tl) (i : Nat) (h : i < ts.length) : ((lvT ts).map encI)[i]? = some [.v (.int .i64 (ts.getD i dT).2.1)] := by simp [lvT, encI, h]
theorem getTt (ts : List Tl) (i : Nat) (h : i < ts.length) : ((trT ts).map encT)[i]? = some [.v (.bool (ts.getD i dT).2.2)] := by simp [trT, encT, h]
theorem abT_snoc {ts : List Tl} {i k : Int} {f : Bool} (h0 : 0 ≤ i) (h1 : i < ts.length) : abT (ts.take (i + 1).toNat) k f = abT (ts.take i.toNat) k f ++ if abP k f (ts.getD i.toNat dT) = true then [(ts.getD i.toNat dT).1] else [] := by
  rw [take_int dT h0 h1, abT_split]
  simp [abT]
theorem abT_len (ts : List Tl) (k : Int) (f : Bool) : (abT ts k f).length ≤ ts.length := by
  unfold abT
  rw [List.length_map]; exact List.length_filter_le _ _
theorem c_above (n k : Int) (f : Bool) (ts : List Tl) (hl : ts.length ≤ 1000) : KP 31 [LvP n ts, I k, B f] [] = some (.agg [I n, qP (abT ts k f)], [], qA (abT ts k f)) := by
  have l1 := esT_len' ts
  have l2 := lvT_len ts
  have l3 := trT_len ts
  refine xw_call (fn := Tryz.f31) rfl Tryz.func31 rfl ⟨Nat.le_of_ble_eq_true rfl, rfl, rfl⟩ ?_
  have Fz:=fz1 Tryz.results31
  repeat'(first|exact trivial|refine go1 ?_|(refine go2 ?_ ?_<;>intro _<;>try(exfalso;omega))|(refine go4 ?_;split<;>(try(exfalso;omega);try refine go3 ?_)))
  refine xw_loopR (fun (x : Int × Nat × List (Int × Int)) s => s.m 3 = some (.box 0 [I n, LE (esT ts), LI (lvT ts), LT (trT ts)]) ∧ s.ρ 3 = .ptr 3 0 0 0 ∧ s.ρ 6 = .ptr 6 0 0 0 ∧ s.m 6 = some (.box 0 [I 0, .i .emp]) ∧ s.ρ 7 = .ptr 7 0 0 0 ∧ s.m 7 = some (.box 0 [I n, fP 45 x.2.1 x.2.2]) ∧ (x.2.2 ≠ [] → s.m 45 = some (.arr x.2.1 2 (x.2.2.map encE))) ∧
    s.ρ 16 = LE (esT ts) ∧ s.ρ 17 = I ts.length ∧ s.ρ 18 = I x.1 ∧ s.ρ 1 = I k ∧ s.ρ 2 = B f ∧ 0 ≤ x.1 ∧ x.1 ≤ ts.length ∧ x.2.2 = abT (ts.take x.1.toNat) k f) (fun x => (ts.length - x.1).toNat) (0, 0, []) ?_ ?_
  · exact ⟨rfl, rfl, rfl, rfl, rfl, rfl, fun h => absurd rfl h, rfl, by simp [upd, l1], rfl, rfl, rfl, by simp, by simp, rfl⟩
  rintro ⟨i, w, xs⟩ ⟨ρ, m⟩ ⟨m3, e3, e6, m6, e7, m7, m45, e16, e17, e18, e1, e2, g0, g1, hx⟩
  simp only at m3 e3 e6 m6 e7 m7 m45 e16 e17 e18 e1 e2 g0 g1 hx
  by_cases hi : i < ts.length
  rotate_left
  · have hxe : abT ts k f = xs := by rw [hx, take_all (by omega)]
    rw [hxe]
    unfold qP qA
    by_cases hn : xs = []
    · have m7' : m 7 = some (.box 0 [I n, .i .emp]) := by rw [m7, fP, if_pos hn]
      rw [if_pos hn, if_pos hn]
      have Fz:=fz12 Tryz.results31 m3 e3 e6 m6 e7 m7' e16 e17 e18 e1 e2
      repeat'(first|exact trivial|refine go1 ?_|(refine go2 ?_ ?_<;>intro _<;>try(exfalso;omega))|(refine go4 ?_;split<;>(try(exfalso;omega);try refine go3 ?_)))
    · have m7' : m 7 = some (.box 0 [I n, .ref 45 w 0 xs.length]) := by rw [m7, fP, if_neg hn]
      have m45' := m45 hn
      rw [if_neg hn, if_neg hn]
      have Fz:=fz13 Tryz.results31 m3 e3 e6 m6 e7 m7' m45' e16 e17 e18 e1 e2
      repeat'(first|exact trivial|refine go1 ?_|(refine go2 ?_ ?_<;>intro _<;>try(exfalso;omega))|(refine go4 ?_;split<;>(try(exfalso;omega);try refine go3 ?_)))
  have hE := getTe ts i.toNat (by omega)
  have hL := getTl ts i.toNat (by omega)
  have hT := getTt ts i.toNat (by omega)
  have hsn := abT_snoc (k := k) (f := f) g0 hi
  have hxl : xs.length ≤ ts.length := by rw [hx]; have := abT_len (ts.take i.toNat) k f; rw [List.length_take] at this; omega
  rw [← hx] at hsn
  generalize ts.getD i.toNat dT = t at hE hL hT hsn
  obtain ⟨⟨a, b⟩, l, q⟩ := t
  simp only at hE hL hT hsn
  have hdec : abP k f ((a, b), l, q) = (decide (k ≤ l) && (!f || q)) := rfl
  rw [hdec] at hsn
  by_cases hk : k ≤ l
  · have hkd := decide_eq_true hk
    by_cases hfq : (!f || q) = true
    · rw [hkd, hfq] at hsn
      simp only [Bool.and_self, if_true] at hsn
      by_cases hn : xs = []
      · subst hn
        have m7' : m 7 = some (.box 0 [I n, .i .emp]) := m7
        cases f <;> cases q
        · have Fz:=fz15 Tryz.results31 m3 e3 e6 m6 e7 m7' e16 e17 e18 e1 e2 hE hL hT
          repeat'(first|exact trivial|refine go1 ?_|(refine go2 ?_ ?_<;>intro _<;>try(exfalso;omega))|(refine go4 ?_;split<;>(try(exfalso;omega);try refine go3 ?_)))
          exact ⟨i + 1, _, [(a, b)], rfl, fun _ => ⟨rfl, by simp [encE]⟩, rfl, by omega, by omega, by rw [hsn]; rfl, by omega⟩
        · have Fz:=fz15 Tryz.results31 m3 e3 e6 m6 e7 m7' e16 e17 e18 e1 e2 hE hL hT
          repeat'(first|exact trivial|refine go1 ?_|(refine go2 ?_ ?_<;>intro _<;>try(exfalso;omega))|(refine go4 ?_;split<;>(try(exfalso;omega);try refine go3 ?_)))
          exact ⟨i + 1, _, [(a, b)], rfl, fun _ => ⟨rfl, by simp [encE]⟩, rfl, by omega, by omega, by rw [hsn]; rfl, by omega⟩
        · cases hfq
        · have Fz:=fz15 Tryz.results31 m3 e3 e6 m6 e7 m7' e16 e17 e18 e1 e2 hE hL hT
          repeat'(first|exact trivial|refine go1 ?_|(refine go2 ?_ ?_<;>intro _<;>try(exfalso;omega))|(refine go4 ?_;split<;>(try(exfalso;omega);try refine go3 ?_)))
          exact ⟨i + 1, _, [(a, b)], rfl, fun _ => ⟨rfl, by simp [encE]⟩, rfl, by omega, by omega, by rw [hsn]; rfl, by omega⟩
      · have m7' : m 7 = some (.box 0 [I n, .ref 45 w 0 xs.length]) := by rw [m7, fP, if_neg hn]
        have m45' := m45 hn
        cases f <;> cases q
        · have Fz:=fz16 Tryz.results31 m3 e3 e6 m6 e7 m7' m45' e16 e17 e18 e1 e2 hE hL hT
          repeat'(first|exact trivial|refine go1 ?_|(refine go2 ?_ ?_<;>intro _<;>try(exfalso;omega))|(refine go4 ?_;split<;>(try(exfalso;omega);try refine go3 ?_)))
          exact ⟨i + 1, w + 1, xs ++ [(a, b)], by rw [fP, if_neg (by simp)]; simp, fun _ => ⟨rfl, rfl⟩, rfl, by omega, by omega, hsn.symm, by omega⟩
        · have Fz:=fz16 Tryz.results31 m3 e3 e6 m6 e7 m7' m45' e16 e17 e18 e1 e2 hE hL hT
          repeat'(first|exact trivial|refine go1 ?_|(refine go2 ?_ ?_<;>intro _<;>try(exfalso;omega))|(refine go4 ?_;split<;>(try(exfalso;omega);try refine go3 ?_)))
          exact ⟨i + 1, w + 1, xs ++ [(a, b)], by rw [fP, if_neg (by simp)]; simp, fun _ => ⟨rfl, rfl⟩, rfl, by omega, by omega, hsn.symm, by omega⟩
        · cases hfq
        · have Fz:=fz16 Tryz.results31 m3 e3 e6 m6 e7 m7' m45' e16 e17 e18 e1 e2 hE hL hT
          repeat'(first|exact trivial|refine go1 ?_|(refine go2 ?_ ?_<;>intro _<;>try(exfalso;omega))|(refine go4 ?_;split<;>(try(exfalso;omega);try refine go3 ?_)))
          exact ⟨i + 1, w + 1, xs ++ [(a, b)], by rw [fP, if_neg (by simp)]; simp, fun _ => ⟨rfl, rfl⟩, rfl, by omega, by omega, hsn.symm, by omega⟩
    · obtain ⟨rfl, rfl⟩ : f = true ∧ q = false := by cases f <;> cases q <;> simp at hfq ⊢
      rw [hkd] at hsn
      simp only [Bool.not_true, Bool.or_self, Bool.and_false, Bool.false_eq_true, if_false, List.append_nil] at hsn
      have Fz:=fz15 Tryz.results31 m3 e3 e6 m6 e7 m7 e16 e17 e18 e1 e2 hE hL hT
      repeat'(first|exact trivial|refine go1 ?_|(refine go2 ?_ ?_<;>intro _<;>try(exfalso;omega))|(refine go4 ?_;split<;>(try(exfalso;omega);try refine go3 ?_)))
      exact ⟨i + 1, w, xs, rfl, m45, rfl, by omega, by omega, hsn.symm, by omega⟩
  · have hkd := decide_eq_false hk
    rw [hkd] at hsn
    simp only [Bool.false_and, Bool.false_eq_true, if_false, List.append_nil] at hsn
    have Fz:=fz15 Tryz.results31 m3 e3 e6 m6 e7 m7 e16 e17 e18 e1 e2 hE hL hT
    repeat'(first|exact trivial|refine go1 ?_|(refine go2 ?_ ?_<;>intro _<;>try(exfalso;omega))|(refine go4 ?_;split<;>(try(exfalso;omega);try refine go3 ?_)))
    exact ⟨i + 1, w, xs, rfl, m45, rfl, by omega, by omega, hsn.symm, by omega⟩
end Go.Proofs.YtdlfdoicheakoaaGreat.X

/- What functions compute: rooted trees of a forest. -/
set_option linter.unusedSimpArgs false
set_option linter.unusedVariables false
set_option maxHeartbeats 8000000
set_option maxRecDepth 100000
namespace Go.Proofs.YtdlfdoicheakoaaGreat.X
open Go Go.Proofs
/-- The label of a node. -/
noncomputable def lbl (es : List (Int × Int)) (x : Int) : Int := (least es x.toNat : Nat)
theorem lbl_at {n x : Int} {es : List (Int × Int)} (hx : inN n x) : (lab n es).getD x.toNat 0 = lbl es x := lab_get (by omega)
theorem lbl_spec {n x : Int} {es : List (Int × Int)} (hx : inN n x) : inN n (lbl es x) ∧ Conn es x (lbl es x) ∧ lbl es x ≤ x := by
  obtain ⟨h1, h2, -⟩ := least_spec es x.toNat
  have e : ((x.toNat : Nat) : Int) = x := Int.toNat_of_nonneg hx.1
  rw [e] at h2
  unfold lbl
  exact ⟨by omega, h2.symm, by omega⟩
theorem lbl_iff {n x y : Int} {es : List (Int × Int)} (hx : inN n x) (hy : inN n y) : lbl es x = lbl es y ↔ Conn es x y := by
  have := lab_iff (es := es) hx hy
  rwa [lbl_at hx, lbl_at hy] at this
/-- The node above a node. -/
noncomputable def upN (n : Int) (es : List (Int × Int)) (x : Int) : Int := if lbl es x = x then -1 else (pathL n (forestL es) x (lbl es x)).getD 1 0
noncomputable def wtN (es : List (Int × Int)) (x : Int) : Int := if lbl es x = x then 0 else 1
noncomputable def upsL (n : Int) (es : List (Int × Int)) (i : Int) : List Int := (iota i).map (upN n es)
noncomputable def wtsL (es : List (Int × Int)) (i : Int) : List Int := (iota i).map (wtN es)
abbrev RP (ps ws : List Int) : PV := .agg [LI ps, LI ws]
end Go.Proofs.YtdlfdoicheakoaaGreat.X

/- What functions compute: whether a graph with levels is valid. -/
set_option linter.unusedSimpArgs false
set_option linter.unusedVariables false
set_option maxHeartbeats 8000000
set_option maxRecDepth 100000
namespace Go.Proofs.YtdlfdoicheakoaaGreat.X
open Go Go.Proofs
theorem lab_map (n : Int) (es : List (Int × Int)) : lab n es = (iota n).map (lbl es) := by
  unfold lab iota lbl
  rw [List.map_map]
  exact List.map_congr_left fun x _ => by simp
/-- How many labels are a number. -/
def cntsL (n : Int) (ls : List Int) : List Int := (iota n).map fun x => ((ls.filter fun y => decide (y = x)).length : Int)
theorem cntsL_len (n : Int) (ls : List Int) : (cntsL n ls).length = n.toNat := by simp [cntsL, iota_length]
theorem iota_get {n x : Int} (hx : inN n x) : (iota n).getD x.toNat 0 = x := by
  obtain ⟨h0, h1⟩ := hx
  have : x.toNat < n.toNat := by omega
  simp [iota, List.getD, this]; omega
theorem cntsL_get {n x : Int} (ls : List Int) (hx : inN n x) : gI (cntsL n ls) x = ((ls.filter fun y => decide (y = x)).length : Int) := by
  unfold cntsL gI
  have h1 : x.toNat < (iota n).length := by rw [iota_length]; obtain ⟨a, b⟩ := hx; omega
  have h2 := iota_get hx
  simp only [List.getD_eq_getElem?_getD, List.getElem?_map, List.getElem?_eq_getElem h1, Option.map_some, Option.getD_some] at h2 ⊢
  rw [h2]
theorem cntsL_nil (n : Int) : cntsL n [] = zI n.toNat := by
  unfold cntsL zI iota
  rw [List.map_map]
  refine List.ext_getElem (by simp) fun i h1 h2 => by simp
theorem cntsL_snoc {n x : Int} {ls : List Int} (hx : inN n x) : cntsL n (ls ++ [x]) = (cntsL n ls).set x.toNat (gI (cntsL n ls) x + 1) := by
  refine list_gI (n := n) (cntsL_len _ _) (by rw [List.length_set]; exact cntsL_len _ _) fun y h0 h1 => ?_
  rw [gI_set hx.1 h0 (by rw [cntsL_len]; omega), cntsL_get _ ⟨h0, h1⟩, cntsL_get _ ⟨h0, h1⟩, cntsL_get _ hx, List.filter_append, List.length_append]
  by_cases e : x = y
  · subst e; rw [if_pos rfl]; simp
  · rw [if_neg e]; simp [e]
theorem cnts_lbl {n : Int} {es : List (Int × Int)} {x : Int} (hx : inN n x) : gI (cntsL n (lab n es)) (lbl es x) = szC n es x := by
  obtain ⟨h1, h2, -⟩ := lbl_spec (es := es) hx
  rw [cntsL_get _ h1, lab_map, List.filter_map, List.length_map]
  unfold szC
  congr 2
  refine List.filter_congr fun y hy => ?_
  have hy' : inN n y := mem_iota.1 hy
  show decide (lbl es y = lbl es x) = decide (Conn es x y)
  rw [decide_eq_decide, lbl_iff hy' hx]
  exact ⟨Conn.symm, Conn.symm⟩
theorem cnts_pos {n : Int} {es : List (Int × Int)} {v : Int} (hv : inN n v) (h : 0 < gI (cntsL n (lab n es)) v) : ∃ x, inN n x ∧ lbl es x = v := by
  rw [cntsL_get _ hv, lab_map] at h
  obtain ⟨y, hy⟩ := List.exists_mem_of_length_pos (l := ((iota n).map (lbl es)).filter fun y => decide (y = v)) (by omega)
  obtain ⟨h1, h2⟩ := List.mem_filter.1 hy
  obtain ⟨x, hx, rfl⟩ := List.mem_map.1 h1
  exact ⟨x, mem_iota.1 hx, of_decide_eq_true h2⟩
/-- What is valid at a level. -/
def szOk (n k : Int) (es : List (Int × Int)) : Prop := ∀ x, inN n x → 1 < szC n es x → szC n es x ≤ n / 2 ^ k.toNat
theorem szOk_any {n k : Int} {es : List (Int × Int)} : (cntsL n (lab n es)).any (fun x => decide (1 < x) && decide (n / 2 ^ k.toNat < x)) = true ↔ ¬ szOk n k es := by
  rw [List.any_eq_true]
  constructor
  · rintro ⟨c, hc, hp⟩ hs
    rw [Bool.and_eq_true, decide_eq_true_eq, decide_eq_true_eq] at hp
    obtain ⟨i, hi, he⟩ := List.mem_iff_getElem.1 hc
    rw [cntsL_len] at hi
    have hv : inN n (i : Int) := by unfold inN; omega
    have hg : gI (cntsL n (lab n es)) i = c := by simp [gI, List.getD, cntsL_len, hi, he]
    obtain ⟨x, hx, hl⟩ := cnts_pos hv (by rw [hg]; omega)
    have := cnts_lbl (es := es) hx
    rw [hl, hg] at this
    have := hs x hx (by omega)
    omega
  · intro hs
    refine Classical.byContradiction fun hn => hs fun x hx h1 => ?_
    refine Int.not_lt.1 fun h2 => hn ⟨szC n es x, ?_, by rw [Bool.and_eq_true, decide_eq_true_eq, decide_eq_true_eq]; exact ⟨h1, h2⟩⟩
    rw [← cnts_lbl hx]
    obtain ⟨⟨a, b⟩, -, -⟩ := lbl_spec (es := es) hx
    exact getD_mem (by rw [cntsL_len]; omega)
def lvAt (n : Int) (ts : List Tl) (k : Int) : Prop := Tree n (abT ts k true) ∧ lab n (abT ts k true) = lab n (abT ts k false) ∧ szOk n k (abT ts k false)
theorem lab_eq_iff {n : Int} {ts : List Tl} {k : Int} (hV : VG n (esT ts)) : lab n (abT ts k true) = lab n (abT ts k false) ↔ ∀ x y, Conn (abT ts k false) x y → Conn (abT ts k true) x y := by
  constructor
  · intro h x y hxy
    have ho : ∀ e ∈ abT ts k false, okE n e := fun e he => hV.2.2.2.1 e (abT_sub_es e he)
    rcases hxy.ok ho with rfl | ⟨a, b, c, d⟩
    · exact .refl _
    · rw [← lab_iff (n := n) ⟨a, b⟩ ⟨c, d⟩, h, lab_iff ⟨a, b⟩ ⟨c, d⟩]; exact hxy
  · intro h
    exact lab_congr fun x y => ⟨fun q => q.mono abT_tree, h x y⟩
theorem LV_iff {n : Int} {ts : List Tl} (hV : VG n (esT ts)) : LV n ts ↔ (∀ t ∈ ts, 0 ≤ t.2.1 ∧ t.2.1 ≤ 4) ∧ ∀ k : Int, 0 ≤ k → k < 5 → lvAt n ts k := by
  constructor
  · intro h
    exact ⟨h.lv, fun k k0 k1 => ⟨h.ac k k0 (by omega), (lab_eq_iff hV).2 (h.cn k k0 (by omega)), h.sz k k0 (by omega)⟩⟩
  · rintro ⟨h1, h2⟩
    exact ⟨hV, h1, fun k k0 k1 => (h2 k k0 (by omega)).1, fun k k0 k1 => (lab_eq_iff hV).1 (h2 k k0 (by omega)).2.1, fun k k0 k1 => (h2 k k0 (by omega)).2.2⟩
theorem c_equalI (xs ys : List Int) (hl : xs.length ≤ 1048576) : KP 41 [LI xs, LI ys] [] = some (B (decide (xs = ys)), [], []) := by
  refine xw_call (fn := Tryz.f41) rfl Tryz.func41 rfl ⟨Nat.le_of_ble_eq_true rfl, rfl, rfl⟩ ?_
  by_cases hle : xs.length = ys.length
  rotate_left
  · have hne : xs ≠ ys := fun h => hle (by rw [h])
    have Fz:=fz1 Tryz.results41
    repeat'(first|exact trivial|refine go1 ?_|(refine go2 ?_ ?_<;>intro _<;>try(exfalso;omega))|(refine go4 ?_;split<;>(try(exfalso;omega);try refine go3 ?_)))
    simp [hne]
  have Fz:=fz1 Tryz.results41
  repeat'(first|exact trivial|refine go1 ?_|(refine go2 ?_ ?_<;>intro _<;>try(exfalso;omega))|(refine go4 ?_;split<;>(try(exfalso;omega);try refine go3 ?_)))
  refine xw_loopR (fun (i : Int) s => s.ρ 0 = LI xs ∧ s.ρ 1 = LI ys ∧ s.ρ 12 = I xs.length ∧ s.ρ 13 = I i ∧ 0 ≤ i ∧ i ≤ xs.length ∧ xs.take i.toNat = ys.take i.toNat) (fun i => (xs.length - i).toNat) 0 ⟨rfl, rfl, rfl, rfl, by simp, by simp, by simp⟩ ?_
  rintro i ⟨ρ, m⟩ ⟨h0, h1, h12, h13, g0, g1, g2⟩
  simp only at h0 h1 h12 h13
  by_cases hi : i < xs.length
  · by_cases hq : xs.getD i.toNat 0 = ys.getD i.toNat 0
    · have Fz:=fz6 Tryz.results41 h0 h1 h12 h13 hq
      repeat'(first|exact trivial|refine go1 ?_|(refine go2 ?_ ?_<;>intro _<;>try(exfalso;omega))|(refine go4 ?_;split<;>(try(exfalso;omega);try refine go3 ?_)))
      refine ⟨by omega, by omega, ?_, by omega⟩
      rw [take_int 0 g0 (by omega), take_int 0 g0 (by omega), g2, hq]
    · have hne : xs ≠ ys := fun h => hq (by rw [h])
      have Fz:=fz6 Tryz.results41 h0 h1 h12 h13 hq
      repeat'(first|exact trivial|refine go1 ?_|(refine go2 ?_ ?_<;>intro _<;>try(exfalso;omega))|(refine go4 ?_;split<;>(try(exfalso;omega);try refine go3 ?_)))
      rw [decide_eq_false hne]
  · rw [take_all (by omega), take_all (by omega)] at g2
    have Fz:=fz5 Tryz.results41 h0 h1 h12 h13
    repeat'(first|exact trivial|refine go1 ?_|(refine go2 ?_ ?_<;>intro _<;>try(exfalso;omega))|(refine go4 ?_;split<;>(try(exfalso;omega);try refine go3 ?_)))
    rw [decide_eq_true g2]
theorem clo_LV1 : CloI (.fn 38 [] []) (fun _ => True) (fun x => decide (x < 0) || decide (4 < x)) := by
  have k : ∀ x : Int, KP 38 [I x] [] = some (B (decide (x < 0) || decide (4 < x)), [], []) := by
    intro x
    refine xw_call (fn := Tryz.f38) rfl Tryz.func38 rfl ⟨Nat.le_of_ble_eq_true rfl, rfl, rfl⟩ ?_
    by_cases h : x < 0
    · have Fz:=fz2 Tryz.results38 h
      repeat'(first|exact trivial|refine go1 ?_|(refine go2 ?_ ?_<;>intro _<;>try(exfalso;omega))|(refine go4 ?_;split<;>(try(exfalso;omega);try refine go3 ?_)))
    · have Fz:=fz2 Tryz.results38 h
      repeat'(first|exact trivial|refine go1 ?_|(refine go2 ?_ ?_<;>intro _<;>try(exfalso;omega))|(refine go4 ?_;split<;>(try(exfalso;omega);try refine go3 ?_)))
  refine ⟨fun n => by cases n <;> rfl, rfl, fun me d x hx => ?_⟩
  have hx' := k x
  simp only [go_sem, ↓reduceIte, Int.reduceLE, Int.reduceLT, Int.reduceToNat, Int.reduceNeg, Int.reduceAdd, Int.reduceSub, Int.reduceMul, Int.reduceEq, Int.reduceNe, Nat.reduceEqDiff, Nat.reduceAdd, Nat.reduceSub, Nat.reduceMul, Nat.reduceLT, Nat.reduceLeDiff, Nat.reduceBEq, Nat.reduceBNe, UInt8.reduceToNat, hx', ite_self]
theorem binV_shrI {P : Program} {t : TypeId} {a k : Int} (h0 : 0 ≤ k) (h1 : k < 5) : binV P .shr t (.i (.v (.int .i64 a))) (.i (.v (.int .i64 k))) = some (.int .i64 (a / 2 ^ k.toNat)) := by
  obtain rfl | rfl | rfl | rfl | rfl : k = 0 ∨ k = 1 ∨ k = 2 ∨ k = 3 ∨ k = 4 := by omega
  all_goals
    simp [binV, binOp, Op.shift, semPure]
    first
    | rfl
    | (have e1 : a.fdiv (2 ^ min 1 IntKind.i64.bits) = a / 2 := Int.fdiv_eq_ediv_of_nonneg a (by decide)
       rw [e1]; rfl)
    | (have e1 : a.fdiv (2 ^ min 2 IntKind.i64.bits) = a / 4 := Int.fdiv_eq_ediv_of_nonneg a (by decide)
       rw [e1]; rfl)
    | (have e1 : a.fdiv (2 ^ min 3 IntKind.i64.bits) = a / 8 := Int.fdiv_eq_ediv_of_nonneg a (by decide)
       rw [e1]; rfl)
    | (have e1 : a.fdiv (2 ^ min 4 IntKind.i64.bits) = a / 16 := Int.fdiv_eq_ediv_of_nonneg a (by decide)
       rw [e1]; rfl)
theorem clo_LV2 (n k : Int) (ts : List Tl) (h0 : 0 ≤ k) (h1 : k < 5) : CloI (.fn 42 [] [.eptr [.v (.int .i64 n), .lst ((esT ts).map encE), .lst ((lvT ts).map encI), .lst ((trT ts).map encT)] 0, .eptr [.v (.int .i64 k)] 0]) (fun _ => True) (fun x => decide (1 < x) && decide (n / 2 ^ k.toNat < x)) := by
  have k : ∀ x : Int, KP 42 [I x, .i (.eptr [.v (.int .i64 n), .lst ((esT ts).map encE), .lst ((lvT ts).map encI), .lst ((trT ts).map encT)] 0), .i (.eptr [.v (.int .i64 k)] 0)] [] = some (B (decide (1 < x) && decide (n / 2 ^ k.toNat < x)), [], []) := by
    intro x
    have hs := fun (P : Program) (t : TypeId) => binV_shrI (P := P) (t := t) (a := n) h0 h1
    refine xw_call (fn := Tryz.f42) rfl Tryz.func42 rfl ⟨Nat.le_of_ble_eq_true rfl, rfl, rfl⟩ ?_
    by_cases h : 1 < x
    · have Fz:=fz3 Tryz.results42 h hs
      repeat'(first|exact trivial|refine go1 ?_|(refine go2 ?_ ?_<;>intro _<;>try(exfalso;omega))|(refine go4 ?_;split<;>(try(exfalso;omega);try refine go3 ?_)))
    · have Fz:=fz3 Tryz.results42 h hs
      repeat'(first|exact trivial|refine go1 ?_|(refine go2 ?_ ?_<;>intro _<;>try(exfalso;omega))|(refine go4 ?_;split<;>(try(exfalso;omega);try refine go3 ?_)))
  refine ⟨fun n => by cases n <;> rfl, rfl, fun me d x hx => ?_⟩
  have hx' := k x
  simp only [go_sem, ↓reduceIte, Int.reduceLE, Int.reduceLT, Int.reduceToNat, Int.reduceNeg, Int.reduceAdd, Int.reduceSub, Int.reduceMul, Int.reduceEq, Int.reduceNe, Nat.reduceEqDiff, Nat.reduceAdd, Nat.reduceSub, Nat.reduceMul, Nat.reduceLT, Nat.reduceLeDiff, Nat.reduceBEq, Nat.reduceBNe, UInt8.reduceToNat, hx', ite_self]
end Go.Proofs.YtdlfdoicheakoaaGreat.X
