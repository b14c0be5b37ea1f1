/- What functions answer, and the plain laws behind it. -/
import Derived.Test.YtdlfdoicheakoaaC22
import Derived.Test.YtdlfdoicheakoaaM12
import Derived.Test.YtdlfdoicheakoaaM10
/- What functions compute: flows. -/
set_option linter.unusedSimpArgs false
set_option linter.unusedVariables false
set_option maxHeartbeats 8000000
namespace Go.Proofs.Ytdlfdoicheakoaa.X
open Go Go.Proofs
theorem c_flow (n x y : Int) (es : List (Int × Int)) (hV : VG n es) (hx : 0 ≤ x ∧ x < n) (hy : 0 ≤ y ∧ y < n) (hxy : x ≠ y) :
    ∃ us, UR us (flU n es x y) ∧ KP 60 [GL n es, I x, I y] [] = some (.tup [.agg (us.map bP), I (flN n es x y)], [], []) := by
  have ho := hV.okg.ok
  have hn16 := hV.2.1
  have hnd := hV.nodup
  have hle := hV.okg.len
  suffices h : ∃ res, (∃ us, UR us (flU n es x y) ∧ res = (PV.tup [.agg (us.map bP), I (flN n es x y)], ([] : List Arr), ([] : List Arr))) ∧ KP 60 [GL n es, I x, I y] [] = some res by
    obtain ⟨res, ⟨us, h1, rfl⟩, h2⟩ := h
    exact ⟨us, h1, h2⟩
  refine ge Try.func60 ?_
  have Fz:=fz1 Try.results60
  repeat'(first|exact trivial|refine go1 ?_|(refine go2 ?_ ?_<;>intro _<;>try(exfalso;omega))|(refine go4 ?_;split<;>((try(exfalso;omega));try refine go3 ?_)))
  refine xw_loopR (fun (u : Nat × List Bool) s => s.m 8 = some (.box 0 (u.2.map bP)) ∧ s.ρ 8 = .ptr 8 0 0 0 ∧ s.ρ 9 = I (u.1 : Int) ∧ s.ρ 1 = I x ∧ s.ρ 2 = I y ∧ s.ρ 3 = .ptr 3 0 0 0 ∧ s.m 3 = some (.box 0 [I n, LE es]) ∧ s.ρ 6 = .ptr 6 0 0 0 ∧ s.m 6 = some (.box 0 ((fB 256).map bP)) ∧
    UR u.2 (flS n es x y u.1) ∧ ∀ j, j < u.1 → more n es x y j) (fun u => 50 - u.1) (0, fB 256) ?_ ?_
  · refine ⟨by simp [upd], by simp [upd], by simp [upd], by simp [upd], by simp [upd], by simp [upd], by simp [upd], by simp [upd], by simp [upd], UR.none, fun j h => by simp at h⟩
  rintro ⟨k, us⟩ ⟨ρ, m⟩ ⟨m8, h8, h9, h1, h2, h3, m3, h6, m6, g0, g1⟩
  simp only at m8 h8 h9 h1 h2 h3 m3 h6 m6 g0 g1
  have hk40 : k ≤ 40 := by
    have := more_stops ho hnd hx hxy g1
    have := alone_length x es
    omega
  have hr := c_reach (clo_flow us _ g0) n x es hV hx fun v h0 h1 => ⟨h0, by omega⟩
  have hB := bfs_inv (goes := goesF (flS n es x y k)) ho hx
  have hlen := hB.len
  have hul := g0.1
  obtain ⟨c1, c2, c3⟩ := clo_flow us _ g0
  by_cases hm : more n es x y k
  rotate_left
  · have hk := flN_eq ho hnd hx hxy g1 hm
    have hfy : (bfs n es (goesF (flS n es x y k)) x).1.getD y.toNat 0 < 0 := by
      have := (hB.mem y hy.1 hy.2).1
      exact Int.not_le.1 fun h => hm (this h)
    have hw := c_way_none (bfs n es (goesF (flS n es x y k)) x).1 x y ⟨hy.1, by omega⟩ hfy (by omega)
    have Fz:=fz15 Try.results60 m8 h8 h9 h1 h2 h3 m3 h6 m6 hr hw c1 c2 hul
    repeat'(first|exact trivial|refine go1 ?_|(refine go2 ?_ ?_<;>intro _<;>try(exfalso;omega))|(refine go4 ?_;split<;>((try(exfalso;omega));try refine go3 ?_)))
    subst hk
    exact ⟨us, g0, rfl⟩
  have hw := c_way (fr := (bfs n es (goesF (flS n es x y k)) x).1) (ord := (bfs n es (goesF (flS n es x y k)) x).2) hB hn16 hm
  have hway := bfs_way ho hx hm
  have hS : flS n es x y (k + 1) = augF (flS n es x y k) (wayL n (bfs n es (goesF (flS n es x y k)) x).1 x y) := rfl
  generalize wayL n (bfs n es (goesF (flS n es x y k)) x).1 x y = p at hw hway hS
  have hin : ∀ i, i < p.length → 0 ≤ p.getD i 0 ∧ p.getD i 0 < n := fun i hi => by
    by_cases h0 : i + 1 < p.length
    · have := (hway.st i h0).1.ok ho; omega
    · have e : i = p.length - 1 := by omega
      rw [e, hway.la]; exact hy
  have hpl : p.length ≤ 16 := by
    have := len_le_of_sub (l := p) (m := iota n) hway.nd fun v hv => by
      obtain ⟨i, hi, he⟩ := List.mem_iff_getElem.1 hv
      have := hin i hi
      simp only [List.getD, List.getElem?_eq_getElem hi, Option.getD_some, he] at this
      exact mem_iota.2 this
    rw [iota_length] at this
    omega
  have hpp := hway.pos
  have Fz:=fz15 Try.results60 m8 h8 h9 h1 h2 h3 m3 h6 m6 hr hw c1 c2 hul
  repeat'(first|exact trivial|refine go1 ?_|(refine go2 ?_ ?_<;>intro _<;>try(exfalso;omega))|(refine go4 ?_;split<;>((try(exfalso;omega));try refine go3 ?_)))
  refine xw_loopR (fun (v : Int × List Bool) s => s.m 8 = some (.box 0 (v.2.map bP)) ∧ s.ρ 8 = .ptr 8 0 0 0 ∧ s.ρ 9 = I ((k : Int) + 1) ∧ s.ρ 1 = I x ∧ s.ρ 2 = I y ∧ s.ρ 3 = .ptr 3 0 0 0 ∧ s.m 3 = some (.box 0 [I n, LE es]) ∧ s.ρ 6 = .ptr 6 0 0 0 ∧ s.m 6 = some (.box 0 ((fB 256).map bP)) ∧
    s.ρ 12 = LI p ∧ s.ρ 14 = I v.1 ∧ 1 ≤ v.1 ∧ v.1 ≤ p.length ∧ UR v.2 (augF (flS n es x y k) (p.take v.1.toNat))) (fun v => (p.length - v.1).toNat) (1, us) ?_ ?_
  · have e1 : augF (flS n es x y k) (p.take 1) = flS n es x y k := by
      cases p with
      | nil => rfl
      | cons a r => rfl
    refine ⟨by simp [upd, m8], by simp [upd, h8], by simp [upd], by simp [upd, h1], by simp [upd, h2], by simp [upd, h3], by simp [upd, m3], by simp [upd, h6], by simp [upd, m6], by simp [upd], by simp [upd], by simp, by simp only; omega, ?_⟩
    show UR us (augF (flS n es x y k) (p.take 1))
    rw [e1]; exact g0
  rintro ⟨i, vs⟩ ⟨ρ, m⟩ ⟨m8, h8, h9, h1, h2, h3, m3, h6, m6, h12, h14, f0, f1, f2⟩
  simp only at m8 h8 h9 h1 h2 h3 m3 h6 m6 h12 h14 f0 f1 f2
  have hvl := f2.1
  by_cases hi : i < p.length
  rotate_left
  · rw [take_all (by omega), ← hS] at f2
    have Fz:=fz13 Try.results60 m8 h8 h9 h1 h2 h3 m3 h6 m6 h12 h14 hvl
    repeat'(first|exact trivial|refine go1 ?_|(refine go2 ?_ ?_<;>intro _<;>try(exfalso;omega))|(refine go4 ?_;split<;>((try(exfalso;omega));try refine go3 ?_)))
    refine ⟨k + 1, vs, rfl, rfl, f2, fun j hj => ?_, by omega⟩
    by_cases hjk : j = k
    · subst hjk; exact hm
    · exact g1 j (by omega)
  have ha := hin (i - 1).toNat (by omega)
  have hb := hin i.toNat (by omega)
  have hat := augF_take (F := flS n es x y k) (p := p) (i := i.toNat) (by omega) (by omega)
  rw [show i.toNat + 1 = (i + 1).toNat by omega, show i.toNat - 1 = (i - 1).toNat by omega] at hat
  have hst := f2.step (a := p.getD (i - 1).toNat 0) (b := p.getD i.toNat 0) ⟨ha.1, by omega⟩ ⟨hb.1, by omega⟩
  rw [← hat] at hst
  have hrd := f2.2 (p.getD i.toNat 0) (p.getD (i - 1).toNat 0) hb.1 (by omega) ha.1 (by omega)
  generalize hae : p.getD (i - 1).toNat 0 = a at ha hat hst hrd
  generalize hbe : p.getD i.toNat 0 = b at hb hat hst hrd
  by_cases hF : augF (flS n es x y k) (p.take i.toNat) b a = true
  · rw [if_pos hF] at hst
    rw [hF] at hrd
    have Fz:=fz17 Try.results60 m8 h8 h9 h1 h2 h3 m3 h6 m6 h12 h14 hvl @Nat.mul_one hae hbe hrd
    repeat'(first|exact trivial|refine go1 ?_|(refine go2 ?_ ?_<;>intro _<;>try(exfalso;omega))|(refine go4 ?_;split<;>((try(exfalso;omega));try refine go3 ?_)))
    refine ⟨i + 1, _, ?_, rfl, by omega, by omega, hst, by omega⟩
    rw [List.append_assoc]
    exact congrArg (Arr.box 0) (bP_put vs _ _ (by omega))
  · rw [if_neg hF] at hst
    rw [Bool.not_eq_true] at hF
    rw [hF] at hrd
    have Fz:=fz17 Try.results60 m8 h8 h9 h1 h2 h3 m3 h6 m6 h12 h14 hvl @Nat.mul_one hae hbe hrd
    repeat'(first|exact trivial|refine go1 ?_|(refine go2 ?_ ?_<;>intro _<;>try(exfalso;omega))|(refine go4 ?_;split<;>((try(exfalso;omega));try refine go3 ?_)))
    refine ⟨i + 1, _, ?_, rfl, by omega, by omega, hst, by omega⟩
    rw [List.append_assoc]
    exact congrArg (Arr.box 0) (bP_put vs _ _ (by omega))
end Go.Proofs.Ytdlfdoicheakoaa.X

/- Flows and cuts: plain law. -/
set_option linter.unusedVariables false
namespace Go.Proofs.Ytdlfdoicheakoaa.X
open Go
section
variable {n : Int} {es : List (Int × Int)} {x y : Int}
theorem cutsz_not {S : Int → Bool} : cutsz (fun v => !S v) es = cutsz S es := by
  unfold cutsz
  congr 1
  refine List.filter_congr fun e _ => ?_
  show ((!S e.1) != (!S e.2)) = (S e.1 != S e.2)
  cases S e.1 <;> cases S e.2 <;> rfl
theorem flow_symm_le (ho : ∀ e ∈ es, okE n e) (hn : es.Nodup) (hx : 0 ≤ x ∧ x < n) (hy : 0 ≤ y ∧ y < n) (hxy : x ≠ y) : flN n es x y ≤ flN n es y x := by
  rw [← flow_cut ho hn hy (fun e => hxy e.symm), ← cutsz_not]
  refine flow_le ho hn hx hxy ?_ ?_
  · simpa using side_y ho hn hy (fun e => hxy e.symm)
  · simpa using side_x ho hy
theorem flow_symm (ho : ∀ e ∈ es, okE n e) (hn : es.Nodup) (hx : 0 ≤ x ∧ x < n) (hy : 0 ≤ y ∧ y < n) (hxy : x ≠ y) : flN n es x y = flN n es y x :=
  Nat.le_antisymm (flow_symm_le ho hn hx hy hxy) (flow_symm_le ho hn hy hx fun e => hxy e.symm)
theorem flow_deg (ho : ∀ e ∈ es, okE n e) (hn : es.Nodup) (hx : 0 ≤ x ∧ x < n) (hy : 0 ≤ y ∧ y < n) (hxy : x ≠ y) : flN n es x y ≤ (nbS x es).length ∧ flN n es x y ≤ (nbS y es).length := by
  refine ⟨(flN_spec ho hn hx hxy).2.2, ?_⟩
  rw [flow_symm ho hn hx hy hxy]
  exact (flN_spec ho hn hy fun e => hxy e.symm).2.2
open Classical in
open Classical in
open Classical in
open Classical in
end
/-- The least number of ways from the first node. -/
def wk (n : Int) (es : List (Int × Int)) : Nat → Nat
  | 0 => 40
  | k + 1 => min (wk n es k) (flN n es 0 ((k : Nat) + 1 : Int))
/-- The weakest cut. -/
def weak (n : Int) (es : List (Int × Int)) : Nat := wk n es (n - 1).toNat
end Go.Proofs.Ytdlfdoicheakoaa.X
