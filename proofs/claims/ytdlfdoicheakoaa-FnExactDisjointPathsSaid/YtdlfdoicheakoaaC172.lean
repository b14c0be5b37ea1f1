/- What functions compute: paths without common edges, as places of arrays of their own. -/
import Derived.Test.YtdlfdoicheakoaaC29
import Derived.Test.YtdlfdoicheakoaaC171
set_option linter.unusedSimpArgs false
set_option linter.unusedVariables false
set_option maxHeartbeats 8000000
set_option maxRecDepth 100000
namespace Go.Proofs.Ytdlfdoicheakoaa.X
open Go Go.Proofs
theorem rs28 (i : Nat) : rowSite 28 i = 102800 + i := by unfold rowSite; omega
theorem far {j s : Nat} (h : s < 102800) : ¬ 102800 + j = s := by omega
theorem farb {j s : Nat} (h : s < 102800) : (102800 + j != s) = true := by simp; omega
theorem xw_fin {P : Program} {fn : Func} {res : PV × List Arr × List Arr} {e : Ex} {s : St} (he : e.fin = true) (h : (outP P fn 0 s).gives s.m res) : Post P fn 0 res e s := by
  obtain ⟨rd, h⟩ := h
  exact pn he ⟨res, rd, h, rfl⟩
theorem c_DisjointPathsR (n x y : Int) (es : List (Int × Int)) (hl : es.length ≤ 1048576) (h : Pr n x y es) : KP 16 [GL n es, I x, I y] [] =
    some (.tup [.ref 2000 0 0 (dpPs n es x y (flN n es x y)).length, B true], [], .rows 0 (rowsF (fun i => 2001 + i) 0 (dpPs n es x y (flN n es x y))) :: (dpPs n es x y (flN n es x y)).map aI) := by
  obtain ⟨hV, hx, hy, hxy⟩ := id h
  have ho := hV.okg.ok
  have hnd := hV.nodup
  have hn16 := hV.2.1
  have hle := hV.okg.len
  obtain ⟨us, hu, hf⟩ := c_flow n x y es hV hx hy hxy
  have hul := hu.1
  have hk15 : flN n es x y ≤ 16 := by
    have h1 := (flow_deg ho hnd hx hy hxy).1
    have h2 := len_le_of_sub (l := nbS x es) (m := iota n) ((sorted_nbS ho hnd x).imp fun h => by omega) fun v hv => by
      have := mem_nbS ho |>.1 hv
      rw [mem_iota]
      rcases this with h | h
      · have := ho _ h; unfold okE at this; simp only at this; omega
      · have := ho _ h; unfold okE at this; simp only at this; omega
    rw [iota_length] at h2
    omega
  have hk40 : flN n es x y ≤ 40 := by
    have h1 := (flow_deg ho hnd hx hy hxy).1
    have h2 := alone_length x es
    omega
  refine gc Try.func16 ?_
  have Fz:=fz3 Try.results16 hf hul
  repeat'(first|exact trivial|refine go1 ?_|(refine go2 ?_ ?_<;>intro _<;>try(exfalso;omega))|(refine go4 ?_;split<;>((try(exfalso;omega));try refine go3 ?_)))
  refine xw_loopR (fun (u : Nat × Nat × List Bool) s => s.m 28 = some (.rows u.2.1 (rowsF (rowSite 28) 0 (dpPs n es x y u.1))) ∧ s.ρ 10 = .ref 28 u.2.1 0 u.1 ∧ s.ρ 8 = .ptr 8 0 0 0 ∧ s.m 8 = some (.box 0 (u.2.2.map bP)) ∧ s.ρ 29 = I (flN n es x y : Int) ∧ s.ρ 30 = I (u.1 : Int) ∧ s.ρ 1 = I x ∧ s.ρ 2 = I y ∧ s.ρ 3 = .ptr 3 0 0 0 ∧ s.m 3 = some (.box 0 [I n, LE es]) ∧
    u.1 ≤ flN n es x y ∧ UR u.2.2 (dpF n es x y u.1) ∧ HR s.m (rowSite 28) 0 (dpPs n es x y u.1) ∧ ∀ j, u.1 ≤ j → s.m (102800 + j) = none) (fun u => flN n es x y - u.1) (0, 0, us) ?_ ?_
  · refine ⟨by simp [upd, dpPs, rowsF], by simp [upd], by simp [upd], by simp [upd], by simp [upd], by simp [upd], by simp [upd], by simp [upd], by simp [upd], by simp [upd], Nat.zero_le _, hu, fun i hi => by simp [dpPs] at hi, fun j _ => by simp [upd, far]⟩
  rintro ⟨i, v, vs⟩ ⟨ρ, m⟩ ⟨m28, h10, h8, m8, h29, h30, h1, h2, h3, m3, g0, g1, g2, g3⟩
  simp only at m28 h10 h8 m8 h29 h30 h1 h2 h3 m3 g0 g1 g2 g3
  have hpsl := dpPs_len n es x y i
  have hvl := g1.1
  by_cases hi : i < flN n es x y
  rotate_left
  · have hie : i = flN n es x y := by omega
    rw [← hie]
    rw [← hie] at h29
    have Fz:=fz11 Try.results16 m28 h10 h8 m8 h29 h30 h1 h2 h3 m3
    repeat'(first|exact trivial|refine goP ?_|(refine go2 ?_ ?_<;>intro _<;>try(exfalso;omega))|(refine go4 ?_;split<;>((try(exfalso;omega));try refine go3 ?_)))
    refine xw_fin rfl (outP_rows (v := v) Try.results16 ?_ ?_ ?_ ?_ (by omega))
    · simp [upd, hpsl, h10]
    · simp [upd]
    · simp [upd, m28]
    · exact g2
  have hm := dp_mem ho hnd hx hy hxy hi
  have hr := c_reach (clo_DisjointPaths vs _ g1) n x es hV hx fun v h0 h1 => ⟨h0, by omega⟩
  have hB := bfs_inv (goes := dpF n es x y i) ho hx
  have hcw := c_way (fr := (bfs n es (dpF n es x y i) x).1) (ord := (bfs n es (dpF n es x y i) x).2) hB hn16 hm
  obtain ⟨c1, c2, c3⟩ := clo_DisjointPaths vs _ g1
  have hw := dp_way ho hnd hx hy hxy hi
  have hpe : wayL n (bfs n es (dpF n es x y i) x).1 x y = dpP n es x y i := rfl
  rw [hpe] at hcw
  have hsn := dpPs_snoc n es x y i
  have hnx : dpF n es x y (i + 1) = dropP (dpF n es x y i) (dpP n es x y i) := rfl
  have hpl := way_len ho hw hy hn16
  have hpin := way_in ho hw hy
  have hpp := hw.pos
  generalize hpq : dpP n es x y i = p at *
  have Fz:=fz16 Try.results16 m28 h10 h8 m8 h29 h30 h1 h2 h3 m3 hr hcw c1 c2 hvl
  repeat'(first|exact trivial|refine go1 ?_|(refine go2 ?_ ?_<;>intro _<;>try(exfalso;omega))|(refine go4 ?_;split<;>((try(exfalso;omega));try refine go3 ?_)))
  generalize nv (m 3344) = V
  refine xw_loopR (fun (u : Int × List Bool) s => s.m 28 = some (.rows v (rowsF (rowSite 28) 0 (dpPs n es x y i))) ∧ s.ρ 10 = .ref 28 v 0 i ∧ s.ρ 8 = .ptr 8 0 0 0 ∧ s.m 8 = some (.box 0 (u.2.map bP)) ∧ s.ρ 29 = I (flN n es x y : Int) ∧ s.ρ 30 = I (i : Int) ∧ s.ρ 1 = I x ∧ s.ρ 2 = I y ∧ s.ρ 3 = .ptr 3 0 0 0 ∧ s.m 3 = some (.box 0 [I n, LE es]) ∧
    s.ρ 13 = .ref 3344 V 0 p.length ∧ s.m 3344 = some (.arr V 1 (p.map encI)) ∧ s.ρ 15 = I u.1 ∧ 1 ≤ u.1 ∧ u.1 ≤ p.length ∧ UR u.2 (dropP (dpF n es x y i) (p.take u.1.toNat)) ∧ HR s.m (rowSite 28) 0 (dpPs n es x y i) ∧ ∀ j, i ≤ j → s.m (102800 + j) = none) (fun u => (p.length - u.1).toNat) (1, vs) ?_ ?_
  · have e1 : dropP (dpF n es x y i) (p.take 1) = dpF n es x y i := by
      cases p with
      | nil => rfl
      | cons a r => rfl
    refine ⟨by simp [upd, m28], by simp [upd, h10], by simp [upd, h8], by simp [upd, m8], by simp [upd, h29], by simp [upd, h30], by simp [upd, h1], by simp [upd, h2], by simp [upd, h3], by simp [upd, m3], by simp [upd], by simp [upd], by simp [upd], by simp, by simp only; omega, ?_, fun q hq => ?_, fun j hj => ?_⟩
    · show UR vs (dropP (dpF n es x y i) (p.take 1))
      rw [e1]; exact g1
    · have := g2 q hq
      rw [rs28] at this ⊢
      simp only [Nat.zero_add] at this ⊢
      simp [upd, this, far]
    · simp [upd, g3 j hj, far]
  rintro ⟨k, ws⟩ ⟨ρ, m⟩ ⟨m28, h10, h8, m8, h29, h30, h1, h2, h3, m3, h13, m33, h15, f0, f1, f2, f3, f4⟩
  simp only at m28 h10 h8 m8 h29 h30 h1 h2 h3 m3 h13 m33 h15 f0 f1 f2 f3 f4
  have hwl := f2.1
  by_cases hk : k < p.length
  · have hdt := dropP_take (F := dpF n es x y i) (p := p) (i := k.toNat) (by omega) (by omega)
    rw [show k.toNat + 1 = (k + 1).toNat by omega, show k.toNat - 1 = (k - 1).toNat by omega] at hdt
    have ha := hpin (k - 1).toNat (by omega)
    have hb := hpin k.toNat (by omega)
    have hd := f2.drop (a := p.getD (k - 1).toNat 0) (b := p.getD k.toNat 0) ⟨ha.1, by omega⟩ ⟨hb.1, by omega⟩
    rw [← hdt] at hd
    generalize hae : p.getD (k - 1).toNat 0 = a at *
    generalize hbe : p.getD k.toNat 0 = b at *
    have Fz:=fz18 Try.results16 m28 h10 h8 m8 h29 h30 h1 h2 h3 m3 h13 m33 h15 hwl @Nat.mul_one hae hbe
    repeat'(first|exact trivial|refine go1 ?_|(refine go2 ?_ ?_<;>intro _<;>try(exfalso;omega))|(refine go4 ?_;split<;>((try(exfalso;omega));try refine go3 ?_)))
    refine ⟨k + 1, _, ?_, rfl, by omega, by omega, hd, fun q hq => ?_, f4, by omega⟩
    · rw [List.append_assoc]
      exact congrArg (Arr.box 0) (bP_put ws _ _ (by omega))
    · have := f3 q hq
      rw [rs28] at this ⊢
      simp only [Nat.zero_add] at this ⊢
      simp [upd, this, far]
  · rw [take_all (by omega), ← hnx] at f2
    have hN := f4 i (Nat.le_refl _)
    have hrl := rowsF_len (f := rowSite 28) (ls := dpPs n es x y i) (k := 0)
    rw [hpsl] at hrl
    have b1 := farb (j := i) (s := 28) (by omega)
    have b2 := farb (j := i) (s := 65) (by omega)
    have b3 := farb (j := i) (s := 3344) (by omega)
    have Fz:=fz20 Try.results16 m28 h10 h8 m8 h29 h30 h1 h2 h3 m3 h13 m33 h15 hpsl hN hrl b1 b2 b3
    repeat'(first|exact trivial|refine go1 ?_|(refine go2 ?_ ?_<;>intro _<;>try(exfalso;omega))|(refine go4 ?_;split<;>((try(exfalso;omega));try refine go3 ?_)))
    refine ⟨i + 1, v + 1, ?_, rfl, rfl, ws, rfl, by omega, by omega, f2, fun q hq => ?_, fun j hj => ?_, by omega⟩
    · rw [hsn, rowsF_app, hpsl, Nat.zero_add, rs28]
    · rw [hsn] at hq ⊢
      rw [List.length_append, hpsl, List.length_singleton] at hq
      by_cases hqi : q = i
      · subst hqi
        have e : (dpPs n es x y q ++ [p]).getD q [] = p := by simp [List.getD, hpsl]
        rw [e, rs28, Nat.zero_add]
        simp [upd, far]
      · have hq' : q < (dpPs n es x y i).length := by omega
        have e : (dpPs n es x y i ++ [p]).getD q [] = (dpPs n es x y i).getD q [] := by simp [List.getD, List.getElem?_append_left hq']
        have := f3 q hq'
        rw [rs28, Nat.zero_add] at this
        rw [e, rs28, Nat.zero_add]
        have hne : ¬ 102800 + q = 102800 + i := by omega
        simp only [upd, far (j := q) (s := 28) (by omega), far (j := q) (s := 65) (by omega), far (j := q) (s := 3344) (by omega), hne, if_false, this]
    · have hne : ¬ 102800 + j = 102800 + i := by omega
      simp only [upd, far (j := j) (s := 28) (by omega), far (j := j) (s := 65) (by omega), far (j := j) (s := 3344) (by omega), hne, if_false]
      exact f4 j (by omega)
end Go.Proofs.Ytdlfdoicheakoaa.X
