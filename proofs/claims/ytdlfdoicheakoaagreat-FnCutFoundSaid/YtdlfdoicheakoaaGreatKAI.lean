/- What functions answer, and the plain laws behind it. -/
import Derived.Test.YtdlfdoicheakoaaGreatKAH
import Derived.Test.YtdlfdoicheakoaaGreatKAG
/- What functions compute: cycles, forests. -/
set_option linter.unusedSimpArgs false
set_option linter.unusedVariables false
set_option maxHeartbeats 4000000
namespace Go.Proofs.YtdlfdoicheakoaaGreat.X
open Go Go.Proofs
theorem OKG.sub {n : Int} {es fs : List (Int × Int)} (h : OKG n es) (hs : fs.Sublist es) : OKG n fs := ⟨h.n0, h.n1, Nat.le_trans hs.length_le h.len, fun e he => h.ok e (hs.subset he)⟩
theorem VG.cut {n : Int} {es : List (Int × Int)} (h : VG n es) (e : Int × Int) : VG n (cutE e es) := h.sub List.filter_sublist
theorem c_CycleThrough (n a b : Int) (es : List (Int × Int)) (hl : es.length ≤ 1048576) : KP 8 [GL n es, PE a b] [] =
    some (if VG n es ∧ (a, b) ∈ es ∧ Conn (cutE (a, b) es) a b then (.tup [.ref 2000 0 0 (pathL n (cutE (a, b) es) a b).length, B true], [], [.arr 0 1 ((pathL n (cutE (a, b) es) a b).map encI)]) else (.tup [.i .emp, B false], [], [])) := by
  have hcl := cutE_len (a, b) es
  by_cases h : VG n es ∧ (a, b) ∈ es
  · have hV := h.1.cut (a, b)
    have hoe := h.1.okg.ok _ h.2
    unfold okE at hoe; simp only at hoe
    have hp := c_PathBetween n a b (cutE (a, b) es) (by omega)
    by_cases hc : Conn (cutE (a, b) es) a b
    · rw [if_pos ⟨hV, by omega, by omega, by omega, by omega, hc⟩] at hp
      rw [if_pos ⟨h.1, h.2, hc⟩]
      refine xw_call (fn := Tryz.f8) rfl Tryz.func8 rfl ⟨Nat.le_of_ble_eq_true rfl, rfl, rfl⟩ ?_
      have Fz:=fz3 Tryz.results8 hp @cut_del
      repeat'(first|exact trivial|refine go1 ?_|(refine go2 ?_ ?_<;>intro _<;>try(exfalso;omega))|(refine go4 ?_;split<;>(try(exfalso;omega);try refine go3 ?_)))
    · rw [if_neg (fun k => hc k.2.2.2.2.2)] at hp
      rw [if_neg (fun k => hc k.2.2)]
      refine xw_call (fn := Tryz.f8) rfl Tryz.func8 rfl ⟨Nat.le_of_ble_eq_true rfl, rfl, rfl⟩ ?_
      have Fz:=fz3 Tryz.results8 hp @cut_del
      repeat'(first|exact trivial|refine go1 ?_|(refine go2 ?_ ?_<;>intro _<;>try(exfalso;omega))|(refine go4 ?_;split<;>(try(exfalso;omega);try refine go3 ?_)))
  · rw [if_neg (fun k => h ⟨k.1, k.2.1⟩)]
    refine xw_call (fn := Tryz.f8) rfl Tryz.func8 rfl ⟨Nat.le_of_ble_eq_true rfl, rfl, rfl⟩ ?_
    have Fz:=fz1 Tryz.results8
    repeat'(first|exact trivial|refine go1 ?_|(refine go2 ?_ ?_<;>intro _<;>try(exfalso;omega))|(refine go4 ?_;split<;>(try(exfalso;omega);try refine go3 ?_)))
theorem fold_sub : ∀ (fs acc : List (Int × Int)), (fs.foldl fstep acc).Sublist (acc ++ fs)
  | [], acc => by simp
  | e :: fs, acc => by
    refine (fold_sub fs (fstep acc e)).trans ?_
    unfold fstep
    split
    · exact List.Sublist.append_left (List.sublist_cons_self _ _) _
    · simp
theorem fold_take {n : Int} {es : List (Int × Int)} (h : OKG n es) (k : Nat) : OKG n ((es.take k).foldl fstep []) :=
  h.sub ((fold_sub (es.take k) []).trans (by simpa using List.take_sublist k es))
theorem fold_next {es : List (Int × Int)} {i : Int} (h0 : 0 ≤ i) (h1 : i < es.length) : (es.take (i + 1).toNat).foldl fstep [] = fstep ((es.take i.toNat).foldl fstep []) (es.getD i.toNat (0, 0)) := by
  rw [take_int (0, 0) h0 h1, List.foldl_append]; rfl
@[go_sem] theorem c_l2Forest (n : Int) (es : List (Int × Int)) (h : OKG n es) : KP 72 [I n, LE es] [] = some (.ref 2000 0 0 (forestL es).length, [], [.arr 0 2 ((forestL es).map encE)]) := by
  have hl := h.len
  refine xw_call (fn := Tryz.f72) rfl Tryz.func72 rfl ⟨Nat.le_of_ble_eq_true rfl, rfl, rfl⟩ ?_
  have Fz:=fz1 Tryz.results72
  repeat'(first|exact trivial|refine go1 ?_|(refine go2 ?_ ?_<;>intro _<;>try(exfalso;omega))|(refine go4 ?_;split<;>(try(exfalso;omega);try refine go3 ?_)))
  refine xw_loopR (fun (x : Int × Nat × List (Int × Int)) s => s.m 7 = some (.arr x.2.1 2 (x.2.2.map encE)) ∧ s.ρ 5 = .ref 7 x.2.1 0 x.2.2.length ∧ s.ρ 6 = I x.1 ∧ s.ρ 0 = I n ∧ s.ρ 1 = LE es ∧
    0 ≤ x.1 ∧ x.1 ≤ es.length ∧ (x.2.2.length : Int) ≤ x.1 ∧ x.2.2 = (es.take x.1.toNat).foldl fstep []) (fun x => (es.length - x.1).toNat) (0, 0, []) (by simp [upd]) ?_
  rintro ⟨i, w, xs⟩ ⟨ρ, m⟩ ⟨m7, h5, h6, h0, h1, g0, g1, g2, g3⟩
  simp only at m7 h5 h6 h0 h1 g0 g1 g2 g3
  have hxs : OKG n xs := by rw [g3]; exact fold_take h _
  by_cases hj : i < es.length
  · have hoe := h.ok _ (getD_mem (d := (0, 0)) (show i.toNat < es.length by omega))
    unfold okE at hoe
    have hnx := fold_next g0 hj
    rw [← g3, fstep] at hnx
    have Fz:=fz6 Tryz.results72 m7 h5 h6 h0 h1
    repeat'(first|exact trivial|refine go1 ?_|(refine go2 ?_ ?_<;>intro _<;>try(exfalso;omega))|(refine go4 ?_;split<;>(try(exfalso;omega);try refine go3 ?_)))
    all_goals
      refine ⟨by omega, by omega, by omega, ?_, by omega⟩
      rw [hnx]
      first | rw [if_pos (by assumption)] | rw [if_neg (by assumption)]
  · have Fz:=fz6 Tryz.results72 m7 h5 h6 h0 h1
    repeat'(first|exact trivial|refine go1 ?_|(refine go2 ?_ ?_<;>intro _<;>try(exfalso;omega))|(refine go4 ?_;split<;>(try(exfalso;omega);try refine go3 ?_)))
    rw [take_all (by omega)] at g3
    rw [g3]
    exact ⟨rfl, rfl⟩
/-- A row of edges as it is while a function builds it: nothing, or an array. -/
def fP (d v : Nat) (xs : List (Int × Int)) : PV := if xs = [] then .i .emp else .ref d v 0 xs.length
/-- What a function hands back that builds a row of edges. -/
def qP (xs : List (Int × Int)) : PV := if xs = [] then .i .emp else .ref 2000 0 0 xs.length
def qA (xs : List (Int × Int)) : List Arr := if xs = [] then [] else [.arr 0 2 (xs.map encE)]
@[go_sem] theorem imm_q {xs : List (Int × Int)} {n : Nat} : imm (n + 1) (qA xs) (qP xs) = some (.i (qe xs)) := by
  unfold qA qP qe
  split
  · rfl
  · simp only [imm, imm1]
    simp [List.take_of_length_le]
@[go_sem] theorem c_forest (n : Int) (es : List (Int × Int)) (h : OKG n es) : KP 40 [GL n es] [] = some (qP (forestL es), [], qA (forestL es)) := by
  have hl := h.len
  refine xw_call (fn := Tryz.f40) rfl Tryz.func40 rfl ⟨Nat.le_of_ble_eq_true rfl, rfl, rfl⟩ ?_
  have Fz:=fz1 Tryz.results40
  repeat'(first|exact trivial|refine go1 ?_|(refine go2 ?_ ?_<;>intro _<;>try(exfalso;omega))|(refine go4 ?_;split<;>(try(exfalso;omega);try refine go3 ?_)))
  refine xw_loopR (fun (x : Int × Nat × List (Int × Int)) s => s.m 3 = some (.box 0 [I n, fP 27 x.2.1 x.2.2]) ∧ s.ρ 3 = .ptr 3 0 0 0 ∧ (x.2.2 ≠ [] → s.m 27 = some (.arr x.2.1 2 (x.2.2.map encE))) ∧ s.ρ 12 = I x.1 ∧ s.ρ 10 = LE es ∧ s.ρ 11 = I es.length ∧
    0 ≤ x.1 ∧ x.1 ≤ es.length ∧ (x.2.2.length : Int) ≤ x.1 ∧ x.2.2 = (es.take x.1.toNat).foldl fstep []) (fun x => (es.length - x.1).toNat) (0, 0, []) (by simp [upd, fP]) ?_
  rintro ⟨i, w, xs⟩ ⟨ρ, m⟩ ⟨m3, h3, m27, h12, h10, h11, g0, g1, g2, g3⟩
  simp only at m3 h3 m27 h12 h10 h11 g0 g1 g2 g3
  have hxs : OKG n xs := by rw [g3]; exact fold_take h _
  by_cases hj : i < es.length
  · have hoe := h.ok _ (getD_mem (d := (0, 0)) (show i.toNat < es.length by omega))
    unfold okE at hoe
    have hnx := fold_next g0 hj
    rw [← g3, fstep] at hnx
    by_cases hx : xs = []
    · subst hx
      have m3' : m 3 = some (.box 0 [I n, .i .emp]) := m3
      have hkeep : (es.getD i.toNat (0, 0)).1 ≠ (es.getD i.toNat (0, 0)).2 := by omega
      have hno : ¬ Conn [] (es.getD i.toNat (0, 0)).1 (es.getD i.toNat (0, 0)).2 := fun hc => hkeep hc.nil
      rw [if_neg hno] at hnx
      have hcc := c_connected n (es.getD i.toNat (0, 0)).1 (es.getD i.toNat (0, 0)).2 [] hxs (by omega) (by omega)
      rw [decide_eq_false hno] at hcc
      have hcc' : KP 68 [.agg [I n, .i (.lst [])], I (es.getD i.toNat (0, 0)).1, I (es.getD i.toNat (0, 0)).2] [] = some (B false, [], []) := hcc
      have Fz:=fz7 Tryz.results40 m3' h3 h12 h10 h11 hcc'
      repeat'(first|exact trivial|refine go1 ?_|(refine go2 ?_ ?_<;>intro _<;>try(exfalso;omega))|(refine go4 ?_;split<;>(try(exfalso;omega);try refine go3 ?_)))
      exact ⟨i + 1, nv (m 27), [es.getD i.toNat (0, 0)], by simp [fP], fun _ => ⟨rfl, by simp [encE]⟩, rfl, by omega, by omega, by simp; omega, by rw [hnx]; rfl, by omega⟩
    · have m27' := m27 hx
      have m3' : m 3 = some (.box 0 [I n, .ref 27 w 0 xs.length]) := by rw [m3, fP, if_neg hx]
      have Fz:=fz7 Tryz.results40 m3' m27' h3 h12 h10 h11
      repeat'(first|exact trivial|refine go1 ?_|(refine go2 ?_ ?_<;>intro _<;>try(exfalso;omega))|(refine go4 ?_;split<;>(try(exfalso;omega);try refine go3 ?_)))
      · exact ⟨i + 1, w, xs, by rw [fP, if_neg hx], fun _ => ⟨rfl, rfl⟩, rfl, by omega, by omega, by omega, by rw [hnx, if_pos (by assumption)], by omega⟩
      · exact ⟨i + 1, w + 1, xs ++ [es.getD i.toNat (0, 0)], by rw [fP, if_neg (by simp)]; simp, fun _ => ⟨rfl, rfl⟩, rfl, by omega, by omega, by simp; omega, by rw [hnx, if_neg (by assumption)], by omega⟩
  · have hxe : xs = forestL es := by rw [take_all (by omega)] at g3; exact g3
    by_cases hx : xs = []
    · have m3' : m 3 = some (.box 0 [I n, .i .emp]) := by rw [m3, fP, if_pos hx]
      unfold qP qA
      rw [← hxe, if_pos hx, if_pos hx]
      have Fz:=fz6 Tryz.results40 m3' h3 h12 h10 h11
      repeat'(first|exact trivial|refine go1 ?_|(refine go2 ?_ ?_<;>intro _<;>try(exfalso;omega))|(refine go4 ?_;split<;>(try(exfalso;omega);try refine go3 ?_)))
    · have m27' := m27 hx
      have m3' : m 3 = some (.box 0 [I n, .ref 27 w 0 xs.length]) := by rw [m3, fP, if_neg hx]
      unfold qP qA
      rw [← hxe, if_neg hx, if_neg hx]
      have Fz:=fz7 Tryz.results40 m3' m27' h3 h12 h10 h11
      repeat'(first|exact trivial|refine go1 ?_|(refine go2 ?_ ?_<;>intro _<;>try(exfalso;omega))|(refine go4 ?_;split<;>(try(exfalso;omega);try refine go3 ?_)))
end Go.Proofs.YtdlfdoicheakoaaGreat.X

/- What functions compute: an edge is put. -/
set_option linter.unusedSimpArgs false
set_option linter.unusedVariables false
set_option maxHeartbeats 8000000
set_option maxRecDepth 100000
namespace Go.Proofs.YtdlfdoicheakoaaGreat.X
open Go Go.Proofs
/-- The place of an edge that goes in. -/
def atE (e : Int × Int) (es : List (Int × Int)) (k : Int) : Prop := 0 ≤ k ∧ k ≤ es.length ∧ (∀ i : Nat, (i : Int) < k → lessE (es.getD i (0, 0)) e = true) ∧ ∀ i : Nat, k ≤ (i : Int) → i < es.length → lessE (es.getD i (0, 0)) e = false
/-- What comes back from a slice into which an edge is put. -/
def pP (es : List (Int × Int)) (e : Int × Int) : PV := if es = [] then .i (.lst [encE e]) else .ref 2000 0 0 (es.length + 1)
def pA (es : List (Int × Int)) (e : Int × Int) : List Arr := if es = [] then [] else [.arr 0 2 ((putE e es).map encE)]
theorem imm1_p {es : List (Int × Int)} {e : Int × Int} : imm1 (pA es e) (pP es e) = some (.i (.lst ((putE e es).map encE))) := by
  unfold pA pP
  split
  · rename_i h; subst h; rfl
  · simp only [imm1, List.getElem?_cons_zero, Nat.lt_irrefl, if_false, Nat.sub_self]
    simp [List.take_of_length_le, putE_length]
@[go_sem] theorem imm_p {es : List (Int × Int)} {e : Int × Int} {n : Nat} : imm n (pA es e) (pP es e) = some (.i (.lst ((putE e es).map encE))) := by
  have h := imm1_p (es := es) (e := e)
  unfold pP at h ⊢
  split at h
  · rename_i hz; rw [if_pos hz]; cases n <;> exact h
  · rename_i hz; rw [if_neg hz]; cases n <;> exact h
/-- A graph into which an edge is put. -/
def PutOK (n : Int) (es : List (Int × Int)) (e : Int × Int) : Prop := VG n es ∧ e ∉ es ∧ VG n (putE e es)
noncomputable instance decPutOK (n : Int) (es : List (Int × Int)) (e : Int × Int) : Decidable (PutOK n es e) := Classical.propDecidable _
theorem c_sPutEdge (n a b : Int) (es : List (Int × Int)) (hl : es.length ≤ 1000) : KP 65 [GL n es, PE a b] [] =
    some (if PutOK n es (a, b) then (.tup [.agg [I n, LE (putE (a, b) es)], B true], [], []) else (.tup [.agg [I 0, .i .emp], B false], [], [])) := by
  by_cases hV : VG n es ∧ (a, b) ∉ es
  rotate_left
  · rw [if_neg (fun h => hV ⟨h.1, h.2.1⟩)]
    by_cases hG : VG n es
    · have hm : (a, b) ∈ es := Classical.byContradiction fun h => hV ⟨hG, h⟩
      have h1 := decide_eq_true hG
      have h2 : ¬ findE es (a, b) < 0 := by unfold findE; rw [if_pos hm]; omega
      refine xw_call (fn := Tryz.f65) rfl Tryz.func65 rfl ⟨Nat.le_of_ble_eq_true rfl, rfl, rfl⟩ ?_
      have Fz:=fz3 Tryz.results65 h1 h2
      repeat'(first|exact trivial|refine go1 ?_|(refine go2 ?_ ?_<;>intro _<;>try(exfalso;omega))|(refine go4 ?_;split<;>(try(exfalso;omega);try refine go3 ?_)))
    · have h1 := decide_eq_false hG
      refine xw_call (fn := Tryz.f65) rfl Tryz.func65 rfl ⟨Nat.le_of_ble_eq_true rfl, rfl, rfl⟩ ?_
      have Fz:=fz2 Tryz.results65 h1
      repeat'(first|exact trivial|refine go1 ?_|(refine go2 ?_ ?_<;>intro _<;>try(exfalso;omega))|(refine go4 ?_;split<;>(try(exfalso;omega);try refine go3 ?_)))
  obtain ⟨hG, hm⟩ := hV
  have h1 := decide_eq_true hG
  have h2 : ¬ (0 ≤ findE es (a, b)) := by unfold findE; rw [if_neg hm]; omega
  have hle := hG.okg.len
  have hpl := putE_length (a, b) es
  have hgv := c_sGraphValid n (putE (a, b) es) (by omega)
  by_cases hP : VG n (putE (a, b) es)
  · rw [if_pos ⟨hG, hm, hP⟩]
    have h3 := decide_eq_true hP
    refine xw_call (fn := Tryz.f65) rfl Tryz.func65 rfl ⟨Nat.le_of_ble_eq_true rfl, rfl, rfl⟩ ?_
    have Fz:=fz5 Tryz.results65 h1 h2 hgv h3
    repeat'(first|exact trivial|refine go1 ?_|(refine go2 ?_ ?_<;>intro _<;>try(exfalso;omega))|(refine go4 ?_;split<;>(try(exfalso;omega);try refine go3 ?_)))
  · rw [if_neg (fun q => hP q.2.2)]
    have h3 := decide_eq_false hP
    refine xw_call (fn := Tryz.f65) rfl Tryz.func65 rfl ⟨Nat.le_of_ble_eq_true rfl, rfl, rfl⟩ ?_
    have Fz:=fz5 Tryz.results65 h1 h2 hgv h3
    repeat'(first|exact trivial|refine go1 ?_|(refine go2 ?_ ?_<;>intro _<;>try(exfalso;omega))|(refine go4 ?_;split<;>(try(exfalso;omega);try refine go3 ?_)))
end Go.Proofs.YtdlfdoicheakoaaGreat.X

/- Sets that are put together, spans of time: plain law. -/
set_option linter.unusedVariables false
namespace Go.Proofs.YtdlfdoicheakoaaGreat.X
open Go
abbrev inN (n x : Int) : Prop := 0 ≤ x ∧ x < n
inductive Rt (par : List Int) : Int → Int → Prop
  | top {x : Int} (h : gI par x < 0) : Rt par x x
  | up {x r : Int} (h : 0 ≤ gI par x) (k : Rt par (gI par x) r) : Rt par x r
theorem Rt.det {par : List Int} {x r s : Int} (h : Rt par x r) (k : Rt par x s) : r = s := by
  induction h with
  | top h1 =>
    cases k with
    | top _ => rfl
    | up h2 _ => omega
  | up h1 _ ih =>
    cases k with
    | top h2 => omega
    | up _ k2 => exact ih k2
theorem Rt.neg {par : List Int} {x r : Int} (h : Rt par x r) : gI par r < 0 := by
  induction h with
  | top h => exact h
  | up _ _ ih => exact ih
def rsz (par sz : List Int) (x : Int) : Int := if gI par x < 0 then gI sz x else 0
theorem nodup_iota (n : Int) : (iota n).Nodup := (sorted_iota n).imp fun h => by omega
/-- Sets that hold together what edges hold together. -/
structure US (n : Int) (es : List (Int × Int)) (par sz : List Int) : Prop where
  lp : par.length = n.toNat
  ls : sz.length = n.toNat
  rg : ∀ x, inN n x → gI par x = -1 ∨ (inN n (gI par x) ∧ gI sz x < gI sz (gI par x))
  pos : ∀ x, inN n x → 1 ≤ gI sz x
  bd : ∀ x, inN n x → gI sz x ≤ n
  sum : ((iota n).map (rsz par sz)).sum = n
  cn : ∀ x y r s, inN n x → inN n y → Rt par x r → Rt par y s → (r = s ↔ Conn es x y)
theorem US.root {n : Int} {es : List (Int × Int)} {par sz : List Int} (h : US n es par sz) : ∀ (k : Nat) (x : Int), inN n x → (n - gI sz x).toNat ≤ k → ∃ r, inN n r ∧ Rt par x r
  | k, x, hx, hk => by
    rcases h.rg x hx with h1 | ⟨h1, h2⟩
    · exact ⟨x, hx, .top (by omega)⟩
    · have h3 := h.bd _ h1
      cases k with
      | zero => omega
      | succ k =>
        obtain ⟨r, r1, r2⟩ := h.root k (gI par x) h1 (by omega)
        exact ⟨r, r1, .up h1.1 r2⟩
theorem gI_rep {n x v : Int} (hx : inN n x) : gI (List.replicate n.toNat v) x = v := by
  obtain ⟨h0, h1⟩ := hx
  have : x.toNat < n.toNat := by omega
  simp only [gI, List.getD_eq_getElem?_getD, List.getElem?_replicate, if_pos this, Option.getD_some]
theorem US.new {n : Int} (h1 : 1 ≤ n) : US n [] (List.replicate n.toNat (-1)) (List.replicate n.toNat 1) := by
  refine ⟨by simp, by simp, fun x hx => .inl (gI_rep hx), fun x hx => by rw [gI_rep hx]; omega, fun x hx => by rw [gI_rep hx]; omega, ?_, fun x y r s hx hy hr hs => ?_⟩
  · have e : (iota n).map (rsz (List.replicate n.toNat (-1)) (List.replicate n.toNat 1)) = (iota n).map fun _ => (1 : Int) := List.map_congr_left fun x hx => by
      have hx' : inN n x := mem_iota.1 hx
      rw [rsz, gI_rep hx', gI_rep hx', if_pos (by omega)]
    have : ∀ l : List Int, (l.map fun _ => (1 : Int)).sum = l.length := by
      intro l
      induction l with
      | nil => rfl
      | cons a l ih => rw [List.map_cons, List.sum_cons, ih, List.length_cons]; omega
    rw [e, this, iota_length]; omega
  · have e1 : r = x := hr.det (.top (by rw [gI_rep hx]; omega))
    have e2 : s = y := hs.det (.top (by rw [gI_rep hy]; omega))
    subst e1 e2
    exact ⟨fun e => e ▸ .refl _, fun h => h.nil⟩
/-- Two nodes of one set. -/
theorem US.same {n : Int} {es : List (Int × Int)} {par sz : List Int} (h : US n es par sz) {x y r : Int} (hx : inN n x) (hy : inN n y) (hr : Rt par x r) (hs : Rt par y r) : US n ((x, y) :: es) par sz := by
  refine ⟨h.lp, h.ls, h.rg, h.pos, h.bd, h.sum, fun u v a b hu hv ha hb => ?_⟩
  have hxy := (h.cn x y r r hx hy hr hs).1 rfl
  rw [h.cn u v a b hu hv ha hb, conn_cons]
  constructor
  · exact .inl
  · rintro (h | ⟨h1, h2⟩ | ⟨h1, h2⟩)
    · exact h
    · exact h1.trans (hxy.trans h2)
    · exact h1.trans (hxy.symm.trans h2)
/-- How many spans a time has. -/
def spanN : Nat → Int → Int → Int → Int → Int
  | 0, _, _, _, _ => 0
  | f + 1, lo, hi, fr, to => if fr ≤ lo ∧ hi ≤ to then 1 else if hi ≤ fr ∨ to ≤ lo then 0 else spanN f lo ((lo + hi) / 2) fr to + spanN f ((lo + hi) / 2) hi fr to
end Go.Proofs.YtdlfdoicheakoaaGreat.X
