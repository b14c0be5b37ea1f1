/- What functions answer, and the plain laws behind it. -/
import Derived.Test.YtmocnnknnbalkaaGreatDoorKAG
import Derived.Test.YtmocnnknnbalkaaGreatDoorKAD
/- What functions compute: cycles, forests. -/
set_option linter.unusedSimpArgs false
set_option linter.unusedVariables false
set_option maxHeartbeats 4000000
namespace Go.Proofs.YtmocnnknnbalkaaGreatDoor.X
open Go Go.Proofs
theorem OKG.sub {n : Int} {es fs : List (Int × Int)} (h : OKG n es) (hs : fs.Sublist es) : OKG n fs := ⟨h.n0, h.n1, Nat.le_trans hs.length_le h.len, fun e he => h.ok e (hs.subset he)⟩
theorem VG.cut {n : Int} {es : List (Int × Int)} (h : VG n es) (e : Int × Int) : VG n (cutE e es) := h.sub List.filter_sublist
theorem fold_sub : ∀ (fs acc : List (Int × Int)), (fs.foldl fstep acc).Sublist (acc ++ fs)
  | [], acc => by simp
  | e :: fs, acc => by
    refine (fold_sub fs (fstep acc e)).trans ?_
    unfold fstep
    split
    · exact List.Sublist.append_left (List.sublist_cons_self _ _) _
    · simp
theorem fold_take {n : Int} {es : List (Int × Int)} (h : OKG n es) (k : Nat) : OKG n ((es.take k).foldl fstep []) :=
  h.sub ((fold_sub (es.take k) []).trans (by simpa using List.take_sublist k es))
theorem fold_next {es : List (Int × Int)} {i : Int} (h0 : 0 ≤ i) (h1 : i < es.length) : (es.take (i + 1).toNat).foldl fstep [] = fstep ((es.take i.toNat).foldl fstep []) (es.getD i.toNat (0, 0)) := by
  rw [take_int (0, 0) h0 h1, List.foldl_append]; rfl
/-- A row of edges as it is while a function builds it: nothing, or an array. -/
def fP (d v : Nat) (xs : List (Int × Int)) : PV := if xs = [] then .i .emp else .ref d v 0 xs.length
/-- What a function hands back that builds a row of edges. -/
def qP (xs : List (Int × Int)) : PV := if xs = [] then .i .emp else .ref 2000 0 0 xs.length
def qA (xs : List (Int × Int)) : List Arr := if xs = [] then [] else [.arr 0 2 (xs.map encE)]
@[go_sem] theorem imm_q {xs : List (Int × Int)} {n : Nat} : imm (n + 1) (qA xs) (qP xs) = some (.i (qe xs)) := by
  unfold qA qP qe
  split
  · rfl
  · simp only [imm, imm1]
    simp [List.take_of_length_le]
@[go_sem] theorem c_forest (n : Int) (es : List (Int × Int)) (h : OKG n es) : KP 113 [GL n es] [] = some (qP (forestL es), [], qA (forestL es)) := by
  have hl := h.len
  refine xw_call (fn := Tryz.f113) rfl Tryz.func113 rfl ⟨Nat.le_of_ble_eq_true rfl, rfl, rfl⟩ ?_
  repeat'(first|(refine na ?_;constructor)|(refine ite_two ?_ ?_<;>intro _<;>first|(exfalso;omega)|skip)|refine ord_split (by kernel_rfl) ?_|((first|(refine nb ?_;constructor)|refine pn rfl ?_|refine pe rfl ?_|((first|refine at2 ?_|refine at_cond ?_);split<;>first|(exfalso;omega;done)|skip))<;>try simp(config:={maxSteps:=3000000})(disch:=first|assumption|omega|exact VG.okg (by assumption)|(simp only[List.length_set,List.length_append,List.length_cons,List.length_nil,List.length_replicate];omega))only[go_sem,simprocAttr,Tryz.results113]))
  refine xw_loopR (fun (x : Int × Nat × List (Int × Int)) s => s.m 3 = some (.box 0 [I n, fP 27 x.2.1 x.2.2]) ∧ s.ρ 3 = .ptr 3 0 0 0 ∧ (x.2.2 ≠ [] → s.m 27 = some (.arr x.2.1 2 (x.2.2.map encE))) ∧ s.ρ 12 = I x.1 ∧ s.ρ 10 = LE es ∧ s.ρ 11 = I es.length ∧
    0 ≤ x.1 ∧ x.1 ≤ es.length ∧ (x.2.2.length : Int) ≤ x.1 ∧ x.2.2 = (es.take x.1.toNat).foldl fstep []) (fun x => (es.length - x.1).toNat) (0, 0, []) (by simp [upd, fP]) ?_
  rintro ⟨i, w, xs⟩ ⟨ρ, m⟩ ⟨m3, h3, m27, h12, h10, h11, g0, g1, g2, g3⟩
  simp only at m3 h3 m27 h12 h10 h11 g0 g1 g2 g3
  have hxs : OKG n xs := by rw [g3]; exact fold_take h _
  by_cases hj : i < es.length
  · have hoe := h.ok _ (getD_mem (d := (0, 0)) (show i.toNat < es.length by omega))
    unfold okE at hoe
    have hnx := fold_next g0 hj
    rw [← g3, fstep] at hnx
    by_cases hx : xs = []
    · subst hx
      have m3' : m 3 = some (.box 0 [I n, .i .emp]) := m3
      have hkeep : (es.getD i.toNat (0, 0)).1 ≠ (es.getD i.toNat (0, 0)).2 := by omega
      have hno : ¬ Conn [] (es.getD i.toNat (0, 0)).1 (es.getD i.toNat (0, 0)).2 := fun hc => hkeep hc.nil
      rw [if_neg hno] at hnx
      have hcc := c_connected n (es.getD i.toNat (0, 0)).1 (es.getD i.toNat (0, 0)).2 [] hxs (by omega) (by omega)
      rw [decide_eq_false hno] at hcc
      have hcc' : KP 60 [.agg [I n, .i (.lst [])], I (es.getD i.toNat (0, 0)).1, I (es.getD i.toNat (0, 0)).2] [] = some (B false, [], []) := hcc
      repeat'(first|(refine na ?_;constructor)|(refine ite_two ?_ ?_<;>intro _<;>first|(exfalso;omega)|skip)|refine ord_split (by kernel_rfl) ?_|((first|(refine nb ?_;constructor)|refine pn rfl ?_|refine pe rfl ?_|((first|refine at2 ?_|refine at_cond ?_);split<;>first|(exfalso;omega;done)|skip))<;>try simp(config:={maxSteps:=3000000})(disch:=first|assumption|omega|exact VG.okg (by assumption)|(simp only[List.length_set,List.length_append,List.length_cons,List.length_nil,List.length_replicate];omega))only[go_sem,simprocAttr,Tryz.results113, m3', h3, h12, h10, h11, hcc']))
      exact ⟨i + 1, nv (m 27), [es.getD i.toNat (0, 0)], by simp [fP], fun _ => ⟨rfl, by simp [encE]⟩, rfl, by omega, by omega, by simp; omega, by rw [hnx]; rfl, by omega⟩
    · have m27' := m27 hx
      have m3' : m 3 = some (.box 0 [I n, .ref 27 w 0 xs.length]) := by rw [m3, fP, if_neg hx]
      repeat'(first|(refine na ?_;constructor)|(refine ite_two ?_ ?_<;>intro _<;>first|(exfalso;omega)|skip)|refine ord_split (by kernel_rfl) ?_|((first|(refine nb ?_;constructor)|refine pn rfl ?_|refine pe rfl ?_|((first|refine at2 ?_|refine at_cond ?_);split<;>first|(exfalso;omega;done)|skip))<;>try simp(config:={maxSteps:=3000000})(disch:=first|assumption|omega|exact VG.okg (by assumption)|(simp only[List.length_set,List.length_append,List.length_cons,List.length_nil,List.length_replicate];omega))only[go_sem,simprocAttr,Tryz.results113, m3', m27', h3, h12, h10, h11]))
      · exact ⟨i + 1, w, xs, by rw [fP, if_neg hx], fun _ => ⟨rfl, rfl⟩, rfl, by omega, by omega, by omega, by rw [hnx, if_pos (by assumption)], by omega⟩
      · exact ⟨i + 1, w + 1, xs ++ [es.getD i.toNat (0, 0)], by rw [fP, if_neg (by simp)]; simp, fun _ => ⟨rfl, rfl⟩, rfl, by omega, by omega, by simp; omega, by rw [hnx, if_neg (by assumption)], by omega⟩
  · have hxe : xs = forestL es := by rw [take_all (by omega)] at g3; exact g3
    by_cases hx : xs = []
    · have m3' : m 3 = some (.box 0 [I n, .i .emp]) := by rw [m3, fP, if_pos hx]
      unfold qP qA
      rw [← hxe, if_pos hx, if_pos hx]
      repeat'(first|(refine na ?_;constructor)|(refine ite_two ?_ ?_<;>intro _<;>first|(exfalso;omega)|skip)|refine ord_split (by kernel_rfl) ?_|((first|(refine nb ?_;constructor)|refine pn rfl ?_|refine pe rfl ?_|((first|refine at2 ?_|refine at_cond ?_);split<;>first|(exfalso;omega;done)|skip))<;>try simp(config:={maxSteps:=3000000})(disch:=first|assumption|omega|exact VG.okg (by assumption)|(simp only[List.length_set,List.length_append,List.length_cons,List.length_nil,List.length_replicate];omega))only[go_sem,simprocAttr,Tryz.results113, m3', h3, h12, h10, h11]))
    · have m27' := m27 hx
      have m3' : m 3 = some (.box 0 [I n, .ref 27 w 0 xs.length]) := by rw [m3, fP, if_neg hx]
      unfold qP qA
      rw [← hxe, if_neg hx, if_neg hx]
      repeat'(first|(refine na ?_;constructor)|(refine ite_two ?_ ?_<;>intro _<;>first|(exfalso;omega)|skip)|refine ord_split (by kernel_rfl) ?_|((first|(refine nb ?_;constructor)|refine pn rfl ?_|refine pe rfl ?_|((first|refine at2 ?_|refine at_cond ?_);split<;>first|(exfalso;omega;done)|skip))<;>try simp(config:={maxSteps:=3000000})(disch:=first|assumption|omega|exact VG.okg (by assumption)|(simp only[List.length_set,List.length_append,List.length_cons,List.length_nil,List.length_replicate];omega))only[go_sem,simprocAttr,Tryz.results113, m3', m27', h3, h12, h10, h11]))
end Go.Proofs.YtmocnnknnbalkaaGreatDoor.X

/- What functions compute: texts that are parsed. -/
set_option linter.unusedSimpArgs false
set_option linter.unusedVariables false
set_option maxHeartbeats 8000000
set_option maxRecDepth 100000
namespace Go.Proofs.YtmocnnknnbalkaaGreatDoor.X
open Go Go.Proofs
theorem encS_all (xs : List (List UInt8)) : (xs.map encS).all (fun e => e.length == 1) = true := by simp [encS]
theorem edT_cut (e : Int × Int) (h : (0 ≤ e.1 ∧ e.1 < 100) ∧ 0 ≤ e.2 ∧ e.2 < 100) : KP 41 [S (edT e), S [45]] [] = some (.tup [S (dgt e.1), S (dgt e.2), B true], [], []) := by
  have l1 : (dgt e.1).length ≤ 2 := (dec2_len (n := e.1.toNat)).2
  have l2 : (dgt e.2).length ≤ 2 := (dec2_len (n := e.2.toNat)).2
  exact c_Cut_at (dgt e.1) (dgt e.2) 45 (dec2_no (by omega) (by decide)) (by omega)
theorem c_ParseGraph (n : Int) (es : List (Int × Int)) (hV : VG n es) : KP 74 [S (fmtG n es)] [] = some (.tup [.agg [I n, qP es], B true], [], qA es) := by
  obtain ⟨hs, n0, n1⟩ := hV.small
  have hel := hV.2.2.1
  have hlen := fmtG_len n es
  have hpc := pcs_fmtG ⟨n0, n1⟩ hs
  have hsp := c_SplitN (fmtG n es) 32 42 (by omega) (by rw [hpc]; simp; omega) (by omega)
  rw [hpc] at hsp
  simp only [List.map_cons, encS] at hsp
  have hfg := c_FormatGraph n es (by omega)
  rw [if_pos hV] at hfg
  have hne : eqS (fmtG n es) [] = false := eqS_ne (fun h => by rw [h] at hlen; simp at hlen)
  have han := c_atoi n n0 n1
  have hWl : ((es.map edT).map encS).length = es.length := by simp
  have hWt : ((es.map edT).map encS).take es.length = (es.map edT).map encS := List.take_of_length_le (by simp)
  have hWa := encS_all (es.map edT)
  have hWg : ∀ i : Nat, i < es.length → ((es.map edT).map encS)[i]? = some [.v (.string ⟨(edT (es.getD i (0, 0))).toArray⟩)] := fun i hi => by simp [encS, hi]
  generalize hW : (es.map edT).map encS = W at *
  have hsub : es.length + 1 - 1 = es.length := by omega
  generalize hT : fmtG n es = T at *
  refine xw_call (fn := Tryz.f74) rfl Tryz.func74 rfl ⟨Nat.le_of_ble_eq_true rfl, rfl, rfl⟩ ?_
  repeat'(first|(refine na ?_;constructor)|(refine ite_two ?_ ?_<;>intro _<;>first|(exfalso;omega)|skip)|refine ord_split (by kernel_rfl) ?_|((first|(refine nb ?_;constructor)|refine pn rfl ?_|refine pe rfl ?_|((first|refine at2 ?_|refine at_cond ?_);split<;>first|(exfalso;omega;done)|skip))<;>try simp(config:={maxSteps:=3000000})(disch:=first|assumption|omega|exact VG.okg (by assumption)|(simp only[List.length_set,List.length_append,List.length_cons,List.length_nil,List.length_replicate];omega))only[go_sem,simprocAttr,Tryz.results74, hsp, han, hWl, hWt, hWa, hsub]))
  refine xw_loopR (fun (x : Int × Nat) s => s.ρ 29 = .i (.lst W) ∧ s.ρ 30 = I es.length ∧ s.ρ 31 = I x.1 ∧ s.ρ 5 = I n ∧ s.ρ 6 = .i (.v .nilIface) ∧ s.ρ 0 = S T ∧ s.ρ 2 = .ptr 2 0 0 0 ∧ s.m 2 = some (.box 0 [I 0, .i .emp]) ∧ s.ρ 7 = .ptr 7 0 0 0 ∧ s.m 7 = some (.box 0 [I n, fP 68 x.2 (es.take x.1.toNat)]) ∧ (es.take x.1.toNat ≠ [] → s.m 68 = some (.arr x.2 2 ((es.take x.1.toNat).map encE))) ∧
    0 ≤ x.1 ∧ x.1 ≤ es.length) (fun x => (es.length - x.1).toNat) (0, 0) ?_ ?_
  · exact ⟨rfl, by simp [upd, hWl], rfl, rfl, rfl, rfl, rfl, rfl, rfl, rfl, fun h => absurd rfl h, by simp, by simp⟩
  rintro ⟨i, w⟩ ⟨ρ, m⟩ ⟨e29, e30, e31, e5, e6, e0, e2, m2, e7, m7, m68, g0, g1⟩
  simp only at e29 e30 e31 e5 e6 e0 e2 m2 e7 m7 m68 g0 g1
  by_cases hi : i < es.length
  rotate_left
  · have ht : es.take i.toNat = es := take_all (by omega)
    rw [ht] at m7 m68
    unfold qP qA
    by_cases hz : es = []
    · subst hz
      have m7' : m 7 = some (.box 0 [I n, .i .emp]) := m7
      have hfg' : KP 12 [.agg [I n, .i (.lst [])]] [] = some (S T, [], []) := hfg
      repeat'(first|(refine na ?_;constructor)|(refine ite_two ?_ ?_<;>intro _<;>first|(exfalso;omega)|skip)|refine ord_split (by kernel_rfl) ?_|((first|(refine nb ?_;constructor)|refine pn rfl ?_|refine pe rfl ?_|((first|refine at2 ?_|refine at_cond ?_);split<;>first|(exfalso;omega;done)|skip))<;>try simp(config:={maxSteps:=3000000})(disch:=first|assumption|omega|exact VG.okg (by assumption)|(simp only[List.length_set,List.length_append,List.length_cons,List.length_nil,List.length_replicate];omega))only[go_sem,simprocAttr,Tryz.results74, e29, e30, e31, e5, e6, e0, e2, m2, e7, m7', hne, hfg']))
    · have m7' : m 7 = some (.box 0 [I n, .ref 68 w 0 es.length]) := by rw [m7, fP, if_neg hz]
      have m68' := m68 hz
      rw [if_neg hz, if_neg hz]
      repeat'(first|(refine na ?_;constructor)|(refine ite_two ?_ ?_<;>intro _<;>first|(exfalso;omega)|skip)|refine ord_split (by kernel_rfl) ?_|((first|(refine nb ?_;constructor)|refine pn rfl ?_|refine pe rfl ?_|((first|refine at2 ?_|refine at_cond ?_);split<;>first|(exfalso;omega;done)|skip))<;>try simp(config:={maxSteps:=3000000})(disch:=first|assumption|omega|exact VG.okg (by assumption)|(simp only[List.length_set,List.length_append,List.length_cons,List.length_nil,List.length_replicate];omega))only[go_sem,simprocAttr,Tryz.results74, e29, e30, e31, e5, e6, e0, e2, m2, e7, m7', m68', hne, hfg]))
  have hgi := hWg i.toNat (by omega)
  have hsm := hs _ (getD_mem (d := (0, 0)) (show i.toNat < es.length by omega))
  have htk := take_int (l := es) (0, 0) g0 hi
  have hcu := edT_cut (es.getD i.toNat (0, 0)) hsm
  generalize es.getD i.toNat (0, 0) = e at hgi hsm htk hcu
  obtain ⟨a, b⟩ := e
  simp only at hgi hsm hcu
  have ha := c_atoi a hsm.1.1 hsm.1.2
  have hb := c_atoi b hsm.2.1 hsm.2.2
  have htl : (es.take i.toNat).length = i.toNat := by rw [List.length_take]; omega
  generalize es.take i.toNat = xs at m7 m68 htk htl
  by_cases hz : xs = []
  · subst hz
    have m7' : m 7 = some (.box 0 [I n, .i .emp]) := m7
    repeat'(first|(refine na ?_;constructor)|(refine ite_two ?_ ?_<;>intro _<;>first|(exfalso;omega)|skip)|refine ord_split (by kernel_rfl) ?_|((first|(refine nb ?_;constructor)|refine pn rfl ?_|refine pe rfl ?_|((first|refine at2 ?_|refine at_cond ?_);split<;>first|(exfalso;omega;done)|skip))<;>try simp(config:={maxSteps:=3000000})(disch:=first|assumption|omega|exact VG.okg (by assumption)|(simp only[List.length_set,List.length_append,List.length_cons,List.length_nil,List.length_replicate];omega))only[go_sem,simprocAttr,Tryz.results74, e29, e30, e31, e5, e6, e0, e2, m2, e7, m7', hgi, hcu, ha, hb]))
    exact ⟨nv (m 68), by rw [htk]; simp [fP], fun _ => ⟨rfl, by rw [htk]; rfl⟩, by omega, by omega, by omega⟩
  · have m7' : m 7 = some (.box 0 [I n, .ref 68 w 0 xs.length]) := by rw [m7, fP, if_neg hz]
    have m68' := m68 hz
    repeat'(first|(refine na ?_;constructor)|(refine ite_two ?_ ?_<;>intro _<;>first|(exfalso;omega)|skip)|refine ord_split (by kernel_rfl) ?_|((first|(refine nb ?_;constructor)|refine pn rfl ?_|refine pe rfl ?_|((first|refine at2 ?_|refine at_cond ?_);split<;>first|(exfalso;omega;done)|skip))<;>try simp(config:={maxSteps:=3000000})(disch:=first|assumption|omega|exact VG.okg (by assumption)|(simp only[List.length_set,List.length_append,List.length_cons,List.length_nil,List.length_replicate];omega))only[go_sem,simprocAttr,Tryz.results74, e29, e30, e31, e5, e6, e0, e2, m2, e7, m7', m68', hgi, hcu, ha, hb]))
    exact ⟨w + 1, by rw [htk, fP, if_neg (by simp)]; simp, fun _ => ⟨rfl, by rw [htk]⟩, by omega, by omega, by omega⟩
end Go.Proofs.YtmocnnknnbalkaaGreatDoor.X

/- What functions compute: lines of numbers, of lists. -/
set_option linter.unusedSimpArgs false
set_option linter.unusedVariables false
set_option maxHeartbeats 8000000
set_option maxRecDepth 100000
namespace Go.Proofs.YtmocnnknnbalkaaGreatDoor.X
open Go Go.Proofs
theorem c_numbersText (D : List UInt8) (xs : List Int) (hs : smallL xs) (hD : D.length ≤ 100000) (hl : xs.length ≤ 1000) : KP 65 [S D, LI xs] [] = some (S (D ++ numsT xs ++ [10]), [], []) := by
  refine xw_call (fn := Tryz.f65) rfl Tryz.func65 rfl ⟨Nat.le_of_ble_eq_true rfl, rfl, rfl⟩ ?_
  repeat'(first|(refine na ?_;constructor)|(refine ite_two ?_ ?_<;>intro _<;>first|(exfalso;omega)|skip)|refine ord_split (by kernel_rfl) ?_|((first|(refine nb ?_;constructor)|refine pn rfl ?_|refine pe rfl ?_|((first|refine at2 ?_|refine at_cond ?_);split<;>first|(exfalso;omega;done)|skip))<;>try simp(config:={maxSteps:=3000000})(disch:=first|assumption|omega|exact VG.okg (by assumption)|(simp only[List.length_set,List.length_append,List.length_cons,List.length_nil,List.length_replicate];omega))only[go_sem,simprocAttr,Tryz.results65]))
  refine xw_loopR (fun (i : Int) s => s.ρ 7 = LI xs ∧ s.ρ 8 = I xs.length ∧ s.ρ 0 = S (D ++ numsT (xs.take i.toNat)) ∧ s.ρ 9 = I i ∧ 0 ≤ i ∧ i ≤ xs.length) (fun i => (xs.length - i).toNat) 0 ?_ ?_
  · refine ⟨rfl, rfl, ?_, rfl, by omega, by omega⟩
    simp [upd, numsT]
  rintro i ⟨ρ, m⟩ ⟨h7, h8, h0, h9, g0, g1⟩
  simp only at h7 h8 h0 h9 g0 g1
  have hnl := numsT_len (xs.take i.toNat)
  rw [List.length_take] at hnl
  by_cases hi : i < xs.length
  rotate_left
  · rw [take_all (by omega)] at h0 hnl
    repeat'(first|(refine na ?_;constructor)|(refine ite_two ?_ ?_<;>intro _<;>first|(exfalso;omega)|skip)|refine ord_split (by kernel_rfl) ?_|((first|(refine nb ?_;constructor)|refine pn rfl ?_|refine pe rfl ?_|((first|refine at2 ?_|refine at_cond ?_);split<;>first|(exfalso;omega;done)|skip))<;>try simp(config:={maxSteps:=3000000})(disch:=first|assumption|omega|exact VG.okg (by assumption)|(simp only[List.length_set,List.length_append,List.length_cons,List.length_nil,List.length_replicate];omega))only[go_sem,simprocAttr,Tryz.results65, h7, h8, h0, h9]))
  have hgi := getI xs i.toNat (by omega)
  have hsm := hs _ (getD_mem (d := 0) (show i.toNat < xs.length by omega))
  have hnx : numsT (xs.take (i + 1).toNat) = numsT (xs.take i.toNat) ++ 32 :: dgt (xs.getD i.toNat 0) := by
    rw [take_int 0 g0 hi, numsT_snoc]
  generalize numsT (xs.take i.toNat) = T at *
  generalize xs.getD i.toNat 0 = a at hgi hsm hnx
  have hta := c_itoa a hsm.1 hsm.2
  have la : 1 ≤ (dgt a).length ∧ (dgt a).length ≤ 2 := dec2_len (n := a.toNat)
  generalize dgt a = A at *
  repeat'(first|(refine na ?_;constructor)|(refine ite_two ?_ ?_<;>intro _<;>first|(exfalso;omega)|skip)|refine ord_split (by kernel_rfl) ?_|((first|(refine nb ?_;constructor)|refine pn rfl ?_|refine pe rfl ?_|((first|refine at2 ?_|refine at_cond ?_);split<;>first|(exfalso;omega;done)|skip))<;>try simp(config:={maxSteps:=3000000})(disch:=first|assumption|omega|exact VG.okg (by assumption)|(simp only[List.length_set,List.length_append,List.length_cons,List.length_nil,List.length_replicate];omega))only[go_sem,simprocAttr,Tryz.results65, h7, h8, h0, h9, hgi, hta]))
  exact ⟨i + 1, by rw [hnx]; simp, rfl, by omega, by omega, by omega⟩
end Go.Proofs.YtmocnnknnbalkaaGreatDoor.X

/- Breadth search along edges that can be gone along: plain law. -/
set_option linter.unusedVariables false
namespace Go.Proofs.YtmocnnknnbalkaaGreatDoor.X
open Go
def look (goes : Int → Int → Bool) (a : Int) (st : List Int × List Int) (v : Int) : List Int × List Int :=
  if st.1.getD v.toNat 0 < 0 ∧ goes a v = true then (st.1.set v.toNat a, st.2 ++ [v]) else st
def bstep (es : List (Int × Int)) (goes : Int → Int → Bool) (st : List Int × List Int) (i : Nat) : List Int × List Int :=
  if i < st.2.length then (nbS (st.2.getD i 0) es).foldl (look goes (st.2.getD i 0)) st else st
/-- From which nodes nodes are reached, and in which order. -/
def bfsS (n : Int) (es : List (Int × Int)) (goes : Int → Int → Bool) (x : Int) : Nat → List Int × List Int
  | 0 => ((List.replicate n.toNat (-1)).set x.toNat x, [x])
  | i + 1 => bstep es goes (bfsS n es goes x i) i
def bfs (n : Int) (es : List (Int × Int)) (goes : Int → Int → Bool) (x : Int) : List Int × List Int := bfsS n es goes x n.toNat
structure BI (n : Int) (es : List (Int × Int)) (goes : Int → Int → Bool) (x : Int) (st : List Int × List Int) : Prop where
  len : st.1.length = n.toNat
  nd : st.2.Nodup
  pos : 0 < st.2.length
  hd : st.2.getD 0 0 = x
  mem : ∀ v, 0 ≤ v → v < n → (0 ≤ st.1.getD v.toNat 0 ↔ v ∈ st.2)
  neg : ∀ v, 0 ≤ v → v < n → st.1.getD v.toNat 0 < 0 → st.1.getD v.toNat 0 = -1
  rng : ∀ v ∈ st.2, 0 ≤ v ∧ v < n
  self : st.1.getD x.toNat 0 = x
  par : ∀ k, 0 < k → k < st.2.length → ∃ j, j < k ∧ st.1.getD (st.2.getD k 0).toNat 0 = st.2.getD j 0 ∧ Adj es (st.2.getD j 0) (st.2.getD k 0) ∧ goes (st.2.getD j 0) (st.2.getD k 0) = true
theorem getD_append_left' {l r : List Int} {i : Nat} (h : i < l.length) : (l ++ r).getD i 0 = l.getD i 0 := by
  simp [List.getD, List.getElem?_append_left h]
theorem getD_append_last {l : List Int} {v : Int} : (l ++ [v]).getD l.length 0 = v := by
  simp [List.getD]
theorem BI.look {n : Int} {es : List (Int × Int)} {goes : Int → Int → Bool} {x a v : Int} {st : List Int × List Int} (h : BI n es goes x st) (ha : a ∈ st.2) (hv : 0 ≤ v ∧ v < n) (hav : Adj es a v) :
    BI n es goes x (look goes a st v) ∧ st.2 <+: (X.look goes a st v).2 ∧ (goes a v = true → v ∈ (X.look goes a st v).2) := by
  unfold X.look
  split
  · rename_i hc
    obtain ⟨hneg, hgo⟩ := hc
    have hnm : v ∉ st.2 := fun hm => by have := (h.mem v hv.1 hv.2).2 hm; omega
    have hvl : v.toNat < st.1.length := by rw [h.len]; omega
    have hg : ∀ u : Int, 0 ≤ u → u < n → (st.1.set v.toNat a).getD u.toNat 0 = if v = u then a else st.1.getD u.toNat 0 := fun u h0 h1 => by
      rw [getD_set (by rw [h.len]; omega)]
      by_cases he : v = u
      · subst he; simp
      · rw [if_neg he, if_neg (by omega)]
    have har := h.rng a ha
    refine ⟨⟨by simp [h.len], ?_, by simp, ?_, fun u h0 h1 => ?_, fun u h0 h1 hn => ?_, fun u hu => ?_, ?_, fun k h0 h1 => ?_⟩, List.prefix_append _ _, fun _ => by simp⟩
    · rw [List.nodup_append]
      exact ⟨h.nd, by simp, fun y hy z hz => by simp only [List.mem_singleton] at hz; subst hz; exact fun e => hnm (e ▸ hy)⟩
    · rw [getD_append_left' h.pos]; exact h.hd
    · simp only [List.mem_append, List.mem_singleton]
      rw [hg u h0 h1]
      by_cases he : v = u
      · subst he; simp; exact har.1
      · rw [if_neg he, h.mem u h0 h1]
        exact ⟨.inl, fun h' => h'.resolve_right fun e => he e.symm⟩
    · simp only at hn ⊢
      rw [hg u h0 h1] at hn ⊢
      split
      · rw [if_pos ‹_›] at hn; omega
      · rw [if_neg ‹_›] at hn; exact h.neg u h0 h1 hn
    · simp only [List.mem_append, List.mem_singleton] at hu
      rcases hu with hu | rfl
      · exact h.rng u hu
      · exact hv
    · have hx : x ∈ st.2 := by
        have := getD_mem (d := 0) h.pos
        rw [h.hd] at this; exact this
      have hxr := h.rng x hx
      simp only
      rw [hg x hxr.1 hxr.2, if_neg (fun e : v = x => hnm (by rw [e]; exact hx))]
      exact h.self
    · simp only [List.length_append, List.length_cons, List.length_nil] at h1
      simp only
      by_cases hk : k < st.2.length
      · obtain ⟨j, j1, j2, j3, j4⟩ := h.par k h0 hk
        have hkm := getD_mem (d := 0) hk
        have hkr := h.rng _ hkm
        refine ⟨j, j1, ?_⟩
        rw [getD_append_left' hk, getD_append_left' (show j < st.2.length by omega) (r := [v]), hg _ hkr.1 hkr.2, if_neg (fun e : v = st.2.getD k 0 => hnm (by rw [e]; exact hkm))]
        exact ⟨j2, j3, j4⟩
      · obtain rfl : k = st.2.length := by omega
        rw [getD_append_last, hg v hv.1 hv.2, if_pos rfl]
        obtain ⟨j, hj, he⟩ := List.mem_iff_getElem.1 ha
        refine ⟨j, hj, ?_⟩
        have e1 : st.2.getD j 0 = a := by simp [List.getD, hj, he]
        rw [getD_append_left' hj, e1]
        exact ⟨rfl, hav, hgo⟩
  · rename_i hc
    refine ⟨h, List.prefix_refl _, fun hgo => ?_⟩
    refine (h.mem v hv.1 hv.2).1 (Classical.byContradiction fun hn => hc ⟨by omega, hgo⟩)
def upL (fr : List Int) (x : Int) : Nat → Int → List Int
  | 0, y => [y]
  | k + 1, y => if y = x then [y] else y :: upL fr x k (fr.getD y.toNat 0)
/-- The way to a node that is reached. -/
def wayL (n : Int) (fr : List Int) (x y : Int) : List Int := (upL fr x n.toNat y).reverse
/-- A row of different nodes along edges that can be gone along. -/
structure Way (es : List (Int × Int)) (goes : Int → Int → Bool) (x y : Int) (p : List Int) : Prop where
  pos : 0 < p.length
  nd : p.Nodup
  hd : p.getD 0 0 = x
  la : p.getD (p.length - 1) 0 = y
  st : ∀ i, i + 1 < p.length → Adj es (p.getD i 0) (p.getD (i + 1) 0) ∧ goes (p.getD i 0) (p.getD (i + 1) 0) = true
end Go.Proofs.YtmocnnknnbalkaaGreatDoor.X

/- Units along ways, and cuts: plain law. -/
set_option linter.unusedVariables false
namespace Go.Proofs.YtmocnnknnbalkaaGreatDoor.X
open Go
abbrev Un := Int → Int → Bool
/-- A unit more from a node to another one. -/
def stepF (F : Un) (a b : Int) : Un := fun c d => if F b a = true then (if c = b ∧ d = a then false else F c d) else (if c = a ∧ d = b then true else F c d)
/-- A unit more along a row of nodes, from its first step on. -/
def augF (F : Un) : List Int → Un
  | a :: b :: r => augF (stepF F a b) (b :: r)
  | _ => F
/-- The same, from the last step on. -/
def augB (F : Un) : List Int → Un
  | a :: b :: r => stepF (augB F (b :: r)) a b
  | _ => F
def Steps (P : Int → Int → Prop) : List Int → Prop
  | a :: b :: r => P a b ∧ Steps P (b :: r)
  | _ => True
theorem Steps.of {P : Int → Int → Prop} : ∀ {p : List Int}, (∀ i, i + 1 < p.length → P (p.getD i 0) (p.getD (i + 1) 0)) → Steps P p
  | [], _ => trivial
  | [a], _ => trivial
  | a :: b :: r, h => ⟨h 0 (by simp), Steps.of (p := b :: r) fun i hi => by
      have := h (i + 1) (by simp only [List.length_cons] at hi ⊢; omega)
      simpa using this⟩
theorem Steps.mono {P Q : Int → Int → Prop} : ∀ {p : List Int}, (∀ a b, a ∈ p → b ∈ p → P a b → Q a b) → Steps P p → Steps Q p
  | [], _, _ => trivial
  | [a], _, _ => trivial
  | a :: b :: r, h, ⟨h1, h2⟩ => ⟨h a b (by simp) (by simp) h1, Steps.mono (p := b :: r) (fun c d hc hd => h c d (List.mem_cons_of_mem _ hc) (List.mem_cons_of_mem _ hd)) h2⟩
/-- Units lie on edges, and not in both directions. -/
structure OKF (es : List (Int × Int)) (F : Un) : Prop where
  adj : ∀ a b, F a b = true → Adj es a b
  one : ∀ a b, F a b = true → F b a = false
theorem OKF.step {es : List (Int × Int)} {F : Un} {a b : Int} (h : OKF es F) (ha : Adj es a b) (hne : a ≠ b) : OKF es (stepF F a b) := by
  constructor
  · intro c d hcd
    unfold stepF at hcd
    split at hcd
    · split at hcd
      · cases hcd
      · exact h.adj c d hcd
    · split at hcd
      · rename_i hc; rw [hc.1, hc.2]; exact ha
      · exact h.adj c d hcd
  · intro c d hcd
    unfold stepF at hcd ⊢
    split at hcd
    · rename_i hba
      rw [if_pos hba]
      split at hcd
      · cases hcd
      · split
        · rfl
        · exact h.one c d hcd
    · rename_i hba
      rw [if_neg hba]
      split at hcd
      · rename_i hc
        obtain ⟨rfl, rfl⟩ := hc
        rw [if_neg (fun k => hne k.2)]
        exact Bool.not_eq_true _ ▸ hba
      · rename_i hc
        split
        · rename_i hd
          obtain ⟨rfl, rfl⟩ := hd
          exact absurd hcd hba
        · exact h.one c d hcd
def b2i (b : Bool) : Int := if b = true then 1 else 0
def contrib (S : Int → Bool) (F : Un) (e : Int × Int) : Int := (b2i (S e.1) - b2i (S e.2)) * (b2i (F e.1 e.2) - b2i (F e.2 e.1))
def val (S : Int → Bool) (F : Un) (es : List (Int × Int)) : Int := (es.map (contrib S F)).sum
/-- The edges that lead out of a set. -/
def cutsz (S : Int → Bool) (es : List (Int × Int)) : Nat := (es.filter fun e => S e.1 != S e.2).length
def goesF (F : Un) : Int → Int → Bool := fun a b => !F a b
def flS (n : Int) (es : List (Int × Int)) (x y : Int) : Nat → Un
  | 0 => fun _ _ => false
  | k + 1 => augF (flS n es x y k) (wayL n (bfs n es (goesF (flS n es x y k)) x).1 x y)
/-- Is there a way yet? -/
def more (n : Int) (es : List (Int × Int)) (x y : Int) (k : Nat) : Prop := y ∈ (bfs n es (goesF (flS n es x y k)) x).2
instance (n : Int) (es : List (Int × Int)) (x y : Int) (k : Nat) : Decidable (more n es x y k) := by unfold more; infer_instance
/-- How many ways there are. -/
def flN (n : Int) (es : List (Int × Int)) (x y : Int) : Nat := ((List.range (n.toNat + 1)).find? fun k => decide ¬ more n es x y k).getD 0
/-- The units in the end. -/
def flU (n : Int) (es : List (Int × Int)) (x y : Int) : Un := flS n es x y (flN n es x y)
/-- The nodes that can be reached in the end. -/
def sideO (n : Int) (es : List (Int × Int)) (x y : Int) : List Int := (bfs n es (goesF (flU n es x y)) x).2
end Go.Proofs.YtmocnnknnbalkaaGreatDoor.X
