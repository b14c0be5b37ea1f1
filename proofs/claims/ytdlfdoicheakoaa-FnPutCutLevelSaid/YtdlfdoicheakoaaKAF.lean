/- What functions answer, and the plain laws behind it. -/
import Derived.Test.YtdlfdoicheakoaaKAE
/- What functions compute: rows of truth values, breadth search along what can be gone along. -/
set_option linter.unusedSimpArgs false
set_option linter.unusedVariables false
set_option maxHeartbeats 4000000
namespace Go.Proofs.Ytdlfdoicheakoaa.X
open Go Go.Proofs
def bP (b : Bool) : PV := .i (.v (.bool b))
def bI (b : Bool) : IV := .v (.bool b)
def fB (n : Nat) : List Bool := List.replicate n false
theorem fB_len (n : Nat) : (fB n).length = n := by simp [fB]
theorem zB_map (n : Nat) : (zB n).map PV.i = (fB n).map bP := by simp [zB, fB, bP]
theorem zB_len (n : Nat) : (zB n).length = n := by simp [zB]
theorem zB_flat (n : Nat) : (zB n).all (fun x => x.flat) = true := by simp [zB, IV.flat, Value.oneCell']
theorem bP_get (us : List Bool) (i : Nat) (h : i < us.length) : (us.map bP)[i]? = some (.i (.v (.bool (us.getD i false)))) := by simp [bP, h]
theorem bI_get (us : List Bool) (i : Nat) (h : i < us.length) : (us.map bI)[i]? = some (.v (.bool (us.getD i false))) := by simp [bI, h]
theorem bP_scalar (us : List Bool) : (us.map bP).all (fun x => x.scalar) = true := by simp [bP, PV.scalar, IV.flat, Value.oneCell']
theorem bP_scalar2 (us : List Bool) : (List.all (us.map bP) fun x => PV.scalar.match_1 (fun _ => Bool) x (fun x => x.flat) (fun _ _ _ _ => true) (fun _ _ _ _ => true) (fun _ _ _ => true) (fun _ => false)) = true := bP_scalar us
theorem bP_isI (us : List Bool) : (us.map bP).all PV.isI = true := by simp [bP, PV.isI]
theorem bI_map (us : List Bool) : (us.map bI).map PV.i = us.map bP := by simp [bI, bP]
theorem bP_frz (n : Nat) : ∀ us : List Bool, Mm.mapL (frz n) (us.map bP) = .ret (us.map bI)
  | [] => rfl
  | b :: us => by
    have ih := bP_frz n us
    have e : frz n (bP b) = .ret (bI b) := by cases n <;> rfl
    simp only [List.map_cons, Mm.mapL, e, Mm.bind, ih]
theorem bP_ren (look : Nat → Nat → Mm (Nat × Nat)) (n : Nat) : ∀ us : List Bool, Mm.mapL (ren look n) (us.map bP) = .ret (us.map bP)
  | [] => rfl
  | b :: us => by
    have ih := bP_ren look n us
    have e : ren look n (bP b) = .ret (bP b) := by cases n <;> rfl
    simp only [List.map_cons, Mm.mapL, e, Mm.bind, ih]
theorem bP_imm (own : List Arr) (n : Nat) : ∀ us : List Bool, mapO (imm n own) (us.map bP) = some (us.map bP)
  | [] => rfl
  | b :: us => by
    have ih := bP_imm own n us
    have e : imm n own (bP b) = some (bP b) := by cases n <;> rfl
    simp only [List.map_cons, mapO, e, ih]
theorem bP_imm2 (us : List Bool) : mapO (fun x => cons1.match_2 (fun _ => Option PV) x (fun x => some (PV.i x)) (fun s ver off len => if s < 2000 then some (PV.ref s ver off len) else none) (fun _ => none)) (us.map bP) = some (us.map bP) := by
  induction us with
  | nil => rfl
  | cons b us ih => simp only [List.map_cons, mapO, ih, bP]
theorem bP_any (n : Nat) (us : List Bool) : (us.map bP).any (hasRef n) = false := by
  simp only [List.any_map, List.any_eq_false]
  intro b _
  cases n <;> simp [hasRef, bP]
theorem bP_put (us : List Bool) (i : Nat) (b : Bool) (h : i < us.length) : (us.map bP).take i ++ (.i (.v (.bool b)) :: (us.map bP).drop (i + 1)) = (us.set i b).map bP := by
  rw [List.map_set, List.set_eq_take_append_cons_drop, if_pos (by simpa using h)]; rfl
theorem bP_takeAll (us : List Bool) (k : Nat) (h : us.length ≤ k) : (us.map bP).take k = us.map bP := List.take_of_length_le (by simpa using h)
theorem bP_dropAll (us : List Bool) (k : Nat) (h : us.length ≤ k) : (us.map bP).drop k = [] := List.drop_eq_nil_of_le (by simpa using h)
theorem fB_drop (n : Nat) : ((fB n).map bP).drop n = [] := List.drop_eq_nil_of_le (by simp [fB])
theorem fB_take (n : Nat) : ((fB n).map bP).take n = (fB n).map bP := List.take_of_length_le (by simp [fB])
def encT (b : Bool) : List IV := [.v (.bool b)]
theorem getT (us : List Bool) (i : Nat) (h : i < us.length) : (us.map encT)[i]? = some [.v (.bool (us.getD i false))] := by simp [encT, h]
theorem setT (us : List Bool) (i : Nat) (b : Bool) : (us.map encT).set i [.v (.bool b)] = (us.set i b).map encT := by simp [encT, List.map_set]
theorem repT (n : Nat) : List.replicate n [IV.v (.bool false)] = (fB n).map encT := by simp [fB, encT]
theorem appT (us : List Bool) (b : Bool) : us.map encT ++ [[.v (.bool b)]] = (us ++ [b]).map encT := by simp [encT]
theorem flatT_all {us : List Bool} : (us.map encT).all (fun e => e.all flatIV) = true := by simp [encT, flatIV]
abbrev LT (us : List Bool) : PV := .i (.lst (us.map encT))
attribute [go_sem] getT setT repT appT flatT_all
attribute [go_sem] bP_imm2 bP_scalar2 fB_drop fB_take fB_len zB_map zB_len zB_flat bP_get bI_get bP_scalar bP_isI bI_map bP_frz bP_ren bP_imm bP_any bP_put bP_takeAll bP_dropAll
/-- A function value that tells along which steps one can go. -/
structure CloG (c : IV) (dom : Int → Prop) (g : Int → Int → Bool) : Prop where
  frz : ∀ n, X.frz n (.i c) = .ret c
  flat : c.flat = true
  call : ∀ me d a b, dom a → dom b → dynP cfg (KK Try.prog cfg) me (some d) (.i c) [I a, I b] = .ret (B (g a b), [])
/-- Units, as a row of truth values. -/
def UR (us : List Bool) (F : Un) : Prop := us.length = 256 ∧ ∀ a b : Int, 0 ≤ a → a < 16 → 0 ≤ b → b < 16 → us.getD (a.toNat * 16 + b.toNat) false = F a b
theorem UR.none : UR (fB 256) fun _ _ => false := ⟨fB_len 256, fun a b _ _ _ _ => by
  simp only [fB, List.getD_eq_getElem?_getD]
  cases h : (List.replicate 256 false)[a.toNat * 16 + b.toNat]? with
  | none => rfl
  | some x => have := List.mem_of_getElem? h; rw [List.mem_replicate] at this; rw [this.2]; rfl⟩
theorem UR.step {us : List Bool} {F : Un} {a b : Int} (h : UR us F) (ha : 0 ≤ a ∧ a < 16) (hb : 0 ≤ b ∧ b < 16) : UR (if F b a = true then us.set (b.toNat * 16 + a.toNat) false else us.set (a.toNat * 16 + b.toNat) true) (stepF F a b) := by
  have hset : ∀ (p q : Int) (v : Bool), 0 ≤ p ∧ p < 16 → 0 ≤ q ∧ q < 16 → ∀ c d : Int, 0 ≤ c → c < 16 → 0 ≤ d → d < 16 → (us.set (p.toNat * 16 + q.toNat) v).getD (c.toNat * 16 + d.toNat) false = if c = p ∧ d = q then v else F c d := by
    intro p q v hp hq c d h0 h1 h2 h3
    have hlen := h.1
    simp only [List.getD_eq_getElem?_getD, List.getElem?_set]
    by_cases he : c = p ∧ d = q
    · obtain ⟨rfl, rfl⟩ := he
      rw [if_pos rfl, if_pos (by omega), if_pos ⟨rfl, rfl⟩]; rfl
    · rw [if_neg (by omega), if_neg he]
      have := h.2 c d h0 h1 h2 h3
      simpa [List.getD_eq_getElem?_getD] using this
  constructor
  · split <;> simpa using h.1
  · intro c d h0 h1 h2 h3
    unfold stepF
    by_cases hF : F b a = true
    · rw [if_pos hF, if_pos hF, hset b a false hb ha c d h0 h1 h2 h3]
    · rw [if_neg hF, if_neg hF, hset a b true ha hb c d h0 h1 h2 h3]
end Go.Proofs.Ytdlfdoicheakoaa.X

/- What functions compute: cycles, forests. -/
set_option linter.unusedSimpArgs false
set_option linter.unusedVariables false
set_option maxHeartbeats 4000000
namespace Go.Proofs.Ytdlfdoicheakoaa.X
open Go Go.Proofs
theorem OKG.sub {n : Int} {es fs : List (Int × Int)} (h : OKG n es) (hs : fs.Sublist es) : OKG n fs := ⟨h.n0, h.n1, Nat.le_trans hs.length_le h.len, fun e he => h.ok e (hs.subset he)⟩
theorem VG.cut {n : Int} {es : List (Int × Int)} (h : VG n es) (e : Int × Int) : VG n (cutE e es) := h.sub List.filter_sublist
theorem fold_sub : ∀ (fs acc : List (Int × Int)), (fs.foldl fstep acc).Sublist (acc ++ fs)
  | [], acc => by simp
  | e :: fs, acc => by
    refine (fold_sub fs (fstep acc e)).trans ?_
    unfold fstep
    split
    · exact List.Sublist.append_left (List.sublist_cons_self _ _) _
    · simp
theorem fold_take {n : Int} {es : List (Int × Int)} (h : OKG n es) (k : Nat) : OKG n ((es.take k).foldl fstep []) :=
  h.sub ((fold_sub (es.take k) []).trans (by simpa using List.take_sublist k es))
theorem fold_next {es : List (Int × Int)} {i : Int} (h0 : 0 ≤ i) (h1 : i < es.length) : (es.take (i + 1).toNat).foldl fstep [] = fstep ((es.take i.toNat).foldl fstep []) (es.getD i.toNat (0, 0)) := by
  rw [take_int (0, 0) h0 h1, List.foldl_append]; rfl
@[go_sem] theorem c_l2Forest (n : Int) (es : List (Int × Int)) (h : OKG n es) : KP 114 [I n, LE es] [] = some (.ref 2000 0 0 (forestL es).length, [], [.arr 0 2 ((forestL es).map encE)]) := by
  have hl := h.len
  refine xw_call (fn := Try.f114) rfl Try.func114 rfl ⟨Nat.le_of_ble_eq_true rfl, rfl, rfl⟩ ?_
  repeat'(first|(refine na ?_;constructor)|(refine ite_two ?_ ?_<;>intro _<;>first|(exfalso;omega)|skip)|refine ord_split (by kernel_rfl) ?_|((first|(refine nb ?_;constructor)|refine pn rfl ?_|refine pe rfl ?_|((first|refine at2 ?_|refine at_cond ?_);split<;>first|(exfalso;omega;done)|skip))<;>try simp(config:={maxSteps:=3000000})(disch:=first|assumption|omega|exact VG.okg (by assumption)|(simp only[List.length_set,List.length_append,List.length_cons,List.length_nil,List.length_replicate];omega))only[go_sem,simprocAttr,Try.results114]))
  refine xw_loopR (fun (x : Int × Nat × List (Int × Int)) s => s.m 7 = some (.arr x.2.1 2 (x.2.2.map encE)) ∧ s.ρ 5 = .ref 7 x.2.1 0 x.2.2.length ∧ s.ρ 6 = I x.1 ∧ s.ρ 0 = I n ∧ s.ρ 1 = LE es ∧
    0 ≤ x.1 ∧ x.1 ≤ es.length ∧ (x.2.2.length : Int) ≤ x.1 ∧ x.2.2 = (es.take x.1.toNat).foldl fstep []) (fun x => (es.length - x.1).toNat) (0, 0, []) (by simp [upd]) ?_
  rintro ⟨i, w, xs⟩ ⟨ρ, m⟩ ⟨m7, h5, h6, h0, h1, g0, g1, g2, g3⟩
  simp only at m7 h5 h6 h0 h1 g0 g1 g2 g3
  have hxs : OKG n xs := by rw [g3]; exact fold_take h _
  by_cases hj : i < es.length
  · have hoe := h.ok _ (getD_mem (d := (0, 0)) (show i.toNat < es.length by omega))
    unfold okE at hoe
    have hnx := fold_next g0 hj
    rw [← g3, fstep] at hnx
    repeat'(first|(refine na ?_;constructor)|(refine ite_two ?_ ?_<;>intro _<;>first|(exfalso;omega)|skip)|refine ord_split (by kernel_rfl) ?_|((first|(refine nb ?_;constructor)|refine pn rfl ?_|refine pe rfl ?_|((first|refine at2 ?_|refine at_cond ?_);split<;>first|(exfalso;omega;done)|skip))<;>try simp(config:={maxSteps:=3000000})(disch:=first|assumption|omega|exact VG.okg (by assumption)|(simp only[List.length_set,List.length_append,List.length_cons,List.length_nil,List.length_replicate];omega))only[go_sem,simprocAttr,Try.results114, m7, h5, h6, h0, h1]))
    all_goals
      refine ⟨by omega, by omega, by omega, ?_, by omega⟩
      rw [hnx]
      first | rw [if_pos (by assumption)] | rw [if_neg (by assumption)]
  · repeat'(first|(refine na ?_;constructor)|(refine ite_two ?_ ?_<;>intro _<;>first|(exfalso;omega)|skip)|refine ord_split (by kernel_rfl) ?_|((first|(refine nb ?_;constructor)|refine pn rfl ?_|refine pe rfl ?_|((first|refine at2 ?_|refine at_cond ?_);split<;>first|(exfalso;omega;done)|skip))<;>try simp(config:={maxSteps:=3000000})(disch:=first|assumption|omega|exact VG.okg (by assumption)|(simp only[List.length_set,List.length_append,List.length_cons,List.length_nil,List.length_replicate];omega))only[go_sem,simprocAttr,Try.results114, m7, h5, h6, h0, h1]))
    rw [take_all (by omega)] at g3
    rw [g3]
    exact ⟨rfl, rfl⟩
/-- A row of edges as it is while a function builds it: nothing, or an array. -/
def fP (d v : Nat) (xs : List (Int × Int)) : PV := if xs = [] then .i .emp else .ref d v 0 xs.length
/-- What a function hands back that builds a row of edges. -/
def qP (xs : List (Int × Int)) : PV := if xs = [] then .i .emp else .ref 2000 0 0 xs.length
def qA (xs : List (Int × Int)) : List Arr := if xs = [] then [] else [.arr 0 2 (xs.map encE)]
@[go_sem] theorem imm_q {xs : List (Int × Int)} {n : Nat} : imm (n + 1) (qA xs) (qP xs) = some (.i (qe xs)) := by
  unfold qA qP qe
  split
  · rfl
  · simp only [imm, imm1]
    simp [List.take_of_length_le]
@[go_sem] theorem c_forest (n : Int) (es : List (Int × Int)) (h : OKG n es) : KP 50 [GL n es] [] = some (qP (forestL es), [], qA (forestL es)) := by
  have hl := h.len
  refine xw_call (fn := Try.f50) rfl Try.func50 rfl ⟨Nat.le_of_ble_eq_true rfl, rfl, rfl⟩ ?_
  repeat'(first|(refine na ?_;constructor)|(refine ite_two ?_ ?_<;>intro _<;>first|(exfalso;omega)|skip)|refine ord_split (by kernel_rfl) ?_|((first|(refine nb ?_;constructor)|refine pn rfl ?_|refine pe rfl ?_|((first|refine at2 ?_|refine at_cond ?_);split<;>first|(exfalso;omega;done)|skip))<;>try simp(config:={maxSteps:=3000000})(disch:=first|assumption|omega|exact VG.okg (by assumption)|(simp only[List.length_set,List.length_append,List.length_cons,List.length_nil,List.length_replicate];omega))only[go_sem,simprocAttr,Try.results50]))
  refine xw_loopR (fun (x : Int × Nat × List (Int × Int)) s => s.m 3 = some (.box 0 [I n, fP 27 x.2.1 x.2.2]) ∧ s.ρ 3 = .ptr 3 0 0 0 ∧ (x.2.2 ≠ [] → s.m 27 = some (.arr x.2.1 2 (x.2.2.map encE))) ∧ s.ρ 12 = I x.1 ∧ s.ρ 10 = LE es ∧ s.ρ 11 = I es.length ∧
    0 ≤ x.1 ∧ x.1 ≤ es.length ∧ (x.2.2.length : Int) ≤ x.1 ∧ x.2.2 = (es.take x.1.toNat).foldl fstep []) (fun x => (es.length - x.1).toNat) (0, 0, []) (by simp [upd, fP]) ?_
  rintro ⟨i, w, xs⟩ ⟨ρ, m⟩ ⟨m3, h3, m27, h12, h10, h11, g0, g1, g2, g3⟩
  simp only at m3 h3 m27 h12 h10 h11 g0 g1 g2 g3
  have hxs : OKG n xs := by rw [g3]; exact fold_take h _
  by_cases hj : i < es.length
  · have hoe := h.ok _ (getD_mem (d := (0, 0)) (show i.toNat < es.length by omega))
    unfold okE at hoe
    have hnx := fold_next g0 hj
    rw [← g3, fstep] at hnx
    by_cases hx : xs = []
    · subst hx
      have m3' : m 3 = some (.box 0 [I n, .i .emp]) := m3
      have hkeep : (es.getD i.toNat (0, 0)).1 ≠ (es.getD i.toNat (0, 0)).2 := by omega
      have hno : ¬ Conn [] (es.getD i.toNat (0, 0)).1 (es.getD i.toNat (0, 0)).2 := fun hc => hkeep hc.nil
      rw [if_neg hno] at hnx
      have hcc := c_connected n (es.getD i.toNat (0, 0)).1 (es.getD i.toNat (0, 0)).2 [] hxs (by omega) (by omega)
      rw [decide_eq_false hno] at hcc
      have hcc' : KP 32 [.agg [I n, .i (.lst [])], I (es.getD i.toNat (0, 0)).1, I (es.getD i.toNat (0, 0)).2] [] = some (B false, [], []) := hcc
      repeat'(first|(refine na ?_;constructor)|(refine ite_two ?_ ?_<;>intro _<;>first|(exfalso;omega)|skip)|refine ord_split (by kernel_rfl) ?_|((first|(refine nb ?_;constructor)|refine pn rfl ?_|refine pe rfl ?_|((first|refine at2 ?_|refine at_cond ?_);split<;>first|(exfalso;omega;done)|skip))<;>try simp(config:={maxSteps:=3000000})(disch:=first|assumption|omega|exact VG.okg (by assumption)|(simp only[List.length_set,List.length_append,List.length_cons,List.length_nil,List.length_replicate];omega))only[go_sem,simprocAttr,Try.results50, m3', h3, h12, h10, h11, hcc']))
      exact ⟨i + 1, nv (m 27), [es.getD i.toNat (0, 0)], by simp [fP], fun _ => ⟨rfl, by simp [encE]⟩, rfl, by omega, by omega, by simp; omega, by rw [hnx]; rfl, by omega⟩
    · have m27' := m27 hx
      have m3' : m 3 = some (.box 0 [I n, .ref 27 w 0 xs.length]) := by rw [m3, fP, if_neg hx]
      repeat'(first|(refine na ?_;constructor)|(refine ite_two ?_ ?_<;>intro _<;>first|(exfalso;omega)|skip)|refine ord_split (by kernel_rfl) ?_|((first|(refine nb ?_;constructor)|refine pn rfl ?_|refine pe rfl ?_|((first|refine at2 ?_|refine at_cond ?_);split<;>first|(exfalso;omega;done)|skip))<;>try simp(config:={maxSteps:=3000000})(disch:=first|assumption|omega|exact VG.okg (by assumption)|(simp only[List.length_set,List.length_append,List.length_cons,List.length_nil,List.length_replicate];omega))only[go_sem,simprocAttr,Try.results50, m3', m27', h3, h12, h10, h11]))
      · exact ⟨i + 1, w, xs, by rw [fP, if_neg hx], fun _ => ⟨rfl, rfl⟩, rfl, by omega, by omega, by omega, by rw [hnx, if_pos (by assumption)], by omega⟩
      · exact ⟨i + 1, w + 1, xs ++ [es.getD i.toNat (0, 0)], by rw [fP, if_neg (by simp)]; simp, fun _ => ⟨rfl, rfl⟩, rfl, by omega, by omega, by simp; omega, by rw [hnx, if_neg (by assumption)], by omega⟩
  · have hxe : xs = forestL es := by rw [take_all (by omega)] at g3; exact g3
    by_cases hx : xs = []
    · have m3' : m 3 = some (.box 0 [I n, .i .emp]) := by rw [m3, fP, if_pos hx]
      unfold qP qA
      rw [← hxe, if_pos hx, if_pos hx]
      repeat'(first|(refine na ?_;constructor)|(refine ite_two ?_ ?_<;>intro _<;>first|(exfalso;omega)|skip)|refine ord_split (by kernel_rfl) ?_|((first|(refine nb ?_;constructor)|refine pn rfl ?_|refine pe rfl ?_|((first|refine at2 ?_|refine at_cond ?_);split<;>first|(exfalso;omega;done)|skip))<;>try simp(config:={maxSteps:=3000000})(disch:=first|assumption|omega|exact VG.okg (by assumption)|(simp only[List.length_set,List.length_append,List.length_cons,List.length_nil,List.length_replicate];omega))only[go_sem,simprocAttr,Try.results50, m3', h3, h12, h10, h11]))
    · have m27' := m27 hx
      have m3' : m 3 = some (.box 0 [I n, .ref 27 w 0 xs.length]) := by rw [m3, fP, if_neg hx]
      unfold qP qA
      rw [← hxe, if_neg hx, if_neg hx]
      repeat'(first|(refine na ?_;constructor)|(refine ite_two ?_ ?_<;>intro _<;>first|(exfalso;omega)|skip)|refine ord_split (by kernel_rfl) ?_|((first|(refine nb ?_;constructor)|refine pn rfl ?_|refine pe rfl ?_|((first|refine at2 ?_|refine at_cond ?_);split<;>first|(exfalso;omega;done)|skip))<;>try simp(config:={maxSteps:=3000000})(disch:=first|assumption|omega|exact VG.okg (by assumption)|(simp only[List.length_set,List.length_append,List.length_cons,List.length_nil,List.length_replicate];omega))only[go_sem,simprocAttr,Try.results50, m3', m27', h3, h12, h10, h11]))
end Go.Proofs.Ytdlfdoicheakoaa.X
