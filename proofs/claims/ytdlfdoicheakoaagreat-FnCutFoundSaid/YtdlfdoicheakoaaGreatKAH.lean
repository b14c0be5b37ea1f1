/- What functions answer, and the plain laws behind it. -/
import Derived.Test.YtdlfdoicheakoaaGreatKAG
/- What functions compute: bridges, safe parts, nodes and edges by a property. -/
set_option linter.unusedSimpArgs false
set_option linter.unusedVariables false
set_option maxHeartbeats 2000000
namespace Go.Proofs.YtdlfdoicheakoaaGreat.X
open Go Go.Proofs
theorem OKG.cutE {n : Int} {es : List (Int × Int)} (h : OKG n es) (e : Int × Int) : OKG n (X.cutE e es) := ⟨h.n0, h.n1, Nat.le_trans (cutE_len e es) h.len, fun f hf => h.ok f (cutE_mem.1 hf).1⟩
theorem OKG.bare {n : Int} {es : List (Int × Int)} (h : OKG n es) : OKG n (X.bare es) := ⟨h.n0, h.n1, Nat.le_trans (List.length_filter_le _ _) h.len, fun f hf => h.ok f (mem_bare.1 hf).1⟩
/-- What deleting what does not fulfil something hands back. -/
def delF (p : Int × Int → Bool) (es : List (Int × Int)) : IV := if es = [] then .emp else .lst ((es.filter p).map encE)
theorem delE_not {p : Int × Int → Bool} {es : List (Int × Int)} : delE (fun e => !p e) es = delF p es := by
  unfold delE delF; simp only [Bool.not_not]
theorem frz_delF {p : Int × Int → Bool} {es : List (Int × Int)} {n : Nat} : frz n (.i (delF p es)) = .ret (.lst ((es.filter p).map encE)) := by
  rw [← delE_not, frz_del]; simp only [Bool.not_not]
theorem flat_delF {p : Int × Int → Bool} {es : List (Int × Int)} : (delF p es).flat = true := by rw [← delE_not]; exact flat_del
theorem lenP_delF {p : Int × Int → Bool} {es : List (Int × Int)} : lenP (.i (delF p es)) = some (es.filter p).length := by
  rw [← delE_not, lenP_del]; simp only [Bool.not_not]
theorem iaR_delF {p : Int × Int → Bool} {es : List (Int × Int)} {el : TypeId} {n : Int} (h0 : 0 ≤ n) (h : n < (es.filter p).length) :
    iaR Tryz.prog (some (.slice el)) (some n) (.i (delF p es)) = iaR Tryz.prog (some (.slice el)) (some n) (.i (.lst ((es.filter p).map encE))) := by
  have := iaR_del (p := fun e => !p e) (es := es) (el := el) (n := n) h0 (by simpa only [Bool.not_not] using h)
  rw [delE_not] at this
  simpa only [Bool.not_not] using this
attribute [go_sem] frz_delF flat_delF lenP_delF iaR_delF
/-- A list of edges, in whatever form, that can be looked at. -/
structure EQ (x : IV) (es : List (Int × Int)) : Prop extends EL x es where
  len : lenP (.i x) = some es.length
  ia : ∀ (el : TypeId) (i : Int), 0 ≤ i → i < es.length → iaR Tryz.prog (some (.slice el)) (some i) (.i x) = iaR Tryz.prog (some (.slice el)) (some i) (.i (.lst (es.map encE)))
theorem EQ.lst (es : List (Int × Int)) : EQ (.lst (es.map encE)) es := ⟨EL.lst es, by simp [lenP], fun _ _ _ _ => rfl⟩
theorem EQ.qe (es : List (Int × Int)) : EQ (qe es) es := ⟨EL.qe es, lenP_qe, fun el i h0 h1 => by
  cases es with
  | nil => simp at h1; omega
  | cons e r => rfl⟩
end Go.Proofs.YtdlfdoicheakoaaGreat.X

/- Bridges and cut nodes on paths; cycles: plain law. -/
set_option linter.unusedVariables false
namespace Go.Proofs.YtdlfdoicheakoaaGreat.X
open Go
theorem lab_congr {n : Int} {es fs : List (Int × Int)} (h : ∀ x y : Int, Conn es x y ↔ Conn fs x y) : lab n es = lab n fs := by
  unfold lab
  refine List.map_congr_left fun x _ => ?_
  have : least es x = least fs x := by
    obtain ⟨a1, a2, a3⟩ := least_spec es x
    obtain ⟨b1, b2, b3⟩ := least_spec fs x
    refine Nat.le_antisymm (Nat.le_of_not_lt fun hl => a3 _ hl ((h _ _).2 b2)) (Nat.le_of_not_lt fun hl => b3 _ hl ((h _ _).1 a2))
  rw [this]
end Go.Proofs.YtdlfdoicheakoaaGreat.X

/- Breadth search along edges that can be gone along: plain law. -/
set_option linter.unusedVariables false
namespace Go.Proofs.YtdlfdoicheakoaaGreat.X
open Go
def look (goes : Int → Int → Bool) (a : Int) (st : List Int × List Int) (v : Int) : List Int × List Int :=
  if st.1.getD v.toNat 0 < 0 ∧ goes a v = true then (st.1.set v.toNat a, st.2 ++ [v]) else st
def bstep (es : List (Int × Int)) (goes : Int → Int → Bool) (st : List Int × List Int) (i : Nat) : List Int × List Int :=
  if i < st.2.length then (nbS (st.2.getD i 0) es).foldl (look goes (st.2.getD i 0)) st else st
/-- From which nodes nodes are reached, and in which order. -/
def bfsS (n : Int) (es : List (Int × Int)) (goes : Int → Int → Bool) (x : Int) : Nat → List Int × List Int
  | 0 => ((List.replicate n.toNat (-1)).set x.toNat x, [x])
  | i + 1 => bstep es goes (bfsS n es goes x i) i
def bfs (n : Int) (es : List (Int × Int)) (goes : Int → Int → Bool) (x : Int) : List Int × List Int := bfsS n es goes x n.toNat
structure BI (n : Int) (es : List (Int × Int)) (goes : Int → Int → Bool) (x : Int) (st : List Int × List Int) : Prop where
  len : st.1.length = n.toNat
  nd : st.2.Nodup
  pos : 0 < st.2.length
  hd : st.2.getD 0 0 = x
  mem : ∀ v, 0 ≤ v → v < n → (0 ≤ st.1.getD v.toNat 0 ↔ v ∈ st.2)
  neg : ∀ v, 0 ≤ v → v < n → st.1.getD v.toNat 0 < 0 → st.1.getD v.toNat 0 = -1
  rng : ∀ v ∈ st.2, 0 ≤ v ∧ v < n
  self : st.1.getD x.toNat 0 = x
  par : ∀ k, 0 < k → k < st.2.length → ∃ j, j < k ∧ st.1.getD (st.2.getD k 0).toNat 0 = st.2.getD j 0 ∧ Adj es (st.2.getD j 0) (st.2.getD k 0) ∧ goes (st.2.getD j 0) (st.2.getD k 0) = true
theorem BI.init {n : Int} {es : List (Int × Int)} {goes : Int → Int → Bool} {x : Int} (hx : 0 ≤ x ∧ x < n) : BI n es goes x (bfsS n es goes x 0) := by
  have hl : x.toNat < (List.replicate n.toNat (-1 : Int)).length := by simp; omega
  have hg : ∀ v : Int, 0 ≤ v → v < n → ((List.replicate n.toNat (-1 : Int)).set x.toNat x).getD v.toNat 0 = if x = v then x else -1 := fun v h0 h1 => by
    rw [getD_set (by simp; omega)]
    by_cases h : x = v
    · subst h; simp
    · rw [if_neg h, if_neg (by omega)]
      have : v.toNat < n.toNat := by omega
      simp [this]
  refine ⟨by simp [bfsS], by simp [bfsS], by simp [bfsS], rfl, fun v h0 h1 => ?_, fun v h0 h1 h => ?_, fun v hv => ?_, ?_, fun k h0 h1 => ?_⟩
  · simp only [bfsS]; rw [hg v h0 h1]
    by_cases h : x = v
    · subst h; simp; omega
    · rw [if_neg h]; simp; exact fun h' => h h'.symm
  · simp only [bfsS] at h ⊢; rw [hg v h0 h1] at h ⊢
    split
    · rw [if_pos ‹_›] at h; omega
    · rfl
  · simp only [bfsS, List.mem_singleton] at hv; subst hv; exact hx
  · simp only [bfsS]; rw [hg x hx.1 hx.2, if_pos rfl]
  · simp only [bfsS, List.length_cons, List.length_nil] at h1; omega
theorem getD_append_left' {l r : List Int} {i : Nat} (h : i < l.length) : (l ++ r).getD i 0 = l.getD i 0 := by
  simp [List.getD, List.getElem?_append_left h]
theorem getD_append_last {l : List Int} {v : Int} : (l ++ [v]).getD l.length 0 = v := by
  simp [List.getD]
theorem BI.look {n : Int} {es : List (Int × Int)} {goes : Int → Int → Bool} {x a v : Int} {st : List Int × List Int} (h : BI n es goes x st) (ha : a ∈ st.2) (hv : 0 ≤ v ∧ v < n) (hav : Adj es a v) :
    BI n es goes x (look goes a st v) ∧ st.2 <+: (X.look goes a st v).2 ∧ (goes a v = true → v ∈ (X.look goes a st v).2) := by
  unfold X.look
  split
  · rename_i hc
    obtain ⟨hneg, hgo⟩ := hc
    have hnm : v ∉ st.2 := fun hm => by have := (h.mem v hv.1 hv.2).2 hm; omega
    have hvl : v.toNat < st.1.length := by rw [h.len]; omega
    have hg : ∀ u : Int, 0 ≤ u → u < n → (st.1.set v.toNat a).getD u.toNat 0 = if v = u then a else st.1.getD u.toNat 0 := fun u h0 h1 => by
      rw [getD_set (by rw [h.len]; omega)]
      by_cases he : v = u
      · subst he; simp
      · rw [if_neg he, if_neg (by omega)]
    have har := h.rng a ha
    refine ⟨⟨by simp [h.len], ?_, by simp, ?_, fun u h0 h1 => ?_, fun u h0 h1 hn => ?_, fun u hu => ?_, ?_, fun k h0 h1 => ?_⟩, List.prefix_append _ _, fun _ => by simp⟩
    · rw [List.nodup_append]
      exact ⟨h.nd, by simp, fun y hy z hz => by simp only [List.mem_singleton] at hz; subst hz; exact fun e => hnm (e ▸ hy)⟩
    · rw [getD_append_left' h.pos]; exact h.hd
    · simp only [List.mem_append, List.mem_singleton]
      rw [hg u h0 h1]
      by_cases he : v = u
      · subst he; simp; exact har.1
      · rw [if_neg he, h.mem u h0 h1]
        exact ⟨.inl, fun h' => h'.resolve_right fun e => he e.symm⟩
    · simp only at hn ⊢
      rw [hg u h0 h1] at hn ⊢
      split
      · rw [if_pos ‹_›] at hn; omega
      · rw [if_neg ‹_›] at hn; exact h.neg u h0 h1 hn
    · simp only [List.mem_append, List.mem_singleton] at hu
      rcases hu with hu | rfl
      · exact h.rng u hu
      · exact hv
    · have hx : x ∈ st.2 := by
        have := getD_mem (d := 0) h.pos
        rw [h.hd] at this; exact this
      have hxr := h.rng x hx
      simp only
      rw [hg x hxr.1 hxr.2, if_neg (fun e : v = x => hnm (by rw [e]; exact hx))]
      exact h.self
    · simp only [List.length_append, List.length_cons, List.length_nil] at h1
      simp only
      by_cases hk : k < st.2.length
      · obtain ⟨j, j1, j2, j3, j4⟩ := h.par k h0 hk
        have hkm := getD_mem (d := 0) hk
        have hkr := h.rng _ hkm
        refine ⟨j, j1, ?_⟩
        rw [getD_append_left' hk, getD_append_left' (show j < st.2.length by omega) (r := [v]), hg _ hkr.1 hkr.2, if_neg (fun e : v = st.2.getD k 0 => hnm (by rw [e]; exact hkm))]
        exact ⟨j2, j3, j4⟩
      · obtain rfl : k = st.2.length := by omega
        rw [getD_append_last, hg v hv.1 hv.2, if_pos rfl]
        obtain ⟨j, hj, he⟩ := List.mem_iff_getElem.1 ha
        refine ⟨j, hj, ?_⟩
        have e1 : st.2.getD j 0 = a := by simp [List.getD, hj, he]
        rw [getD_append_left' hj, e1]
        exact ⟨rfl, hav, hgo⟩
  · rename_i hc
    refine ⟨h, List.prefix_refl _, fun hgo => ?_⟩
    refine (h.mem v hv.1 hv.2).1 (Classical.byContradiction fun hn => hc ⟨by omega, hgo⟩)
theorem BI.le {n : Int} {es : List (Int × Int)} {goes : Int → Int → Bool} {x : Int} {st : List Int × List Int} (h : BI n es goes x st) : st.2.length ≤ n.toNat := by
  have := len_le_of_sub (m := iota n) h.nd fun v hv => mem_iota.2 (h.rng v hv)
  rwa [iota_length] at this
def upL (fr : List Int) (x : Int) : Nat → Int → List Int
  | 0, y => [y]
  | k + 1, y => if y = x then [y] else y :: upL fr x k (fr.getD y.toNat 0)
/-- The way to a node that is reached. -/
def wayL (n : Int) (fr : List Int) (x y : Int) : List Int := (upL fr x n.toNat y).reverse
/-- A row of different nodes along edges that can be gone along. -/
structure Way (es : List (Int × Int)) (goes : Int → Int → Bool) (x y : Int) (p : List Int) : Prop where
  pos : 0 < p.length
  nd : p.Nodup
  hd : p.getD 0 0 = x
  la : p.getD (p.length - 1) 0 = y
  st : ∀ i, i + 1 < p.length → Adj es (p.getD i 0) (p.getD (i + 1) 0) ∧ goes (p.getD i 0) (p.getD (i + 1) 0) = true
end Go.Proofs.YtdlfdoicheakoaaGreat.X

/- Units along ways, and cuts: plain law. -/
set_option linter.unusedVariables false
namespace Go.Proofs.YtdlfdoicheakoaaGreat.X
open Go
abbrev Un := Int → Int → Bool
/-- A unit more from a node to another one. -/
def stepF (F : Un) (a b : Int) : Un := fun c d => if F b a = true then (if c = b ∧ d = a then false else F c d) else (if c = a ∧ d = b then true else F c d)
/-- A unit more along a row of nodes, from its first step on. -/
def augF (F : Un) : List Int → Un
  | a :: b :: r => augF (stepF F a b) (b :: r)
  | _ => F
/-- The same, from the last step on. -/
def augB (F : Un) : List Int → Un
  | a :: b :: r => stepF (augB F (b :: r)) a b
  | _ => F
def Steps (P : Int → Int → Prop) : List Int → Prop
  | a :: b :: r => P a b ∧ Steps P (b :: r)
  | _ => True
theorem Steps.of {P : Int → Int → Prop} : ∀ {p : List Int}, (∀ i, i + 1 < p.length → P (p.getD i 0) (p.getD (i + 1) 0)) → Steps P p
  | [], _ => trivial
  | [a], _ => trivial
  | a :: b :: r, h => ⟨h 0 (by simp), Steps.of (p := b :: r) fun i hi => by
      have := h (i + 1) (by simp only [List.length_cons] at hi ⊢; omega)
      simpa using this⟩
theorem Steps.mono {P Q : Int → Int → Prop} : ∀ {p : List Int}, (∀ a b, a ∈ p → b ∈ p → P a b → Q a b) → Steps P p → Steps Q p
  | [], _, _ => trivial
  | [a], _, _ => trivial
  | a :: b :: r, h, ⟨h1, h2⟩ => ⟨h a b (by simp) (by simp) h1, Steps.mono (p := b :: r) (fun c d hc hd => h c d (List.mem_cons_of_mem _ hc) (List.mem_cons_of_mem _ hd)) h2⟩
/-- Units lie on edges, and not in both directions. -/
structure OKF (es : List (Int × Int)) (F : Un) : Prop where
  adj : ∀ a b, F a b = true → Adj es a b
  one : ∀ a b, F a b = true → F b a = false
theorem OKF.step {es : List (Int × Int)} {F : Un} {a b : Int} (h : OKF es F) (ha : Adj es a b) (hne : a ≠ b) : OKF es (stepF F a b) := by
  constructor
  · intro c d hcd
    unfold stepF at hcd
    split at hcd
    · split at hcd
      · cases hcd
      · exact h.adj c d hcd
    · split at hcd
      · rename_i hc; rw [hc.1, hc.2]; exact ha
      · exact h.adj c d hcd
  · intro c d hcd
    unfold stepF at hcd ⊢
    split at hcd
    · rename_i hba
      rw [if_pos hba]
      split at hcd
      · cases hcd
      · split
        · rfl
        · exact h.one c d hcd
    · rename_i hba
      rw [if_neg hba]
      split at hcd
      · rename_i hc
        obtain ⟨rfl, rfl⟩ := hc
        rw [if_neg (fun k => hne k.2)]
        exact Bool.not_eq_true _ ▸ hba
      · rename_i hc
        split
        · rename_i hd
          obtain ⟨rfl, rfl⟩ := hd
          exact absurd hcd hba
        · exact h.one c d hcd
def b2i (b : Bool) : Int := if b = true then 1 else 0
def contrib (S : Int → Bool) (F : Un) (e : Int × Int) : Int := (b2i (S e.1) - b2i (S e.2)) * (b2i (F e.1 e.2) - b2i (F e.2 e.1))
def val (S : Int → Bool) (F : Un) (es : List (Int × Int)) : Int := (es.map (contrib S F)).sum
/-- The edges that lead out of a set. -/
def cutsz (S : Int → Bool) (es : List (Int × Int)) : Nat := (es.filter fun e => S e.1 != S e.2).length
def goesF (F : Un) : Int → Int → Bool := fun a b => !F a b
def flS (n : Int) (es : List (Int × Int)) (x y : Int) : Nat → Un
  | 0 => fun _ _ => false
  | k + 1 => augF (flS n es x y k) (wayL n (bfs n es (goesF (flS n es x y k)) x).1 x y)
/-- Is there a way yet? -/
def more (n : Int) (es : List (Int × Int)) (x y : Int) (k : Nat) : Prop := y ∈ (bfs n es (goesF (flS n es x y k)) x).2
instance (n : Int) (es : List (Int × Int)) (x y : Int) (k : Nat) : Decidable (more n es x y k) := by unfold more; infer_instance
/-- How many ways there are. -/
def flN (n : Int) (es : List (Int × Int)) (x y : Int) : Nat := ((List.range (n.toNat + 1)).find? fun k => decide ¬ more n es x y k).getD 0
/-- The units in the end. -/
def flU (n : Int) (es : List (Int × Int)) (x y : Int) : Un := flS n es x y (flN n es x y)
/-- The nodes that can be reached in the end. -/
def sideO (n : Int) (es : List (Int × Int)) (x y : Int) : List Int := (bfs n es (goesF (flU n es x y)) x).2
end Go.Proofs.YtdlfdoicheakoaaGreat.X

/- What functions compute: rows of truth values, breadth search along what can be gone along. -/
set_option linter.unusedSimpArgs false
set_option linter.unusedVariables false
set_option maxHeartbeats 4000000
namespace Go.Proofs.YtdlfdoicheakoaaGreat.X
open Go Go.Proofs
def bP (b : Bool) : PV := .i (.v (.bool b))
def bI (b : Bool) : IV := .v (.bool b)
def fB (n : Nat) : List Bool := List.replicate n false
theorem fB_len (n : Nat) : (fB n).length = n := by simp [fB]
theorem zB_map (n : Nat) : (zB n).map PV.i = (fB n).map bP := by simp [zB, fB, bP]
theorem zB_len (n : Nat) : (zB n).length = n := by simp [zB]
theorem zB_flat (n : Nat) : (zB n).all (fun x => x.flat) = true := by simp [zB, IV.flat, Value.oneCell']
theorem bP_get (us : List Bool) (i : Nat) (h : i < us.length) : (us.map bP)[i]? = some (.i (.v (.bool (us.getD i false)))) := by simp [bP, h]
theorem bI_get (us : List Bool) (i : Nat) (h : i < us.length) : (us.map bI)[i]? = some (.v (.bool (us.getD i false))) := by simp [bI, h]
theorem bP_scalar (us : List Bool) : (us.map bP).all (fun x => x.scalar) = true := by simp [bP, PV.scalar, IV.flat, Value.oneCell']
theorem bP_scalar2 (us : List Bool) : (List.all (us.map bP) fun x => PV.scalar.match_1 (fun _ => Bool) x (fun x => x.flat) (fun _ _ _ _ => true) (fun _ _ _ _ => true) (fun _ _ _ => true) (fun _ => false)) = true := bP_scalar us
theorem bP_isI (us : List Bool) : (us.map bP).all PV.isI = true := by simp [bP, PV.isI]
theorem bI_map (us : List Bool) : (us.map bI).map PV.i = us.map bP := by simp [bI, bP]
theorem bP_frz (n : Nat) : ∀ us : List Bool, Mm.mapL (frz n) (us.map bP) = .ret (us.map bI)
  | [] => rfl
  | b :: us => by
    have ih := bP_frz n us
    have e : frz n (bP b) = .ret (bI b) := by cases n <;> rfl
    simp only [List.map_cons, Mm.mapL, e, Mm.bind, ih]
theorem bP_ren (look : Nat → Nat → Mm (Nat × Nat)) (n : Nat) : ∀ us : List Bool, Mm.mapL (ren look n) (us.map bP) = .ret (us.map bP)
  | [] => rfl
  | b :: us => by
    have ih := bP_ren look n us
    have e : ren look n (bP b) = .ret (bP b) := by cases n <;> rfl
    simp only [List.map_cons, Mm.mapL, e, Mm.bind, ih]
theorem bP_imm (own : List Arr) (n : Nat) : ∀ us : List Bool, mapO (imm n own) (us.map bP) = some (us.map bP)
  | [] => rfl
  | b :: us => by
    have ih := bP_imm own n us
    have e : imm n own (bP b) = some (bP b) := by cases n <;> rfl
    simp only [List.map_cons, mapO, e, ih]
theorem bP_imm2 (us : List Bool) : mapO (fun x => cons1.match_2 (fun _ => Option PV) x (fun x => some (PV.i x)) (fun s ver off len => if s < 2000 then some (PV.ref s ver off len) else none) (fun _ => none)) (us.map bP) = some (us.map bP) := by
  induction us with
  | nil => rfl
  | cons b us ih => simp only [List.map_cons, mapO, ih, bP]
theorem bP_any (n : Nat) (us : List Bool) : (us.map bP).any (hasRef n) = false := by
  simp only [List.any_map, List.any_eq_false]
  intro b _
  cases n <;> simp [hasRef, bP]
theorem bP_put (us : List Bool) (i : Nat) (b : Bool) (h : i < us.length) : (us.map bP).take i ++ (.i (.v (.bool b)) :: (us.map bP).drop (i + 1)) = (us.set i b).map bP := by
  rw [List.map_set, List.set_eq_take_append_cons_drop, if_pos (by simpa using h)]; rfl
theorem bP_takeAll (us : List Bool) (k : Nat) (h : us.length ≤ k) : (us.map bP).take k = us.map bP := List.take_of_length_le (by simpa using h)
theorem bP_dropAll (us : List Bool) (k : Nat) (h : us.length ≤ k) : (us.map bP).drop k = [] := List.drop_eq_nil_of_le (by simpa using h)
theorem fB_drop (n : Nat) : ((fB n).map bP).drop n = [] := List.drop_eq_nil_of_le (by simp [fB])
theorem fB_take (n : Nat) : ((fB n).map bP).take n = (fB n).map bP := List.take_of_length_le (by simp [fB])
def encT (b : Bool) : List IV := [.v (.bool b)]
theorem getT (us : List Bool) (i : Nat) (h : i < us.length) : (us.map encT)[i]? = some [.v (.bool (us.getD i false))] := by simp [encT, h]
theorem setT (us : List Bool) (i : Nat) (b : Bool) : (us.map encT).set i [.v (.bool b)] = (us.set i b).map encT := by simp [encT, List.map_set]
theorem repT (n : Nat) : List.replicate n [IV.v (.bool false)] = (fB n).map encT := by simp [fB, encT]
theorem appT (us : List Bool) (b : Bool) : us.map encT ++ [[.v (.bool b)]] = (us ++ [b]).map encT := by simp [encT]
theorem flatT_all {us : List Bool} : (us.map encT).all (fun e => e.all flatIV) = true := by simp [encT, flatIV]
abbrev LT (us : List Bool) : PV := .i (.lst (us.map encT))
attribute [go_sem] getT setT repT appT flatT_all
attribute [go_sem] bP_imm2 bP_scalar2 fB_drop fB_take fB_len zB_map zB_len zB_flat bP_get bI_get bP_scalar bP_isI bI_map bP_frz bP_ren bP_imm bP_any bP_put bP_takeAll bP_dropAll
/-- A function value that tells along which steps one can go. -/
structure CloG (c : IV) (dom : Int → Prop) (g : Int → Int → Bool) : Prop where
  frz : ∀ n, X.frz n (.i c) = .ret c
  flat : c.flat = true
  call : ∀ me d a b, dom a → dom b → dynP cfg (KK Tryz.prog cfg) me (some d) (.i c) [I a, I b] = .ret (B (g a b), [])
/-- Units, as a row of truth values. -/
def UR (us : List Bool) (F : Un) : Prop := us.length = 256 ∧ ∀ a b : Int, 0 ≤ a → a < 16 → 0 ≤ b → b < 16 → us.getD (a.toNat * 16 + b.toNat) false = F a b
theorem UR.none : UR (fB 256) fun _ _ => false := ⟨fB_len 256, fun a b _ _ _ _ => by
  simp only [fB, List.getD_eq_getElem?_getD]
  cases h : (List.replicate 256 false)[a.toNat * 16 + b.toNat]? with
  | none => rfl
  | some x => have := List.mem_of_getElem? h; rw [List.mem_replicate] at this; rw [this.2]; rfl⟩
theorem UR.step {us : List Bool} {F : Un} {a b : Int} (h : UR us F) (ha : 0 ≤ a ∧ a < 16) (hb : 0 ≤ b ∧ b < 16) : UR (if F b a = true then us.set (b.toNat * 16 + a.toNat) false else us.set (a.toNat * 16 + b.toNat) true) (stepF F a b) := by
  have hset : ∀ (p q : Int) (v : Bool), 0 ≤ p ∧ p < 16 → 0 ≤ q ∧ q < 16 → ∀ c d : Int, 0 ≤ c → c < 16 → 0 ≤ d → d < 16 → (us.set (p.toNat * 16 + q.toNat) v).getD (c.toNat * 16 + d.toNat) false = if c = p ∧ d = q then v else F c d := by
    intro p q v hp hq c d h0 h1 h2 h3
    have hlen := h.1
    simp only [List.getD_eq_getElem?_getD, List.getElem?_set]
    by_cases he : c = p ∧ d = q
    · obtain ⟨rfl, rfl⟩ := he
      rw [if_pos rfl, if_pos (by omega), if_pos ⟨rfl, rfl⟩]; rfl
    · rw [if_neg (by omega), if_neg he]
      have := h.2 c d h0 h1 h2 h3
      simpa [List.getD_eq_getElem?_getD] using this
  constructor
  · split <;> simpa using h.1
  · intro c d h0 h1 h2 h3
    unfold stepF
    by_cases hF : F b a = true
    · rw [if_pos hF, if_pos hF, hset b a false hb ha c d h0 h1 h2 h3]
    · rw [if_neg hF, if_neg hF, hset a b true ha hb c d h0 h1 h2 h3]
end Go.Proofs.YtdlfdoicheakoaaGreat.X
