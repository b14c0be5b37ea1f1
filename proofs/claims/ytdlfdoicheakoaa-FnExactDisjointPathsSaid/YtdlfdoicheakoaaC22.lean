/- What functions compute: rows of truth values, breadth search along what can be gone along. -/
import Derived.Test.YtdlfdoicheakoaaKAE
import Derived.Test.YtdlfdoicheakoaaM10
set_option linter.unusedSimpArgs false
set_option linter.unusedVariables false
set_option maxHeartbeats 4000000
namespace Go.Proofs.Ytdlfdoicheakoaa.X
open Go Go.Proofs
def bP (b : Bool) : PV := .i (.v (.bool b))
def bI (b : Bool) : IV := .v (.bool b)
def fB (n : Nat) : List Bool := List.replicate n false
theorem fB_len (n : Nat) : (fB n).length = n := by simp [fB]
theorem zB_map (n : Nat) : (zB n).map PV.i = (fB n).map bP := by simp [zB, fB, bP]
theorem zB_len (n : Nat) : (zB n).length = n := by simp [zB]
theorem zB_flat (n : Nat) : (zB n).all (fun x => x.flat) = true := by simp [zB, IV.flat, Value.oneCell']
theorem bP_get (us : List Bool) (i : Nat) (h : i < us.length) : (us.map bP)[i]? = some (.i (.v (.bool (us.getD i false)))) := by simp [bP, h]
theorem bI_get (us : List Bool) (i : Nat) (h : i < us.length) : (us.map bI)[i]? = some (.v (.bool (us.getD i false))) := by simp [bI, h]
theorem bP_scalar (us : List Bool) : (us.map bP).all (fun x => x.scalar) = true := by simp [bP, PV.scalar, IV.flat, Value.oneCell']
theorem bP_scalar2 (us : List Bool) : (List.all (us.map bP) fun x => PV.scalar.match_1 (fun _ => Bool) x (fun x => x.flat) (fun _ _ _ _ => true) (fun _ _ _ _ => true) (fun _ _ _ => true) (fun _ => false)) = true := bP_scalar us
theorem bP_isI (us : List Bool) : (us.map bP).all PV.isI = true := by simp [bP, PV.isI]
theorem bI_map (us : List Bool) : (us.map bI).map PV.i = us.map bP := by simp [bI, bP]
theorem bP_frz (n : Nat) : ∀ us : List Bool, Mm.mapL (frz n) (us.map bP) = .ret (us.map bI)
  | [] => rfl
  | b :: us => by
    have ih := bP_frz n us
    have e : frz n (bP b) = .ret (bI b) := by cases n <;> rfl
    simp only [List.map_cons, Mm.mapL, e, Mm.bind, ih]
theorem bP_ren (look : Nat → Nat → Mm (Nat × Nat)) (n : Nat) : ∀ us : List Bool, Mm.mapL (ren look n) (us.map bP) = .ret (us.map bP)
  | [] => rfl
  | b :: us => by
    have ih := bP_ren look n us
    have e : ren look n (bP b) = .ret (bP b) := by cases n <;> rfl
    simp only [List.map_cons, Mm.mapL, e, Mm.bind, ih]
theorem bP_imm (own : List Arr) (n : Nat) : ∀ us : List Bool, mapO (imm n own) (us.map bP) = some (us.map bP)
  | [] => rfl
  | b :: us => by
    have ih := bP_imm own n us
    have e : imm n own (bP b) = some (bP b) := by cases n <;> rfl
    simp only [List.map_cons, mapO, e, ih]
theorem bP_imm2 (us : List Bool) : mapO (fun x => cons1.match_2 (fun _ => Option PV) x (fun x => some (PV.i x)) (fun s ver off len => if s < 2000 then some (PV.ref s ver off len) else none) (fun _ => none)) (us.map bP) = some (us.map bP) := by
  induction us with
  | nil => rfl
  | cons b us ih => simp only [List.map_cons, mapO, ih, bP]
theorem bP_any (n : Nat) (us : List Bool) : (us.map bP).any (hasRef n) = false := by
  simp only [List.any_map, List.any_eq_false]
  intro b _
  cases n <;> simp [hasRef, bP]
theorem bP_put (us : List Bool) (i : Nat) (b : Bool) (h : i < us.length) : (us.map bP).take i ++ (.i (.v (.bool b)) :: (us.map bP).drop (i + 1)) = (us.set i b).map bP := by
  rw [List.map_set, List.set_eq_take_append_cons_drop, if_pos (by simpa using h)]; rfl
theorem bP_takeAll (us : List Bool) (k : Nat) (h : us.length ≤ k) : (us.map bP).take k = us.map bP := List.take_of_length_le (by simpa using h)
theorem bP_dropAll (us : List Bool) (k : Nat) (h : us.length ≤ k) : (us.map bP).drop k = [] := List.drop_eq_nil_of_le (by simpa using h)
theorem fB_drop (n : Nat) : ((fB n).map bP).drop n = [] := List.drop_eq_nil_of_le (by simp [fB])
theorem fB_take (n : Nat) : ((fB n).map bP).take n = (fB n).map bP := List.take_of_length_le (by simp [fB])
def encT (b : Bool) : List IV := [.v (.bool b)]
theorem getT (us : List Bool) (i : Nat) (h : i < us.length) : (us.map encT)[i]? = some [.v (.bool (us.getD i false))] := by simp [encT, h]
theorem setT (us : List Bool) (i : Nat) (b : Bool) : (us.map encT).set i [.v (.bool b)] = (us.set i b).map encT := by simp [encT, List.map_set]
theorem repT (n : Nat) : List.replicate n [IV.v (.bool false)] = (fB n).map encT := by simp [fB, encT]
theorem appT (us : List Bool) (b : Bool) : us.map encT ++ [[.v (.bool b)]] = (us ++ [b]).map encT := by simp [encT]
theorem flatT_all {us : List Bool} : (us.map encT).all (fun e => e.all flatIV) = true := by simp [encT, flatIV]
abbrev LT (us : List Bool) : PV := .i (.lst (us.map encT))
attribute [go_sem] getT setT repT appT flatT_all
attribute [go_sem] bP_imm2 bP_scalar2 fB_drop fB_take fB_len zB_map zB_len zB_flat bP_get bI_get bP_scalar bP_isI bI_map bP_frz bP_ren bP_imm bP_any bP_put bP_takeAll bP_dropAll
/-- A function value that tells along which steps one can go. -/
structure CloG (c : IV) (dom : Int → Prop) (g : Int → Int → Bool) : Prop where
  frz : ∀ n, X.frz n (.i c) = .ret c
  flat : c.flat = true
  call : ∀ me d a b, dom a → dom b → dynP cfg (KK Try.prog cfg) me (some d) (.i c) [I a, I b] = .ret (B (g a b), [])
/-- Units, as a row of truth values. -/
def UR (us : List Bool) (F : Un) : Prop := us.length = 256 ∧ ∀ a b : Int, 0 ≤ a → a < 16 → 0 ≤ b → b < 16 → us.getD (a.toNat * 16 + b.toNat) false = F a b
theorem UR.none : UR (fB 256) fun _ _ => false := ⟨fB_len 256, fun a b _ _ _ _ => by
  simp only [fB, List.getD_eq_getElem?_getD]
  cases h : (List.replicate 256 false)[a.toNat * 16 + b.toNat]? with
  | none => rfl
  | some x => have := List.mem_of_getElem? h; rw [List.mem_replicate] at this; rw [this.2]; rfl⟩
theorem UR.step {us : List Bool} {F : Un} {a b : Int} (h : UR us F) (ha : 0 ≤ a ∧ a < 16) (hb : 0 ≤ b ∧ b < 16) : UR (if F b a = true then us.set (b.toNat * 16 + a.toNat) false else us.set (a.toNat * 16 + b.toNat) true) (stepF F a b) := by
  have hset : ∀ (p q : Int) (v : Bool), 0 ≤ p ∧ p < 16 → 0 ≤ q ∧ q < 16 → ∀ c d : Int, 0 ≤ c → c < 16 → 0 ≤ d → d < 16 → (us.set (p.toNat * 16 + q.toNat) v).getD (c.toNat * 16 + d.toNat) false = if c = p ∧ d = q then v else F c d := by
    intro p q v hp hq c d h0 h1 h2 h3
    have hlen := h.1
    simp only [List.getD_eq_getElem?_getD, List.getElem?_set]
    by_cases he : c = p ∧ d = q
    · obtain ⟨rfl, rfl⟩ := he
      rw [if_pos rfl, if_pos (by omega), if_pos ⟨rfl, rfl⟩]; rfl
    · rw [if_neg (by omega), if_neg he]
      have := h.2 c d h0 h1 h2 h3
      simpa [List.getD_eq_getElem?_getD] using this
  constructor
  · split <;> simpa using h.1
  · intro c d h0 h1 h2 h3
    unfold stepF
    by_cases hF : F b a = true
    · rw [if_pos hF, if_pos hF, hset b a false hb ha c d h0 h1 h2 h3]
    · rw [if_neg hF, if_neg hF, hset a b true ha hb c d h0 h1 h2 h3]
theorem clo_flow (us : List Bool) (F : Un) (h : UR us F) : CloG (.fn 100 [] [.eptr (us.map bI) 0]) (fun v => 0 ≤ v ∧ v < 16) (goesF F) := by
  have hl := h.1
  have k : ∀ a b : Int, 0 ≤ a ∧ a < 16 → 0 ≤ b ∧ b < 16 → KP 100 [I a, I b, .i (.eptr (us.map bI) 0)] [] = some (B (goesF F a b), [], []) := by
    intro a b ha hb
    have hg := h.2 a b ha.1 ha.2 hb.1 hb.2
    refine gc Try.func100 ?_
    have Fz:=fz2 Try.results100 hg
    repeat'(first|exact trivial|refine go1 ?_|(refine go2 ?_ ?_<;>intro _<;>try(exfalso;omega))|(refine go4 ?_;split<;>((try(exfalso;omega));try refine go3 ?_)))
    all_goals (rw [Nat.mul_one, hg]; rfl)
  refine ⟨fun n => by cases n <;> rfl, rfl, fun me d a b ha hb => ?_⟩
  have hx := k a b ha hb
  simp only [go_sem, ↓reduceIte, Int.reduceLE, Int.reduceLT, Int.reduceToNat, Int.reduceNeg, Int.reduceAdd, Int.reduceSub, Int.reduceMul, Int.reduceEq, Int.reduceNe, Nat.reduceEqDiff, Nat.reduceAdd, Nat.reduceSub, Nat.reduceMul, Nat.reduceLT, Nat.reduceLeDiff, Nat.reduceBEq, Nat.reduceBNe, UInt8.reduceToNat, hx, ite_self]
theorem look_eq {g : Int → Int → Bool} {a v : Int} {st : List Int × List Int} : look g a st v = if st.1.getD v.toNat 0 < 0 ∧ g a v = true then (st.1.set v.toNat a, st.2 ++ [v]) else st := rfl
theorem fold_look {g : Int → Int → Bool} {a : Int} {vs : List Int} {st : List Int × List Int} {j : Int} (h0 : 0 ≤ j) (h1 : j < vs.length) : (vs.take (j + 1).toNat).foldl (look g a) st = look g a ((vs.take j.toNat).foldl (look g a) st) (vs.getD j.toNat 0) := by
  rw [take_int 0 h0 h1, List.foldl_append]; rfl
theorem c_reach {c : IV} {dom : Int → Prop} {g : Int → Int → Bool} (hc : CloG c dom g) (n x : Int) (es : List (Int × Int)) (hV : VG n es) (hx : 0 ≤ x ∧ x < n) (hdom : ∀ v, 0 ≤ v → v < n → dom v) :
    KP 61 [GL n es, I x, .i c] [] = some (.tup [.ref 2000 0 0 (bfs n es g x).2.length, .ref 2001 0 0 (bfs n es g x).1.length], [], [.arr 0 1 ((bfs n es g x).2.map encI), .arr 0 1 ((bfs n es g x).1.map encI)]) := by
  obtain ⟨hc1, hc2, hc3⟩ := hc
  have ho := hV.okg.ok
  have hn16 := hV.2.1
  have hle := hV.okg.len
  refine gc Try.func61 ?_
  have Fz:=fz3 Try.results61 hc1 hc2
  repeat'(first|exact trivial|refine go1 ?_|(refine go2 ?_ ?_<;>intro _<;>try(exfalso;omega))|(refine go4 ?_;split<;>((try(exfalso;omega));try refine go3 ?_)))
  refine xw_loopR (fun (u : Int × Nat × List Int × List Int) s => s.m 18 = some (.arr u.2.1 1 (u.2.2.2.map encI)) ∧ s.ρ 9 = .ref 18 u.2.1 0 u.2.2.2.length ∧ s.m 3128 = some (.arr 0 1 (u.2.2.1.map encI)) ∧ s.ρ 8 = .ref 3128 0 0 n.toNat ∧ s.ρ 10 = I u.1 ∧ s.ρ 2 = .i c ∧ s.ρ 3 = .ptr 3 0 0 0 ∧ s.m 3 = some (.box 0 [I n, LE es]) ∧
    0 ≤ u.1 ∧ u.1 ≤ u.2.2.2.length ∧ u.2.2 = bfsS n es g x u.1.toNat) (fun u => (n - u.1).toNat) (0, 0, bfsS n es g x 0) ?_ ?_
  · refine ⟨by simp [upd, bfsS, encI], by simp [upd, bfsS], by simp [upd, bfsS], by simp [upd], by simp [upd], by simp [upd], by simp [upd], by simp [upd], by simp, by simp, rfl⟩
  rintro ⟨i, w, fr, ord⟩ ⟨ρ, m⟩ ⟨m18, h9, m31, h8, h10, h2, h3, m3, g0, g1, g2⟩
  simp only at m18 h9 m31 h8 h10 h2 h3 m3 g0 g1 g2
  obtain ⟨hI, -⟩ := bfsS_inv (goes := g) ho hx i.toNat
  rw [← g2] at hI
  have hol := hI.le
  have hfl := hI.len
  simp only at hol hfl
  by_cases hi : i < ord.length
  rotate_left
  · have hst := bfs_eq (goes := g) ho hx (i := i.toNat) (by rw [← g2]; simp only; omega)
    rw [← g2] at hst
    rw [← hfl] at h8
    have Fz:=fz9 Try.results61 m18 h9 m31 h8 h10 h2 h3 m3
    repeat'(first|exact trivial|refine go1 ?_|(refine go2 ?_ ?_<;>intro _<;>try(exfalso;omega))|(refine go4 ?_;split<;>((try(exfalso;omega));try refine go3 ?_)))
    rw [← hst]
    exact ⟨rfl, rfl⟩
  have hat := hI.rng _ (getD_mem (d := 0) (show i.toNat < ord.length by omega))
  have hatm := getD_mem (d := 0) (show i.toNat < ord.length by omega)
  generalize hae : ord.getD i.toNat 0 = a at hat hatm
  have hnb := c_neighbors n a es (by omega)
  have hnbl : (nbS a es).length ≤ 40 := by have := alone_length a es; omega
  have Fz:=fz13 Try.results61 m18 h9 m31 h8 h10 h2 h3 m3 hae hnb hc1 hc2
  repeat'(first|exact trivial|refine go1 ?_|(refine go2 ?_ ?_<;>intro _<;>try(exfalso;omega))|(refine go4 ?_;split<;>((try(exfalso;omega));try refine go3 ?_)))
  refine xw_loopR (fun (u : Int × Nat × List Int × List Int) s => s.m 18 = some (.arr u.2.1 1 (u.2.2.2.map encI)) ∧ s.ρ 9 = .ref 18 u.2.1 0 u.2.2.2.length ∧ s.m 3128 = some (.arr 0 1 (u.2.2.1.map encI)) ∧ s.ρ 8 = .ref 3128 0 0 n.toNat ∧ s.ρ 10 = I i ∧ s.ρ 2 = .i c ∧ s.ρ 3 = .ptr 3 0 0 0 ∧ s.m 3 = some (.box 0 [I n, LE es]) ∧
    s.ρ 34 = LI (nbS a es) ∧ s.ρ 35 = I (nbS a es).length ∧ s.ρ 36 = I u.1 ∧ 0 ≤ u.1 ∧ u.1 ≤ (nbS a es).length ∧ u.2.2 = ((nbS a es).take u.1.toNat).foldl (look g a) (fr, ord)) (fun u => ((nbS a es).length - u.1).toNat) (0, w, fr, ord) ?_ ?_
  · refine ⟨by simp [upd, m18], by simp [upd, h9], by simp [upd, m31], by simp [upd, h8], by simp [upd, h10], by simp [upd, h2], by simp [upd, h3], by simp [upd, m3], by simp [upd], by simp [upd], by simp [upd], by simp, by simp, by simp⟩
  rintro ⟨j, w', fr', ord'⟩ ⟨ρ, m⟩ ⟨m18, h9, m31, h8, h10, h2, h3, m3, h34, h35, h36, f0, f1, f2⟩
  simp only at m18 h9 m31 h8 h10 h2 h3 m3 h34 h35 h36 f0 f1 f2
  have hadj : ∀ v ∈ nbS a es, (0 ≤ v ∧ v < n) ∧ Adj es a v := fun v hv => by
    have h1 := (mem_nbS ho).1 hv
    have := h1.ok ho
    exact ⟨⟨by omega, by omega⟩, h1⟩
  obtain ⟨hF, hpre, -⟩ := hI.fold (vs := (nbS a es).take j.toNat) hatm fun v hv => hadj v (List.mem_of_mem_take hv)
  rw [← f2] at hF hpre
  have hol' := hF.le
  have hfl' := hF.len
  simp only at hol' hfl' hpre
  have hpl := hpre.length_le
  have hae' : ord'.getD i.toNat 0 = a := by rw [getD_prefix hpre (by omega)]; exact hae
  by_cases hj : j < (nbS a es).length
  rotate_left
  · rw [take_all (by omega)] at f2
    have hb : (fr', ord') = bfsS n es g x (i + 1).toNat := by
      rw [f2, show (i + 1).toNat = i.toNat + 1 by omega, bfsS, ← g2, bstep, if_pos (by simp only; omega), hae]
    have Fz:=fz12 Try.results61 m18 h9 m31 h8 h10 h2 h3 m3 h34 h35 h36
    repeat'(first|exact trivial|refine go1 ?_|(refine go2 ?_ ?_<;>intro _<;>try(exfalso;omega))|(refine go4 ?_;split<;>((try(exfalso;omega));try refine go3 ?_)))
    refine ⟨by omega, by omega, hb, by omega⟩
  have hvm := getD_mem (d := 0) (show j.toNat < (nbS a es).length by omega)
  have hlk := fold_look (g := g) (a := a) (st := (fr, ord)) f0 hj
  rw [← f2] at hlk
  generalize hve : (nbS a es).getD j.toNat 0 = v at hvm hlk
  obtain ⟨hv, hav⟩ := hadj v hvm
  have hda := hdom a hat.1 hat.2
  have hdv := hdom v hv.1 hv.2
  rw [look_eq] at hlk
  have Fz:=fz15 Try.results61 m18 h9 m31 h8 h10 h2 h3 m3 h34 h35 h36 hae' hve hc3
  repeat'(first|exact trivial|refine go1 ?_|(refine go2 ?_ ?_<;>intro _<;>try(exfalso;omega))|(refine go4 ?_;split<;>((try(exfalso;omega));try refine go3 ?_)))
  all_goals refine ⟨by omega, by omega, ?_, by omega⟩
  all_goals rw [hlk]
  all_goals first | rw [if_pos ⟨‹_›, ‹_›⟩] | rw [if_neg (by simp only [*]; simp)]
theorem c_reverseI (xs : List Int) (hl : xs.length ≤ 1048576) : KP 103 [.ref 1000 0 0 xs.length] [.arr 0 1 (xs.map encI)] = some (.tup [], [.arr 0 1 (xs.reverse.map encI)], []) := by
  refine gc Try.func103 ?_
  have Fz:=fz1 Try.results103
  repeat'(first|exact trivial|refine go1 ?_|(refine go2 ?_ ?_<;>intro _<;>try(exfalso;omega))|(refine go4 ?_;split<;>((try(exfalso;omega));try refine go3 ?_)))
  refine xw_loopR (fun (u : Int × Int × List Int) s => s.m 1000 = some (.arr 0 1 (u.2.2.map encI)) ∧ s.ρ 0 = .ref 1000 0 0 xs.length ∧ s.ρ 2 = I u.1 ∧ s.ρ 3 = I u.2.1 ∧ 0 ≤ u.1 ∧ u.1 + u.2.1 = xs.length - 1 ∧ u.1 ≤ u.2.1 + 2 ∧ u.2.2.length = xs.length ∧
    ∀ k : Nat, k < xs.length → u.2.2.getD k 0 = if (k : Int) < u.1 ∨ u.2.1 < k then xs.getD (xs.length - 1 - k) 0 else xs.getD k 0) (fun u => (u.2.1 + 2 - u.1).toNat) (0, xs.length - 1, xs) ?_ ?_
  · refine ⟨rfl, rfl, rfl, ?_, by simp, by simp, by simp only; omega, rfl, fun k hk => ?_⟩
    · simp [upd]
    · rw [if_neg (by simp only; omega)]
  rintro ⟨i, j, ys⟩ ⟨ρ, m⟩ ⟨m1, h0, h2, h3, g0, g1, g2, g3, g4⟩
  simp only at m1 h0 h2 h3 g0 g1 g2 g3 g4
  have Fz:=fz5 Try.results103 m1 h0 h2 h3
  repeat'(first|exact trivial|refine go1 ?_|(refine go2 ?_ ?_<;>intro _<;>try(exfalso;omega))|(refine go4 ?_;split<;>((try(exfalso;omega));try refine go3 ?_)))
  · refine ⟨by omega, by omega, by omega, g3, fun k hk => ?_, by omega⟩
    have a1 := g4 i.toNat (by omega)
    have a2 := g4 j.toNat (by omega)
    have a3 := g4 k hk
    rw [if_neg (by omega)] at a1 a2
    rw [getD_set (by simp; omega), getD_set (by omega)]
    by_cases e1 : j.toNat = k
    · rw [if_pos e1, a1]
      have e2 : xs.length - 1 - k = i.toNat := by omega
      rw [e2]
      split
      · rfl
      · rw [if_pos (by omega)]
    · rw [if_neg e1]
      by_cases e3 : i.toNat = k
      · rw [if_pos e3, a2, if_pos (by omega)]
        have e2 : xs.length - 1 - k = j.toNat := by omega
        rw [e2]
      · rw [if_neg e3, a3]
        by_cases e4 : (k : Int) < i ∨ j < k
        · rw [if_pos e4]
          split
          · rfl
          · rw [if_pos (by omega)]
        · rw [if_neg e4, if_neg (by omega), if_neg (by omega)]
  · have hys : ys = xs.reverse := by
      refine List.ext_getElem (by simpa using g3) fun k h1 h2 => ?_
      have hk : k < xs.length := by omega
      have a := g4 k hk
      have b : (if (k : Int) < i ∨ j < k then xs.getD (xs.length - 1 - k) 0 else xs.getD k 0) = xs.getD (xs.length - 1 - k) 0 := by
        split
        · rfl
        · rw [show xs.length - 1 - k = k by omega]
      rw [b] at a
      rw [List.getElem_reverse]
      simp only [List.getD, List.getElem?_eq_getElem h1, List.getElem?_eq_getElem (show xs.length - 1 - k < xs.length by omega), Option.getD_some] at a
      exact a
    rw [hys]
theorem c_way_none (fr : List Int) (x y : Int) (hy : 0 ≤ y ∧ y < fr.length) (hf : fr.getD y.toNat 0 < 0) (hl : fr.length ≤ 1048576) : KP 63 [LI fr, I x, I y] [] = some (.tup [.i .emp, B false], [], []) := by
  refine gc Try.func63 ?_
  have Fz:=fz1 Try.results63
  repeat'(first|exact trivial|refine go1 ?_|(refine go2 ?_ ?_<;>intro _<;>try(exfalso;omega))|(refine go4 ?_;split<;>((try(exfalso;omega));try refine go3 ?_)))
theorem c_way {n x y : Int} {es : List (Int × Int)} {g : Int → Int → Bool} {fr ord : List Int} (h : BI n es g x (fr, ord)) (hn : n ≤ 16) (hy : y ∈ ord) : KP 63 [LI fr, I x, I y] [] = some (.tup [.ref 2000 0 0 (wayL n fr x y).length, B true], [], [.arr 0 1 ((wayL n fr x y).map encI)]) := by
  have hle := h.le
  have hlen := h.len
  have hyr := h.rng y hy
  have hy0 := (h.mem y hyr.1 hyr.2).2 hy
  simp only at hle hlen hyr hy0
  obtain ⟨k0, hk0, hk0e⟩ := List.mem_iff_getElem.1 hy
  have hk0l : k0 < ord.length := hk0
  have e0 : ord.getD k0 0 = y := by simp only [List.getD, List.getElem?_eq_getElem hk0l, Option.getD_some]; exact hk0e
  have hup : (upL fr x n.toNat y).length ≤ 17 := by
    have hul : ∀ (k : Nat) (z : Int), (upL fr x k z).length ≤ k + 1 := by
      intro k
      induction k with
      | zero => intro z; simp [upL]
      | succ k ih => intro z; rw [upL]; split <;> simp only [List.length_cons, List.length_nil] <;> (try have := ih (fr.getD z.toNat 0)) <;> omega
    have := hul n.toNat y
    omega
  have hrev := c_reverseI (upL fr x n.toNat y) (by omega)
  unfold wayL
  rw [List.length_reverse]
  refine gc Try.func63 ?_
  have Fz:=fz1 Try.results63
  repeat'(first|exact trivial|refine go1 ?_|(refine go2 ?_ ?_<;>intro _<;>try(exfalso;omega))|(refine go4 ?_;split<;>((try(exfalso;omega));try refine go3 ?_)))
  refine xw_loopR (fun (u : Int × Nat × List Int × Nat × Nat) s => s.m 15 = some (.arr u.2.1 1 (u.2.2.1.map encI)) ∧ s.ρ 8 = .ref 15 u.2.1 0 u.2.2.1.length ∧ s.ρ 2 = I u.1 ∧ s.ρ 1 = I x ∧ s.ρ 0 = LI fr ∧
    u.2.2.2.2 < ord.length ∧ u.2.2.2.2 ≤ u.2.2.2.1 ∧ ord.getD u.2.2.2.2 0 = u.1 ∧ u.2.2.1.length + u.2.2.2.1 ≤ 100 ∧ upL fr x n.toNat y = u.2.2.1 ++ (upL fr x u.2.2.2.1 u.1).tail) (fun u => u.2.2.2.2) (y, 0, [y], n.toNat, k0) ?_ ?_
  · refine ⟨by simp [upd, encI], by simp [upd], by simp [upd], by simp [upd], by simp [upd], hk0l, by simp only; omega, e0, by simp; omega, ?_⟩
    exact upL_head _ _
  rintro ⟨z, w, xs, f, k⟩ ⟨ρ, m⟩ ⟨m15, h8, h2, h1, h0, g0, g1, g2, g3, g4⟩
  simp only at m15 h8 h2 h1 h0 g0 g1 g2 g3 g4
  have hzm : z ∈ ord := by rw [← g2]; exact getD_mem g0
  have hzr := h.rng z hzm
  by_cases hzx : z = x
  · subst hzx
    have e : (upL fr z f z).tail = [] := by cases f <;> simp [upL]
    rw [e, List.append_nil] at g4
    rw [g4] at hrev ⊢
    have Fz:=fz7 Try.results63 m15 h8 h2 h1 h0 hrev
    repeat'(first|exact trivial|refine go1 ?_|(refine go2 ?_ ?_<;>intro _<;>try(exfalso;omega))|(refine go4 ?_;split<;>((try(exfalso;omega));try refine go3 ?_)))
  · have hk : 0 < k := Nat.pos_of_ne_zero fun e => hzx (by subst e; rw [← g2]; exact h.hd)
    obtain ⟨j, j1, j2, j3, j4⟩ := h.par k hk g0
    simp only [g2] at j2
    obtain ⟨f, rfl⟩ : ∃ f', f = f' + 1 := ⟨f - 1, by omega⟩
    have e : (upL fr x (f + 1) z).tail = upL fr x f (fr.getD z.toNat 0) := by rw [upL, if_neg hzx]; rfl
    rw [e, upL_head] at g4
    have Fz:=fz6 Try.results63 m15 h8 h2 h1 h0
    repeat'(first|exact trivial|refine go1 ?_|(refine go2 ?_ ?_<;>intro _<;>try(exfalso;omega))|(refine go4 ?_;split<;>((try(exfalso;omega));try refine go3 ?_)))
    refine ⟨f, j, by omega, by omega, j2.symm, by omega, ?_, by omega⟩
    rw [upL_head n.toNat y, g4, upL_head f (fr.getD z.toNat 0)]
    simp
end Go.Proofs.Ytdlfdoicheakoaa.X
