/- What functions answer, and the plain laws behind it. -/
import Derived.Test.YtmocnnknnbalkaaGreatDoorKAG
import Derived.Test.YtmocnnknnbalkaaGreatDoorKAH
/- What functions compute: rows of truth values, breadth search along what can be gone along. -/
set_option linter.unusedSimpArgs false
set_option linter.unusedVariables false
set_option maxHeartbeats 4000000
namespace Go.Proofs.YtmocnnknnbalkaaGreatDoor.X
open Go Go.Proofs
def bP (b : Bool) : PV := .i (.v (.bool b))
def bI (b : Bool) : IV := .v (.bool b)
def fB (n : Nat) : List Bool := List.replicate n false
theorem fB_len (n : Nat) : (fB n).length = n := by simp [fB]
theorem zB_map (n : Nat) : (zB n).map PV.i = (fB n).map bP := by simp [zB, fB, bP]
theorem zB_len (n : Nat) : (zB n).length = n := by simp [zB]
theorem zB_flat (n : Nat) : (zB n).all (fun x => x.flat) = true := by simp [zB, IV.flat, Value.oneCell']
theorem bP_get (us : List Bool) (i : Nat) (h : i < us.length) : (us.map bP)[i]? = some (.i (.v (.bool (us.getD i false)))) := by simp [bP, h]
theorem bI_get (us : List Bool) (i : Nat) (h : i < us.length) : (us.map bI)[i]? = some (.v (.bool (us.getD i false))) := by simp [bI, h]
theorem bP_scalar (us : List Bool) : (us.map bP).all (fun x => x.scalar) = true := by simp [bP, PV.scalar, IV.flat, Value.oneCell']
theorem bP_scalar2 (us : List Bool) : (List.all (us.map bP) fun x => PV.scalar.match_1 (fun _ => Bool) x (fun x => x.flat) (fun _ _ _ _ => true) (fun _ _ _ _ => true) (fun _ _ _ => true) (fun _ => false)) = true := bP_scalar us
theorem bP_isI (us : List Bool) : (us.map bP).all PV.isI = true := by simp [bP, PV.isI]
theorem bI_map (us : List Bool) : (us.map bI).map PV.i = us.map bP := by simp [bI, bP]
theorem bP_frz (n : Nat) : ∀ us : List Bool, Mm.mapL (frz n) (us.map bP) = .ret (us.map bI)
  | [] => rfl
  | b :: us => by
    have ih := bP_frz n us
    have e : frz n (bP b) = .ret (bI b) := by cases n <;> rfl
    simp only [List.map_cons, Mm.mapL, e, Mm.bind, ih]
theorem bP_ren (look : Nat → Nat → Mm (Nat × Nat)) (n : Nat) : ∀ us : List Bool, Mm.mapL (ren look n) (us.map bP) = .ret (us.map bP)
  | [] => rfl
  | b :: us => by
    have ih := bP_ren look n us
    have e : ren look n (bP b) = .ret (bP b) := by cases n <;> rfl
    simp only [List.map_cons, Mm.mapL, e, Mm.bind, ih]
theorem bP_imm (own : List Arr) (n : Nat) : ∀ us : List Bool, mapO (imm n own) (us.map bP) = some (us.map bP)
  | [] => rfl
  | b :: us => by
    have ih := bP_imm own n us
    have e : imm n own (bP b) = some (bP b) := by cases n <;> rfl
    simp only [List.map_cons, mapO, e, ih]
theorem bP_imm2 (us : List Bool) : mapO (fun x => cons1.match_2 (fun _ => Option PV) x (fun x => some (PV.i x)) (fun s ver off len => if s < 2000 then some (PV.ref s ver off len) else none) (fun _ => none)) (us.map bP) = some (us.map bP) := by
  induction us with
  | nil => rfl
  | cons b us ih => simp only [List.map_cons, mapO, ih, bP]
theorem bP_any (n : Nat) (us : List Bool) : (us.map bP).any (hasRef n) = false := by
  simp only [List.any_map, List.any_eq_false]
  intro b _
  cases n <;> simp [hasRef, bP]
theorem bP_put (us : List Bool) (i : Nat) (b : Bool) (h : i < us.length) : (us.map bP).take i ++ (.i (.v (.bool b)) :: (us.map bP).drop (i + 1)) = (us.set i b).map bP := by
  rw [List.map_set, List.set_eq_take_append_cons_drop, if_pos (by simpa using h)]; rfl
theorem bP_takeAll (us : List Bool) (k : Nat) (h : us.length ≤ k) : (us.map bP).take k = us.map bP := List.take_of_length_le (by simpa using h)
theorem bP_dropAll (us : List Bool) (k : Nat) (h : us.length ≤ k) : (us.map bP).drop k = [] := List.drop_eq_nil_of_le (by simpa using h)
theorem fB_drop (n : Nat) : ((fB n).map bP).drop n = [] := List.drop_eq_nil_of_le (by simp [fB])
theorem fB_take (n : Nat) : ((fB n).map bP).take n = (fB n).map bP := List.take_of_length_le (by simp [fB])
def encT (b : Bool) : List IV := [.v (.bool b)]
theorem getT (us : List Bool) (i : Nat) (h : i < us.length) : (us.map encT)[i]? = some [.v (.bool (us.getD i false))] := by simp [encT, h]
theorem setT (us : List Bool) (i : Nat) (b : Bool) : (us.map encT).set i [.v (.bool b)] = (us.set i b).map encT := by simp [encT, List.map_set]
theorem repT (n : Nat) : List.replicate n [IV.v (.bool false)] = (fB n).map encT := by simp [fB, encT]
theorem appT (us : List Bool) (b : Bool) : us.map encT ++ [[.v (.bool b)]] = (us ++ [b]).map encT := by simp [encT]
theorem flatT_all {us : List Bool} : (us.map encT).all (fun e => e.all flatIV) = true := by simp [encT, flatIV]
abbrev LT (us : List Bool) : PV := .i (.lst (us.map encT))
attribute [go_sem] getT setT repT appT flatT_all
attribute [go_sem] bP_imm2 bP_scalar2 fB_drop fB_take fB_len zB_map zB_len zB_flat bP_get bI_get bP_scalar bP_isI bI_map bP_frz bP_ren bP_imm bP_any bP_put bP_takeAll bP_dropAll
/-- A function value that tells along which steps one can go. -/
structure CloG (c : IV) (dom : Int → Prop) (g : Int → Int → Bool) : Prop where
  frz : ∀ n, X.frz n (.i c) = .ret c
  flat : c.flat = true
  call : ∀ me d a b, dom a → dom b → dynP cfg (KK Tryz.prog cfg) me (some d) (.i c) [I a, I b] = .ret (B (g a b), [])
/-- Units, as a row of truth values. -/
def UR (us : List Bool) (F : Un) : Prop := us.length = 256 ∧ ∀ a b : Int, 0 ≤ a → a < 16 → 0 ≤ b → b < 16 → us.getD (a.toNat * 16 + b.toNat) false = F a b
theorem UR.none : UR (fB 256) fun _ _ => false := ⟨fB_len 256, fun a b _ _ _ _ => by
  simp only [fB, List.getD_eq_getElem?_getD]
  cases h : (List.replicate 256 false)[a.toNat * 16 + b.toNat]? with
  | none => rfl
  | some x => have := List.mem_of_getElem? h; rw [List.mem_replicate] at this; rw [this.2]; rfl⟩
theorem UR.step {us : List Bool} {F : Un} {a b : Int} (h : UR us F) (ha : 0 ≤ a ∧ a < 16) (hb : 0 ≤ b ∧ b < 16) : UR (if F b a = true then us.set (b.toNat * 16 + a.toNat) false else us.set (a.toNat * 16 + b.toNat) true) (stepF F a b) := by
  have hset : ∀ (p q : Int) (v : Bool), 0 ≤ p ∧ p < 16 → 0 ≤ q ∧ q < 16 → ∀ c d : Int, 0 ≤ c → c < 16 → 0 ≤ d → d < 16 → (us.set (p.toNat * 16 + q.toNat) v).getD (c.toNat * 16 + d.toNat) false = if c = p ∧ d = q then v else F c d := by
    intro p q v hp hq c d h0 h1 h2 h3
    have hlen := h.1
    simp only [List.getD_eq_getElem?_getD, List.getElem?_set]
    by_cases he : c = p ∧ d = q
    · obtain ⟨rfl, rfl⟩ := he
      rw [if_pos rfl, if_pos (by omega), if_pos ⟨rfl, rfl⟩]; rfl
    · rw [if_neg (by omega), if_neg he]
      have := h.2 c d h0 h1 h2 h3
      simpa [List.getD_eq_getElem?_getD] using this
  constructor
  · split <;> simpa using h.1
  · intro c d h0 h1 h2 h3
    unfold stepF
    by_cases hF : F b a = true
    · rw [if_pos hF, if_pos hF, hset b a false hb ha c d h0 h1 h2 h3]
    · rw [if_neg hF, if_neg hF, hset a b true ha hb c d h0 h1 h2 h3]
end Go.Proofs.YtmocnnknnbalkaaGreatDoor.X

/- What functions compute: an edge is put. -/
set_option linter.unusedSimpArgs false
set_option linter.unusedVariables false
set_option maxHeartbeats 8000000
set_option maxRecDepth 100000
namespace Go.Proofs.YtmocnnknnbalkaaGreatDoor.X
open Go Go.Proofs
theorem binV_shr1 {P : Program} {t : TypeId} {a : Int} : binV P .shr t (.i (.v (.int .u64 a))) (.i (.v (.int .u64 1))) = some (.int .u64 (a.fdiv 2)) := by
  simp [binV, binOp, Op.shift, semPure]
  rfl
theorem fdiv2 {a : Int} (h : 0 ≤ a) : a.fdiv 2 = a / 2 := Int.fdiv_eq_ediv_of_nonneg a (by omega)
theorem cmpE_neg {a b c d : Int} : cmpE a b c d < 0 ↔ lessE (a, b) (c, d) = true := by
  unfold cmpE cmpI lessE
  rw [decide_eq_true_eq]
  simp only
  repeat' split
  all_goals omega
theorem cmpE_zero {a b c d : Int} : cmpE a b c d = 0 ↔ (a, b) = (c, d) := by
  unfold cmpE cmpI
  rw [Prod.mk.injEq]
  repeat' split
  all_goals omega
/-- The place of an edge that goes in. -/
def atE (e : Int × Int) (es : List (Int × Int)) (k : Int) : Prop := 0 ≤ k ∧ k ≤ es.length ∧ (∀ i : Nat, (i : Int) < k → lessE (es.getD i (0, 0)) e = true) ∧ ∀ i : Nat, k ≤ (i : Int) → i < es.length → lessE (es.getD i (0, 0)) e = false
theorem putE_at {e : Int × Int} : ∀ {es : List (Int × Int)} {k : Nat}, k ≤ es.length → (∀ i : Nat, i < k → lessE (es.getD i (0, 0)) e = true) → (∀ i : Nat, k ≤ i → i < es.length → lessE (es.getD i (0, 0)) e = false) → e ∉ es → putE e es = es.take k ++ e :: es.drop k
  | [], k, hk, _, _, _ => by simp at hk; subst hk; rfl
  | x :: r, 0, _, _, h2, hn => by
    have h := h2 0 (Nat.le_refl _) (by simp)
    simp only [List.getD_cons_zero] at h
    simp only [List.mem_cons, not_or] at hn
    have := lessE_total h (fun q => hn.1 q.symm)
    simp [putE, this]
  | x :: r, k + 1, hk, h1, h2, hn => by
    have h := h1 0 (by omega)
    simp only [List.getD_cons_zero] at h
    simp only [List.mem_cons, not_or] at hn
    have hx : lessE e x = false := by
      rw [← Bool.not_eq_true]
      intro q
      rw [lessE_iff] at h q
      omega
    have ih := putE_at (e := e) (es := r) (k := k) (by simpa using hk) (fun i hi => by simpa using h1 (i + 1) (by omega)) (fun i hi hl => by simpa using h2 (i + 1) (by omega) (by simpa using hl)) hn.2
    simp only [putE, hx, Bool.false_eq_true, if_false, ih, List.take_succ_cons, List.drop_succ_cons, List.cons_append]
theorem Ord.get {es : List (Int × Int)} (h : Ord es) {i j : Nat} (hij : i < j) (hj : j < es.length) : lessE (es.getD i (0, 0)) (es.getD j (0, 0)) = true := by
  have := (List.pairwise_iff_getElem.1 h) i j (by omega) hj hij
  simpa [show i < es.length by omega, hj] using this
theorem c_bsearch (a b : Int) (es : List (Int × Int)) (ho : Ord es) (hn : (a, b) ∉ es) (hl : es.length ≤ 1000) : ∃ k : Int, atE (a, b) es k ∧ KP 160 [LE es, PE a b, .i (.fn 19 [] [])] [] = some (.tup [I k, B false], [], []) := by
  suffices hgoal : ∃ res, (∃ k : Int, atE (a, b) es k ∧ res = (.tup [I k, B false], [], [])) ∧ KP 160 [LE es, PE a b, .i (.fn 19 [] [])] [] = some res by
    obtain ⟨res, ⟨k, h1, rfl⟩, h3⟩ := hgoal
    exact ⟨k, h1, h3⟩
  refine xw_callE (fn := Tryz.f160) rfl Tryz.func160 rfl ⟨Nat.le_of_ble_eq_true rfl, rfl, rfl⟩ ?_
  repeat'(first|(refine na ?_;constructor)|(refine ite_two ?_ ?_<;>intro _<;>first|(exfalso;omega)|skip)|refine ord_split (by kernel_rfl) ?_|((first|(refine nb ?_;constructor)|refine pn rfl ?_|refine pe rfl ?_|((first|refine at2 ?_|refine at_cond ?_);split<;>first|(exfalso;omega;done)|skip))<;>try simp(config:={maxSteps:=3000000})(disch:=first|assumption|omega|exact VG.okg (by assumption)|(simp only[List.length_set,List.length_append,List.length_cons,List.length_nil,List.length_replicate];omega))only[go_sem,simprocAttr,Tryz.results160]))
  refine xw_loopR (fun (u : Int × Int) s => s.ρ 0 = LE es ∧ s.ρ 2 = .i (.fn 19 [] []) ∧ s.ρ 4 = .ptr 4 0 0 0 ∧ s.m 4 = some (.box 0 [I a, I b]) ∧ s.ρ 8 = I es.length ∧ s.ρ 9 = I u.1 ∧ s.ρ 10 = I u.2 ∧
    0 ≤ u.1 ∧ u.1 ≤ u.2 ∧ u.2 ≤ es.length ∧ (∀ i : Nat, (i : Int) < u.1 → lessE (es.getD i (0, 0)) (a, b) = true) ∧ ∀ i : Nat, u.2 ≤ (i : Int) → i < es.length → lessE (es.getD i (0, 0)) (a, b) = false) (fun u => (u.2 - u.1).toNat) (0, es.length) ?_ ?_
  · refine ⟨rfl, rfl, rfl, rfl, rfl, rfl, rfl, Int.le_refl _, by simp, by simp, fun i h => ?_, fun i h h2 => ?_⟩
    · simp only at h; omega
    · simp only at h; omega
  rintro ⟨i, j⟩ ⟨ρ, m⟩ ⟨h0, h2, h4, m4, h8, h9, h10, g0, g1, g2, g3, g4⟩
  simp only at h0 h2 h4 m4 h8 h9 h10 g0 g1 g2 g3 g4
  by_cases hij : i < j
  · have w1 : IntKind.u64.wrap (i + j) = i + j := by rw [IntKind.wrap_u64]; omega
    have w2 : IntKind.i64.wrap ((i + j) / 2) = (i + j) / 2 := by rw [IntKind.wrap_i64]; omega
    have d0 := fdiv2 (show 0 ≤ i + j by omega)
    by_cases hc : lessE (es.getD ((i + j) / 2).toNat (0, 0)) (a, b) = true
    · have hc' : cmpE (es.getD ((i + j) / 2).toNat (0, 0)).1 (es.getD ((i + j) / 2).toNat (0, 0)).2 a b < 0 := cmpE_neg.2 hc
      repeat'(first|(refine na ?_;constructor)|(refine ite_two ?_ ?_<;>intro _<;>first|(exfalso;omega)|skip)|refine ord_split (by kernel_rfl) ?_|((first|(refine nb ?_;constructor)|refine pn rfl ?_|refine pe rfl ?_|((first|refine at2 ?_|refine at_cond ?_);split<;>first|(exfalso;omega;done)|skip))<;>try simp(config:={maxSteps:=3000000})(disch:=first|assumption|omega|exact VG.okg (by assumption)|(simp only[List.length_set,List.length_append,List.length_cons,List.length_nil,List.length_replicate];omega))only[go_sem,simprocAttr,Tryz.results160, h0, h2, h4, m4, h8, h9, h10, w1, w2, binV_shr1, d0, hc']))
      refine ⟨by omega, by omega, g2, fun q hq => ?_, g4, by omega⟩
      by_cases hqe : q = ((i + j) / 2).toNat
      · rw [hqe]; exact hc
      · exact lessE_trans (ho.get (show q < ((i + j) / 2).toNat by omega) (by omega)) hc
    · have hc' : ¬ cmpE (es.getD ((i + j) / 2).toNat (0, 0)).1 (es.getD ((i + j) / 2).toNat (0, 0)).2 a b < 0 := fun q => hc (cmpE_neg.1 q)
      repeat'(first|(refine na ?_;constructor)|(refine ite_two ?_ ?_<;>intro _<;>first|(exfalso;omega)|skip)|refine ord_split (by kernel_rfl) ?_|((first|(refine nb ?_;constructor)|refine pn rfl ?_|refine pe rfl ?_|((first|refine at2 ?_|refine at_cond ?_);split<;>first|(exfalso;omega;done)|skip))<;>try simp(config:={maxSteps:=3000000})(disch:=first|assumption|omega|exact VG.okg (by assumption)|(simp only[List.length_set,List.length_append,List.length_cons,List.length_nil,List.length_replicate];omega))only[go_sem,simprocAttr,Tryz.results160, h0, h2, h4, m4, h8, h9, h10, w1, w2, binV_shr1, d0, hc']))
      refine ⟨g0, by omega, by omega, g3, fun q hq hql => ?_, by omega⟩
      rw [← Bool.not_eq_true]
      intro hlt
      by_cases hqe : q = ((i + j) / 2).toNat
      · rw [hqe] at hlt; exact hc hlt
      · exact hc (lessE_trans (ho.get (show ((i + j) / 2).toNat < q by omega) hql) hlt)
  · have hfin : atE (a, b) es i := ⟨g0, by omega, g3, fun q hq hql => g4 q (by omega) hql⟩
    by_cases hi : i < es.length
    · have hc' : ¬ cmpE (es.getD i.toNat (0, 0)).1 (es.getD i.toNat (0, 0)).2 a b = 0 := fun q => hn (by rw [← cmpE_zero.1 q]; exact getD_mem (by omega))
      repeat'(first|(refine na ?_;constructor)|(refine ite_two ?_ ?_<;>intro _<;>first|(exfalso;omega)|skip)|refine ord_split (by kernel_rfl) ?_|((first|(refine nb ?_;constructor)|refine pn rfl ?_|refine pe rfl ?_|((first|refine at2 ?_|refine at_cond ?_);split<;>first|(exfalso;omega;done)|skip))<;>try simp(config:={maxSteps:=3000000})(disch:=first|assumption|omega|exact VG.okg (by assumption)|(simp only[List.length_set,List.length_append,List.length_cons,List.length_nil,List.length_replicate];omega))only[go_sem,simprocAttr,Tryz.results160, h0, h2, h4, m4, h8, h9, h10, hc']))
      exact ⟨i, hfin, rfl⟩
    · repeat'(first|(refine na ?_;constructor)|(refine ite_two ?_ ?_<;>intro _<;>first|(exfalso;omega)|skip)|refine ord_split (by kernel_rfl) ?_|((first|(refine nb ?_;constructor)|refine pn rfl ?_|refine pe rfl ?_|((first|refine at2 ?_|refine at_cond ?_);split<;>first|(exfalso;omega;done)|skip))<;>try simp(config:={maxSteps:=3000000})(disch:=first|assumption|omega|exact VG.okg (by assumption)|(simp only[List.length_set,List.length_append,List.length_cons,List.length_nil,List.length_replicate];omega))only[go_sem,simprocAttr,Tryz.results160, h0, h2, h4, m4, h8, h9, h10]))
      exact ⟨i, hfin, rfl⟩
/-- What comes back from a slice into which an edge is put. -/
def pP (es : List (Int × Int)) (e : Int × Int) : PV := if es = [] then .i (.lst [encE e]) else .ref 2000 0 0 (es.length + 1)
def pA (es : List (Int × Int)) (e : Int × Int) : List Arr := if es = [] then [] else [.arr 0 2 ((putE e es).map encE)]
theorem imm1_p {es : List (Int × Int)} {e : Int × Int} : imm1 (pA es e) (pP es e) = some (.i (.lst ((putE e es).map encE))) := by
  unfold pA pP
  split
  · rename_i h; subst h; rfl
  · simp only [imm1, List.getElem?_cons_zero, Nat.lt_irrefl, if_false, Nat.sub_self]
    simp [List.take_of_length_le, putE_length]
@[go_sem] theorem imm_p {es : List (Int × Int)} {e : Int × Int} {n : Nat} : imm n (pA es e) (pP es e) = some (.i (.lst ((putE e es).map encE))) := by
  have h := imm1_p (es := es) (e := e)
  unfold pP at h ⊢
  split at h
  · rename_i hz; rw [if_pos hz]; cases n <;> exact h
  · rename_i hz; rw [if_neg hz]; cases n <;> exact h
theorem c_insert (es : List (Int × Int)) (a b k : Int) (hl : es.length ≤ 1000) (h0 : 0 ≤ k) (hk : k < es.length) :
    KP 161 [.ref 1000 0 0 es.length, I k, .ref 1001 0 0 1] [.arr 0 2 (es.map encE), .arr 0 2 [encE (a, b)]] = some (.ref 1000 1 0 (es.length + 1), [.arr 1 2 ((es.take k.toNat ++ (a, b) :: es.drop k.toNat).map encE), .arr 0 2 [encE (a, b)]], []) := by
  refine KK_prim rfl ?_
  have : es.length ≤ 1000000 := by omega
  simp [insP, h0, hk, this, encE]
theorem c_insert_end (es : List (Int × Int)) (a b : Int) (hl : es.length ≤ 1000) :
    KP 161 [.ref 1000 0 0 es.length, I es.length, .ref 1001 0 0 1] [.arr 0 2 (es.map encE), .arr 0 2 [[.v (.int .i64 a), .v (.int .i64 b)]]] = some (.ref 1000 1 0 (es.length + 1), [.arr 1 2 ((es ++ [(a, b)]).map encE), .arr 0 2 [[.v (.int .i64 a), .v (.int .i64 b)]]], []) := by
  have hp : primC cfg 161 [.ref 1000 0 0 es.length, I es.length, .ref 1001 0 0 1] [.arr 0 2 (es.map encE), .arr 0 2 [[.v (.int .i64 a), .v (.int .i64 b)]]] = none := by
    first | rfl | simp [primC, cfg, insP]
  refine xw_call (fn := Tryz.f161) hp Tryz.func161 rfl ⟨Nat.le_of_ble_eq_true rfl, rfl, rfl⟩ ?_
  repeat'(first|(refine na ?_;constructor)|(refine ite_two ?_ ?_<;>intro _<;>first|(exfalso;omega)|skip)|refine ord_split (by kernel_rfl) ?_|((first|(refine nb ?_;constructor)|refine pn rfl ?_|refine pe rfl ?_|((first|refine at2 ?_|refine at_cond ?_);split<;>first|(exfalso;omega;done)|skip))<;>try simp(config:={maxSteps:=3000000})(disch:=first|assumption|omega|exact VG.okg (by assumption)|(simp only[List.length_set,List.length_append,List.length_cons,List.length_nil,List.length_replicate];omega))only[go_sem,simprocAttr,Tryz.results161]))
theorem c_insert_nil (a b : Int) :
    KP 161 [.i .emp, I 0, .ref 1000 0 0 1] [.arr 0 2 [[.v (.int .i64 a), .v (.int .i64 b)]]] = some (.ref 2000 0 0 1, [.arr 0 2 [[.v (.int .i64 a), .v (.int .i64 b)]]], [.arr 0 2 [[.v (.int .i64 a), .v (.int .i64 b)]]]) := by
  have hp : primC cfg 161 [.i .emp, I 0, .ref 1000 0 0 1] [.arr 0 2 [[.v (.int .i64 a), .v (.int .i64 b)]]] = none := by
    first | rfl | simp [primC, cfg, insP]
  refine xw_call (fn := Tryz.f161) hp Tryz.func161 rfl ⟨Nat.le_of_ble_eq_true rfl, rfl, rfl⟩ ?_
  repeat'(first|(refine na ?_;constructor)|(refine ite_two ?_ ?_<;>intro _<;>first|(exfalso;omega)|skip)|refine ord_split (by kernel_rfl) ?_|((first|(refine nb ?_;constructor)|refine pn rfl ?_|refine pe rfl ?_|((first|refine at2 ?_|refine at_cond ?_);split<;>first|(exfalso;omega;done)|skip))<;>try simp(config:={maxSteps:=3000000})(disch:=first|assumption|omega|exact VG.okg (by assumption)|(simp only[List.length_set,List.length_append,List.length_cons,List.length_nil,List.length_replicate];omega))only[go_sem,simprocAttr,Tryz.results161]))
/-- A graph into which an edge is put. -/
def PutOK (n : Int) (es : List (Int × Int)) (e : Int × Int) : Prop := VG n es ∧ e ∉ es ∧ VG n (putE e es)
noncomputable instance decPutOK (n : Int) (es : List (Int × Int)) (e : Int × Int) : Decidable (PutOK n es e) := Classical.propDecidable _
theorem c_PutEdge (n a b : Int) (es : List (Int × Int)) (hl : es.length ≤ 1000) : KP 106 [GL n es, PE a b] [] =
    some (if PutOK n es (a, b) then (.tup [.agg [I n, pP es (a, b)], B true], [], pA es (a, b)) else (.tup [.agg [I 0, .i .emp], B false], [], [])) := by
  by_cases hV : VG n es ∧ (a, b) ∉ es
  rotate_left
  · rw [if_neg (fun h => hV ⟨h.1, h.2.1⟩)]
    by_cases hG : VG n es
    · have hm : (a, b) ∈ es := Classical.byContradiction fun h => hV ⟨hG, h⟩
      have h1 := decide_eq_true hG
      have h2 := decide_eq_true hm
      refine xw_call (fn := Tryz.f106) rfl Tryz.func106 rfl ⟨Nat.le_of_ble_eq_true rfl, rfl, rfl⟩ ?_
      repeat'(first|(refine na ?_;constructor)|(refine ite_two ?_ ?_<;>intro _<;>first|(exfalso;omega)|skip)|refine ord_split (by kernel_rfl) ?_|((first|(refine nb ?_;constructor)|refine pn rfl ?_|refine pe rfl ?_|((first|refine at2 ?_|refine at_cond ?_);split<;>first|(exfalso;omega;done)|skip))<;>try simp(config:={maxSteps:=3000000})(disch:=first|assumption|omega|exact VG.okg (by assumption)|(simp only[List.length_set,List.length_append,List.length_cons,List.length_nil,List.length_replicate];omega))only[go_sem,simprocAttr,Tryz.results106, h1, h2]))
    · have h1 := decide_eq_false hG
      refine xw_call (fn := Tryz.f106) rfl Tryz.func106 rfl ⟨Nat.le_of_ble_eq_true rfl, rfl, rfl⟩ ?_
      repeat'(first|(refine na ?_;constructor)|(refine ite_two ?_ ?_<;>intro _<;>first|(exfalso;omega)|skip)|refine ord_split (by kernel_rfl) ?_|((first|(refine nb ?_;constructor)|refine pn rfl ?_|refine pe rfl ?_|((first|refine at2 ?_|refine at_cond ?_);split<;>first|(exfalso;omega;done)|skip))<;>try simp(config:={maxSteps:=3000000})(disch:=first|assumption|omega|exact VG.okg (by assumption)|(simp only[List.length_set,List.length_append,List.length_cons,List.length_nil,List.length_replicate];omega))only[go_sem,simprocAttr,Tryz.results106, h1]))
  obtain ⟨hG, hm⟩ := hV
  have h1 := decide_eq_true hG
  have h2 := decide_eq_false hm
  have hle := hG.okg.len
  obtain ⟨k, hk, hbs⟩ := c_bsearch a b es hG.2.2.2.2 hm (by omega)
  obtain ⟨k0, k1, k2, k3⟩ := hk
  have hput := putE_at (e := (a, b)) (es := es) (k := k.toNat) (by omega) (fun i hi => k2 i (by omega)) (fun i hi hl => k3 i (by omega) hl) hm
  have hpl := putE_length (a, b) es
  have hgv := c_GraphValid n (putE (a, b) es) (by omega)
  by_cases hz : es = []
  · have k0' : k = 0 := by rw [hz] at k1; simp at k1; omega
    subst k0'
    have hin := c_insert_nil a b
    have hcl : KP 58 [LE es] [] = some (.i .emp, [], []) := by rw [hz]; exact c_cloneE0
    have hpe : putE (a, b) es = [(a, b)] := by rw [hz]; rfl
    have hgv' : KP 8 [.agg [I n, .i (.lst [[.v (.int .i64 a), .v (.int .i64 b)]])]] [] = some (B (decide (VG n (putE (a, b) es))), [], []) := by rw [hpe]; exact c_GraphValid n [(a, b)] (by simp)
    by_cases hP : VG n (putE (a, b) es)
    · rw [if_pos ⟨hG, hm, hP⟩]
      have h3 := decide_eq_true hP
      unfold pP pA
      rw [if_pos hz, if_pos hz]
      refine xw_call (fn := Tryz.f106) rfl Tryz.func106 rfl ⟨Nat.le_of_ble_eq_true rfl, rfl, rfl⟩ ?_
      repeat'(first|(refine na ?_;constructor)|(refine ite_two ?_ ?_<;>intro _<;>first|(exfalso;omega)|skip)|refine ord_split (by kernel_rfl) ?_|((first|(refine nb ?_;constructor)|refine pn rfl ?_|refine pe rfl ?_|((first|refine at2 ?_|refine at_cond ?_);split<;>first|(exfalso;omega;done)|skip))<;>try simp(config:={maxSteps:=3000000})(disch:=first|assumption|omega|exact VG.okg (by assumption)|(simp only[List.length_set,List.length_append,List.length_cons,List.length_nil,List.length_replicate];omega))only[go_sem,simprocAttr,Tryz.results106, h1, h2, hcl, hbs, hin, hgv', h3]))
      rfl
    · rw [if_neg (fun q => hP q.2.2)]
      have h3 := decide_eq_false hP
      refine xw_call (fn := Tryz.f106) rfl Tryz.func106 rfl ⟨Nat.le_of_ble_eq_true rfl, rfl, rfl⟩ ?_
      repeat'(first|(refine na ?_;constructor)|(refine ite_two ?_ ?_<;>intro _<;>first|(exfalso;omega)|skip)|refine ord_split (by kernel_rfl) ?_|((first|(refine nb ?_;constructor)|refine pn rfl ?_|refine pe rfl ?_|((first|refine at2 ?_|refine at_cond ?_);split<;>first|(exfalso;omega;done)|skip))<;>try simp(config:={maxSteps:=3000000})(disch:=first|assumption|omega|exact VG.okg (by assumption)|(simp only[List.length_set,List.length_append,List.length_cons,List.length_nil,List.length_replicate];omega))only[go_sem,simprocAttr,Tryz.results106, h1, h2, hcl, hbs, hin, hgv', h3]))
  · have hin : KP 161 [.ref 1000 0 0 es.length, I k, .ref 1001 0 0 1] [.arr 0 2 (es.map encE), .arr 0 2 [[.v (.int .i64 a), .v (.int .i64 b)]]] = some (.ref 1000 1 0 (es.length + 1), [.arr 1 2 ((putE (a, b) es).map encE), .arr 0 2 [[.v (.int .i64 a), .v (.int .i64 b)]]], []) := by
      by_cases hke : k = es.length
      · subst hke
        have := c_insert_end es a b (by omega)
        rw [hput]
        simpa using this
      · rw [hput]
        exact c_insert es a b k (by omega) k0 (by omega)
    by_cases hP : VG n (putE (a, b) es)
    · rw [if_pos ⟨hG, hm, hP⟩]
      have h3 := decide_eq_true hP
      unfold pP pA
      rw [if_neg hz, if_neg hz]
      refine xw_call (fn := Tryz.f106) rfl Tryz.func106 rfl ⟨Nat.le_of_ble_eq_true rfl, rfl, rfl⟩ ?_
      have hcl := c_cloneE es hz (by omega)
      have htk : (putE (a, b) es).take (es.length + 1) = putE (a, b) es := by rw [← hpl, List.take_length]
      repeat'(first|(refine na ?_;constructor)|(refine ite_two ?_ ?_<;>intro _<;>first|(exfalso;omega)|skip)|refine ord_split (by kernel_rfl) ?_|((first|(refine nb ?_;constructor)|refine pn rfl ?_|refine pe rfl ?_|((first|refine at2 ?_|refine at_cond ?_);split<;>first|(exfalso;omega;done)|skip))<;>try simp(config:={maxSteps:=3000000})(disch:=first|assumption|omega|exact VG.okg (by assumption)|(simp only[List.length_set,List.length_append,List.length_cons,List.length_nil,List.length_replicate];omega))only[go_sem,simprocAttr,Tryz.results106, h1, h2, hcl, hbs, hin, hgv, h3, htk]))
    · rw [if_neg (fun q => hP q.2.2)]
      have h3 := decide_eq_false hP
      refine xw_call (fn := Tryz.f106) rfl Tryz.func106 rfl ⟨Nat.le_of_ble_eq_true rfl, rfl, rfl⟩ ?_
      have hcl := c_cloneE es hz (by omega)
      have htk : (putE (a, b) es).take (es.length + 1) = putE (a, b) es := by rw [← hpl, List.take_length]
      repeat'(first|(refine na ?_;constructor)|(refine ite_two ?_ ?_<;>intro _<;>first|(exfalso;omega)|skip)|refine ord_split (by kernel_rfl) ?_|((first|(refine nb ?_;constructor)|refine pn rfl ?_|refine pe rfl ?_|((first|refine at2 ?_|refine at_cond ?_);split<;>first|(exfalso;omega;done)|skip))<;>try simp(config:={maxSteps:=3000000})(disch:=first|assumption|omega|exact VG.okg (by assumption)|(simp only[List.length_set,List.length_append,List.length_cons,List.length_nil,List.length_replicate];omega))only[go_sem,simprocAttr,Tryz.results106, h1, h2, hcl, hbs, hin, hgv, h3, htk]))
theorem c_PutEdgeL (n a b : Int) (es : List (Int × Int)) (hP : PutOK n es (a, b)) (hl : es.length ≤ 1000) :
    ∃ r own, KP 106 [GL n es, PE a b] [] = some (r, [], own) ∧ imm 2 own r = some (.tup [.agg [I n, LE (putE (a, b) es)], B true]) := by
  have hp := c_PutEdge n a b es hl
  rw [if_pos hP] at hp
  have him := imm1_p (es := es) (e := (a, b))
  refine ⟨_, _, hp, ?_⟩
  · unfold pP at him ⊢
    split at him
    · rename_i hz; rw [if_pos hz]; simp only [imm, mapO, him]; rfl
    · rename_i hz; rw [if_neg hz]; simp only [imm, mapO, him]; rfl
end Go.Proofs.YtmocnnknnbalkaaGreatDoor.X
