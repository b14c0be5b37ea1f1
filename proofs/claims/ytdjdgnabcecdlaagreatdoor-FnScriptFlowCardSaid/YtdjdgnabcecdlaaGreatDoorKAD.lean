/- What functions answer, and the plain laws behind it. -/
import Derived.Test.YtdjdgnabcecdlaaGreatDoorC9
import Derived.Test.YtdjdgnabcecdlaaGreatDoorKAA
/- Rules that part by themselves; arrays of integers and of edges. -/
set_option linter.unusedSimpArgs false
set_option linter.unusedVariables false
namespace Go.Proofs.YtdjdgnabcecdlaaGreatDoor.X
open Go Go.Proofs
/-- A graph whose edges join its nodes; nothing is said of their order. -/
structure OKG (n : Int) (es : List (Int × Int)) : Prop where
  n0 : 0 ≤ n
  n1 : n ≤ 16
  len : es.length ≤ 40
  ok : ∀ e ∈ es, okE n e
theorem VG.okg {n : Int} {es : List (Int × Int)} (h : VG n es) : OKG n es := ⟨by have := h.1; omega, h.2.1, h.2.2.1, h.2.2.2.1⟩
theorem nc0 : ((0 : Nat) : Int) = 0 := rfl
theorem nc1 : ((1 : Nat) : Int) = 1 := rfl
theorem nc2 : ((2 : Nat) : Int) = 2 := rfl
theorem nc3 : ((3 : Nat) : Int) = 3 := rfl
theorem ite_two {c : Prop} [Decidable c] {p q : Prop} (h1 : c → p) (h2 : ¬ c → q) : if c then p else q := by
  split
  · exact h1 ‹_›
  · exact h2 ‹_›
theorem at_region {x : Option (St × List Rec)} {p : St → List Rec → Prop} (h : ∃ a b, x = some (a, b) ∧ p a b) : ∃ a b, x = some (a, b) ∧ p a b := h
theorem at_out {x : Option ((PV × List Arr × List Arr) × List Nat)} {p : PV × List Arr × List Arr → List Nat → Prop} (h : ∃ a b, x = some (a, b) ∧ p a b) : ∃ a b, x = some (a, b) ∧ p a b := h
theorem at_cond {x : Option Bool} {p : Bool → Prop} (h : ∃ t, x = some t ∧ p t) : ∃ t, x = some t ∧ p t := h
theorem ord_split {ops : Array Oper} {rs : List Rec} {p : Prop} (h1 : orderOk ops rs = true) (h2 : p) : orderOk ops rs = true ∧ p := ⟨h1, h2⟩
section
variable {P : Program} {cf : Cfg} {C : CallS} {me : FuncId} {st : St}
theorem gdo_ite {b : Bool} {o : Oper} : gdo P cf C me (some b) o st = if b = true then fin1 o.dst ((opSem P cf C me o st.ρ).run st.m) else some ⟨o.dst, .i (.v undef), [], []⟩ := by
  cases b <;> rfl
theorem chk_and {α : Type} {a b : Bool} {x : Mm α} : Mm.chk (a && b) x = Mm.chk a (Mm.chk b x) := by cases a <;> rfl
theorem chk_dec {α : Type} {p : Prop} [Decidable p] {x : Mm α} (h : p) : Mm.chk (decide p) x = x := by simp [Mm.chk, h]
theorem beq_t {b : Bool} : (b == true) = b := by cases b <;> rfl
theorem beq_f {b : Bool} : (b == false) = !b := by cases b <;> rfl
theorem mn_int {k : IntKind} {a b : Int} : (if b < a then b else a) = min a b := by omega
theorem mx_int {k : IntKind} {a b : Int} : (if a < b then b else a) = max a b := by omega
theorem ite_and' {α : Sort _} {p q : Prop} [Decidable p] [Decidable q] {a b : α} : (if p ∧ q then a else b) = if p then if q then a else b else b := by
  by_cases h1 : p <;> by_cases h2 : q <;> simp [h1, h2]
theorem ite_or' {α : Sort _} {p q : Prop} [Decidable p] [Decidable q] {a b : α} : (if p ∨ q then a else b) = if p then a else if q then a else b := by
  by_cases h1 : p <;> by_cases h2 : q <;> simp [h1, h2]
theorem minB_eq {k k' : IntKind} {a b : Int} : minB (.i (.v (.int k a))) (.i (.v (.int k' b))) = .ret (.i (.v (.int k (min a b))), []) := by
  simp only [minB, intP, @mn_int k]
theorem maxB_eq {k k' : IntKind} {a b : Int} : maxB (.i (.v (.int k a))) (.i (.v (.int k' b))) = .ret (.i (.v (.int k (max a b))), []) := by
  simp only [maxB, intP, gt_iff_lt, @mx_int k]
end
/-- Rewriting turns the state alone: the code that is left, and what is wanted of it, stay as they are. -/
@[congr] theorem XW_congr {P : Program} {cf : Cfg} {me : FuncId} {c : Code} {s s' : St} {Q : Ex → St → Prop} (h : s = s') : XW P cf me c s Q = XW P cf me c s' Q := by rw [h]
/-- Loops over a state of one's own. -/
def LQ {σ : Type} (R : σ → St → Prop) (μ : σ → Nat) (n : Nat) (Q : Ex → St → Prop) : Ex → St → Prop
  | .normal, s => ∃ x, R x s ∧ μ x < n
  | .exit i, s => Q (.exit i) s
  | .ret, s => Q .ret s
theorem xw_loopR {P : Program} {cf : Cfg} {me : FuncId} {b : Code} {Q : Ex → St → Prop} {σ : Type} (R : σ → St → Prop) (μ : σ → Nat) (x : σ) {s : St} (h0 : R x s)
    (h : ∀ x s, R x s → XW P cf me b s (LQ R μ (μ x) Q)) : XW P cf me (.loop b) s Q := by
  refine xw_loop_count (fun n s => ∃ x, R x s ∧ μ x = n) ?_ (μ x) s ⟨x, h0, rfl⟩
  rintro n s ⟨x, hx, rfl⟩
  refine (h x s hx).mono fun e s' hq => ?_
  cases e with
  | normal =>
    obtain ⟨y, h1, h2⟩ := hq
    exact ⟨μ y, h2, y, h1, rfl⟩
  | exit i => exact hq
  | ret => exact hq
theorem take_int {α : Type} {l : List α} {i : Int} (d : α) (h0 : 0 ≤ i) (h1 : i < l.length) : l.take (i + 1).toNat = l.take i.toNat ++ [l.getD i.toNat d] := by
  have : (i + 1).toNat = i.toNat + 1 := by omega
  rw [this, List.take_add_one]
  have h : i.toNat < l.length := by omega
  simp [h]
theorem take_all {α : Type} {l : List α} {n : Nat} (h : l.length ≤ n) : l.take n = l := List.take_of_length_le h
theorem getD_mem {α : Type} {l : List α} {i : Nat} {d : α} (h : i < l.length) : l.getD i d ∈ l := by
  simp [h]
theorem encE_map_inj {a b : List (Int × Int)} : a.map encE = b.map encE ↔ a = b := by
  refine ⟨fun h => ?_, fun h => by rw [h]⟩
  induction a generalizing b with
  | nil => cases b <;> simp_all
  | cons x a ih =>
    cases b with
    | nil => simp at h
    | cons y b =>
      simp only [List.map_cons, List.cons.injEq, encE, IV.v.injEq, Value.int.injEq, true_and, and_true] at h
      rw [ih h.2, Prod.ext h.1.1 h.1.2]
theorem encI_map_inj {a b : List Int} : a.map encI = b.map encI ↔ a = b := by
  refine ⟨fun h => ?_, fun h => by rw [h]⟩
  induction a generalizing b with
  | nil => cases b <;> simp_all
  | cons x a ih =>
    cases b with
    | nil => simp at h
    | cons y b =>
      simp only [List.map_cons, List.cons.injEq, encI, IV.v.injEq, Value.int.injEq, true_and, and_true] at h
      rw [ih h.2, h.1]
theorem getE (es : List (Int × Int)) (i : Nat) (h : i < es.length) : (es.map encE)[i]? = some [.v (.int .i64 (es.getD i (0, 0)).1), .v (.int .i64 (es.getD i (0, 0)).2)] := by
  simp [encE, h]
theorem getI (xs : List Int) (i : Nat) (h : i < xs.length) : (xs.map encI)[i]? = some [.v (.int .i64 (xs.getD i 0))] := by
  simp [encI, h]
theorem setI (xs : List Int) (i : Nat) (x : Int) : (xs.map encI).set i [.v (.int .i64 x)] = (xs.set i x).map encI := by
  simp [encI, List.map_set]
theorem setE (es : List (Int × Int)) (i : Nat) (x y : Int) : (es.map encE).set i [.v (.int .i64 x), .v (.int .i64 y)] = (es.set i (x, y)).map encE := by
  simp [encE, List.map_set]
theorem appI (xs : List Int) (x : Int) : xs.map encI ++ [[.v (.int .i64 x)]] = (xs ++ [x]).map encI := by simp [encI]
theorem appE (es : List (Int × Int)) (x y : Int) : es.map encE ++ [[.v (.int .i64 x), .v (.int .i64 y)]] = (es ++ [(x, y)]).map encE := by simp [encE]
theorem mapAppI {xs ys : List Int} : xs.map encI ++ ys.map encI = (xs ++ ys).map encI := by simp
theorem mapAppE {xs ys : List (Int × Int)} : xs.map encE ++ ys.map encE = (xs ++ ys).map encE := by simp
theorem dropI {xs : List Int} {n : Nat} : (xs.map encI).drop n = (xs.drop n).map encI := by simp
theorem dropE {xs : List (Int × Int)} {n : Nat} : (xs.map encE).drop n = (xs.drop n).map encE := by simp
theorem takeI {xs : List Int} {n : Nat} : (xs.map encI).take n = (xs.take n).map encI := by simp
theorem takeE {xs : List (Int × Int)} {n : Nat} : (xs.map encE).take n = (xs.take n).map encE := by simp
def zE (n : Nat) : List (Int × Int) := List.replicate n (0, 0)
def zI (n : Nat) : List Int := List.replicate n 0
theorem repE (n : Nat) : List.replicate n [IV.v (.int .i64 0), IV.v (.int .i64 0)] = (zE n).map encE := by simp [zE, encE]
theorem repI (n : Nat) : List.replicate n [IV.v (.int .i64 0)] = (zI n).map encI := by simp [zI, encI]
theorem zE_len (n : Nat) : (zE n).length = n := by simp [zE]
theorem zI_len (n : Nat) : (zI n).length = n := by simp [zI]
theorem flatI_all {xs : List Int} : (xs.map encI).all (fun e => e.all flatIV) = true := by simp [encI, flatIV]
theorem flatE_all {xs : List (Int × Int)} : (xs.map encE).all (fun e => e.all flatIV) = true := by simp [encE, flatIV]
theorem ref_inj {s v o l s' v' o' l' : Nat} : PV.ref s v o l = PV.ref s' v' o' l' ↔ s = s' ∧ v = v' ∧ o = o' ∧ l = l' := by simp
theorem arr_inj {v k v' k' : Nat} {xs xs' : List (List IV)} : Arr.arr v k xs = Arr.arr v' k' xs' ↔ v = v' ∧ k = k' ∧ xs = xs' := by simp
theorem i_inj {a b : Int} : (PV.i (.v (.int .i64 a)) = PV.i (.v (.int .i64 b))) ↔ a = b := by simp
theorem b_inj {a b : Bool} : (PV.i (.v (.bool a)) = PV.i (.v (.bool b))) ↔ a = b := by simp
attribute [go_sem] flatI_all flatE_all repE repI zE_len zI_len List.length_set List.take_length List.length_replicate getE getI setI setE appI appE mapAppI mapAppE dropI dropE takeI takeE encE_map_inj encI_map_inj ref_inj arr_inj i_inj b_inj wr Prod.exists Prod.eta
attribute [go_sem] c_l1Edge c_l1Less c_l1Find c_l1Put c_sGraphValid c_compareEdges c_indexE c_containsE c_has c_GraphValid c_hasNode
attribute [go_sem] nc0 nc1 nc2 nc3 ite_and' ite_or' Bool.not_eq_false' Bool.not_not decide_not gdo_ite chk_and chk_dec beq_t beq_f if_pos if_neg LQ ite_not Classical.not_not minB_eq maxB_eq
end Go.Proofs.YtdjdgnabcecdlaaGreatDoor.X

/- What functions compute: closures, deleting, neighbors. -/
set_option linter.unusedSimpArgs false
set_option linter.unusedVariables false
set_option maxHeartbeats 2000000
namespace Go.Proofs.YtdjdgnabcecdlaaGreatDoor.X
open Go Go.Proofs
/-- A function value that tells something of an edge. -/
structure Clo (c : IV) (dom : Int × Int → Prop) (p : Int × Int → Bool) : Prop where
  frz : ∀ n, X.frz n (.i c) = .ret c
  flat : c.flat = true
  call : ∀ me d x y, dom (x, y) → dynP cfg (KK Tryz.prog cfg) me (some d) (.i c) [PE x y] = .ret (B (p (x, y)), [])
/-- The place of the first edge that fulfils something, or -1. -/
def fidx (p : Int × Int → Bool) (es : List (Int × Int)) : Int := if es.findIdx p < es.length then (es.findIdx p : Int) else -1
/-- What deleting hands back. -/
def delE (p : Int × Int → Bool) (es : List (Int × Int)) : IV := if es = [] then .emp else .lst ((es.filter fun e => !p e).map encE)
def delA (p : Int × Int → Bool) (es : List (Int × Int)) : List Arr := if es = [] then [] else [.arr 0 2 ((es.filter (fun e => !p e) ++ zE (es.length - (es.filter (fun e => !p e)).length)).map encE)]
def delP (p : Int × Int → Bool) (es : List (Int × Int)) : PV := if es = [] then .i .emp else .ref 2000 0 0 (es.filter fun e => !p e).length
theorem KK_prim {P : Program} {cf : Cfg} {f : FuncId} {g : List PV → List Arr → Option (PV × List Arr × List Arr)} {args : List PV} {ps : List Arr} {r : PV × List Arr × List Arr} (h : cf.prim f = some g) (h2 : g args ps = some r) : KK P cf f args ps = some r :=
  KK_of (.all fun n => by show callWith P cf (exec P cf n) f args ps = some r; unfold callWith primC; rw [h]; simp only [h2])
@[go_sem] theorem c_cloneE0 : KP 84 [.i (.lst [])] [] = some (.i .emp, [], []) := KK_prim rfl rfl
theorem c_cloneE (es : List (Int × Int)) (h : es ≠ []) (hl : es.length ≤ 1048576) : KP 84 [LE es] [] = some (.ref 2000 0 0 es.length, [], [.arr 0 2 (es.map encE)]) := by
  have hp : primC cfg 84 [LE es] [] = none := by
    cases es with
    | nil => exact absurd rfl h
    | cons e r => rfl
  have hm : es.map encE ≠ [] := by simpa using h
  refine xw_call (fn := Tryz.f84) hp Tryz.func84 rfl ⟨Nat.le_of_ble_eq_true rfl, rfl, rfl⟩ ?_
  repeat' (first
    | refine xw_seq ?_
    | refine xw_block ?_
    | (refine ite_two ?_ ?_ <;> intro _ <;> first | (exfalso; omega) | skip)
    | refine ord_split (by kernel_rfl) ?_
    | (refine xw_ret ?_ <;> try simp only [sq, bl, LQ])
    | ((first | refine xw_reg ?_ | refine xw_regd ?_ | refine xw_if ?_ | refine xw_skip ?_ | refine xw_exit ?_ | refine xw_label ?_ | refine post_ret ?_ | refine post_normal ?_ | refine postE_ret ?_ | refine postE_normal ?_ | (((first | refine at_region ?_ | refine at_out ?_ | refine at_cond ?_); split) <;> first | (exfalso; omega; done) | skip)) <;> try simp (config := { maxSteps := 3000000 }) (disch := first | assumption | omega | exact VG.okg (by assumption) | (simp only [List.length_set, List.length_append, List.length_cons, List.length_nil, List.length_replicate]; omega)) only [go_sem, ↓reduceIte, Int.reduceLE, Int.reduceLT, Int.reduceToNat, Int.reduceNeg, Int.reduceAdd, Int.reduceSub, Int.reduceMul, Int.reduceEq, Int.reduceNe, Nat.reduceEqDiff, Nat.reduceAdd, Nat.reduceSub, Nat.reduceMul, Nat.reduceLT, Nat.reduceLeDiff, Nat.reduceBEq, Nat.reduceBNe, UInt8.reduceToNat, Tryz.results84, hm]))
theorem imm_del {p : Int × Int → Bool} {es : List (Int × Int)} {n : Nat} : imm (n + 1) (delA p es) (delP p es) = some (.i (delE p es)) := by
  unfold delA delP delE
  split
  · rfl
  · simp [imm, imm1]
theorem frz_del {p : Int × Int → Bool} {es : List (Int × Int)} {n : Nat} : frz n (.i (delE p es)) = .ret (.lst ((es.filter fun e => !p e).map encE)) := by
  unfold delE
  split
  · rename_i h; subst h; cases n <;> rfl
  · cases n <;> rfl
theorem flat_del {p : Int × Int → Bool} {es : List (Int × Int)} : (delE p es).flat = true := by unfold delE; split <;> rfl
theorem lenP_del {p : Int × Int → Bool} {es : List (Int × Int)} : lenP (.i (delE p es)) = some (es.filter fun e => !p e).length := by
  unfold delE
  split
  · rename_i h; subst h; rfl
  · simp [lenP]
theorem iaR_del {p : Int × Int → Bool} {es : List (Int × Int)} {el : TypeId} {n : Int} (h0 : 0 ≤ n) (h : n < (es.filter fun e => !p e).length) :
    iaR Tryz.prog (some (.slice el)) (some n) (.i (delE p es)) = iaR Tryz.prog (some (.slice el)) (some n) (.i (.lst ((es.filter fun e => !p e).map encE))) := by
  unfold delE
  split
  · rename_i he; subst he; simp at h; omega
  · rfl
theorem flatA_E {v : Nat} {es : List (Int × Int)} : flatA (.arr v 2 (es.map encE)) = true := by simp [flatA, encE, flatIV]
theorem flatA_I {v : Nat} {xs : List Int} : flatA (.arr v 1 (xs.map encI)) = true := by simp [flatA, encI, flatIV]
theorem flatP_del {p : Int × Int → Bool} {es : List (Int × Int)} {n : Nat} : flatP (n + 1) (delP p es) = true := by unfold delP; split <;> rfl
theorem flatA_del {p : Int × Int → Bool} {es : List (Int × Int)} : (delA p es).all flatA = true := by
  unfold delA
  split
  · rfl
  · simp only [List.all_cons, List.all_nil, flatA_E, Bool.and_self]
attribute [go_sem] imm_del frz_del flat_del lenP_del iaR_del flatA_E flatA_I flatP_del flatA_del
/-- The nodes that edges join with a node, in the edges' order. -/
def nbL (v : Int) (es : List (Int × Int)) : List Int := es.filterMap fun e => if v = e.1 then some e.2 else if v = e.2 then some e.1 else none
def sortI (xs : List Int) : List Int := xs.mergeSort fun a b => decide (a ≤ b)
/-- The nodes that edges join with a node. -/
def nbS (v : Int) (es : List (Int × Int)) : List Int := sortI (nbL v es)
theorem nbL_snoc (v : Int) (es : List (Int × Int)) (e : Int × Int) : nbL v (es ++ [e]) = nbL v es ++ if v = e.1 then [e.2] else if v = e.2 then [e.1] else [] := by
  unfold nbL
  rw [List.filterMap_append]
  congr 1
  by_cases h1 : v = e.1
  · rw [List.filterMap_cons, if_pos h1, if_pos h1]; rfl
  · by_cases h2 : v = e.2
    · rw [List.filterMap_cons, if_neg h1, if_neg h1, if_pos h2, if_pos h2]; rfl
    · rw [List.filterMap_cons, if_neg h1, if_neg h1, if_neg h2, if_neg h2]; rfl
theorem sortE_encI (xs : List Int) : sortE (xs.map encI) = (sortI xs).map encI := by
  unfold sortE sortI
  rw [List.map_mergeSort]
  intro a _ b _
  rfl
theorem sortI_length (xs : List Int) : (sortI xs).length = xs.length := List.length_mergeSort _
@[go_sem] theorem c_sortI (xs : List Int) (n : Nat) (h : n = xs.length) (hl : xs.length ≤ 4000000) : KP 156 [.ref 1000 0 0 n] [.arr 0 1 (xs.map encI)] = some (.tup [], [.arr 0 1 ((sortI xs).map encI)], []) := by
  refine KK_prim rfl ?_
  have : (xs.map encI).all isI64 = true := by simp [encI, isI64]
  simp only [sortP, List.length_map, h, hl, this, and_self, if_true, sortE_encI]
theorem c_neighbors (n v : Int) (es : List (Int × Int)) (hl : es.length ≤ 1048576) : KP 112 [GL n es, I v] [] = some (.ref 2000 0 0 (nbS v es).length, [], [.arr 0 1 ((nbS v es).map encI)]) := by
  refine xw_call (fn := Tryz.f112) rfl Tryz.func112 rfl ⟨Nat.le_of_ble_eq_true rfl, rfl, rfl⟩ ?_
  repeat' (first
    | refine xw_seq ?_
    | refine xw_block ?_
    | (refine ite_two ?_ ?_ <;> intro _ <;> first | (exfalso; omega) | skip)
    | refine ord_split (by kernel_rfl) ?_
    | (refine xw_ret ?_ <;> try simp only [sq, bl, LQ])
    | ((first | refine xw_reg ?_ | refine xw_regd ?_ | refine xw_if ?_ | refine xw_skip ?_ | refine xw_exit ?_ | refine xw_label ?_ | refine post_ret ?_ | refine post_normal ?_ | refine postE_ret ?_ | refine postE_normal ?_ | (((first | refine at_region ?_ | refine at_out ?_ | refine at_cond ?_); split) <;> first | (exfalso; omega; done) | skip)) <;> try simp (config := { maxSteps := 3000000 }) (disch := first | assumption | omega | exact VG.okg (by assumption) | (simp only [List.length_set, List.length_append, List.length_cons, List.length_nil, List.length_replicate]; omega)) only [go_sem, ↓reduceIte, Int.reduceLE, Int.reduceLT, Int.reduceToNat, Int.reduceNeg, Int.reduceAdd, Int.reduceSub, Int.reduceMul, Int.reduceEq, Int.reduceNe, Nat.reduceEqDiff, Nat.reduceAdd, Nat.reduceSub, Nat.reduceMul, Nat.reduceLT, Nat.reduceLeDiff, Nat.reduceBEq, Nat.reduceBNe, UInt8.reduceToNat, Tryz.results112]))
  refine xw_loopR (fun (x : Int × Nat × List Int) s => s.m 8 = some (.arr x.2.1 1 (x.2.2.map encI)) ∧ s.ρ 5 = .ref 8 x.2.1 0 x.2.2.length ∧ s.ρ 12 = I x.1 ∧ s.ρ 1 = I v ∧ s.ρ 10 = LE es ∧ s.ρ 11 = I es.length ∧
    0 ≤ x.1 ∧ x.1 ≤ es.length ∧ (x.2.2.length : Int) ≤ x.1 ∧ x.2.2 = nbL v (es.take x.1.toNat)) (fun x => (es.length - x.1).toNat) (0, 0, []) (by simp [upd, nbL]) ?_
  rintro ⟨i, w, xs⟩ ⟨ρ, m⟩ ⟨m8, h5, h12, h1, h10, h11, g0, g1, g2, g3⟩
  simp only at m8 h5 h12 h1 h10 h11 g0 g1 g2 g3
  repeat' (first
    | refine xw_seq ?_
    | refine xw_block ?_
    | (refine ite_two ?_ ?_ <;> intro _ <;> first | (exfalso; omega) | skip)
    | refine ord_split (by kernel_rfl) ?_
    | (refine xw_ret ?_ <;> try simp only [sq, bl, LQ])
    | ((first | refine xw_reg ?_ | refine xw_regd ?_ | refine xw_if ?_ | refine xw_skip ?_ | refine xw_exit ?_ | refine xw_label ?_ | refine post_ret ?_ | refine post_normal ?_ | refine postE_ret ?_ | refine postE_normal ?_ | (((first | refine at_region ?_ | refine at_out ?_ | refine at_cond ?_); split) <;> first | (exfalso; omega; done) | skip)) <;> try simp (config := { maxSteps := 3000000 }) (disch := first | assumption | omega | exact VG.okg (by assumption) | (simp only [List.length_set, List.length_append, List.length_cons, List.length_nil, List.length_replicate]; omega)) only [go_sem, ↓reduceIte, Int.reduceLE, Int.reduceLT, Int.reduceToNat, Int.reduceNeg, Int.reduceAdd, Int.reduceSub, Int.reduceMul, Int.reduceEq, Int.reduceNe, Nat.reduceEqDiff, Nat.reduceAdd, Nat.reduceSub, Nat.reduceMul, Nat.reduceLT, Nat.reduceLeDiff, Nat.reduceBEq, Nat.reduceBNe, UInt8.reduceToNat, Tryz.results112, m8, h5, h12, h1, h10, h11]))
  · refine ⟨by omega, by omega, by omega, ?_, by omega⟩
    rw [take_int (0, 0) g0 (by omega), nbL_snoc, ← g3, if_pos (by assumption)]
  · refine ⟨by omega, by omega, by omega, ?_, by omega⟩
    rw [take_int (0, 0) g0 (by omega), nbL_snoc, ← g3, if_neg (by assumption), if_pos (by assumption)]
  · refine ⟨by omega, by omega, by omega, ?_, by omega⟩
    rw [take_int (0, 0) g0 (by omega), nbL_snoc, ← g3, if_neg (by assumption), if_neg (by assumption), List.append_nil]
  · rw [take_all (by omega)] at g3
    rw [g3]
    exact ⟨(sortI_length _).symm, rfl⟩
end Go.Proofs.YtdjdgnabcecdlaaGreatDoor.X

/- Texts: numbers in digits, pieces between separators. Plain lists of bytes. -/
set_option linter.unusedSimpArgs false
set_option linter.unusedVariables false
namespace Go.Proofs.YtdjdgnabcecdlaaGreatDoor.X
open Go
/-- The pieces of a text between bytes c. -/
def pcs (c : UInt8) : List UInt8 → List (List UInt8)
  | [] => [[]]
  | b :: r => if b = c then [] :: pcs c r else
    match pcs c r with
    | [] => [[b]]
    | p :: q => (b :: p) :: q
theorem pcs_ne (c : UInt8) (l : List UInt8) : pcs c l ≠ [] := by
  cases l with
  | nil => simp [pcs]
  | cons b r =>
    unfold pcs
    split
    · simp
    · split <;> simp
theorem pcs_app {c : UInt8} : ∀ {a : List UInt8} (b : List UInt8), c ∉ a → pcs c (a ++ c :: b) = a :: pcs c b
  | [], b, _ => by simp [pcs]
  | x :: a, b, h => by
    simp only [List.mem_cons, not_or] at h
    rw [List.cons_append, pcs, if_neg (fun e => h.1 e.symm), pcs_app b h.2]
theorem pcs_none {c : UInt8} : ∀ {a : List UInt8}, c ∉ a → pcs c a = [a]
  | [], _ => rfl
  | x :: a, h => by
    simp only [List.mem_cons, not_or] at h
    rw [pcs, if_neg (fun e => h.1 e.symm), pcs_none h.2]
/-- The place of a byte, or -1. -/
def ixB (c : UInt8) (l : List UInt8) : Int := if c ∈ l then (l.idxOf c : Int) else -1
theorem ixB_at {c : UInt8} {l : List UInt8} {i : Nat} (h : l[i]? = some c) (hn : c ∉ l.take i) : ixB c l = i := by
  have hm : c ∈ l := List.mem_of_getElem? h
  unfold ixB
  rw [if_pos hm]
  have key : ∀ (l : List UInt8) (i : Nat), l[i]? = some c → c ∉ l.take i → l.idxOf c = i := by
    intro l
    induction l with
    | nil => intro i h; simp at h
    | cons x r ih =>
      intro i h hn
      cases i with
      | zero => simp at h; subst h; simp
      | succ i =>
        simp only [List.take_succ_cons, List.mem_cons, not_or] at hn
        have hx : (x == c) = false := by simpa using fun e => hn.1 e.symm
        rw [List.idxOf_cons, hx, ih i (by simpa using h) hn.2]; rfl
  rw [key l i h hn]
theorem ixB_lt {c : UInt8} {l : List UInt8} : ixB c l < l.length ∧ -1 ≤ ixB c l := by
  unfold ixB
  split
  · rename_i h
    have := List.idxOf_lt_length_of_mem h
    omega
  · omega
theorem ixB_split {c : UInt8} {l : List UInt8} (h : 0 ≤ ixB c l) : c ∉ l.take (ixB c l).toNat ∧ l = l.take (ixB c l).toNat ++ c :: l.drop ((ixB c l).toNat + 1) := by
  have hm : c ∈ l := by
    unfold ixB at h
    split at h
    · assumption
    · omega
  have e : (ixB c l).toNat = l.idxOf c := by unfold ixB; rw [if_pos hm]; omega
  rw [e]
  have key : ∀ l : List UInt8, c ∈ l → c ∉ l.take (l.idxOf c) ∧ l = l.take (l.idxOf c) ++ c :: l.drop (l.idxOf c + 1) := by
    intro l
    induction l with
    | nil => intro h; simp at h
    | cons x r ih =>
      intro h
      by_cases hx : x = c
      · subst hx; simp
      · have hb : (x == c) = false := by simpa using hx
        have hr : c ∈ r := by
          rcases List.mem_cons.1 h with h | h
          · exact absurd h.symm hx
          · exact h
        obtain ⟨h1, h2⟩ := ih hr
        have e0 : (x :: r).idxOf c = r.idxOf c + 1 := by rw [List.idxOf_cons, hb]; rfl
        rw [e0]
        refine ⟨?_, ?_⟩
        · rw [List.take_succ_cons, List.mem_cons, not_or]
          exact ⟨fun e => hx e.symm, h1⟩
        · rw [List.take_succ_cons, List.drop_succ_cons, List.cons_append, ← h2]
  exact key l hm
theorem ixB_neg {c : UInt8} {l : List UInt8} (h : ixB c l < 0) : c ∉ l := by
  intro hm
  unfold ixB at h
  rw [if_pos hm] at h
  omega
theorem pcs_step {c : UInt8} {l : List UInt8} (h : 0 ≤ ixB c l) : pcs c l = l.take (ixB c l).toNat :: pcs c (l.drop ((ixB c l).toNat + 1)) := by
  obtain ⟨h1, h2⟩ := ixB_split h
  generalize ixB c l = i at *
  rw [← pcs_app _ h1, ← h2]
theorem pcs_end {c : UInt8} {l : List UInt8} (h : ixB c l < 0) : pcs c l = [l] := pcs_none (ixB_neg h)
theorem pcs_len {c : UInt8} : ∀ (l : List UInt8), (pcs c l).length = l.count c + 1
  | [] => by simp [pcs]
  | b :: r => by
    have ih := pcs_len (c := c) r
    unfold pcs
    split
    · rename_i h
      subst h
      simp [ih]
    · rename_i h
      have hb : ¬ (b == c) = true := by simpa using h
      rw [List.count_cons, if_neg hb, Nat.add_zero, ← ih]
      have := pcs_ne c r
      split
      · rename_i e; exact absurd e this
      · rename_i p q e; simp [e]
theorem pcs_le {c : UInt8} (l : List UInt8) : (pcs c l).length ≤ l.length + 1 := by
  rw [pcs_len]
  have := List.count_le_length (a := c) (l := l)
  omega
theorem dec2_len {n : Nat} : 1 ≤ (dec2 n).length ∧ (dec2 n).length ≤ 2 := by unfold dec2; split <;> simp
theorem dec2_dig {n : Nat} (h : n < 100) : ∀ b ∈ dec2 n, 48 ≤ b.toNat ∧ b.toNat ≤ 57 := by
  have key : ∀ n : Fin 100, ∀ b ∈ dec2 n.1, 48 ≤ b.toNat ∧ b.toNat ≤ 57 := by decide
  exact key ⟨n, h⟩
theorem dec2_atoi {n : Nat} (h : n < 100) : Lib.atoi (dec2 n) = some n := by
  have key : ∀ n : Fin 100, Lib.atoi (dec2 n.1) = some (n.1 : Int) := by decide
  exact key ⟨n, h⟩
theorem dec2_no {n : Nat} (h : n < 100) {c : UInt8} (hc : c.toNat < 48) : c ∉ dec2 n := fun hm => by
  have := dec2_dig h c hm
  omega
abbrev dgt (n : Int) : List UInt8 := dec2 n.toNat
def numsT (l : List Int) : List UInt8 := l.flatMap fun n => 32 :: dgt n
def edT (e : Int × Int) : List UInt8 := dgt e.1 ++ 45 :: dgt e.2
def edsT (l : List (Int × Int)) : List UInt8 := l.flatMap fun e => 32 :: edT e
def fmtG (n : Int) (es : List (Int × Int)) : List UInt8 := dgt n ++ edsT es
def smallL (l : List Int) : Prop := ∀ n ∈ l, 0 ≤ n ∧ n < 100
def smallE (l : List (Int × Int)) : Prop := ∀ e ∈ l, (0 ≤ e.1 ∧ e.1 < 100) ∧ 0 ≤ e.2 ∧ e.2 < 100
theorem numsT_cons (n : Int) (l : List Int) : numsT (n :: l) = 32 :: (dgt n ++ numsT l) := by simp [numsT]
theorem numsT_snoc (n : Int) (l : List Int) : numsT (l ++ [n]) = numsT l ++ 32 :: dgt n := by simp [numsT]
theorem edsT_nil : edsT [] = [] := rfl
theorem edsT_cons (e : Int × Int) (l : List (Int × Int)) : edsT (e :: l) = 32 :: (edT e ++ edsT l) := by simp [edsT]
theorem edsT_snoc (e : Int × Int) (l : List (Int × Int)) : edsT (l ++ [e]) = edsT l ++ 32 :: edT e := by simp [edsT]
theorem numsT_len : ∀ l : List Int, (numsT l).length ≤ 3 * l.length
  | [] => by simp [numsT]
  | n :: l => by
    have := numsT_len l
    have : (dgt n).length ≤ 2 := (dec2_len (n := n.toNat)).2
    rw [numsT_cons]; simp only [List.length_cons, List.length_append]; omega
theorem edT_len (e : Int × Int) : 3 ≤ (edT e).length ∧ (edT e).length ≤ 5 := by
  have h1 : 1 ≤ (dgt e.1).length ∧ (dgt e.1).length ≤ 2 := dec2_len (n := e.1.toNat)
  have h2 : 1 ≤ (dgt e.2).length ∧ (dgt e.2).length ≤ 2 := dec2_len (n := e.2.toNat)
  unfold edT; simp only [List.length_cons, List.length_append]; omega
theorem edsT_len : ∀ l : List (Int × Int), (edsT l).length ≤ 6 * l.length
  | [] => by simp [edsT]
  | e :: l => by
    have := edsT_len l
    have := (edT_len e).2
    rw [edsT_cons]; simp only [List.length_cons, List.length_append]; omega
theorem fmtG_len (n : Int) (es : List (Int × Int)) : 1 ≤ (fmtG n es).length ∧ (fmtG n es).length ≤ 6 * es.length + 2 := by
  have h1 : 1 ≤ (dgt n).length ∧ (dgt n).length ≤ 2 := dec2_len (n := n.toNat)
  have h2 := edsT_len es
  unfold fmtG; simp only [List.length_append]; omega
theorem edT_no {e : Int × Int} (h : (0 ≤ e.1 ∧ e.1 < 100) ∧ 0 ≤ e.2 ∧ e.2 < 100) {c : UInt8} (hc : c.toNat < 48) (h45 : c ≠ 45) : c ∉ edT e := by
  unfold edT
  simp only [List.mem_append, List.mem_cons, not_or]
  exact ⟨dec2_no (by omega) hc, h45, dec2_no (by omega) hc⟩
theorem edsT_no {l : List (Int × Int)} (h : smallE l) {c : UInt8} (hc : c.toNat < 48) (h32 : c ≠ 32) (h45 : c ≠ 45) : c ∉ edsT l := by
  intro hm
  obtain ⟨e, he, hm⟩ := List.mem_flatMap.1 hm
  rcases List.mem_cons.1 hm with hm | hm
  · exact h32 hm
  · exact edT_no (h e he) hc h45 hm
theorem fmtG_no {n : Int} {es : List (Int × Int)} (hn : 0 ≤ n ∧ n < 100) (h : smallE es) {c : UInt8} (hc : c.toNat < 48) (h32 : c ≠ 32) (h45 : c ≠ 45) : c ∉ fmtG n es := by
  unfold fmtG
  rw [List.mem_append, not_or]
  exact ⟨dec2_no (by omega) hc, edsT_no h hc h32 h45⟩
/-- A graph's words. -/
theorem pcs_eds : ∀ {l : List (Int × Int)} (a : List UInt8), smallE l → (32 : UInt8) ∉ a → pcs 32 (a ++ edsT l) = a :: l.map edT
  | [], a, _, ha => by rw [edsT_nil, List.append_nil, pcs_none ha]; rfl
  | e :: l, a, h, ha => by
    have he := h e (by simp)
    rw [edsT_cons, pcs_app _ ha, pcs_eds (edT e) (fun x hx => h x (by simp [hx])) (edT_no he (by decide) (by decide))]
    rfl
theorem pcs_fmtG {n : Int} {es : List (Int × Int)} (hn : 0 ≤ n ∧ n < 100) (h : smallE es) : pcs 32 (fmtG n es) = dgt n :: es.map edT :=
  pcs_eds _ h (dec2_no (by omega) (by decide))
end Go.Proofs.YtdjdgnabcecdlaaGreatDoor.X
