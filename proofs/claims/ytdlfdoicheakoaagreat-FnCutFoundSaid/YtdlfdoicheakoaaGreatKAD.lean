/- What functions answer, and the plain laws behind it. -/
import Derived.Test.YtdlfdoicheakoaaGreatKAC
/- Rules that part by themselves; arrays of integers and of edges. -/
set_option linter.unusedSimpArgs false
set_option linter.unusedVariables false
namespace Go.Proofs.YtdlfdoicheakoaaGreat.X
open Go Go.Proofs
/-- A graph whose edges join its nodes; nothing is said of their order. -/
structure OKG (n : Int) (es : List (Int × Int)) : Prop where
  n0 : 0 ≤ n
  n1 : n ≤ 16
  len : es.length ≤ 40
  ok : ∀ e ∈ es, okE n e
theorem VG.okg {n : Int} {es : List (Int × Int)} (h : VG n es) : OKG n es := ⟨by have := h.1; omega, h.2.1, h.2.2.1, h.2.2.2.1⟩
theorem nc0 : ((0 : Nat) : Int) = 0 := rfl
theorem nc1 : ((1 : Nat) : Int) = 1 := rfl
theorem nc2 : ((2 : Nat) : Int) = 2 := rfl
theorem nc3 : ((3 : Nat) : Int) = 3 := rfl
section
variable {P : Program} {cf : Cfg} {C : CallS} {me : FuncId} {st : St}
theorem gdo_ite {b : Bool} {o : Oper} : gdo P cf C me (some b) o st = if b = true then fin1 o.dst ((opSem P cf C me o st.ρ).run st.m) else some ⟨o.dst, .i (.v undef), [], []⟩ := by
  cases b <;> rfl
theorem chk_and {α : Type} {a b : Bool} {x : Mm α} : Mm.chk (a && b) x = Mm.chk a (Mm.chk b x) := by cases a <;> rfl
theorem chk_dec {α : Type} {p : Prop} [Decidable p] {x : Mm α} (h : p) : Mm.chk (decide p) x = x := by simp [Mm.chk, h]
theorem beq_t {b : Bool} : (b == true) = b := by cases b <;> rfl
theorem beq_f {b : Bool} : (b == false) = !b := by cases b <;> rfl
theorem mn_int {k : IntKind} {a b : Int} : (if b < a then b else a) = min a b := by omega
theorem mx_int {k : IntKind} {a b : Int} : (if a < b then b else a) = max a b := by omega
theorem ite_and' {α : Sort _} {p q : Prop} [Decidable p] [Decidable q] {a b : α} : (if p ∧ q then a else b) = if p then if q then a else b else b := by
  by_cases h1 : p <;> by_cases h2 : q <;> simp [h1, h2]
theorem ite_or' {α : Sort _} {p q : Prop} [Decidable p] [Decidable q] {a b : α} : (if p ∨ q then a else b) = if p then a else if q then a else b := by
  by_cases h1 : p <;> by_cases h2 : q <;> simp [h1, h2]
theorem minB_eq {k k' : IntKind} {a b : Int} : minB (.i (.v (.int k a))) (.i (.v (.int k' b))) = .ret (.i (.v (.int k (min a b))), []) := by
  simp only [minB, intP, @mn_int k]
theorem maxB_eq {k k' : IntKind} {a b : Int} : maxB (.i (.v (.int k a))) (.i (.v (.int k' b))) = .ret (.i (.v (.int k (max a b))), []) := by
  simp only [maxB, intP, gt_iff_lt, @mx_int k]
end
/-- Rewriting turns the state alone: the code that is left, and what is wanted of it, stay as they are. -/
@[congr] theorem XW_congr {P : Program} {cf : Cfg} {me : FuncId} {c : Code} {s s' : St} {Q : Ex → St → Prop} (h : s = s') : XW P cf me c s Q = XW P cf me c s' Q := by rw [h]
/-- Loops over a state of one's own. -/
def LQ {σ : Type} (R : σ → St → Prop) (μ : σ → Nat) (n : Nat) (Q : Ex → St → Prop) : Ex → St → Prop
  | .normal, s => ∃ x, R x s ∧ μ x < n
  | .exit i, s => Q (.exit i) s
  | .ret, s => Q .ret s
theorem xw_loopR {P : Program} {cf : Cfg} {me : FuncId} {b : Code} {Q : Ex → St → Prop} {σ : Type} (R : σ → St → Prop) (μ : σ → Nat) (x : σ) {s : St} (h0 : R x s)
    (h : ∀ x s, R x s → XW P cf me b s (LQ R μ (μ x) Q)) : XW P cf me (.loop b) s Q := by
  refine xw_loop_count (fun n s => ∃ x, R x s ∧ μ x = n) ?_ (μ x) s ⟨x, h0, rfl⟩
  rintro n s ⟨x, hx, rfl⟩
  refine (h x s hx).mono fun e s' hq => ?_
  cases e with
  | normal =>
    obtain ⟨y, h1, h2⟩ := hq
    exact ⟨μ y, h2, y, h1, rfl⟩
  | exit i => exact hq
  | ret => exact hq
theorem take_int {α : Type} {l : List α} {i : Int} (d : α) (h0 : 0 ≤ i) (h1 : i < l.length) : l.take (i + 1).toNat = l.take i.toNat ++ [l.getD i.toNat d] := by
  have : (i + 1).toNat = i.toNat + 1 := by omega
  rw [this, List.take_add_one]
  have h : i.toNat < l.length := by omega
  simp [h]
theorem take_set_int {α : Type} {l : List α} {i : Int} {x : α} (h0 : 0 ≤ i) (h1 : i < l.length) : (l.set i.toNat x).take (i + 1).toNat = l.take i.toNat ++ [x] := by
  rw [take_int x h0 (by simpa using h1), List.take_set_of_le (Nat.le_refl _)]
  have h : i.toNat < l.length := by omega
  simp [h]
theorem drop_set_int {α : Type} {l : List α} {i j : Int} {x : α} (h : i < j) (h0 : 0 ≤ i) : (l.set i.toNat x).drop j.toNat = l.drop j.toNat := by
  rw [List.drop_set_of_lt (by omega)]
theorem getD_of_drop {α : Type} {l r : List α} {n : Nat} {d : α} (h : l.drop n = r.drop n) : l.getD n d = r.getD n d := by
  have := congrArg (fun x => x.getD 0 d) h
  simpa [List.getD, List.getElem?_drop] using this
theorem drop_succ_of {α : Type} {l r : List α} {j : Int} (h0 : 0 ≤ j) (h : l.drop j.toNat = r.drop j.toNat) : l.drop (j + 1).toNat = r.drop (j + 1).toNat := by
  have e : (j + 1).toNat = j.toNat + 1 := by omega
  rw [e, ← List.drop_drop, ← List.drop_drop, h]
theorem take_all {α : Type} {l : List α} {n : Nat} (h : l.length ≤ n) : l.take n = l := List.take_of_length_le h
theorem getD_mem {α : Type} {l : List α} {i : Nat} {d : α} (h : i < l.length) : l.getD i d ∈ l := by
  simp [h]
theorem encE_map_inj {a b : List (Int × Int)} : a.map encE = b.map encE ↔ a = b := by
  refine ⟨fun h => ?_, fun h => by rw [h]⟩
  induction a generalizing b with
  | nil => cases b <;> simp_all
  | cons x a ih =>
    cases b with
    | nil => simp at h
    | cons y b =>
      simp only [List.map_cons, List.cons.injEq, encE, IV.v.injEq, Value.int.injEq, true_and, and_true] at h
      rw [ih h.2, Prod.ext h.1.1 h.1.2]
theorem encI_map_inj {a b : List Int} : a.map encI = b.map encI ↔ a = b := by
  refine ⟨fun h => ?_, fun h => by rw [h]⟩
  induction a generalizing b with
  | nil => cases b <;> simp_all
  | cons x a ih =>
    cases b with
    | nil => simp at h
    | cons y b =>
      simp only [List.map_cons, List.cons.injEq, encI, IV.v.injEq, Value.int.injEq, true_and, and_true] at h
      rw [ih h.2, h.1]
theorem getE (es : List (Int × Int)) (i : Nat) (h : i < es.length) : (es.map encE)[i]? = some [.v (.int .i64 (es.getD i (0, 0)).1), .v (.int .i64 (es.getD i (0, 0)).2)] := by
  simp [encE, h]
theorem getI (xs : List Int) (i : Nat) (h : i < xs.length) : (xs.map encI)[i]? = some [.v (.int .i64 (xs.getD i 0))] := by
  simp [encI, h]
theorem setI (xs : List Int) (i : Nat) (x : Int) : (xs.map encI).set i [.v (.int .i64 x)] = (xs.set i x).map encI := by
  simp [encI, List.map_set]
theorem setE (es : List (Int × Int)) (i : Nat) (x y : Int) : (es.map encE).set i [.v (.int .i64 x), .v (.int .i64 y)] = (es.set i (x, y)).map encE := by
  simp [encE, List.map_set]
theorem appI (xs : List Int) (x : Int) : xs.map encI ++ [[.v (.int .i64 x)]] = (xs ++ [x]).map encI := by simp [encI]
theorem appE (es : List (Int × Int)) (x y : Int) : es.map encE ++ [[.v (.int .i64 x), .v (.int .i64 y)]] = (es ++ [(x, y)]).map encE := by simp [encE]
theorem mapAppI {xs ys : List Int} : xs.map encI ++ ys.map encI = (xs ++ ys).map encI := by simp
theorem mapAppE {xs ys : List (Int × Int)} : xs.map encE ++ ys.map encE = (xs ++ ys).map encE := by simp
theorem dropI {xs : List Int} {n : Nat} : (xs.map encI).drop n = (xs.drop n).map encI := by simp
theorem dropE {xs : List (Int × Int)} {n : Nat} : (xs.map encE).drop n = (xs.drop n).map encE := by simp
theorem takeI {xs : List Int} {n : Nat} : (xs.map encI).take n = (xs.take n).map encI := by simp
theorem takeE {xs : List (Int × Int)} {n : Nat} : (xs.map encE).take n = (xs.take n).map encE := by simp
def zE (n : Nat) : List (Int × Int) := List.replicate n (0, 0)
def zI (n : Nat) : List Int := List.replicate n 0
theorem repE (n : Nat) : List.replicate n [IV.v (.int .i64 0), IV.v (.int .i64 0)] = (zE n).map encE := by simp [zE, encE]
theorem repI (n : Nat) : List.replicate n [IV.v (.int .i64 0)] = (zI n).map encI := by simp [zI, encI]
theorem zE_len (n : Nat) : (zE n).length = n := by simp [zE]
theorem zI_len (n : Nat) : (zI n).length = n := by simp [zI]
theorem flatI_all {xs : List Int} : (xs.map encI).all (fun e => e.all flatIV) = true := by simp [encI, flatIV]
theorem flatE_all {xs : List (Int × Int)} : (xs.map encE).all (fun e => e.all flatIV) = true := by simp [encE, flatIV]
theorem ref_inj {s v o l s' v' o' l' : Nat} : PV.ref s v o l = PV.ref s' v' o' l' ↔ s = s' ∧ v = v' ∧ o = o' ∧ l = l' := by simp
theorem arr_inj {v k v' k' : Nat} {xs xs' : List (List IV)} : Arr.arr v k xs = Arr.arr v' k' xs' ↔ v = v' ∧ k = k' ∧ xs = xs' := by simp
theorem i_inj {a b : Int} : (PV.i (.v (.int .i64 a)) = PV.i (.v (.int .i64 b))) ↔ a = b := by simp
theorem b_inj {a b : Bool} : (PV.i (.v (.bool a)) = PV.i (.v (.bool b))) ↔ a = b := by simp
attribute [go_sem] flatI_all flatE_all repE repI zE_len zI_len List.length_set List.take_length List.length_replicate getE getI setI setE appI appE mapAppI mapAppE dropI dropE takeI takeE encE_map_inj encI_map_inj ref_inj arr_inj i_inj b_inj wr Prod.exists Prod.eta
attribute [go_sem] c_l1Edge c_l1Less c_l1Find c_l1Put c_sGraphValid c_compareEdges c_equalE c_GraphSame c_indexE c_containsE c_has c_GraphValid c_HasEdge c_hasNode
attribute [go_sem] nc0 nc1 nc2 nc3 ite_and' ite_or' Bool.not_eq_false' Bool.not_not decide_not gdo_ite chk_and chk_dec beq_t beq_f if_pos if_neg LQ ite_not Classical.not_not minB_eq maxB_eq
end Go.Proofs.YtdlfdoicheakoaaGreat.X

/- What functions compute: closures, deleting, neighbors. -/
set_option linter.unusedSimpArgs false
set_option linter.unusedVariables false
set_option maxHeartbeats 2000000
namespace Go.Proofs.YtdlfdoicheakoaaGreat.X
open Go Go.Proofs
/-- A function value that tells something of an edge. -/
structure Clo (c : IV) (dom : Int × Int → Prop) (p : Int × Int → Bool) : Prop where
  frz : ∀ n, X.frz n (.i c) = .ret c
  flat : c.flat = true
  call : ∀ me d x y, dom (x, y) → dynP cfg (KK Tryz.prog cfg) me (some d) (.i c) [PE x y] = .ret (B (p (x, y)), [])
/-- The place of the first edge that fulfils something, or -1. -/
def fidx (p : Int × Int → Bool) (es : List (Int × Int)) : Int := if es.findIdx p < es.length then (es.findIdx p : Int) else -1
theorem fidx_at {p : Int × Int → Bool} {es : List (Int × Int)} {i : Int} (h0 : 0 ≤ i) (h : i < es.length) (hp : p (es.getD i.toNat (0, 0)) = true) (hn : ∀ e ∈ es.take i.toNat, p e = false) : fidx p es = i := by
  have hi : i.toNat < es.length := by omega
  have : es.findIdx p = i.toNat := by
    rw [List.findIdx_eq hi]
    refine ⟨by simpa [hi] using hp, fun j hj => hn _ ?_⟩
    rw [List.mem_take_iff_getElem]
    exact ⟨j, by omega, rfl⟩
  unfold fidx
  rw [this, if_pos hi]; omega
theorem fidx_none {p : Int × Int → Bool} {es : List (Int × Int)} (hn : ∀ e ∈ es, p e = false) : fidx p es = -1 := by
  have : es.findIdx p = es.length := List.findIdx_eq_length.2 hn
  unfold fidx
  rw [this, if_neg (by omega)]
theorem c_indexFuncE {c : IV} {dom : Int × Int → Prop} {p : Int × Int → Bool} (hc : Clo c dom p) (es : List (Int × Int)) (hd : ∀ e ∈ es, dom e) (hl : es.length ≤ 1048576) : KP 80 [LE es, .i c] [] = some (I (fidx p es), [], []) := by
  obtain ⟨hc1, hc2, hc3⟩ := hc
  refine xw_call (fn := Tryz.f80) rfl Tryz.func80 rfl ⟨Nat.le_of_ble_eq_true rfl, rfl, rfl⟩ ?_
  have Fz:=fz1 Tryz.results80
  repeat'(first|exact trivial|refine go1 ?_|(refine go2 ?_ ?_<;>intro _<;>try(exfalso;omega))|(refine go4 ?_;split<;>(try(exfalso;omega);try refine go3 ?_)))
  refine xw_loopR (fun (i : Int) s => s.ρ 0 = LE es ∧ s.ρ 1 = .i c ∧ s.ρ 7 = I es.length ∧ s.ρ 8 = I i ∧ 0 ≤ i ∧ i ≤ es.length ∧ ∀ e ∈ es.take i.toNat, p e = false) (fun i => (es.length - i).toNat) 0 (by simp [upd]) ?_
  rintro i ⟨ρ, m⟩ ⟨h0, h1, h7, h8, hi0, hi, hp⟩
  simp only at h0 h1 h7 h8
  by_cases hj : i < es.length
  · have hm : dom ((es.getD i.toNat (0, 0)).1, (es.getD i.toNat (0, 0)).2) := hd _ (getD_mem (by omega))
    have Fz:=fz7 Tryz.results80 h0 h1 h7 h8 hc3 hc1
    repeat'(first|exact trivial|refine go1 ?_|(refine go2 ?_ ?_<;>intro _<;>try(exfalso;omega))|(refine go4 ?_;split<;>(try(exfalso;omega);try refine go3 ?_)))
    · exact (fidx_at hi0 ‹_› ‹_› hp).symm
    · refine ⟨by omega, by omega, ?_, by omega⟩
      rw [take_int (0, 0) hi0 ‹_›]
      grind
  · have Fz:=fz7 Tryz.results80 h0 h1 h7 h8 hc3 hc1
    repeat'(first|exact trivial|refine go1 ?_|(refine go2 ?_ ?_<;>intro _<;>try(exfalso;omega))|(refine go4 ?_;split<;>(try(exfalso;omega);try refine go3 ?_)))
    rw [fidx_none (by rwa [take_all (by omega)] at hp)]
theorem fidx_spec {p : Int × Int → Bool} {es : List (Int × Int)} (h : ¬ fidx p es = -1) : 0 ≤ fidx p es ∧ fidx p es < es.length ∧ p (es.getD (fidx p es).toNat (0, 0)) = true ∧ es.filter (fun e => !p e) = (es.take (fidx p es).toNat) ++ (es.drop ((fidx p es).toNat + 1)).filter (fun e => !p e) ∧ ∀ e ∈ es.take (fidx p es).toNat, p e = false := by
  unfold fidx at h ⊢
  split at h
  · rename_i hl
    rw [if_pos hl]
    have hp : p (es.getD (es.findIdx p) (0, 0)) = true := by
      have := List.findIdx_getElem (w := hl)
      simpa [hl] using this
    have hn : ∀ e ∈ es.take (es.findIdx p), p e = false := by
      intro e he
      rw [List.mem_take_iff_getElem] at he
      obtain ⟨j, hj, rfl⟩ := he
      exact Bool.not_eq_true _ ▸ List.not_of_lt_findIdx (by omega)
    refine ⟨by omega, by omega, by simpa using hp, ?_, by simpa using hn⟩
    simp only [Int.toNat_natCast]
    conv => lhs; rw [← List.take_append_drop (es.findIdx p) es, List.filter_append]
    congr 1
    · exact List.filter_eq_self.2 fun e he => by simp [hn e he]
    · rw [List.drop_eq_getElem_cons hl, List.filter_cons]
      have : p es[es.findIdx p] = true := by simpa [hl] using hp
      simp [this]
  · simp at h
theorem fidx_bound (p : Int × Int → Bool) (es : List (Int × Int)) : -1 ≤ fidx p es ∧ fidx p es < es.length := by
  unfold fidx; split <;> omega
theorem fidx_nil {p : Int × Int → Bool} : fidx p [] = -1 := rfl
theorem c_deleteFuncE0 {c : IV} {dom : Int × Int → Prop} {p : Int × Int → Bool} (hc : Clo c dom p) : KP 69 [.i .emp, .i c] [] = some (.i .emp, [], []) := by
  have hx : KP 80 [.i (.lst []), .i c] [] = _ := c_indexFuncE hc [] (by simp) (by simp)
  obtain ⟨hc1, hc2, hc3⟩ := hc
  refine xw_call (fn := Tryz.f69) rfl Tryz.func69 rfl ⟨Nat.le_of_ble_eq_true rfl, rfl, rfl⟩ ?_
  have Fz:=fz6 Tryz.results69 hc1 hc2 hc3 hx @fidx_nil
  repeat'(first|exact trivial|refine go1 ?_|(refine go2 ?_ ?_<;>intro _<;>try(exfalso;omega))|(refine go4 ?_;split<;>(try(exfalso;omega);try refine go3 ?_)))
theorem c_deleteFuncE {c : IV} {dom : Int × Int → Prop} {p : Int × Int → Bool} (hc : Clo c dom p) (es : List (Int × Int)) (hdom : ∀ e ∈ es, dom e) (hl : es.length ≤ 1048576) : KP 69 [.ref 1000 0 0 es.length, .i c] [.arr 0 2 (es.map encE)] =
    some (.ref 1000 0 0 (es.filter fun e => !p e).length, [.arr 0 2 ((es.filter (fun e => !p e) ++ zE (es.length - (es.filter (fun e => !p e)).length)).map encE)], []) := by
  have hx := c_indexFuncE hc es hdom hl
  have hb := fidx_bound p es
  obtain ⟨hc1, hc2, hc3⟩ := hc
  refine xw_call (fn := Tryz.f69) rfl Tryz.func69 rfl ⟨Nat.le_of_ble_eq_true rfl, rfl, rfl⟩ ?_
  have Fz:=fz5 Tryz.results69 hc1 hc2 hc3 hx
  repeat'(first|exact trivial|refine go1 ?_|(refine go2 ?_ ?_<;>intro _<;>try(exfalso;omega))|(refine go4 ?_;split<;>(try(exfalso;omega);try refine go3 ?_)))
  · have hn : ∀ e ∈ es, p e = false := by
      rename_i h
      intro e he
      unfold fidx at h
      split at h
      · omega
      · rename_i h2
        have := List.findIdx_eq_length.1 (Nat.le_antisymm List.findIdx_le_length (Nat.le_of_not_lt h2))
        exact this e he
    have : es.filter (fun e => !p e) = es := List.filter_eq_self.2 fun e he => by simp [hn e he]
    rw [this]
    simp [zE]
  · rename_i h
    obtain ⟨f0, f1, f2, f3, f4⟩ := fidx_spec h
    generalize hk : fidx p es = k at *
    refine xw_loopR (fun (x : Int × Int × List (Int × Int)) s => s.m 1000 = some (.arr 0 2 (x.2.2.map encE)) ∧ s.ρ 0 = .ref 1000 0 0 es.length ∧ s.ρ 1 = .i c ∧ s.ρ 5 = I x.1 ∧ s.ρ 6 = I x.2.1 ∧
      0 ≤ x.1 ∧ x.1 < x.2.1 ∧ x.2.1 ≤ es.length ∧ x.2.2.length = es.length ∧ x.2.2.take x.1.toNat = (es.take x.2.1.toNat).filter (fun e => !p e) ∧ x.2.2.drop x.2.1.toNat = es.drop x.2.1.toNat)
      (fun x => (es.length - x.2.1).toNat) (k, k + 1, es) (by
        refine ⟨rfl, rfl, rfl, rfl, rfl, f0, by simp only; omega, by simp only; omega, rfl, ?_, rfl⟩
        simp only
        rw [take_int (0, 0) f0 f1, List.filter_append]
        have : (es.take k.toNat).filter (fun e => !p e) = es.take k.toNat := List.filter_eq_self.2 fun e he => by simp [f4 e he]
        rw [this, List.filter_cons_of_neg (by rw [f2]; decide)]
        simp) ?_
    rintro ⟨i, j, xs⟩ ⟨ρ, m⟩ ⟨m1, h0, h1, h5, h6, g0, g1, g2, g3, g4, g5⟩
    simp only at m1 h0 h1 h5 h6 g0 g1 g2 g3 g4 g5
    have hd := getD_of_drop (d := (0, 0)) g5
    by_cases hj : j < es.length
    · have hm : dom ((xs.getD j.toNat (0, 0)).1, (xs.getD j.toNat (0, 0)).2) := by
        rw [hd]; exact hdom _ (getD_mem (by omega))
      have Fz:=fz8 Tryz.results69 m1 h0 h1 h5 h6 hc3 hc1
      repeat'(first|exact trivial|refine go1 ?_|(refine go2 ?_ ?_<;>intro _<;>try(exfalso;omega))|(refine go4 ?_;split<;>(try(exfalso;omega);try refine go3 ?_)))
      · refine ⟨by omega, by omega, by omega, by simpa using g3, ?_, ?_, by omega⟩
        · rw [take_set_int g0 (by omega), take_int (0, 0) (by omega) (by omega), List.filter_append, g4]
          clear hm hc3
          simp_all
        · rw [drop_set_int (by omega) g0, drop_succ_of (by omega) g5]
      · refine ⟨by omega, by omega, by omega, g3, ?_, drop_succ_of (by omega) g5, by omega⟩
        rw [g4, take_int (0, 0) (by omega) (by omega), List.filter_append]
        clear hm hc3
        simp_all
    · have Fz:=fz8 Tryz.results69 m1 h0 h1 h5 h6 hc3 hc1
      repeat'(first|exact trivial|refine go1 ?_|(refine go2 ?_ ?_<;>intro _<;>try(exfalso;omega))|(refine go4 ?_;split<;>(try(exfalso;omega);try refine go3 ?_)))
      rw [take_all (l := es) (by omega)] at g4
      have hi : i.toNat = (es.filter fun e => !p e).length := by rw [← g4]; simp; omega
      rw [hi] at g4 ⊢
      have hle := List.length_filter_le (fun e => !p e) es
      rw [g4, List.drop_of_length_le (by omega)]
      simp
/-- What deleting hands back. -/
def delE (p : Int × Int → Bool) (es : List (Int × Int)) : IV := if es = [] then .emp else .lst ((es.filter fun e => !p e).map encE)
def delA (p : Int × Int → Bool) (es : List (Int × Int)) : List Arr := if es = [] then [] else [.arr 0 2 ((es.filter (fun e => !p e) ++ zE (es.length - (es.filter (fun e => !p e)).length)).map encE)]
def delP (p : Int × Int → Bool) (es : List (Int × Int)) : PV := if es = [] then .i .emp else .ref 2000 0 0 (es.filter fun e => !p e).length
theorem KK_prim {P : Program} {cf : Cfg} {f : FuncId} {g : List PV → List Arr → Option (PV × List Arr × List Arr)} {args : List PV} {ps : List Arr} {r : PV × List Arr × List Arr} (h : cf.prim f = some g) (h2 : g args ps = some r) : KK P cf f args ps = some r :=
  KK_of (.all fun n => by show callWith P cf (exec P cf n) f args ps = some r; unfold callWith primC; rw [h]; simp only [h2])
@[go_sem] theorem c_cloneE0 : KP 70 [.i (.lst [])] [] = some (.i .emp, [], []) := KK_prim rfl rfl
theorem c_cloneE (es : List (Int × Int)) (h : es ≠ []) (hl : es.length ≤ 1048576) : KP 70 [LE es] [] = some (.ref 2000 0 0 es.length, [], [.arr 0 2 (es.map encE)]) := by
  have hp : primC cfg 70 [LE es] [] = none := by
    cases es with
    | nil => exact absurd rfl h
    | cons e r => rfl
  have hm : es.map encE ≠ [] := by simpa using h
  refine xw_call (fn := Tryz.f70) hp Tryz.func70 rfl ⟨Nat.le_of_ble_eq_true rfl, rfl, rfl⟩ ?_
  have Fz:=fz2 Tryz.results70 hm
  repeat'(first|exact trivial|refine go1 ?_|(refine go2 ?_ ?_<;>intro _<;>try(exfalso;omega))|(refine go4 ?_;split<;>(try(exfalso;omega);try refine go3 ?_)))
theorem c_without {c : IV} {dom : Int × Int → Prop} {p : Int × Int → Bool} (hc : Clo c dom p) (n : Int) (es : List (Int × Int)) (hdom : ∀ e ∈ es, dom e) (hl : es.length ≤ 1048576) : KP 44 [GL n es, .i c] [] = some (.agg [I n, delP p es], [], delA p es) := by
  by_cases he : es = []
  · subst he
    have hd := c_deleteFuncE0 hc
    obtain ⟨hc1, hc2, hc3⟩ := hc
    refine xw_call (fn := Tryz.f44) rfl Tryz.func44 rfl ⟨Nat.le_of_ble_eq_true rfl, rfl, rfl⟩ ?_
    have Fz:=fz6 Tryz.results44 hc1 hc2 hc3 hd @LE.eq_1
    repeat'(first|exact trivial|refine go1 ?_|(refine go2 ?_ ?_<;>intro _<;>try(exfalso;omega))|(refine go4 ?_;split<;>(try(exfalso;omega);try refine go3 ?_)))
    exact ⟨rfl, rfl⟩
  · have hd := c_deleteFuncE hc es hdom hl
    have hcl := c_cloneE es he hl
    obtain ⟨hc1, hc2, hc3⟩ := hc
    refine xw_call (fn := Tryz.f44) rfl Tryz.func44 rfl ⟨Nat.le_of_ble_eq_true rfl, rfl, rfl⟩ ?_
    have Fz:=fz6 Tryz.results44 hc1 hc2 hc3 hd hcl
    repeat'(first|exact trivial|refine go1 ?_|(refine go2 ?_ ?_<;>intro _<;>try(exfalso;omega))|(refine go4 ?_;split<;>(try(exfalso;omega);try refine go3 ?_)))
    simp [delP, delA, he]
theorem imm_del {p : Int × Int → Bool} {es : List (Int × Int)} {n : Nat} : imm (n + 1) (delA p es) (delP p es) = some (.i (delE p es)) := by
  unfold delA delP delE
  split
  · rfl
  · simp [imm, imm1]
theorem frz_del {p : Int × Int → Bool} {es : List (Int × Int)} {n : Nat} : frz n (.i (delE p es)) = .ret (.lst ((es.filter fun e => !p e).map encE)) := by
  unfold delE
  split
  · rename_i h; subst h; cases n <;> rfl
  · cases n <;> rfl
theorem flat_del {p : Int × Int → Bool} {es : List (Int × Int)} : (delE p es).flat = true := by unfold delE; split <;> rfl
theorem lenP_del {p : Int × Int → Bool} {es : List (Int × Int)} : lenP (.i (delE p es)) = some (es.filter fun e => !p e).length := by
  unfold delE
  split
  · rename_i h; subst h; rfl
  · simp [lenP]
theorem iaR_del {p : Int × Int → Bool} {es : List (Int × Int)} {el : TypeId} {n : Int} (h0 : 0 ≤ n) (h : n < (es.filter fun e => !p e).length) :
    iaR Tryz.prog (some (.slice el)) (some n) (.i (delE p es)) = iaR Tryz.prog (some (.slice el)) (some n) (.i (.lst ((es.filter fun e => !p e).map encE))) := by
  unfold delE
  split
  · rename_i he; subst he; simp at h; omega
  · rfl
theorem flatA_E {v : Nat} {es : List (Int × Int)} : flatA (.arr v 2 (es.map encE)) = true := by simp [flatA, encE, flatIV]
theorem flatA_I {v : Nat} {xs : List Int} : flatA (.arr v 1 (xs.map encI)) = true := by simp [flatA, encI, flatIV]
theorem flatP_del {p : Int × Int → Bool} {es : List (Int × Int)} {n : Nat} : flatP (n + 1) (delP p es) = true := by unfold delP; split <;> rfl
theorem flatA_del {p : Int × Int → Bool} {es : List (Int × Int)} : (delA p es).all flatA = true := by
  unfold delA
  split
  · rfl
  · simp only [List.all_cons, List.all_nil, flatA_E, Bool.and_self]
attribute [go_sem] imm_del frz_del flat_del lenP_del iaR_del flatA_E flatA_I flatP_del flatA_del
/-- The nodes that edges join with a node, in the edges' order. -/
def nbL (v : Int) (es : List (Int × Int)) : List Int := es.filterMap fun e => if v = e.1 then some e.2 else if v = e.2 then some e.1 else none
def sortI (xs : List Int) : List Int := xs.mergeSort fun a b => decide (a ≤ b)
/-- The nodes that edges join with a node. -/
def nbS (v : Int) (es : List (Int × Int)) : List Int := sortI (nbL v es)
theorem nbL_snoc (v : Int) (es : List (Int × Int)) (e : Int × Int) : nbL v (es ++ [e]) = nbL v es ++ if v = e.1 then [e.2] else if v = e.2 then [e.1] else [] := by
  unfold nbL
  rw [List.filterMap_append]
  congr 1
  by_cases h1 : v = e.1
  · rw [List.filterMap_cons, if_pos h1, if_pos h1]; rfl
  · by_cases h2 : v = e.2
    · rw [List.filterMap_cons, if_neg h1, if_neg h1, if_pos h2, if_pos h2]; rfl
    · rw [List.filterMap_cons, if_neg h1, if_neg h1, if_neg h2, if_neg h2]; rfl
theorem sortE_encI (xs : List Int) : sortE (xs.map encI) = (sortI xs).map encI := by
  unfold sortE sortI
  rw [List.map_mergeSort]
  intro a _ b _
  rfl
theorem sortI_length (xs : List Int) : (sortI xs).length = xs.length := List.length_mergeSort _
@[go_sem] theorem c_sortI (xs : List Int) (n : Nat) (h : n = xs.length) (hl : xs.length ≤ 4000000) : KP 77 [.ref 1000 0 0 n] [.arr 0 1 (xs.map encI)] = some (.tup [], [.arr 0 1 ((sortI xs).map encI)], []) := by
  refine KK_prim rfl ?_
  have : (xs.map encI).all isI64 = true := by simp [encI, isI64]
  simp only [sortP, List.length_map, h, hl, this, and_self, if_true, sortE_encI]
theorem c_neighbors (n v : Int) (es : List (Int × Int)) (hl : es.length ≤ 1048576) : KP 61 [GL n es, I v] [] = some (.ref 2000 0 0 (nbS v es).length, [], [.arr 0 1 ((nbS v es).map encI)]) := by
  refine xw_call (fn := Tryz.f61) rfl Tryz.func61 rfl ⟨Nat.le_of_ble_eq_true rfl, rfl, rfl⟩ ?_
  have Fz:=fz1 Tryz.results61
  repeat'(first|exact trivial|refine go1 ?_|(refine go2 ?_ ?_<;>intro _<;>try(exfalso;omega))|(refine go4 ?_;split<;>(try(exfalso;omega);try refine go3 ?_)))
  refine xw_loopR (fun (x : Int × Nat × List Int) s => s.m 8 = some (.arr x.2.1 1 (x.2.2.map encI)) ∧ s.ρ 5 = .ref 8 x.2.1 0 x.2.2.length ∧ s.ρ 12 = I x.1 ∧ s.ρ 1 = I v ∧ s.ρ 10 = LE es ∧ s.ρ 11 = I es.length ∧
    0 ≤ x.1 ∧ x.1 ≤ es.length ∧ (x.2.2.length : Int) ≤ x.1 ∧ x.2.2 = nbL v (es.take x.1.toNat)) (fun x => (es.length - x.1).toNat) (0, 0, []) (by simp [upd, nbL]) ?_
  rintro ⟨i, w, xs⟩ ⟨ρ, m⟩ ⟨m8, h5, h12, h1, h10, h11, g0, g1, g2, g3⟩
  simp only at m8 h5 h12 h1 h10 h11 g0 g1 g2 g3
  have Fz:=fz7 Tryz.results61 m8 h5 h12 h1 h10 h11
  repeat'(first|exact trivial|refine go1 ?_|(refine go2 ?_ ?_<;>intro _<;>try(exfalso;omega))|(refine go4 ?_;split<;>(try(exfalso;omega);try refine go3 ?_)))
  · refine ⟨by omega, by omega, by omega, ?_, by omega⟩
    rw [take_int (0, 0) g0 (by omega), nbL_snoc, ← g3, if_pos (by assumption)]
  · refine ⟨by omega, by omega, by omega, ?_, by omega⟩
    rw [take_int (0, 0) g0 (by omega), nbL_snoc, ← g3, if_neg (by assumption), if_pos (by assumption)]
  · refine ⟨by omega, by omega, by omega, ?_, by omega⟩
    rw [take_int (0, 0) g0 (by omega), nbL_snoc, ← g3, if_neg (by assumption), if_neg (by assumption), List.append_nil]
  · rw [take_all (by omega)] at g3
    rw [g3]
    exact ⟨(sortI_length _).symm, rfl⟩
end Go.Proofs.YtdlfdoicheakoaaGreat.X
