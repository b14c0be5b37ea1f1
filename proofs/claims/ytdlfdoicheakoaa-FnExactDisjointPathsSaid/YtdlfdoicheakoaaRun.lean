/- Rules that part by themselves; arrays of integers and of edges. -/
import Derived.Test.YtdlfdoicheakoaaC9
set_option linter.unusedSimpArgs false
set_option linter.unusedVariables false
namespace Go.Proofs.Ytdlfdoicheakoaa.X
open Go Go.Proofs
/-- A graph whose edges join its nodes; nothing is said of their order. -/
structure OKG (n : Int) (es : List (Int × Int)) : Prop where
  n0 : 0 ≤ n
  n1 : n ≤ 16
  len : es.length ≤ 40
  ok : ∀ e ∈ es, okE n e
theorem VG.okg {n : Int} {es : List (Int × Int)} (h : VG n es) : OKG n es := ⟨by have := h.1; omega, h.2.1, h.2.2.1, h.2.2.2.1⟩
theorem nc0 : ((0 : Nat) : Int) = 0 := rfl
theorem nc1 : ((1 : Nat) : Int) = 1 := rfl
theorem nc2 : ((2 : Nat) : Int) = 2 := rfl
theorem nc3 : ((3 : Nat) : Int) = 3 := rfl
section
variable {P : Program} {cf : Cfg} {C : CallS} {me : FuncId} {st : St}
theorem gdo_ite {b : Bool} {o : Oper} : gdo P cf C me (some b) o st = if b = true then fin1 o.dst ((opSem P cf C me o st.ρ).run st.m) else some ⟨o.dst, .i (.v undef), [], []⟩ := by
  cases b <;> rfl
theorem chk_and {α : Type} {a b : Bool} {x : Mm α} : Mm.chk (a && b) x = Mm.chk a (Mm.chk b x) := by cases a <;> rfl
theorem chk_dec {α : Type} {p : Prop} [Decidable p] {x : Mm α} (h : p) : Mm.chk (decide p) x = x := by simp [Mm.chk, h]
theorem beq_t {b : Bool} : (b == true) = b := by cases b <;> rfl
theorem beq_f {b : Bool} : (b == false) = !b := by cases b <;> rfl
theorem mn_int {k : IntKind} {a b : Int} : (if b < a then b else a) = min a b := by omega
theorem mx_int {k : IntKind} {a b : Int} : (if a < b then b else a) = max a b := by omega
theorem ite_and' {α : Sort _} {p q : Prop} [Decidable p] [Decidable q] {a b : α} : (if p ∧ q then a else b) = if p then if q then a else b else b := by
  by_cases h1 : p <;> by_cases h2 : q <;> simp [h1, h2]
theorem ite_or' {α : Sort _} {p q : Prop} [Decidable p] [Decidable q] {a b : α} : (if p ∨ q then a else b) = if p then a else if q then a else b := by
  by_cases h1 : p <;> by_cases h2 : q <;> simp [h1, h2]
theorem minB_eq {k k' : IntKind} {a b : Int} : minB (.i (.v (.int k a))) (.i (.v (.int k' b))) = .ret (.i (.v (.int k (min a b))), []) := by
  simp only [minB, intP, @mn_int k]
theorem maxB_eq {k k' : IntKind} {a b : Int} : maxB (.i (.v (.int k a))) (.i (.v (.int k' b))) = .ret (.i (.v (.int k (max a b))), []) := by
  simp only [maxB, intP, gt_iff_lt, @mx_int k]
end
/-- Rewriting turns the state alone: the code that is left, and what is wanted of it, stay as they are. -/
@[congr] theorem XW_congr {P : Program} {cf : Cfg} {me : FuncId} {c : Code} {s s' : St} {Q : Ex → St → Prop} (h : s = s') : XW P cf me c s Q = XW P cf me c s' Q := by rw [h]
/-- Loops over a state of one's own. -/
def LQ {σ : Type} (R : σ → St → Prop) (μ : σ → Nat) (n : Nat) (Q : Ex → St → Prop) : Ex → St → Prop
  | .normal, s => ∃ x, R x s ∧ μ x < n
  | .exit i, s => Q (.exit i) s
  | .ret, s => Q .ret s
theorem xw_loopR {P : Program} {cf : Cfg} {me : FuncId} {b : Code} {Q : Ex → St → Prop} {σ : Type} (R : σ → St → Prop) (μ : σ → Nat) (x : σ) {s : St} (h0 : R x s)
    (h : ∀ x s, R x s → XW P cf me b s (LQ R μ (μ x) Q)) : XW P cf me (.loop b) s Q := by
  refine xw_loop_count (fun n s => ∃ x, R x s ∧ μ x = n) ?_ (μ x) s ⟨x, h0, rfl⟩
  rintro n s ⟨x, hx, rfl⟩
  refine (h x s hx).mono fun e s' hq => ?_
  cases e with
  | normal =>
    obtain ⟨y, h1, h2⟩ := hq
    exact ⟨μ y, h2, y, h1, rfl⟩
  | exit i => exact hq
  | ret => exact hq
theorem take_int {α : Type} {l : List α} {i : Int} (d : α) (h0 : 0 ≤ i) (h1 : i < l.length) : l.take (i + 1).toNat = l.take i.toNat ++ [l.getD i.toNat d] := by
  have : (i + 1).toNat = i.toNat + 1 := by omega
  rw [this, List.take_add_one]
  have h : i.toNat < l.length := by omega
  simp [h]
theorem take_all {α : Type} {l : List α} {n : Nat} (h : l.length ≤ n) : l.take n = l := List.take_of_length_le h
theorem getD_mem {α : Type} {l : List α} {i : Nat} {d : α} (h : i < l.length) : l.getD i d ∈ l := by
  simp [h]
theorem encE_map_inj {a b : List (Int × Int)} : a.map encE = b.map encE ↔ a = b := by
  refine ⟨fun h => ?_, fun h => by rw [h]⟩
  induction a generalizing b with
  | nil => cases b <;> simp_all
  | cons x a ih =>
    cases b with
    | nil => simp at h
    | cons y b =>
      simp only [List.map_cons, List.cons.injEq, encE, IV.v.injEq, Value.int.injEq, true_and, and_true] at h
      rw [ih h.2, Prod.ext h.1.1 h.1.2]
theorem encI_map_inj {a b : List Int} : a.map encI = b.map encI ↔ a = b := by
  refine ⟨fun h => ?_, fun h => by rw [h]⟩
  induction a generalizing b with
  | nil => cases b <;> simp_all
  | cons x a ih =>
    cases b with
    | nil => simp at h
    | cons y b =>
      simp only [List.map_cons, List.cons.injEq, encI, IV.v.injEq, Value.int.injEq, true_and, and_true] at h
      rw [ih h.2, h.1]
theorem getE (es : List (Int × Int)) (i : Nat) (h : i < es.length) : (es.map encE)[i]? = some [.v (.int .i64 (es.getD i (0, 0)).1), .v (.int .i64 (es.getD i (0, 0)).2)] := by
  simp [encE, h]
theorem getI (xs : List Int) (i : Nat) (h : i < xs.length) : (xs.map encI)[i]? = some [.v (.int .i64 (xs.getD i 0))] := by
  simp [encI, h]
theorem setI (xs : List Int) (i : Nat) (x : Int) : (xs.map encI).set i [.v (.int .i64 x)] = (xs.set i x).map encI := by
  simp [encI, List.map_set]
theorem setE (es : List (Int × Int)) (i : Nat) (x y : Int) : (es.map encE).set i [.v (.int .i64 x), .v (.int .i64 y)] = (es.set i (x, y)).map encE := by
  simp [encE, List.map_set]
theorem appI (xs : List Int) (x : Int) : xs.map encI ++ [[.v (.int .i64 x)]] = (xs ++ [x]).map encI := by simp [encI]
theorem appE (es : List (Int × Int)) (x y : Int) : es.map encE ++ [[.v (.int .i64 x), .v (.int .i64 y)]] = (es ++ [(x, y)]).map encE := by simp [encE]
theorem mapAppI {xs ys : List Int} : xs.map encI ++ ys.map encI = (xs ++ ys).map encI := by simp
theorem mapAppE {xs ys : List (Int × Int)} : xs.map encE ++ ys.map encE = (xs ++ ys).map encE := by simp
theorem dropI {xs : List Int} {n : Nat} : (xs.map encI).drop n = (xs.drop n).map encI := by simp
theorem dropE {xs : List (Int × Int)} {n : Nat} : (xs.map encE).drop n = (xs.drop n).map encE := by simp
theorem takeI {xs : List Int} {n : Nat} : (xs.map encI).take n = (xs.take n).map encI := by simp
theorem takeE {xs : List (Int × Int)} {n : Nat} : (xs.map encE).take n = (xs.take n).map encE := by simp
def zE (n : Nat) : List (Int × Int) := List.replicate n (0, 0)
def zI (n : Nat) : List Int := List.replicate n 0
theorem repE (n : Nat) : List.replicate n [IV.v (.int .i64 0), IV.v (.int .i64 0)] = (zE n).map encE := by simp [zE, encE]
theorem repI (n : Nat) : List.replicate n [IV.v (.int .i64 0)] = (zI n).map encI := by simp [zI, encI]
theorem zE_len (n : Nat) : (zE n).length = n := by simp [zE]
theorem zI_len (n : Nat) : (zI n).length = n := by simp [zI]
theorem flatI_all {xs : List Int} : (xs.map encI).all (fun e => e.all flatIV) = true := by simp [encI, flatIV]
theorem flatE_all {xs : List (Int × Int)} : (xs.map encE).all (fun e => e.all flatIV) = true := by simp [encE, flatIV]
theorem ref_inj {s v o l s' v' o' l' : Nat} : PV.ref s v o l = PV.ref s' v' o' l' ↔ s = s' ∧ v = v' ∧ o = o' ∧ l = l' := by simp
theorem arr_inj {v k v' k' : Nat} {xs xs' : List (List IV)} : Arr.arr v k xs = Arr.arr v' k' xs' ↔ v = v' ∧ k = k' ∧ xs = xs' := by simp
theorem i_inj {a b : Int} : (PV.i (.v (.int .i64 a)) = PV.i (.v (.int .i64 b))) ↔ a = b := by simp
theorem b_inj {a b : Bool} : (PV.i (.v (.bool a)) = PV.i (.v (.bool b))) ↔ a = b := by simp
attribute [go_sem] flatI_all flatE_all repE repI zE_len zI_len List.length_set List.take_length List.length_replicate getE getI setI setE appI appE mapAppI mapAppE dropI dropE takeI takeE encE_map_inj encI_map_inj ref_inj arr_inj i_inj b_inj wr Prod.exists Prod.eta
attribute [go_sem] c_l1Edge c_l1Less c_l1Find c_sGraphValid c_compareEdges c_GraphValid c_hasNode
attribute [go_sem] nc0 nc1 nc2 nc3 ite_and' ite_or' Bool.not_eq_false' Bool.not_not decide_not gdo_ite chk_and chk_dec beq_t beq_f if_pos if_neg LQ ite_not Classical.not_not minB_eq maxB_eq
end Go.Proofs.Ytdlfdoicheakoaa.X
