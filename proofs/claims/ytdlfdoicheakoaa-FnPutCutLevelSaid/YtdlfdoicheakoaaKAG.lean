/- What functions answer, and the plain laws behind it. -/
import Derived.Test.YtdlfdoicheakoaaKAF
import Derived.Test.YtdlfdoicheakoaaKAE
/- What functions compute: an edge is put. -/
set_option linter.unusedSimpArgs false
set_option linter.unusedVariables false
set_option maxHeartbeats 8000000
set_option maxRecDepth 100000
namespace Go.Proofs.Ytdlfdoicheakoaa.X
open Go Go.Proofs
theorem binV_shr1 {P : Program} {t : TypeId} {a : Int} : binV P .shr t (.i (.v (.int .u64 a))) (.i (.v (.int .u64 1))) = some (.int .u64 (a.fdiv 2)) := by
  simp [binV, binOp, Op.shift, semPure]
  rfl
theorem fdiv2 {a : Int} (h : 0 ≤ a) : a.fdiv 2 = a / 2 := Int.fdiv_eq_ediv_of_nonneg a (by omega)
theorem cmpE_neg {a b c d : Int} : cmpE a b c d < 0 ↔ lessE (a, b) (c, d) = true := by
  unfold cmpE cmpI lessE
  rw [decide_eq_true_eq]
  simp only
  repeat' split
  all_goals omega
theorem cmpE_zero {a b c d : Int} : cmpE a b c d = 0 ↔ (a, b) = (c, d) := by
  unfold cmpE cmpI
  rw [Prod.mk.injEq]
  repeat' split
  all_goals omega
/-- The place of an edge that goes in. -/
def atE (e : Int × Int) (es : List (Int × Int)) (k : Int) : Prop := 0 ≤ k ∧ k ≤ es.length ∧ (∀ i : Nat, (i : Int) < k → lessE (es.getD i (0, 0)) e = true) ∧ ∀ i : Nat, k ≤ (i : Int) → i < es.length → lessE (es.getD i (0, 0)) e = false
theorem putE_at {e : Int × Int} : ∀ {es : List (Int × Int)} {k : Nat}, k ≤ es.length → (∀ i : Nat, i < k → lessE (es.getD i (0, 0)) e = true) → (∀ i : Nat, k ≤ i → i < es.length → lessE (es.getD i (0, 0)) e = false) → e ∉ es → putE e es = es.take k ++ e :: es.drop k
  | [], k, hk, _, _, _ => by simp at hk; subst hk; rfl
  | x :: r, 0, _, _, h2, hn => by
    have h := h2 0 (Nat.le_refl _) (by simp)
    simp only [List.getD_cons_zero] at h
    simp only [List.mem_cons, not_or] at hn
    have := lessE_total h (fun q => hn.1 q.symm)
    simp [putE, this]
  | x :: r, k + 1, hk, h1, h2, hn => by
    have h := h1 0 (by omega)
    simp only [List.getD_cons_zero] at h
    simp only [List.mem_cons, not_or] at hn
    have hx : lessE e x = false := by
      rw [← Bool.not_eq_true]
      intro q
      rw [lessE_iff] at h q
      omega
    have ih := putE_at (e := e) (es := r) (k := k) (by simpa using hk) (fun i hi => by simpa using h1 (i + 1) (by omega)) (fun i hi hl => by simpa using h2 (i + 1) (by omega) (by simpa using hl)) hn.2
    simp only [putE, hx, Bool.false_eq_true, if_false, ih, List.take_succ_cons, List.drop_succ_cons, List.cons_append]
theorem Ord.get {es : List (Int × Int)} (h : Ord es) {i j : Nat} (hij : i < j) (hj : j < es.length) : lessE (es.getD i (0, 0)) (es.getD j (0, 0)) = true := by
  have := (List.pairwise_iff_getElem.1 h) i j (by omega) hj hij
  simpa [show i < es.length by omega, hj] using this
theorem c_bsearch (a b : Int) (es : List (Int × Int)) (ho : Ord es) (hn : (a, b) ∉ es) (hl : es.length ≤ 1000) : ∃ k : Int, atE (a, b) es k ∧ KP 73 [LE es, PE a b, .i (.fn 74 [] [])] [] = some (.tup [I k, B false], [], []) := by
  suffices hgoal : ∃ res, (∃ k : Int, atE (a, b) es k ∧ res = (.tup [I k, B false], [], [])) ∧ KP 73 [LE es, PE a b, .i (.fn 74 [] [])] [] = some res by
    obtain ⟨res, ⟨k, h1, rfl⟩, h3⟩ := hgoal
    exact ⟨k, h1, h3⟩
  refine xw_callE (fn := Try.f73) rfl Try.func73 rfl ⟨Nat.le_of_ble_eq_true rfl, rfl, rfl⟩ ?_
  repeat'(first|(refine na ?_;constructor)|(refine ite_two ?_ ?_<;>intro _<;>first|(exfalso;omega)|skip)|refine ord_split (by kernel_rfl) ?_|((first|(refine nb ?_;constructor)|refine pn rfl ?_|refine pe rfl ?_|((first|refine at2 ?_|refine at_cond ?_);split<;>first|(exfalso;omega;done)|skip))<;>try simp(config:={maxSteps:=3000000})(disch:=first|assumption|omega|exact VG.okg (by assumption)|(simp only[List.length_set,List.length_append,List.length_cons,List.length_nil,List.length_replicate];omega))only[go_sem,simprocAttr,Try.results73]))
  refine xw_loopR (fun (u : Int × Int) s => s.ρ 0 = LE es ∧ s.ρ 2 = .i (.fn 74 [] []) ∧ s.ρ 4 = .ptr 4 0 0 0 ∧ s.m 4 = some (.box 0 [I a, I b]) ∧ s.ρ 8 = I es.length ∧ s.ρ 9 = I u.1 ∧ s.ρ 10 = I u.2 ∧
    0 ≤ u.1 ∧ u.1 ≤ u.2 ∧ u.2 ≤ es.length ∧ (∀ i : Nat, (i : Int) < u.1 → lessE (es.getD i (0, 0)) (a, b) = true) ∧ ∀ i : Nat, u.2 ≤ (i : Int) → i < es.length → lessE (es.getD i (0, 0)) (a, b) = false) (fun u => (u.2 - u.1).toNat) (0, es.length) ?_ ?_
  · refine ⟨rfl, rfl, rfl, rfl, rfl, rfl, rfl, Int.le_refl _, by simp, by simp, fun i h => ?_, fun i h h2 => ?_⟩
    · simp only at h; omega
    · simp only at h; omega
  rintro ⟨i, j⟩ ⟨ρ, m⟩ ⟨h0, h2, h4, m4, h8, h9, h10, g0, g1, g2, g3, g4⟩
  simp only at h0 h2 h4 m4 h8 h9 h10 g0 g1 g2 g3 g4
  by_cases hij : i < j
  · have w1 : IntKind.u64.wrap (i + j) = i + j := by rw [IntKind.wrap_u64]; omega
    have w2 : IntKind.i64.wrap ((i + j) / 2) = (i + j) / 2 := by rw [IntKind.wrap_i64]; omega
    have d0 := fdiv2 (show 0 ≤ i + j by omega)
    by_cases hc : lessE (es.getD ((i + j) / 2).toNat (0, 0)) (a, b) = true
    · have hc' : cmpE (es.getD ((i + j) / 2).toNat (0, 0)).1 (es.getD ((i + j) / 2).toNat (0, 0)).2 a b < 0 := cmpE_neg.2 hc
      repeat'(first|(refine na ?_;constructor)|(refine ite_two ?_ ?_<;>intro _<;>first|(exfalso;omega)|skip)|refine ord_split (by kernel_rfl) ?_|((first|(refine nb ?_;constructor)|refine pn rfl ?_|refine pe rfl ?_|((first|refine at2 ?_|refine at_cond ?_);split<;>first|(exfalso;omega;done)|skip))<;>try simp(config:={maxSteps:=3000000})(disch:=first|assumption|omega|exact VG.okg (by assumption)|(simp only[List.length_set,List.length_append,List.length_cons,List.length_nil,List.length_replicate];omega))only[go_sem,simprocAttr,Try.results73, h0, h2, h4, m4, h8, h9, h10, w1, w2, binV_shr1, d0, hc']))
      refine ⟨by omega, by omega, g2, fun q hq => ?_, g4, by omega⟩
      by_cases hqe : q = ((i + j) / 2).toNat
      · rw [hqe]; exact hc
      · exact lessE_trans (ho.get (show q < ((i + j) / 2).toNat by omega) (by omega)) hc
    · have hc' : ¬ cmpE (es.getD ((i + j) / 2).toNat (0, 0)).1 (es.getD ((i + j) / 2).toNat (0, 0)).2 a b < 0 := fun q => hc (cmpE_neg.1 q)
      repeat'(first|(refine na ?_;constructor)|(refine ite_two ?_ ?_<;>intro _<;>first|(exfalso;omega)|skip)|refine ord_split (by kernel_rfl) ?_|((first|(refine nb ?_;constructor)|refine pn rfl ?_|refine pe rfl ?_|((first|refine at2 ?_|refine at_cond ?_);split<;>first|(exfalso;omega;done)|skip))<;>try simp(config:={maxSteps:=3000000})(disch:=first|assumption|omega|exact VG.okg (by assumption)|(simp only[List.length_set,List.length_append,List.length_cons,List.length_nil,List.length_replicate];omega))only[go_sem,simprocAttr,Try.results73, h0, h2, h4, m4, h8, h9, h10, w1, w2, binV_shr1, d0, hc']))
      refine ⟨g0, by omega, by omega, g3, fun q hq hql => ?_, by omega⟩
      rw [← Bool.not_eq_true]
      intro hlt
      by_cases hqe : q = ((i + j) / 2).toNat
      · rw [hqe] at hlt; exact hc hlt
      · exact hc (lessE_trans (ho.get (show ((i + j) / 2).toNat < q by omega) hql) hlt)
  · have hfin : atE (a, b) es i := ⟨g0, by omega, g3, fun q hq hql => g4 q (by omega) hql⟩
    by_cases hi : i < es.length
    · have hc' : ¬ cmpE (es.getD i.toNat (0, 0)).1 (es.getD i.toNat (0, 0)).2 a b = 0 := fun q => hn (by rw [← cmpE_zero.1 q]; exact getD_mem (by omega))
      repeat'(first|(refine na ?_;constructor)|(refine ite_two ?_ ?_<;>intro _<;>first|(exfalso;omega)|skip)|refine ord_split (by kernel_rfl) ?_|((first|(refine nb ?_;constructor)|refine pn rfl ?_|refine pe rfl ?_|((first|refine at2 ?_|refine at_cond ?_);split<;>first|(exfalso;omega;done)|skip))<;>try simp(config:={maxSteps:=3000000})(disch:=first|assumption|omega|exact VG.okg (by assumption)|(simp only[List.length_set,List.length_append,List.length_cons,List.length_nil,List.length_replicate];omega))only[go_sem,simprocAttr,Try.results73, h0, h2, h4, m4, h8, h9, h10, hc']))
      exact ⟨i, hfin, rfl⟩
    · repeat'(first|(refine na ?_;constructor)|(refine ite_two ?_ ?_<;>intro _<;>first|(exfalso;omega)|skip)|refine ord_split (by kernel_rfl) ?_|((first|(refine nb ?_;constructor)|refine pn rfl ?_|refine pe rfl ?_|((first|refine at2 ?_|refine at_cond ?_);split<;>first|(exfalso;omega;done)|skip))<;>try simp(config:={maxSteps:=3000000})(disch:=first|assumption|omega|exact VG.okg (by assumption)|(simp only[List.length_set,List.length_append,List.length_cons,List.length_nil,List.length_replicate];omega))only[go_sem,simprocAttr,Try.results73, h0, h2, h4, m4, h8, h9, h10]))
      exact ⟨i, hfin, rfl⟩
/-- What comes back from a slice into which an edge is put. -/
def pP (es : List (Int × Int)) (e : Int × Int) : PV := if es = [] then .i (.lst [encE e]) else .ref 2000 0 0 (es.length + 1)
def pA (es : List (Int × Int)) (e : Int × Int) : List Arr := if es = [] then [] else [.arr 0 2 ((putE e es).map encE)]
theorem imm1_p {es : List (Int × Int)} {e : Int × Int} : imm1 (pA es e) (pP es e) = some (.i (.lst ((putE e es).map encE))) := by
  unfold pA pP
  split
  · rename_i h; subst h; rfl
  · simp only [imm1, List.getElem?_cons_zero, Nat.lt_irrefl, if_false, Nat.sub_self]
    simp [List.take_of_length_le, putE_length]
@[go_sem] theorem imm_p {es : List (Int × Int)} {e : Int × Int} {n : Nat} : imm n (pA es e) (pP es e) = some (.i (.lst ((putE e es).map encE))) := by
  have h := imm1_p (es := es) (e := e)
  unfold pP at h ⊢
  split at h
  · rename_i hz; rw [if_pos hz]; cases n <;> exact h
  · rename_i hz; rw [if_neg hz]; cases n <;> exact h
theorem c_insert (es : List (Int × Int)) (a b k : Int) (hl : es.length ≤ 1000) (h0 : 0 ≤ k) (hk : k < es.length) :
    KP 75 [.ref 1000 0 0 es.length, I k, .ref 1001 0 0 1] [.arr 0 2 (es.map encE), .arr 0 2 [encE (a, b)]] = some (.ref 1000 1 0 (es.length + 1), [.arr 1 2 ((es.take k.toNat ++ (a, b) :: es.drop k.toNat).map encE), .arr 0 2 [encE (a, b)]], []) := by
  refine KK_prim rfl ?_
  have : es.length ≤ 1000000 := by omega
  simp [insP, h0, hk, this, encE]
theorem c_insert_end (es : List (Int × Int)) (a b : Int) (hl : es.length ≤ 1000) :
    KP 75 [.ref 1000 0 0 es.length, I es.length, .ref 1001 0 0 1] [.arr 0 2 (es.map encE), .arr 0 2 [[.v (.int .i64 a), .v (.int .i64 b)]]] = some (.ref 1000 1 0 (es.length + 1), [.arr 1 2 ((es ++ [(a, b)]).map encE), .arr 0 2 [[.v (.int .i64 a), .v (.int .i64 b)]]], []) := by
  have hp : primC cfg 75 [.ref 1000 0 0 es.length, I es.length, .ref 1001 0 0 1] [.arr 0 2 (es.map encE), .arr 0 2 [[.v (.int .i64 a), .v (.int .i64 b)]]] = none := by
    first | rfl | simp [primC, cfg, insP]
  refine xw_call (fn := Try.f75) hp Try.func75 rfl ⟨Nat.le_of_ble_eq_true rfl, rfl, rfl⟩ ?_
  repeat'(first|(refine na ?_;constructor)|(refine ite_two ?_ ?_<;>intro _<;>first|(exfalso;omega)|skip)|refine ord_split (by kernel_rfl) ?_|((first|(refine nb ?_;constructor)|refine pn rfl ?_|refine pe rfl ?_|((first|refine at2 ?_|refine at_cond ?_);split<;>first|(exfalso;omega;done)|skip))<;>try simp(config:={maxSteps:=3000000})(disch:=first|assumption|omega|exact VG.okg (by assumption)|(simp only[List.length_set,List.length_append,List.length_cons,List.length_nil,List.length_replicate];omega))only[go_sem,simprocAttr,Try.results75]))
theorem c_insert_nil (a b : Int) :
    KP 75 [.i .emp, I 0, .ref 1000 0 0 1] [.arr 0 2 [[.v (.int .i64 a), .v (.int .i64 b)]]] = some (.ref 2000 0 0 1, [.arr 0 2 [[.v (.int .i64 a), .v (.int .i64 b)]]], [.arr 0 2 [[.v (.int .i64 a), .v (.int .i64 b)]]]) := by
  have hp : primC cfg 75 [.i .emp, I 0, .ref 1000 0 0 1] [.arr 0 2 [[.v (.int .i64 a), .v (.int .i64 b)]]] = none := by
    first | rfl | simp [primC, cfg, insP]
  refine xw_call (fn := Try.f75) hp Try.func75 rfl ⟨Nat.le_of_ble_eq_true rfl, rfl, rfl⟩ ?_
  repeat'(first|(refine na ?_;constructor)|(refine ite_two ?_ ?_<;>intro _<;>first|(exfalso;omega)|skip)|refine ord_split (by kernel_rfl) ?_|((first|(refine nb ?_;constructor)|refine pn rfl ?_|refine pe rfl ?_|((first|refine at2 ?_|refine at_cond ?_);split<;>first|(exfalso;omega;done)|skip))<;>try simp(config:={maxSteps:=3000000})(disch:=first|assumption|omega|exact VG.okg (by assumption)|(simp only[List.length_set,List.length_append,List.length_cons,List.length_nil,List.length_replicate];omega))only[go_sem,simprocAttr,Try.results75]))
/-- A graph into which an edge is put. -/
def PutOK (n : Int) (es : List (Int × Int)) (e : Int × Int) : Prop := VG n es ∧ e ∉ es ∧ VG n (putE e es)
noncomputable instance decPutOK (n : Int) (es : List (Int × Int)) (e : Int × Int) : Decidable (PutOK n es e) := Classical.propDecidable _
theorem c_PutEdge (n a b : Int) (es : List (Int × Int)) (hl : es.length ≤ 1000) : KP 26 [GL n es, PE a b] [] =
    some (if PutOK n es (a, b) then (.tup [.agg [I n, pP es (a, b)], B true], [], pA es (a, b)) else (.tup [.agg [I 0, .i .emp], B false], [], [])) := by
  by_cases hV : VG n es ∧ (a, b) ∉ es
  rotate_left
  · rw [if_neg (fun h => hV ⟨h.1, h.2.1⟩)]
    by_cases hG : VG n es
    · have hm : (a, b) ∈ es := Classical.byContradiction fun h => hV ⟨hG, h⟩
      have h1 := decide_eq_true hG
      have h2 := decide_eq_true hm
      refine xw_call (fn := Try.f26) rfl Try.func26 rfl ⟨Nat.le_of_ble_eq_true rfl, rfl, rfl⟩ ?_
      repeat'(first|(refine na ?_;constructor)|(refine ite_two ?_ ?_<;>intro _<;>first|(exfalso;omega)|skip)|refine ord_split (by kernel_rfl) ?_|((first|(refine nb ?_;constructor)|refine pn rfl ?_|refine pe rfl ?_|((first|refine at2 ?_|refine at_cond ?_);split<;>first|(exfalso;omega;done)|skip))<;>try simp(config:={maxSteps:=3000000})(disch:=first|assumption|omega|exact VG.okg (by assumption)|(simp only[List.length_set,List.length_append,List.length_cons,List.length_nil,List.length_replicate];omega))only[go_sem,simprocAttr,Try.results26, h1, h2]))
    · have h1 := decide_eq_false hG
      refine xw_call (fn := Try.f26) rfl Try.func26 rfl ⟨Nat.le_of_ble_eq_true rfl, rfl, rfl⟩ ?_
      repeat'(first|(refine na ?_;constructor)|(refine ite_two ?_ ?_<;>intro _<;>first|(exfalso;omega)|skip)|refine ord_split (by kernel_rfl) ?_|((first|(refine nb ?_;constructor)|refine pn rfl ?_|refine pe rfl ?_|((first|refine at2 ?_|refine at_cond ?_);split<;>first|(exfalso;omega;done)|skip))<;>try simp(config:={maxSteps:=3000000})(disch:=first|assumption|omega|exact VG.okg (by assumption)|(simp only[List.length_set,List.length_append,List.length_cons,List.length_nil,List.length_replicate];omega))only[go_sem,simprocAttr,Try.results26, h1]))
  obtain ⟨hG, hm⟩ := hV
  have h1 := decide_eq_true hG
  have h2 := decide_eq_false hm
  have hle := hG.okg.len
  obtain ⟨k, hk, hbs⟩ := c_bsearch a b es hG.2.2.2.2 hm (by omega)
  obtain ⟨k0, k1, k2, k3⟩ := hk
  have hput := putE_at (e := (a, b)) (es := es) (k := k.toNat) (by omega) (fun i hi => k2 i (by omega)) (fun i hi hl => k3 i (by omega) hl) hm
  have hpl := putE_length (a, b) es
  have hgv := c_GraphValid n (putE (a, b) es) (by omega)
  by_cases hz : es = []
  · have k0' : k = 0 := by rw [hz] at k1; simp at k1; omega
    subst k0'
    have hin := c_insert_nil a b
    have hcl : KP 76 [LE es] [] = some (.i .emp, [], []) := by rw [hz]; exact c_cloneE0
    have hpe : putE (a, b) es = [(a, b)] := by rw [hz]; rfl
    have hgv' : KP 46 [.agg [I n, .i (.lst [[.v (.int .i64 a), .v (.int .i64 b)]])]] [] = some (B (decide (VG n (putE (a, b) es))), [], []) := by rw [hpe]; exact c_GraphValid n [(a, b)] (by simp)
    by_cases hP : VG n (putE (a, b) es)
    · rw [if_pos ⟨hG, hm, hP⟩]
      have h3 := decide_eq_true hP
      unfold pP pA
      rw [if_pos hz, if_pos hz]
      refine xw_call (fn := Try.f26) rfl Try.func26 rfl ⟨Nat.le_of_ble_eq_true rfl, rfl, rfl⟩ ?_
      repeat'(first|(refine na ?_;constructor)|(refine ite_two ?_ ?_<;>intro _<;>first|(exfalso;omega)|skip)|refine ord_split (by kernel_rfl) ?_|((first|(refine nb ?_;constructor)|refine pn rfl ?_|refine pe rfl ?_|((first|refine at2 ?_|refine at_cond ?_);split<;>first|(exfalso;omega;done)|skip))<;>try simp(config:={maxSteps:=3000000})(disch:=first|assumption|omega|exact VG.okg (by assumption)|(simp only[List.length_set,List.length_append,List.length_cons,List.length_nil,List.length_replicate];omega))only[go_sem,simprocAttr,Try.results26, h1, h2, hcl, hbs, hin, hgv', h3]))
      rfl
    · rw [if_neg (fun q => hP q.2.2)]
      have h3 := decide_eq_false hP
      refine xw_call (fn := Try.f26) rfl Try.func26 rfl ⟨Nat.le_of_ble_eq_true rfl, rfl, rfl⟩ ?_
      repeat'(first|(refine na ?_;constructor)|(refine ite_two ?_ ?_<;>intro _<;>first|(exfalso;omega)|skip)|refine ord_split (by kernel_rfl) ?_|((first|(refine nb ?_;constructor)|refine pn rfl ?_|refine pe rfl ?_|((first|refine at2 ?_|refine at_cond ?_);split<;>first|(exfalso;omega;done)|skip))<;>try simp(config:={maxSteps:=3000000})(disch:=first|assumption|omega|exact VG.okg (by assumption)|(simp only[List.length_set,List.length_append,List.length_cons,List.length_nil,List.length_replicate];omega))only[go_sem,simprocAttr,Try.results26, h1, h2, hcl, hbs, hin, hgv', h3]))
  · have hin : KP 75 [.ref 1000 0 0 es.length, I k, .ref 1001 0 0 1] [.arr 0 2 (es.map encE), .arr 0 2 [[.v (.int .i64 a), .v (.int .i64 b)]]] = some (.ref 1000 1 0 (es.length + 1), [.arr 1 2 ((putE (a, b) es).map encE), .arr 0 2 [[.v (.int .i64 a), .v (.int .i64 b)]]], []) := by
      by_cases hke : k = es.length
      · subst hke
        have := c_insert_end es a b (by omega)
        rw [hput]
        simpa using this
      · rw [hput]
        exact c_insert es a b k (by omega) k0 (by omega)
    by_cases hP : VG n (putE (a, b) es)
    · rw [if_pos ⟨hG, hm, hP⟩]
      have h3 := decide_eq_true hP
      unfold pP pA
      rw [if_neg hz, if_neg hz]
      refine xw_call (fn := Try.f26) rfl Try.func26 rfl ⟨Nat.le_of_ble_eq_true rfl, rfl, rfl⟩ ?_
      have hcl := c_cloneE es hz (by omega)
      have htk : (putE (a, b) es).take (es.length + 1) = putE (a, b) es := by rw [← hpl, List.take_length]
      repeat'(first|(refine na ?_;constructor)|(refine ite_two ?_ ?_<;>intro _<;>first|(exfalso;omega)|skip)|refine ord_split (by kernel_rfl) ?_|((first|(refine nb ?_;constructor)|refine pn rfl ?_|refine pe rfl ?_|((first|refine at2 ?_|refine at_cond ?_);split<;>first|(exfalso;omega;done)|skip))<;>try simp(config:={maxSteps:=3000000})(disch:=first|assumption|omega|exact VG.okg (by assumption)|(simp only[List.length_set,List.length_append,List.length_cons,List.length_nil,List.length_replicate];omega))only[go_sem,simprocAttr,Try.results26, h1, h2, hcl, hbs, hin, hgv, h3, htk]))
    · rw [if_neg (fun q => hP q.2.2)]
      have h3 := decide_eq_false hP
      refine xw_call (fn := Try.f26) rfl Try.func26 rfl ⟨Nat.le_of_ble_eq_true rfl, rfl, rfl⟩ ?_
      have hcl := c_cloneE es hz (by omega)
      have htk : (putE (a, b) es).take (es.length + 1) = putE (a, b) es := by rw [← hpl, List.take_length]
      repeat'(first|(refine na ?_;constructor)|(refine ite_two ?_ ?_<;>intro _<;>first|(exfalso;omega)|skip)|refine ord_split (by kernel_rfl) ?_|((first|(refine nb ?_;constructor)|refine pn rfl ?_|refine pe rfl ?_|((first|refine at2 ?_|refine at_cond ?_);split<;>first|(exfalso;omega;done)|skip))<;>try simp(config:={maxSteps:=3000000})(disch:=first|assumption|omega|exact VG.okg (by assumption)|(simp only[List.length_set,List.length_append,List.length_cons,List.length_nil,List.length_replicate];omega))only[go_sem,simprocAttr,Try.results26, h1, h2, hcl, hbs, hin, hgv, h3, htk]))
theorem c_PutEdgeL (n a b : Int) (es : List (Int × Int)) (hP : PutOK n es (a, b)) (hl : es.length ≤ 1000) :
    ∃ r own, KP 26 [GL n es, PE a b] [] = some (r, [], own) ∧ imm 2 own r = some (.tup [.agg [I n, LE (putE (a, b) es)], B true]) := by
  have hp := c_PutEdge n a b es hl
  rw [if_pos hP] at hp
  have him := imm1_p (es := es) (e := (a, b))
  refine ⟨_, _, hp, ?_⟩
  · unfold pP at him ⊢
    split at him
    · rename_i hz; rw [if_pos hz]; simp only [imm, mapO, him]; rfl
    · rename_i hz; rw [if_neg hz]; simp only [imm, mapO, him]; rfl
theorem c_sPutEdge (n a b : Int) (es : List (Int × Int)) (hl : es.length ≤ 1000) : KP 33 [GL n es, PE a b] [] =
    some (if PutOK n es (a, b) then (.tup [.agg [I n, LE (putE (a, b) es)], B true], [], []) else (.tup [.agg [I 0, .i .emp], B false], [], [])) := by
  by_cases hV : VG n es ∧ (a, b) ∉ es
  rotate_left
  · rw [if_neg (fun h => hV ⟨h.1, h.2.1⟩)]
    by_cases hG : VG n es
    · have hm : (a, b) ∈ es := Classical.byContradiction fun h => hV ⟨hG, h⟩
      have h1 := decide_eq_true hG
      have h2 : ¬ findE es (a, b) < 0 := by unfold findE; rw [if_pos hm]; omega
      refine xw_call (fn := Try.f33) rfl Try.func33 rfl ⟨Nat.le_of_ble_eq_true rfl, rfl, rfl⟩ ?_
      repeat'(first|(refine na ?_;constructor)|(refine ite_two ?_ ?_<;>intro _<;>first|(exfalso;omega)|skip)|refine ord_split (by kernel_rfl) ?_|((first|(refine nb ?_;constructor)|refine pn rfl ?_|refine pe rfl ?_|((first|refine at2 ?_|refine at_cond ?_);split<;>first|(exfalso;omega;done)|skip))<;>try simp(config:={maxSteps:=3000000})(disch:=first|assumption|omega|exact VG.okg (by assumption)|(simp only[List.length_set,List.length_append,List.length_cons,List.length_nil,List.length_replicate];omega))only[go_sem,simprocAttr,Try.results33, h1, h2]))
    · have h1 := decide_eq_false hG
      refine xw_call (fn := Try.f33) rfl Try.func33 rfl ⟨Nat.le_of_ble_eq_true rfl, rfl, rfl⟩ ?_
      repeat'(first|(refine na ?_;constructor)|(refine ite_two ?_ ?_<;>intro _<;>first|(exfalso;omega)|skip)|refine ord_split (by kernel_rfl) ?_|((first|(refine nb ?_;constructor)|refine pn rfl ?_|refine pe rfl ?_|((first|refine at2 ?_|refine at_cond ?_);split<;>first|(exfalso;omega;done)|skip))<;>try simp(config:={maxSteps:=3000000})(disch:=first|assumption|omega|exact VG.okg (by assumption)|(simp only[List.length_set,List.length_append,List.length_cons,List.length_nil,List.length_replicate];omega))only[go_sem,simprocAttr,Try.results33, h1]))
  obtain ⟨hG, hm⟩ := hV
  have h1 := decide_eq_true hG
  have h2 : ¬ (0 ≤ findE es (a, b)) := by unfold findE; rw [if_neg hm]; omega
  have hle := hG.okg.len
  have hpl := putE_length (a, b) es
  have hgv := c_sGraphValid n (putE (a, b) es) (by omega)
  by_cases hP : VG n (putE (a, b) es)
  · rw [if_pos ⟨hG, hm, hP⟩]
    have h3 := decide_eq_true hP
    refine xw_call (fn := Try.f33) rfl Try.func33 rfl ⟨Nat.le_of_ble_eq_true rfl, rfl, rfl⟩ ?_
    repeat'(first|(refine na ?_;constructor)|(refine ite_two ?_ ?_<;>intro _<;>first|(exfalso;omega)|skip)|refine ord_split (by kernel_rfl) ?_|((first|(refine nb ?_;constructor)|refine pn rfl ?_|refine pe rfl ?_|((first|refine at2 ?_|refine at_cond ?_);split<;>first|(exfalso;omega;done)|skip))<;>try simp(config:={maxSteps:=3000000})(disch:=first|assumption|omega|exact VG.okg (by assumption)|(simp only[List.length_set,List.length_append,List.length_cons,List.length_nil,List.length_replicate];omega))only[go_sem,simprocAttr,Try.results33, h1, h2, hgv, h3]))
  · rw [if_neg (fun q => hP q.2.2)]
    have h3 := decide_eq_false hP
    refine xw_call (fn := Try.f33) rfl Try.func33 rfl ⟨Nat.le_of_ble_eq_true rfl, rfl, rfl⟩ ?_
    repeat'(first|(refine na ?_;constructor)|(refine ite_two ?_ ?_<;>intro _<;>first|(exfalso;omega)|skip)|refine ord_split (by kernel_rfl) ?_|((first|(refine nb ?_;constructor)|refine pn rfl ?_|refine pe rfl ?_|((first|refine at2 ?_|refine at_cond ?_);split<;>first|(exfalso;omega;done)|skip))<;>try simp(config:={maxSteps:=3000000})(disch:=first|assumption|omega|exact VG.okg (by assumption)|(simp only[List.length_set,List.length_append,List.length_cons,List.length_nil,List.length_replicate];omega))only[go_sem,simprocAttr,Try.results33, h1, h2, hgv, h3]))
end Go.Proofs.Ytdlfdoicheakoaa.X

/- Sets that are put together, spans of time: plain law. -/
set_option linter.unusedVariables false
namespace Go.Proofs.Ytdlfdoicheakoaa.X
open Go
abbrev inN (n x : Int) : Prop := 0 ≤ x ∧ x < n
inductive Rt (par : List Int) : Int → Int → Prop
  | top {x : Int} (h : gI par x < 0) : Rt par x x
  | up {x r : Int} (h : 0 ≤ gI par x) (k : Rt par (gI par x) r) : Rt par x r
theorem Rt.det {par : List Int} {x r s : Int} (h : Rt par x r) (k : Rt par x s) : r = s := by
  induction h with
  | top h1 =>
    cases k with
    | top _ => rfl
    | up h2 _ => omega
  | up h1 _ ih =>
    cases k with
    | top h2 => omega
    | up _ k2 => exact ih k2
theorem Rt.neg {par : List Int} {x r : Int} (h : Rt par x r) : gI par r < 0 := by
  induction h with
  | top h => exact h
  | up _ _ ih => exact ih
def rsz (par sz : List Int) (x : Int) : Int := if gI par x < 0 then gI sz x else 0
theorem nodup_iota (n : Int) : (iota n).Nodup := (sorted_iota n).imp fun h => by omega
/-- Sets that hold together what edges hold together. -/
structure US (n : Int) (es : List (Int × Int)) (par sz : List Int) : Prop where
  lp : par.length = n.toNat
  ls : sz.length = n.toNat
  rg : ∀ x, inN n x → gI par x = -1 ∨ (inN n (gI par x) ∧ gI sz x < gI sz (gI par x))
  pos : ∀ x, inN n x → 1 ≤ gI sz x
  bd : ∀ x, inN n x → gI sz x ≤ n
  sum : ((iota n).map (rsz par sz)).sum = n
  cn : ∀ x y r s, inN n x → inN n y → Rt par x r → Rt par y s → (r = s ↔ Conn es x y)
theorem US.root {n : Int} {es : List (Int × Int)} {par sz : List Int} (h : US n es par sz) : ∀ (k : Nat) (x : Int), inN n x → (n - gI sz x).toNat ≤ k → ∃ r, inN n r ∧ Rt par x r
  | k, x, hx, hk => by
    rcases h.rg x hx with h1 | ⟨h1, h2⟩
    · exact ⟨x, hx, .top (by omega)⟩
    · have h3 := h.bd _ h1
      cases k with
      | zero => omega
      | succ k =>
        obtain ⟨r, r1, r2⟩ := h.root k (gI par x) h1 (by omega)
        exact ⟨r, r1, .up h1.1 r2⟩
theorem gI_rep {n x v : Int} (hx : inN n x) : gI (List.replicate n.toNat v) x = v := by
  obtain ⟨h0, h1⟩ := hx
  have : x.toNat < n.toNat := by omega
  simp only [gI, List.getD_eq_getElem?_getD, List.getElem?_replicate, if_pos this, Option.getD_some]
theorem US.new {n : Int} (h1 : 1 ≤ n) : US n [] (List.replicate n.toNat (-1)) (List.replicate n.toNat 1) := by
  refine ⟨by simp, by simp, fun x hx => .inl (gI_rep hx), fun x hx => by rw [gI_rep hx]; omega, fun x hx => by rw [gI_rep hx]; omega, ?_, fun x y r s hx hy hr hs => ?_⟩
  · have e : (iota n).map (rsz (List.replicate n.toNat (-1)) (List.replicate n.toNat 1)) = (iota n).map fun _ => (1 : Int) := List.map_congr_left fun x hx => by
      have hx' : inN n x := mem_iota.1 hx
      rw [rsz, gI_rep hx', gI_rep hx', if_pos (by omega)]
    have : ∀ l : List Int, (l.map fun _ => (1 : Int)).sum = l.length := by
      intro l
      induction l with
      | nil => rfl
      | cons a l ih => rw [List.map_cons, List.sum_cons, ih, List.length_cons]; omega
    rw [e, this, iota_length]; omega
  · have e1 : r = x := hr.det (.top (by rw [gI_rep hx]; omega))
    have e2 : s = y := hs.det (.top (by rw [gI_rep hy]; omega))
    subst e1 e2
    exact ⟨fun e => e ▸ .refl _, fun h => h.nil⟩
/-- Two nodes of one set. -/
theorem US.same {n : Int} {es : List (Int × Int)} {par sz : List Int} (h : US n es par sz) {x y r : Int} (hx : inN n x) (hy : inN n y) (hr : Rt par x r) (hs : Rt par y r) : US n ((x, y) :: es) par sz := by
  refine ⟨h.lp, h.ls, h.rg, h.pos, h.bd, h.sum, fun u v a b hu hv ha hb => ?_⟩
  have hxy := (h.cn x y r r hx hy hr hs).1 rfl
  rw [h.cn u v a b hu hv ha hb, conn_cons]
  constructor
  · exact .inl
  · rintro (h | ⟨h1, h2⟩ | ⟨h1, h2⟩)
    · exact h
    · exact h1.trans (hxy.trans h2)
    · exact h1.trans (hxy.symm.trans h2)
/-- How many spans a time has. -/
def spanN : Nat → Int → Int → Int → Int → Int
  | 0, _, _, _, _ => 0
  | f + 1, lo, hi, fr, to => if fr ≤ lo ∧ hi ≤ to then 1 else if hi ≤ fr ∨ to ≤ lo then 0 else spanN f lo ((lo + hi) / 2) fr to + spanN f ((lo + hi) / 2) hi fr to
end Go.Proofs.Ytdlfdoicheakoaa.X
