/- What functions answer, and the plain laws behind it. -/
import Derived.Test.YtmocnnknnbalkaaGreatDoorKAK
import Derived.Test.YtmocnnknnbalkaaGreatDoorKAH
import Derived.Test.YtmocnnknnbalkaaGreatDoorKAF
/- What functions compute: an edge is put into a graph with levels. -/
set_option linter.unusedSimpArgs false
set_option linter.unusedVariables false
set_option maxHeartbeats 8000000
set_option maxRecDepth 100000
namespace Go.Proofs.YtmocnnknnbalkaaGreatDoor.X
open Go Go.Proofs
def putT (e : Int × Int) (b : Bool) : List Tl → List Tl
  | [] => [(e, 0, b)]
  | t :: r => if lessE e t.1 then (e, 0, b) :: t :: r else t :: putT e b r
theorem putT_es (e : Int × Int) (b : Bool) : ∀ ts : List Tl, esT (putT e b ts) = putE e (esT ts)
  | [] => rfl
  | t :: r => by
    have ih := putT_es e b r
    unfold esT at ih ⊢
    rw [putT, List.map_cons, putE]
    split
    · rfl
    · rw [List.map_cons, ih]
theorem putT_parts (e : Int × Int) (b : Bool) : ∀ ts : List Tl, ∃ p r, ts = p ++ r ∧ (∀ b, putT e b ts = p ++ (e, 0, b) :: r)
  | [] => ⟨[], [], rfl, fun _ => rfl⟩
  | t :: r => by
    by_cases h : lessE e t.1 = true
    · exact ⟨[], t :: r, rfl, fun b => by rw [putT, if_pos h]; rfl⟩
    · obtain ⟨p, q, h1, h2⟩ := putT_parts e b r
      exact ⟨t :: p, q, by rw [h1]; rfl, fun b => by rw [putT, if_neg h, h2]; rfl⟩
/-- The place of the edge. -/
theorem putT_at {e : Int × Int} {ts : List Tl} (hn : e ∉ esT ts) : ∃ k : Nat, k ≤ ts.length ∧ findE (putE e (esT ts)) e = k ∧ ∀ b, putT e b ts = ts.take k ++ (e, 0, b) :: ts.drop k := by
  obtain ⟨p, r, h1, h2⟩ := putT_parts e true ts
  have h3 := putT_es e true ts
  rw [h2 true] at h3
  have h4 : putE e (esT ts) = esT p ++ e :: esT r := by rw [← h3]; simp [esT]
  refine ⟨p.length, by rw [h1]; simp, ?_, fun b => by rw [h2 b, h1]; simp⟩
  refine findE_at (i := p.length) ?_ ?_
  · rw [h4, List.getElem?_append_right (by simp [esT])]
    simp [esT]
  · rw [h4, List.take_append_of_le_length (by simp [esT])]
    intro hm
    refine hn ?_
    rw [h1]
    have := List.mem_of_mem_take hm
    unfold esT at this ⊢
    rw [List.map_append]
    exact List.mem_append_left _ this
theorem putT_lv {e : Int × Int} {b : Bool} {ts : List Tl} {k : Nat} (h : putT e b ts = ts.take k ++ (e, 0, b) :: ts.drop k) : lvT (putT e b ts) = (lvT ts).take k ++ 0 :: (lvT ts).drop k := by
  rw [h]; simp [lvT]
theorem putT_tr {e : Int × Int} {b : Bool} {ts : List Tl} {k : Nat} (h : putT e b ts = ts.take k ++ (e, 0, b) :: ts.drop k) : trT (putT e b ts) = (trT ts).take k ++ b :: (trT ts).drop k := by
  rw [h]; simp [trT]
theorem putT_len (e : Int × Int) (b : Bool) (ts : List Tl) : (putT e b ts).length = ts.length + 1 := by
  have h := congrArg List.length (putT_es e b ts)
  rw [putE_length, esT_len', esT_len'] at h
  exact h
theorem LV.putT {n : Int} {ts : List Tl} {e : Int × Int} (h : LV n ts) (hP : PutOK n (esT ts) e) : LV n (putT e (!decide (Conn (esT ts) e.1 e.2)) ts) := by
  obtain ⟨p, r, h1, h2⟩ := putT_parts e true ts
  have hV : VG n (esT (p ++ (e, 0, true) :: r)) := by rw [← h2 true, putT_es]; exact hP.2.2
  rw [h2]
  have := LV.put (p := p) (r := r) (e := e) (by rw [← h1]; exact h) hV
  rw [← h1] at this
  exact this
/-- A row that is to come back. -/
def PlOK (n : Int) (ts : List Tl) (e : Int × Int) : Prop := LV n ts ∧ PutOK n (esT ts) e
noncomputable instance decPlOK (n : Int) (ts : List Tl) (e : Int × Int) : Decidable (PlOK n ts e) := Classical.propDecidable _
noncomputable abbrev plL (ts : List Tl) (e : Int × Int) : List Tl := putT e (!decide (Conn (esT ts) e.1 e.2)) ts
theorem c_PutLevel (n a b : Int) (ts : List Tl) (hP : PlOK n ts (a, b)) :
    ∃ r own, KP 75 [LvP n ts, PE a b] [] = some (r, [], own) ∧ imm 2 own r = some (.tup [LvP n (plL ts (a, b)), B true]) := by
  have hL := hP.1
  have hV := hL.vg
  have hlv := c_LevelsValid n ts hV
  have hel := hV.2.2.1
  rw [decide_eq_true hL] at hlv
  obtain ⟨rp, op, hpe, him⟩ := c_PutEdgeL n a b (esT ts) hP.2 (by omega)
  have hVp := hP.2.2.2
  have hpl := putE_length (a, b) (esT ts)
  have hix := c_indexE (putE (a, b) (esT ts)) a b (by omega)
  obtain ⟨k, hk1, hk2, hk3⟩ := putT_at hP.2.2.1
  rw [hk2] at hix
  have hmem : (a, b) ∈ putE (a, b) (esT ts) := mem_putE.2 (.inl rfl)
  obtain ⟨k0, k1, k2⟩ : 0 ≤ a ∧ a < b ∧ b < n := hVp.2.2.2.1 _ hmem
  have hcn := c_connected n a b (esT ts) hV.okg ⟨k0, by omega⟩ ⟨by omega, k2⟩
  have h1 : lvT (plL ts (a, b)) = _ := putT_lv (hk3 (!decide (Conn (esT ts) a b)))
  have h2 : trT (plL ts (a, b)) = _ := putT_tr (hk3 (!decide (Conn (esT ts) a b)))
  have h3 : esT (plL ts (a, b)) = _ := putT_es (a, b) (!decide (Conn (esT ts) a b)) ts
  have hlen := putT_len (a, b) (!decide (Conn (esT ts) a b)) ts
  have l2 := lvT_len ts
  have l3 := trT_len ts
  have l1 := esT_len' ts
  suffices hgoal : ∃ res, (imm 2 res.2.2 res.1 = some (.tup [LvP n (plL ts (a, b)), B true]) ∧ res.2.1 = []) ∧ KP 75 [LvP n ts, PE a b] [] = some res by
    obtain ⟨⟨r, q, own⟩, ⟨e1, e2⟩, e3⟩ := hgoal
    simp only at e1 e2
    subst e2
    exact ⟨r, own, e3, e1⟩
  by_cases hz : ts = []
  · subst hz
    obtain rfl : k = 0 := by simpa using hk1
    have hci : KP 109 [LI (lvT [])] [] = some (.i .emp, [], []) := c_cloneI0
    have hct : KP 111 [LT (trT [])] [] = some (.i .emp, [], []) := c_cloneT0
    have hii := c_insI_nil 0
    have hit := c_insT_nil (!decide (Conn (esT []) a b))
    refine xw_callE (fn := Tryz.f75) rfl Tryz.func75 rfl ⟨Nat.le_of_ble_eq_true rfl, rfl, rfl⟩ ?_
    repeat'(first|(refine na ?_;constructor)|(refine ite_two ?_ ?_<;>intro _<;>first|(exfalso;omega)|skip)|refine ord_split (by kernel_rfl) ?_|((first|(refine nb ?_;constructor)|refine pn rfl ?_|refine pe rfl ?_|((first|refine at2 ?_|refine at_cond ?_);split<;>first|(exfalso;omega;done)|skip))<;>try simp(config:={maxSteps:=3000000})(disch:=first|assumption|omega|exact VG.okg (by assumption)|(simp only[List.length_set,List.length_append,List.length_cons,List.length_nil,List.length_replicate];omega))only[go_sem,simprocAttr,Tryz.results75, hlv, hpe, him, hix, hcn, hci, hct, hii, hit]))
    simp only [LvP]
    rw [h1, h2, h3]
    rfl
  · have hlz : lvT ts ≠ [] := fun h => hz (List.length_eq_zero_iff.1 (by rw [← l2, h]; rfl))
    have htz : trT ts ≠ [] := fun h => hz (List.length_eq_zero_iff.1 (by rw [← l3, h]; rfl))
    have hci := c_cloneI (lvT ts) hlz (by omega)
    have hct := c_cloneT (trT ts) htz (by omega)
    have hii : KP 108 [.ref 1000 0 0 (lvT ts).length, I k, .ref 1001 0 0 1] [.arr 0 1 ((lvT ts).map encI), .arr 0 1 [[.v (.int .i64 0)]]] = some (.ref 1000 1 0 ((lvT ts).length + 1), [.arr 1 1 ((lvT (plL ts (a, b))).map encI), .arr 0 1 [[.v (.int .i64 0)]]], []) := by
      by_cases hke : k = (lvT ts).length
      · rw [hke]
        have := c_insI_end (lvT ts) 0 (by omega)
        rw [h1, hke]
        simpa using this
      · rw [h1]
        have := c_insI (lvT ts) 0 k (by omega) (by omega) (by omega)
        simpa using this
    have hit : ∀ q : Bool, q = (!decide (Conn (esT ts) a b)) → KP 110 [.ref 1000 0 0 (trT ts).length, I k, .ref 1001 0 0 1] [.arr 0 1 ((trT ts).map encT), .arr 0 1 [[.v (.bool q)]]] = some (.ref 1000 1 0 ((trT ts).length + 1), [.arr 1 1 ((trT (plL ts (a, b))).map encT), .arr 0 1 [[.v (.bool q)]]], []) := by
      intro q hq
      by_cases hke : k = (trT ts).length
      · rw [hke]
        have := c_insT_end (trT ts) q (by omega)
        rw [h2, hke, ← hq]
        simpa using this
      · rw [h2, ← hq]
        have := c_insT (trT ts) q k (by omega) (by omega) (by omega)
        simpa using this
    have hit' := hit _ rfl
    refine xw_callE (fn := Tryz.f75) rfl Tryz.func75 rfl ⟨Nat.le_of_ble_eq_true rfl, rfl, rfl⟩ ?_
    repeat'(first|(refine na ?_;constructor)|(refine ite_two ?_ ?_<;>intro _<;>first|(exfalso;omega)|skip)|refine ord_split (by kernel_rfl) ?_|((first|(refine nb ?_;constructor)|refine pn rfl ?_|refine pe rfl ?_|((first|refine at2 ?_|refine at_cond ?_);split<;>first|(exfalso;omega;done)|skip))<;>try simp(config:={maxSteps:=3000000})(disch:=first|assumption|omega|exact VG.okg (by assumption)|(simp only[List.length_set,List.length_append,List.length_cons,List.length_nil,List.length_replicate];omega))only[go_sem,simprocAttr,Tryz.results75, hlv, hpe, him, hix, hcn, hci, hct, hii, hit']))
    have hlp : (plL ts (a, b)).length = ts.length + 1 := hlen
    have t1 : List.take ((lvT ts).length + 1) (lvT (plL ts (a, b))) = lvT (plL ts (a, b)) := take_all (by rw [lvT_len, hlp, l2]; omega)
    have t2 : List.take ((trT ts).length + 1) (trT (plL ts (a, b))) = trT (plL ts (a, b)) := take_all (by rw [trT_len, hlp, l3]; omega)
    simp only [LvP]
    rw [h3, t1, t2]
end Go.Proofs.YtmocnnknnbalkaaGreatDoor.X

/- Graphs are loaded: the edges are put one after another, in order. The plain law. -/
set_option linter.unusedSimpArgs false
set_option linter.unusedVariables false
set_option maxHeartbeats 8000000
set_option maxRecDepth 100000
namespace Go.Proofs.YtmocnnknnbalkaaGreatDoor.X
open Go Go.Proofs
/-- What comes of the edges. -/
noncomputable def ldT (es : List (Int × Int)) : List Tl := es.foldl (fun ts e => plL ts e) []
theorem ldT_snoc (xs : List (Int × Int)) (e : Int × Int) : ldT (xs ++ [e]) = plL (ldT xs) e := by simp [ldT, List.foldl_append]
theorem putE_end {e : Int × Int} : ∀ {es : List (Int × Int)}, (∀ x ∈ es, lessE e x = false) → putE e es = es ++ [e]
  | [], _ => rfl
  | x :: r, h => by
    have h1 := h x (by simp)
    rw [putE, if_neg (by simp [h1]), putE_end fun y hy => h y (by simp [hy])]; rfl
theorem putT_end {e : Int × Int} {b : Bool} : ∀ {ts : List Tl}, (∀ x ∈ esT ts, lessE e x = false) → putT e b ts = ts ++ [(e, 0, b)]
  | [], _ => rfl
  | t :: r, h => by
    have h1 := h t.1 (by simp [esT])
    rw [putT, if_neg (by simp [h1]), putT_end fun y hy => h y (by simp only [esT, List.map_cons, List.mem_cons]; exact .inr hy)]; rfl
theorem ord_end {xs : List (Int × Int)} {e : Int × Int} (h : Ord (xs ++ [e])) : ∀ x ∈ xs, lessE e x = false := fun x hx => by
  simp only [Ord, List.pairwise_append, List.mem_singleton] at h
  have h1 := h.2.2 x hx e rfl
  cases h2 : lessE e x with
  | false => rfl
  | true =>
    rw [lessE_iff] at h1 h2
    omega
structure LD (n : Int) (es : List (Int × Int)) : Prop where
  es' : esT (ldT es) = es
  lv : LV n (ldT es)
  z : ∀ t ∈ ldT es, t.2.1 = 0
  fo : abT (ldT es) 0 true = forestL es
theorem LD.put {n : Int} {xs : List (Int × Int)} {e : Int × Int} (h : LD n xs) (hV : VG n (xs ++ [e])) : PlOK n (ldT xs) e := by
  have hd := ord_end hV.2.2.2.2
  refine ⟨h.lv, ?_, ?_, ?_⟩
  · rw [h.es']; exact hV.sub (List.sublist_append_left _ _)
  · rw [h.es']
    have := hV.2.2.2.2.nodup
    rw [List.nodup_append] at this
    exact fun hm => this.2.2 e hm e (by simp) rfl
  · rw [h.es', putE_end hd]; exact hV
theorem ld_spec {n : Int} : ∀ (k : Nat) (es : List (Int × Int)), es.length = k → VG n es → LD n es
  | 0, es, hk, hV => by
    obtain rfl := List.length_eq_zero_iff.1 hk
    exact ⟨rfl, LV.nil hV.1 hV.2.1, fun t ht => by simp [ldT] at ht, rfl⟩
  | k + 1, es, hk, hV => by
    obtain ⟨xs, e, rfl⟩ : ∃ xs e, es = xs ++ [e] := ⟨es.dropLast, es.getLast (by intro h; rw [h] at hk; simp at hk), (List.dropLast_concat_getLast _).symm⟩
    have hVx : VG n xs := hV.sub (List.sublist_append_left _ _)
    have h := ld_spec k xs (by simpa using hk) hVx
    have hP := h.put hV
    have hd := ord_end hV.2.2.2.2
    have ho := hVx.2.2.2.1
    have hpt : plL (ldT xs) e = ldT xs ++ [(e, 0, !decide (Conn (esT (ldT xs)) e.1 e.2))] := putT_end (by rw [h.es']; exact hd)
    refine ⟨?_, ?_, ?_, ?_⟩
    · rw [ldT_snoc]
      have := putT_es e (!decide (Conn (esT (ldT xs)) e.1 e.2)) (ldT xs)
      rw [this, h.es', putE_end hd]
    · rw [ldT_snoc]; exact h.lv.putT hP.2
    · rw [ldT_snoc, hpt]
      intro t ht
      rcases List.mem_append.1 ht with ht | ht
      · exact h.z t ht
      · rw [List.mem_singleton.1 ht]
    · rw [ldT_snoc, hpt, abT_app, h.fo, h.es']
      have hf : forestL (xs ++ [e]) = fstep (forestL xs) e := by simp [forestL, List.foldl_append]
      rw [hf, fstep]
      by_cases hc : Conn xs e.1 e.2
      · rw [if_pos ((forest_conn ho).2 hc)]
        simp [abT, abP, hc]
      · rw [if_neg (fun q => hc ((forest_conn ho).1 q))]
        simp [abT, abP, hc]
theorem ld {n : Int} {es : List (Int × Int)} (hV : VG n es) : LD n es := ld_spec _ es rfl hV
end Go.Proofs.YtmocnnknnbalkaaGreatDoor.X

/- What functions compute: a graph is loaded by a line. -/
set_option linter.unusedSimpArgs false
set_option linter.unusedVariables false
set_option maxHeartbeats 8000000
set_option maxRecDepth 100000
namespace Go.Proofs.YtmocnnknnbalkaaGreatDoor.X
open Go Go.Proofs
/-- A list as it stands in a graph with levels: nothing, or a list. -/
structure LV3 (x y z : IV) (ts : List Tl) : Prop where
  fx : ∀ n, frz n (.i x) = .ret (.lst ((esT ts).map encE))
  fy : ∀ n, frz n (.i y) = .ret (.lst ((lvT ts).map encI))
  fz : ∀ n, frz n (.i z) = .ret (.lst ((trT ts).map encT))
  lx : x.flat = true
  ly : y.flat = true
  lz : z.flat = true
theorem LV3.emp : LV3 .emp .emp .emp [] := ⟨fun n => by cases n <;> rfl, fun n => by cases n <;> rfl, fun n => by cases n <;> rfl, rfl, rfl, rfl⟩
theorem LV3.lst (ts : List Tl) : LV3 (.lst ((esT ts).map encE)) (.lst ((lvT ts).map encI)) (.lst ((trT ts).map encT)) ts := ⟨fun n => by cases n <;> rfl, fun n => by cases n <;> rfl, fun n => by cases n <;> rfl, rfl, rfl, rfl⟩
/-- .. of the edges in order. -/
def exI (k : Nat) (ts : List Tl) : IV := if k = 0 then .emp else .lst ((esT ts).map encE)
def eyI (k : Nat) (ts : List Tl) : IV := if k = 0 then .emp else .lst ((lvT ts).map encI)
def ezI (k : Nat) (ts : List Tl) : IV := if k = 0 then .emp else .lst ((trT ts).map encT)
theorem exyz {k : Nat} {ts : List Tl} (h : k = 0 → ts = []) : LV3 (exI k ts) (eyI k ts) (ezI k ts) ts := by
  unfold exI eyI ezI
  by_cases hk : k = 0
  · rw [if_pos hk, if_pos hk, if_pos hk, h hk]; exact LV3.emp
  · rw [if_neg hk, if_neg hk, if_neg hk]; exact LV3.lst ts
theorem c_ParseGraphL (n : Int) (es : List (Int × Int)) (hV : VG n es) : ∃ r own, KP 74 [S (fmtG n es)] [] = some (r, [], own) ∧ imm 2 own r = some (.tup [.agg [I n, .i (qe es)], B true]) := by
  refine ⟨_, _, c_ParseGraph n es hV, ?_⟩
  unfold qP qA qe
  split
  · rfl
  · have : List.take es.length (es.map encE) = es.map encE := List.take_of_length_le (by simp)
    simp [imm, imm1, mapO, this]
theorem c_NewLevels1 (n : Int) (h : 1 ≤ n ∧ n ≤ 16) : KP 21 [I n] [] = some (.tup [.agg [I n, .i .emp, .i .emp, .i .emp], B true], [], []) := by
  obtain ⟨h1, h2⟩ := h
  refine xw_call (fn := Tryz.f21) rfl Tryz.func21 rfl ⟨Nat.le_of_ble_eq_true rfl, rfl, rfl⟩ ?_
  repeat'(first|(refine na ?_;constructor)|(refine ite_two ?_ ?_<;>intro _<;>first|(exfalso;omega)|skip)|refine ord_split (by kernel_rfl) ?_|((first|(refine nb ?_;constructor)|refine pn rfl ?_|refine pe rfl ?_|((first|refine at2 ?_|refine at_cond ?_);split<;>first|(exfalso;omega;done)|skip))<;>try simp(config:={maxSteps:=3000000})(disch:=first|assumption|omega|exact VG.okg (by assumption)|(simp only[List.length_set,List.length_append,List.length_cons,List.length_nil,List.length_replicate];omega))only[go_sem,simprocAttr,Tryz.results21]))
theorem c_graphLine (n : Int) (es : List (Int × Int)) (hV : VG n es) (n0 : Int) (x y z : IV) (ts0 : List Tl) (h3 : LV3 x y z ts0) :
    KP 43 [.ptr 1000 0 0 0, S (fmtG n es)] [.box 0 [I n0, .i x, .i y, .i z]] = some (S [111, 107, 10], [.box 0 [I n, .i (exI es.length (ldT es)), .i (eyI es.length (ldT es)), .i (ezI es.length (ldT es))]], []) := by
  obtain ⟨hs, m0, m1⟩ := hV.small
  have hel := hV.2.2.1
  obtain ⟨rp, op, hpg, hpi⟩ := c_ParseGraphL n es hV
  have hnl := c_NewLevels1 n ⟨hV.1, hV.2.1⟩
  have hlx := h3.lx
  have hly := h3.ly
  have hlz := h3.lz
  have hqe := lenP_qe (es := es)
  have hqf := flat_qe (es := es)
  have hia := (EQ.qe es).ia
  refine xw_call (fn := Tryz.f43) rfl Tryz.func43 rfl ⟨Nat.le_of_ble_eq_true rfl, rfl, rfl⟩ ?_
  repeat'(first|(refine na ?_;constructor)|(refine ite_two ?_ ?_<;>intro _<;>first|(exfalso;omega)|skip)|refine ord_split (by kernel_rfl) ?_|((first|(refine nb ?_;constructor)|refine pn rfl ?_|refine pe rfl ?_|((first|refine at2 ?_|refine at_cond ?_);split<;>first|(exfalso;omega;done)|skip))<;>try simp(config:={maxSteps:=3000000})(disch:=first|assumption|omega|exact VG.okg (by assumption)|(simp only[List.length_set,List.length_append,List.length_cons,List.length_nil,List.length_replicate];omega))only[go_sem,simprocAttr,Tryz.results43, hpg, hpi, hnl, hlx, hly, hlz, hqe, hqf]))
  refine xw_loopR (fun (i : Int) s => s.ρ 0 = .ptr 1000 0 0 0 ∧ s.m 1000 = some (.box 0 [I n0, .i x, .i y, .i z]) ∧ s.ρ 5 = .ptr 5 0 0 0 ∧ s.m 5 = some (.box 0 [I n, .i (qe es)]) ∧ s.ρ 7 = .ptr 7 0 0 0 ∧
    s.m 7 = some (.box 0 [I n, .i (exI i.toNat (ldT (es.take i.toNat))), .i (eyI i.toNat (ldT (es.take i.toNat))), .i (ezI i.toNat (ldT (es.take i.toNat)))]) ∧ s.ρ 25 = .i (qe es) ∧ s.ρ 26 = I es.length ∧ s.ρ 27 = I i ∧ 0 ≤ i ∧ i ≤ es.length) (fun i => (es.length - i).toNat) 0 ?_ ?_
  · refine ⟨?_, ?_, ?_, ?_, ?_, ?_, ?_, ?_, ?_, by omega, by omega⟩
    all_goals first | rfl | (simp [upd]; done)
  rintro i ⟨ρ, m⟩ ⟨e0, m1000, e5, m5, e7, m7, e25, e26, e27, g0, g1⟩
  simp only at e0 m1000 e5 m5 e7 m7 e25 e26 e27 g0 g1
  have hL := exyz (k := i.toNat) (ts := ldT (es.take i.toNat)) (fun h => by rw [h]; rfl)
  have hfx := hL.fx
  have hfy := hL.fy
  have hfz := hL.fz
  have hx' := hL.lx
  have hy' := hL.ly
  have hz' := hL.lz
  by_cases hi : i < es.length
  rotate_left
  · have hlen : i.toNat = es.length := by omega
    rw [take_all (by omega), hlen] at m7 hx' hy' hz'
    repeat'(first|(refine na ?_;constructor)|(refine ite_two ?_ ?_<;>intro _<;>first|(exfalso;omega)|skip)|refine ord_split (by kernel_rfl) ?_|((first|(refine nb ?_;constructor)|refine pn rfl ?_|refine pe rfl ?_|((first|refine at2 ?_|refine at_cond ?_);split<;>first|(exfalso;omega;done)|skip))<;>try simp(config:={maxSteps:=3000000})(disch:=first|assumption|omega|exact VG.okg (by assumption)|(simp only[List.length_set,List.length_append,List.length_cons,List.length_nil,List.length_replicate];omega))only[go_sem,simprocAttr,Tryz.results43, e0, m1000, e5, m5, e7, m7, e25, e26, e27, hlx, hly, hlz, hx', hy', hz']))
  have hgi := getE es i.toNat (by omega)
  have htk := take_int (l := es) (0, 0) g0 hi
  have hld : LD n (es.take i.toNat) := ld (hV.sub (List.take_sublist _ _))
  have hld1 : VG n (es.take (i + 1).toNat) := hV.sub (List.take_sublist _ _)
  have hia' := fun el => hia el i g0 hi
  generalize es.getD i.toNat (0, 0) = e at hgi htk
  obtain ⟨a, b⟩ := e
  simp only at hgi
  rw [htk] at hld1
  have hP := hld.put hld1
  obtain ⟨r, own, hpl, him⟩ := c_PutLevel n a b (ldT (es.take i.toNat)) hP
  have hnx : ldT (es.take (i + 1).toNat) = plL (ldT (es.take i.toNat)) (a, b) := by rw [htk, ldT_snoc]
  have h1 : ¬ (i + 1).toNat = 0 := by omega
  have hX : exI (i + 1).toNat (ldT (es.take (i + 1).toNat)) = .lst ((esT (plL (ldT (es.take i.toNat)) (a, b))).map encE) := by rw [exI, if_neg h1, hnx]
  have hY : eyI (i + 1).toNat (ldT (es.take (i + 1).toNat)) = .lst ((lvT (plL (ldT (es.take i.toNat)) (a, b))).map encI) := by rw [eyI, if_neg h1, hnx]
  have hZ : ezI (i + 1).toNat (ldT (es.take (i + 1).toNat)) = .lst ((trT (plL (ldT (es.take i.toNat)) (a, b))).map encT) := by rw [ezI, if_neg h1, hnx]
  generalize plL (ldT (es.take i.toNat)) (a, b) = us at *
  generalize ldT (es.take i.toNat) = ts at *
  generalize exI i.toNat ts = X0 at *
  generalize eyI i.toNat ts = Y0 at *
  generalize ezI i.toNat ts = Z0 at *
  repeat'(first|(refine na ?_;constructor)|(refine ite_two ?_ ?_<;>intro _<;>first|(exfalso;omega)|skip)|refine ord_split (by kernel_rfl) ?_|((first|(refine nb ?_;constructor)|refine pn rfl ?_|refine pe rfl ?_|((first|refine at2 ?_|refine at_cond ?_);split<;>first|(exfalso;omega;done)|skip))<;>try simp(config:={maxSteps:=3000000})(disch:=first|assumption|omega|exact VG.okg (by assumption)|(simp only[List.length_set,List.length_append,List.length_cons,List.length_nil,List.length_replicate];omega))only[go_sem,simprocAttr,Tryz.results43, e0, m1000, e5, m5, e7, m7, e25, e26, e27, hx', hy', hz', hfx, hfy, hfz, hgi, hia', hpl, him]))
  exact ⟨i + 1, by rw [hX, hY, hZ], rfl, by omega, by omega, by omega⟩
end Go.Proofs.YtmocnnknnbalkaaGreatDoor.X

/- What functions compute: lines of a word alone. -/
set_option linter.unusedSimpArgs false
set_option linter.unusedVariables false
set_option maxHeartbeats 8000000
set_option maxRecDepth 100000
namespace Go.Proofs.YtmocnnknnbalkaaGreatDoor.X
open Go Go.Proofs
theorem small_in {n : Int} {xs : List Int} (hn : n ≤ 16) (h : ∀ x ∈ xs, 0 ≤ x ∧ x < n) : smallL xs := fun x hx => by have := h x hx; omega
end Go.Proofs.YtmocnnknnbalkaaGreatDoor.X

/- What functions compute: a script's lines, a script. -/
set_option linter.unusedSimpArgs false
set_option linter.unusedVariables false
set_option maxHeartbeats 8000000
set_option maxRecDepth 100000
namespace Go.Proofs.YtmocnnknnbalkaaGreatDoor.X
open Go Go.Proofs
/-- What holds of a line: the state and the text that come of it. -/
def LineOK (l : List UInt8) (n : Int) (x y z : IV) (R : List UInt8) (n' : Int) (x' y' z' : IV) : Prop :=
  KP 23 [.ptr 1000 0 0 0, S l] [.box 0 [I n, .i x, .i y, .i z]] = some (S R, [.box 0 [I n', .i x', .i y', .i z']], [])
theorem line_word (w : List UInt8) (hw : (32 : UInt8) ∉ w) (hl : w.length ≤ 1000) {n n' : Int} {x y z x' y' z' : IV} {R : List UInt8}
    (h : KP 42 [.ptr 1000 0 0 0, S w] [.box 0 [I n, .i x, .i y, .i z]] = some (S R, [.box 0 [I n', .i x', .i y', .i z']], [])) : LineOK w n x y z R n' x' y' z' := by
  have hc := c_Cut_no w 32 hw (by omega)
  unfold LineOK
  refine xw_call (fn := Tryz.f23) rfl Tryz.func23 rfl ⟨Nat.le_of_ble_eq_true rfl, rfl, rfl⟩ ?_
  repeat'(first|(refine na ?_;constructor)|(refine ite_two ?_ ?_<;>intro _<;>first|(exfalso;omega)|skip)|refine ord_split (by kernel_rfl) ?_|((first|(refine nb ?_;constructor)|refine pn rfl ?_|refine pe rfl ?_|((first|refine at2 ?_|refine at_cond ?_);split<;>first|(exfalso;omega;done)|skip))<;>try simp(config:={maxSteps:=3000000})(disch:=first|assumption|omega|exact VG.okg (by assumption)|(simp only[List.length_set,List.length_append,List.length_cons,List.length_nil,List.length_replicate];omega))only[go_sem,simprocAttr,Tryz.results23, hc, h]))
theorem line_graph {T : List UInt8} (n : Int) (es : List (Int × Int)) (hV : VG n es) (hT : T = [103, 114, 97, 112, 104] ++ 32 :: fmtG n es) (n0 : Int) (x y z : IV) (ts0 : List Tl) (h3 : LV3 x y z ts0) :
    LineOK T n0 x y z [111, 107, 10] n (exI es.length (ldT es)) (eyI es.length (ldT es)) (ezI es.length (ldT es)) := by
  have hel := hV.2.2.1
  have hlen := fmtG_len n es
  have hc := c_Cut_at [103, 114, 97, 112, 104] (fmtG n es) 32 (by decide) (by simp; omega)
  rw [← hT] at hc
  have hg := c_graphLine n es hV n0 x y z ts0 h3
  clear hT
  generalize fmtG n es = F at *
  unfold LineOK
  refine xw_call (fn := Tryz.f23) rfl Tryz.func23 rfl ⟨Nat.le_of_ble_eq_true rfl, rfl, rfl⟩ ?_
  repeat'(first|(refine na ?_;constructor)|(refine ite_two ?_ ?_<;>intro _<;>first|(exfalso;omega)|skip)|refine ord_split (by kernel_rfl) ?_|((first|(refine nb ?_;constructor)|refine pn rfl ?_|refine pe rfl ?_|((first|refine at2 ?_|refine at_cond ?_);split<;>first|(exfalso;omega;done)|skip))<;>try simp(config:={maxSteps:=3000000})(disch:=first|assumption|omega|exact VG.okg (by assumption)|(simp only[List.length_set,List.length_append,List.length_cons,List.length_nil,List.length_replicate];omega))only[go_sem,simprocAttr,Tryz.results23, hc, hg]))
/-- The words of lines with two numbers. -/
def word2 (w : List UInt8) : Prop := w = [112, 117, 116] ∨ w = [99, 117, 116] ∨ w = [112, 97, 116, 104] ∨ w = [98, 101, 116, 119, 101, 101, 110] ∨ w = [102, 108, 111, 119]
/-- What a script's lines tell, one after another. -/
inductive Runs : List (List UInt8) → Int → IV → IV → IV → List UInt8 → List UInt8 → Prop
  | nil {n : Int} {x y z : IV} {o : List UInt8} : Runs [] n x y z o o
  | skip {r : List (List UInt8)} {n : Int} {x y z : IV} {o R : List UInt8} (h : Runs r n x y z o R) : Runs ([] :: r) n x y z o R
  | line {l : List UInt8} {r : List (List UInt8)} {n n' : Int} {x y z x' y' z' : IV} {o t R : List UInt8} (hl : l ≠ []) (ho : o.length ≤ 40000) (ht : t.length ≤ 100000) (h1 : LineOK l n x y z t n' x' y' z') (h : Runs r n' x' y' z' (o ++ t) R) : Runs (l :: r) n x y z o R
theorem c_RunScript (T : List UInt8) (ls : List (List UInt8)) (R : List UInt8) (hT : pcs 10 T = ls) (hl : T.length ≤ 20000) (hn : ls.length ≤ 200) (h : Runs ls 1 .emp .emp .emp [] R) : KP 11 [S T] [] = some (S R, [], []) := by
  have hsp := c_Split T 10 (by omega)
  rw [hT] at hsp
  have hnl := c_NewLevels1 1 (by decide)
  have hlen : (ls.map encS).length = ls.length := by simp
  refine xw_call (fn := Tryz.f11) rfl Tryz.func11 rfl ⟨Nat.le_of_ble_eq_true rfl, rfl, rfl⟩ ?_
  repeat'(first|(refine na ?_;constructor)|(refine ite_two ?_ ?_<;>intro _<;>first|(exfalso;omega)|skip)|refine ord_split (by kernel_rfl) ?_|((first|(refine nb ?_;constructor)|refine pn rfl ?_|refine pe rfl ?_|((first|refine at2 ?_|refine at_cond ?_);split<;>first|(exfalso;omega;done)|skip))<;>try simp(config:={maxSteps:=3000000})(disch:=first|assumption|omega|exact VG.okg (by assumption)|(simp only[List.length_set,List.length_append,List.length_cons,List.length_nil,List.length_replicate];omega))only[go_sem,simprocAttr,Tryz.results11, hsp, hnl, hlen]))
  refine xw_loopR (fun (u : Int × Int × IV × IV × IV × List UInt8) s => s.ρ 16 = .i (.lst (ls.map encS)) ∧ s.ρ 17 = I ls.length ∧ s.ρ 18 = I u.1 ∧ s.ρ 3 = .ptr 3 0 0 0 ∧ s.m 3 = some (.box 0 [I u.2.1, .i u.2.2.1, .i u.2.2.2.1, .i u.2.2.2.2.1]) ∧ s.ρ 5 = S u.2.2.2.2.2 ∧ 0 ≤ u.1 ∧ u.1 ≤ ls.length ∧
    Runs (ls.drop u.1.toNat) u.2.1 u.2.2.1 u.2.2.2.1 u.2.2.2.2.1 u.2.2.2.2.2 R) (fun u => (ls.length - u.1).toNat) (0, 1, .emp, .emp, .emp, []) ?_ ?_
  · refine ⟨?_, ?_, rfl, rfl, rfl, rfl, by simp, by simp, h⟩
    all_goals (simp [upd]; done)
  clear h
  rintro ⟨i, n, x, y, z, o⟩ ⟨ρ, m⟩ ⟨e16, e17, e18, e3, m3, e5, g0, g1, hr⟩
  simp only at e16 e17 e18 e3 m3 e5 g0 g1 hr
  by_cases hi : i < ls.length
  rotate_left
  · rw [List.drop_of_length_le (by omega)] at hr
    cases hr
    repeat'(first|(refine na ?_;constructor)|(refine ite_two ?_ ?_<;>intro _<;>first|(exfalso;omega)|skip)|refine ord_split (by kernel_rfl) ?_|((first|(refine nb ?_;constructor)|refine pn rfl ?_|refine pe rfl ?_|((first|refine at2 ?_|refine at_cond ?_);split<;>first|(exfalso;omega;done)|skip))<;>try simp(config:={maxSteps:=3000000})(disch:=first|assumption|omega|exact VG.okg (by assumption)|(simp only[List.length_set,List.length_append,List.length_cons,List.length_nil,List.length_replicate];omega))only[go_sem,simprocAttr,Tryz.results11, e16, e17, e18, e3, m3, e5]))
  have hgi := getS ls i.toNat (by omega)
  have hdr : ls.drop i.toNat = ls.getD i.toNat [] :: ls.drop (i + 1).toNat := by
    have hil : i.toNat < ls.length := by omega
    rw [show (i + 1).toNat = i.toNat + 1 by omega, List.drop_eq_getElem_cons hil]
    simp [hil]
  rw [hdr] at hr
  generalize ls.getD i.toNat [] = l at hgi hr
  cases hr with
  | skip h =>
    repeat'(first|(refine na ?_;constructor)|(refine ite_two ?_ ?_<;>intro _<;>first|(exfalso;omega)|skip)|refine ord_split (by kernel_rfl) ?_|((first|(refine nb ?_;constructor)|refine pn rfl ?_|refine pe rfl ?_|((first|refine at2 ?_|refine at_cond ?_);split<;>first|(exfalso;omega;done)|skip))<;>try simp(config:={maxSteps:=3000000})(disch:=first|assumption|omega|exact VG.okg (by assumption)|(simp only[List.length_set,List.length_append,List.length_cons,List.length_nil,List.length_replicate];omega))only[go_sem,simprocAttr,Tryz.results11, e16, e17, e18, e3, m3, e5, hgi]))
    exact ⟨n, x, y, z, rfl, o, rfl, by omega, by omega, h, by omega⟩
  | line hl ho ht h1 h =>
    rename_i n' x' y' z' t
    have hne := eqS_ne hl
    unfold LineOK at h1
    repeat'(first|(refine na ?_;constructor)|(refine ite_two ?_ ?_<;>intro _<;>first|(exfalso;omega)|skip)|refine ord_split (by kernel_rfl) ?_|((first|(refine nb ?_;constructor)|refine pn rfl ?_|refine pe rfl ?_|((first|refine at2 ?_|refine at_cond ?_);split<;>first|(exfalso;omega;done)|skip))<;>try simp(config:={maxSteps:=3000000})(disch:=first|assumption|omega|exact VG.okg (by assumption)|(simp only[List.length_set,List.length_append,List.length_cons,List.length_nil,List.length_replicate];omega))only[go_sem,simprocAttr,Tryz.results11, e16, e17, e18, e3, m3, e5, hgi, hne, h1]))
    exact ⟨n', x', y', z', rfl, o ++ t, rfl, by omega, by omega, h, by omega⟩
end Go.Proofs.YtmocnnknnbalkaaGreatDoor.X

/- Rows of rows of numbers. -/
set_option linter.unusedSimpArgs false
set_option linter.unusedVariables false
set_option maxHeartbeats 4000000
namespace Go.Proofs.YtmocnnknnbalkaaGreatDoor.X
open Go Go.Proofs
/-- Rows of rows of numbers. -/
def encL (p : List Int) : List IV := [.lst (p.map encI)]
abbrev LL (ps : List (List Int)) : PV := .i (.lst (ps.map encL))
theorem getLs (ps : List (List Int)) (i : Nat) (h : i < ps.length) : (ps.map encL)[i]? = some [.lst ((ps.getD i []).map encI)] := by simp [encL, h]
theorem appLs (ps : List (List Int)) (p : List Int) : ps.map encL ++ [[.lst (p.map encI)]] = (ps ++ [p]).map encL := by simp [encL]
attribute [go_sem] getLs appLs
end Go.Proofs.YtmocnnknnbalkaaGreatDoor.X
