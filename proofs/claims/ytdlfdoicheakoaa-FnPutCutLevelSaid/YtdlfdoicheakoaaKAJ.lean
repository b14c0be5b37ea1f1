/- What functions answer, and the plain laws behind it. -/
import Derived.Test.YtdlfdoicheakoaaKAI
import Derived.Test.YtdlfdoicheakoaaC83
/- What functions compute: an edge is put into a graph with levels. -/
set_option linter.unusedSimpArgs false
set_option linter.unusedVariables false
set_option maxHeartbeats 8000000
set_option maxRecDepth 100000
namespace Go.Proofs.Ytdlfdoicheakoaa.X
open Go Go.Proofs
def putT (e : Int × Int) (b : Bool) : List Tl → List Tl
  | [] => [(e, 0, b)]
  | t :: r => if lessE e t.1 then (e, 0, b) :: t :: r else t :: putT e b r
theorem putT_es (e : Int × Int) (b : Bool) : ∀ ts : List Tl, esT (putT e b ts) = putE e (esT ts)
  | [] => rfl
  | t :: r => by
    have ih := putT_es e b r
    unfold esT at ih ⊢
    rw [putT, List.map_cons, putE]
    split
    · rfl
    · rw [List.map_cons, ih]
theorem putT_parts (e : Int × Int) (b : Bool) : ∀ ts : List Tl, ∃ p r, ts = p ++ r ∧ (∀ b, putT e b ts = p ++ (e, 0, b) :: r)
  | [] => ⟨[], [], rfl, fun _ => rfl⟩
  | t :: r => by
    by_cases h : lessE e t.1 = true
    · exact ⟨[], t :: r, rfl, fun b => by rw [putT, if_pos h]; rfl⟩
    · obtain ⟨p, q, h1, h2⟩ := putT_parts e b r
      exact ⟨t :: p, q, by rw [h1]; rfl, fun b => by rw [putT, if_neg h, h2]; rfl⟩
/-- The place of the edge. -/
theorem putT_at {e : Int × Int} {ts : List Tl} (hn : e ∉ esT ts) : ∃ k : Nat, k ≤ ts.length ∧ findE (putE e (esT ts)) e = k ∧ ∀ b, putT e b ts = ts.take k ++ (e, 0, b) :: ts.drop k := by
  obtain ⟨p, r, h1, h2⟩ := putT_parts e true ts
  have h3 := putT_es e true ts
  rw [h2 true] at h3
  have h4 : putE e (esT ts) = esT p ++ e :: esT r := by rw [← h3]; simp [esT]
  refine ⟨p.length, by rw [h1]; simp, ?_, fun b => by rw [h2 b, h1]; simp⟩
  refine findE_at (i := p.length) ?_ ?_
  · rw [h4, List.getElem?_append_right (by simp [esT])]
    simp [esT]
  · rw [h4, List.take_append_of_le_length (by simp [esT])]
    intro hm
    refine hn ?_
    rw [h1]
    have := List.mem_of_mem_take hm
    unfold esT at this ⊢
    rw [List.map_append]
    exact List.mem_append_left _ this
theorem putT_lv {e : Int × Int} {b : Bool} {ts : List Tl} {k : Nat} (h : putT e b ts = ts.take k ++ (e, 0, b) :: ts.drop k) : lvT (putT e b ts) = (lvT ts).take k ++ 0 :: (lvT ts).drop k := by
  rw [h]; simp [lvT]
theorem putT_tr {e : Int × Int} {b : Bool} {ts : List Tl} {k : Nat} (h : putT e b ts = ts.take k ++ (e, 0, b) :: ts.drop k) : trT (putT e b ts) = (trT ts).take k ++ b :: (trT ts).drop k := by
  rw [h]; simp [trT]
theorem putT_len (e : Int × Int) (b : Bool) (ts : List Tl) : (putT e b ts).length = ts.length + 1 := by
  have h := congrArg List.length (putT_es e b ts)
  rw [putE_length, esT_len', esT_len'] at h
  exact h
theorem LV.putT {n : Int} {ts : List Tl} {e : Int × Int} (h : LV n ts) (hP : PutOK n (esT ts) e) : LV n (putT e (!decide (Conn (esT ts) e.1 e.2)) ts) := by
  obtain ⟨p, r, h1, h2⟩ := putT_parts e true ts
  have hV : VG n (esT (p ++ (e, 0, true) :: r)) := by rw [← h2 true, putT_es]; exact hP.2.2
  rw [h2]
  have := LV.put (p := p) (r := r) (e := e) (by rw [← h1]; exact h) hV
  rw [← h1] at this
  exact this
/-- A row that is to come back. -/
def PlOK (n : Int) (ts : List Tl) (e : Int × Int) : Prop := LV n ts ∧ PutOK n (esT ts) e
noncomputable instance decPlOK (n : Int) (ts : List Tl) (e : Int × Int) : Decidable (PlOK n ts e) := Classical.propDecidable _
noncomputable abbrev plL (ts : List Tl) (e : Int × Int) : List Tl := putT e (!decide (Conn (esT ts) e.1 e.2)) ts
theorem c_PutLevel_no (n a b : Int) (ts : List Tl) (hV : VG n (esT ts)) (hno : ¬ PlOK n ts (a, b)) : KP 6 [LvP n ts, PE a b] [] = some (.tup [.agg [I 0, .i .emp, .i .emp, .i .emp], B false], [], []) := by
  have hlv := c_LevelsValid n ts hV
  have hel := hV.2.2.1
  by_cases h : LV n ts
  · rw [decide_eq_true h] at hlv
    have hP : ¬ PutOK n (esT ts) (a, b) := fun q => hno ⟨h, q⟩
    have hpe := c_PutEdge n a b (esT ts) (by omega)
    rw [if_neg hP] at hpe
    refine xw_call (fn := Try.f6) rfl Try.func6 rfl ⟨Nat.le_of_ble_eq_true rfl, rfl, rfl⟩ ?_
    repeat'(first|(refine na ?_;constructor)|(refine ite_two ?_ ?_<;>intro _<;>first|(exfalso;omega)|skip)|refine ord_split (by kernel_rfl) ?_|((first|(refine nb ?_;constructor)|refine pn rfl ?_|refine pe rfl ?_|((first|refine at2 ?_|refine at_cond ?_);split<;>first|(exfalso;omega;done)|skip))<;>try simp(config:={maxSteps:=3000000})(disch:=first|assumption|omega|exact VG.okg (by assumption)|(simp only[List.length_set,List.length_append,List.length_cons,List.length_nil,List.length_replicate];omega))only[go_sem,simprocAttr,Try.results6, hlv, hpe]))
  · rw [decide_eq_false h] at hlv
    refine xw_call (fn := Try.f6) rfl Try.func6 rfl ⟨Nat.le_of_ble_eq_true rfl, rfl, rfl⟩ ?_
    repeat'(first|(refine na ?_;constructor)|(refine ite_two ?_ ?_<;>intro _<;>first|(exfalso;omega)|skip)|refine ord_split (by kernel_rfl) ?_|((first|(refine nb ?_;constructor)|refine pn rfl ?_|refine pe rfl ?_|((first|refine at2 ?_|refine at_cond ?_);split<;>first|(exfalso;omega;done)|skip))<;>try simp(config:={maxSteps:=3000000})(disch:=first|assumption|omega|exact VG.okg (by assumption)|(simp only[List.length_set,List.length_append,List.length_cons,List.length_nil,List.length_replicate];omega))only[go_sem,simprocAttr,Try.results6, hlv]))
theorem c_PutLevel (n a b : Int) (ts : List Tl) (hP : PlOK n ts (a, b)) :
    ∃ r own, KP 6 [LvP n ts, PE a b] [] = some (r, [], own) ∧ imm 2 own r = some (.tup [LvP n (plL ts (a, b)), B true]) := by
  have hL := hP.1
  have hV := hL.vg
  have hlv := c_LevelsValid n ts hV
  have hel := hV.2.2.1
  rw [decide_eq_true hL] at hlv
  obtain ⟨rp, op, hpe, him⟩ := c_PutEdgeL n a b (esT ts) hP.2 (by omega)
  have hVp := hP.2.2.2
  have hpl := putE_length (a, b) (esT ts)
  have hix := c_indexE (putE (a, b) (esT ts)) a b (by omega)
  obtain ⟨k, hk1, hk2, hk3⟩ := putT_at hP.2.2.1
  rw [hk2] at hix
  have hmem : (a, b) ∈ putE (a, b) (esT ts) := mem_putE.2 (.inl rfl)
  obtain ⟨k0, k1, k2⟩ : 0 ≤ a ∧ a < b ∧ b < n := hVp.2.2.2.1 _ hmem
  have hcn := c_connected n a b (esT ts) hV.okg ⟨k0, by omega⟩ ⟨by omega, k2⟩
  have h1 : lvT (plL ts (a, b)) = _ := putT_lv (hk3 (!decide (Conn (esT ts) a b)))
  have h2 : trT (plL ts (a, b)) = _ := putT_tr (hk3 (!decide (Conn (esT ts) a b)))
  have h3 : esT (plL ts (a, b)) = _ := putT_es (a, b) (!decide (Conn (esT ts) a b)) ts
  have hlen := putT_len (a, b) (!decide (Conn (esT ts) a b)) ts
  have l2 := lvT_len ts
  have l3 := trT_len ts
  have l1 := esT_len' ts
  suffices hgoal : ∃ res, (imm 2 res.2.2 res.1 = some (.tup [LvP n (plL ts (a, b)), B true]) ∧ res.2.1 = []) ∧ KP 6 [LvP n ts, PE a b] [] = some res by
    obtain ⟨⟨r, q, own⟩, ⟨e1, e2⟩, e3⟩ := hgoal
    simp only at e1 e2
    subst e2
    exact ⟨r, own, e3, e1⟩
  by_cases hz : ts = []
  · subst hz
    obtain rfl : k = 0 := by simpa using hk1
    have hci : KP 29 [LI (lvT [])] [] = some (.i .emp, [], []) := c_cloneI0
    have hct : KP 31 [LT (trT [])] [] = some (.i .emp, [], []) := c_cloneT0
    have hii := c_insI_nil 0
    have hit := c_insT_nil (!decide (Conn (esT []) a b))
    refine xw_callE (fn := Try.f6) rfl Try.func6 rfl ⟨Nat.le_of_ble_eq_true rfl, rfl, rfl⟩ ?_
    repeat'(first|(refine na ?_;constructor)|(refine ite_two ?_ ?_<;>intro _<;>first|(exfalso;omega)|skip)|refine ord_split (by kernel_rfl) ?_|((first|(refine nb ?_;constructor)|refine pn rfl ?_|refine pe rfl ?_|((first|refine at2 ?_|refine at_cond ?_);split<;>first|(exfalso;omega;done)|skip))<;>try simp(config:={maxSteps:=3000000})(disch:=first|assumption|omega|exact VG.okg (by assumption)|(simp only[List.length_set,List.length_append,List.length_cons,List.length_nil,List.length_replicate];omega))only[go_sem,simprocAttr,Try.results6, hlv, hpe, him, hix, hcn, hci, hct, hii, hit]))
    simp only [LvP]
    rw [h1, h2, h3]
    rfl
  · have hlz : lvT ts ≠ [] := fun h => hz (List.length_eq_zero_iff.1 (by rw [← l2, h]; rfl))
    have htz : trT ts ≠ [] := fun h => hz (List.length_eq_zero_iff.1 (by rw [← l3, h]; rfl))
    have hci := c_cloneI (lvT ts) hlz (by omega)
    have hct := c_cloneT (trT ts) htz (by omega)
    have hii : KP 28 [.ref 1000 0 0 (lvT ts).length, I k, .ref 1001 0 0 1] [.arr 0 1 ((lvT ts).map encI), .arr 0 1 [[.v (.int .i64 0)]]] = some (.ref 1000 1 0 ((lvT ts).length + 1), [.arr 1 1 ((lvT (plL ts (a, b))).map encI), .arr 0 1 [[.v (.int .i64 0)]]], []) := by
      by_cases hke : k = (lvT ts).length
      · rw [hke]
        have := c_insI_end (lvT ts) 0 (by omega)
        rw [h1, hke]
        simpa using this
      · rw [h1]
        have := c_insI (lvT ts) 0 k (by omega) (by omega) (by omega)
        simpa using this
    have hit : ∀ q : Bool, q = (!decide (Conn (esT ts) a b)) → KP 30 [.ref 1000 0 0 (trT ts).length, I k, .ref 1001 0 0 1] [.arr 0 1 ((trT ts).map encT), .arr 0 1 [[.v (.bool q)]]] = some (.ref 1000 1 0 ((trT ts).length + 1), [.arr 1 1 ((trT (plL ts (a, b))).map encT), .arr 0 1 [[.v (.bool q)]]], []) := by
      intro q hq
      by_cases hke : k = (trT ts).length
      · rw [hke]
        have := c_insT_end (trT ts) q (by omega)
        rw [h2, hke, ← hq]
        simpa using this
      · rw [h2, ← hq]
        have := c_insT (trT ts) q k (by omega) (by omega) (by omega)
        simpa using this
    have hit' := hit _ rfl
    refine xw_callE (fn := Try.f6) rfl Try.func6 rfl ⟨Nat.le_of_ble_eq_true rfl, rfl, rfl⟩ ?_
    repeat'(first|(refine na ?_;constructor)|(refine ite_two ?_ ?_<;>intro _<;>first|(exfalso;omega)|skip)|refine ord_split (by kernel_rfl) ?_|((first|(refine nb ?_;constructor)|refine pn rfl ?_|refine pe rfl ?_|((first|refine at2 ?_|refine at_cond ?_);split<;>first|(exfalso;omega;done)|skip))<;>try simp(config:={maxSteps:=3000000})(disch:=first|assumption|omega|exact VG.okg (by assumption)|(simp only[List.length_set,List.length_append,List.length_cons,List.length_nil,List.length_replicate];omega))only[go_sem,simprocAttr,Try.results6, hlv, hpe, him, hix, hcn, hci, hct, hii, hit']))
    have hlp : (plL ts (a, b)).length = ts.length + 1 := hlen
    have t1 : List.take ((lvT ts).length + 1) (lvT (plL ts (a, b))) = lvT (plL ts (a, b)) := take_all (by rw [lvT_len, hlp, l2]; omega)
    have t2 : List.take ((trT ts).length + 1) (trT (plL ts (a, b))) = trT (plL ts (a, b)) := take_all (by rw [trT_len, hlp, l3]; omega)
    simp only [LvP]
    rw [h3, t1, t2]
end Go.Proofs.Ytdlfdoicheakoaa.X

/- What functions compute: an edge is cut out of a graph with levels. -/
set_option linter.unusedSimpArgs false
set_option linter.unusedVariables false
set_option maxHeartbeats 16000000
set_option maxRecDepth 100000
namespace Go.Proofs.Ytdlfdoicheakoaa.X
open Go Go.Proofs
theorem c_replace (n a b k : Int) (ts : List Tl) (x0 : List Int) (y0 : List Bool) (hV : VG n (esT ts)) (hlv : ∀ t ∈ ts, 0 ≤ t.2.1 ∧ t.2.1 ≤ 4) (ha : inN n a) (hb : inN n b) (hk : 0 ≤ k ∧ k ≤ 4) (hx0 : x0.length ≤ 1) (hy0 : y0.length ≤ 1) :
    KP 42 [.ptr 1000 0 0 0, PE a b, I k] [boxL n (esT ts) ts.length, arrL (lvT ts ++ x0), arrT (trT ts ++ y0)] =
      some (.tup [I (replL n a b k ts).2.1, B (replL n a b k ts).2.2], [boxL n (esT ts) ts.length, arrL (lvT (replL n a b k ts).1 ++ x0), arrT (trT (replL n a b k ts).1 ++ y0)], []) := by
  have hless : inN n (lessC n (abT ts k true) a b) := by unfold lessC; split <;> assumption
  exact c_replaceS (S := fun y => Conn (abT ts k true) (lessC n (abT ts k true) a b) y) n a b k (lessC n (abT ts k true) a b) ts x0 y0 hV hlv ha hb hk hx0 hy0 rfl fun u hu => by
    rw [lbl_iff hu hless]; exact ⟨Conn.symm, Conn.symm⟩
theorem find_split {ts : List Tl} {e : Int × Int} (h : e ∈ esT ts) : ∃ (k : Nat) (l : Int) (q : Bool), k < ts.length ∧ findE (esT ts) e = k ∧ ts.getD k dT = (e, l, q) ∧ ts = ts.take k ++ (e, l, q) :: ts.drop (k + 1) := by
  have hf : findE (esT ts) e = ((esT ts).idxOf e : Int) := if_pos h
  have hlt0 := List.idxOf_lt_length_iff.2 h
  have h1 : (esT ts)[(esT ts).idxOf e]? = some e := by rw [List.getElem?_eq_getElem hlt0, List.getElem_idxOf]
  generalize (esT ts).idxOf e = k at *
  rw [esT_len'] at hlt0
  have h2 : (esT ts)[k]? = (ts[k]?).map (·.1) := by simp [esT]
  rw [h2, List.getElem?_eq_getElem hlt0, Option.map_some, Option.some.injEq] at h1
  have h3 : ts.getD k dT = ts[k] := by rw [List.getD_eq_getElem?_getD, List.getElem?_eq_getElem hlt0, Option.getD_some]
  have h4 := List.drop_eq_getElem_cons hlt0
  have h5 := List.take_append_drop k ts
  rw [h4] at h5
  generalize ts[k] = t at *
  obtain ⟨f, l, q⟩ := t
  simp only at h1
  subst h1
  exact ⟨k, l, q, hlt0, hf, h3, h5.symm⟩
/-- What is left, how many edges were raised, whether one took the place. -/
noncomputable def ctR (n : Int) (ts : List Tl) (e : Int × Int) : List Tl × Int × Bool :=
  let k := (findE (esT ts) e).toNat
  let t := ts.getD k dT
  if t.2.2 = true then cutR n e.1 e.2 (t.2.1 + 1).toNat (ts.take k ++ ts.drop (k + 1)) else (ts.take k ++ ts.drop (k + 1), 0, false)
theorem cut_es {n : Int} {ts : List Tl} {e : Int × Int} {k : Nat} {l : Int} {q : Bool} (hV : VG n (esT ts)) (h : ts = ts.take k ++ (e, l, q) :: ts.drop (k + 1)) : esT (ts.take k ++ ts.drop (k + 1)) = cutE e (esT ts) := by
  have hn := hV.nodup
  generalize ts.take k = p at *
  generalize ts.drop (k + 1) = r at *
  subst h
  unfold esT at hn ⊢
  rw [List.map_append, List.map_cons] at hn
  rw [List.map_append, List.map_append, List.map_cons]
  rw [List.nodup_append, List.nodup_cons] at hn
  obtain ⟨h1, ⟨h2, h3⟩, h4⟩ := hn
  unfold cutE
  rw [List.filter_append, List.filter_cons]
  rw [if_neg (by simp)]
  have f1 : (p.map (·.1)).filter (fun f => decide (f ≠ e)) = p.map (·.1) := List.filter_eq_self.2 fun f hf => by
    have := h4 f hf e (by simp)
    simpa using this
  have f2 : (r.map (·.1)).filter (fun f => decide (f ≠ e)) = r.map (·.1) := List.filter_eq_self.2 fun f hf => by
    simp only [decide_eq_true_eq]
    exact fun c => h2 (c ▸ hf)
  rw [f1, f2]
theorem getL' (ts : List Tl) (k : Nat) (l : Int) (q : Bool) (e : Int × Int) (h : k < ts.length) (hg : ts.getD k dT = (e, l, q)) : ((lvT ts).map encI)[k]? = some [.v (.int .i64 l)] ∧ ((trT ts).map encT)[k]? = some [.v (.bool q)] := by
  rw [getTl ts k h, getTt ts k h, hg]; exact ⟨rfl, rfl⟩
theorem c_CutLevel (n a b : Int) (ts : List Tl) (hL : LV n ts) (hm : (a, b) ∈ esT ts) :
    KP 9 [LvP n ts, PE a b] [] = some (.tup [.agg [I n, LE (cutE (a, b) (esT ts)), .ref 2000 0 0 (ts.length - 1), .ref 2001 0 0 (ts.length - 1)], I (ctR n ts (a, b)).2.1, B (ctR n ts (a, b)).2.2, B true], [], [arrL (lvT (ctR n ts (a, b)).1 ++ [0]), arrT (trT (ctR n ts (a, b)).1 ++ [false])]) := by
  have hV := hL.vg
  have hlv := c_LevelsValid n ts hV
  have hel := hV.2.2.1
  have hn16 := hV.2.1
  rw [decide_eq_true hL] at hlv
  have hh := c_has n (esT ts) a b (by omega)
  rw [decide_eq_true hm] at hh
  have l1 := esT_len' ts
  have l2 := lvT_len ts
  have l3 := trT_len ts
  obtain ⟨k, l, q, hk, hf, hg, hsp⟩ := find_split hm
  have hix := c_indexE (esT ts) a b (by omega)
  rw [hf] at hix
  have hok := hV.2.2.2.1 _ hm
  have ha : inN n a := ⟨hok.1, by have := hok.2.1; have := hok.2.2; simp only at *; omega⟩
  have hb : inN n b := ⟨by have := hok.1; have := hok.2.1; simp only at *; omega, hok.2.2⟩
  have hces := cut_es hV hsp
  have hcut := c_cut n a b (esT ts) (by omega)
  have hdel : delE (fun e => decide (e.1 = a ∧ e.2 = b)) (esT ts) = .lst ((cutE (a, b) (esT ts)).map encE) := by
    have hne : esT ts ≠ [] := fun h => by rw [h] at hm; simp at hm
    unfold delE
    rw [if_neg hne]
    congr 2
    unfold cutE
    refine List.filter_congr fun f _ => ?_
    by_cases c : f = (a, b)
    · subst c; simp
    · have : ¬ (f.1 = a ∧ f.2 = b) := fun h => c (Prod.ext h.1 h.2)
      simp [c, this]
  rw [hdel] at hcut
  have hlz : lvT ts ≠ [] := fun h => by rw [h] at l2; simp at l2; omega
  have htz : trT ts ≠ [] := fun h => by rw [h] at l3; simp at l3; omega
  have hci := c_cloneI (lvT ts) hlz (by omega)
  have hct := c_cloneT (trT ts) htz (by omega)
  have hdi := c_delI (lvT ts) k (by omega) (by omega) (by omega)
  have hdt := c_delT (trT ts) k (by omega) (by omega) (by omega)
  rw [Int.toNat_natCast] at hdi hdt
  have hlb : (lvT ts).take k ++ (lvT ts).drop (k + 1) = lvT (ts.take k ++ ts.drop (k + 1)) := by simp [lvT]
  have htb : (trT ts).take k ++ (trT ts).drop (k + 1) = trT (ts.take k ++ ts.drop (k + 1)) := by simp [trT]
  rw [hlb] at hdi
  rw [htb] at hdt
  obtain ⟨hgl, hgt⟩ := getL' ts k l q (a, b) hk hg
  have hct0 : ctR n ts (a, b) = if q = true then cutR n a b (l + 1).toNat (ts.take k ++ ts.drop (k + 1)) else (ts.take k ++ ts.drop (k + 1), 0, false) := by
    unfold ctR
    rw [hf]
    simp only [Int.toNat_natCast]
    rw [hg]
  rw [hct0]
  have hbl : (ts.take k ++ ts.drop (k + 1)).length = ts.length - 1 := by simp; omega
  have hLb := hL
  rw [hsp] at hLb
  generalize hbs : ts.take k ++ ts.drop (k + 1) = bs at *
  rw [l2] at hci hdi
  rw [l3] at hct hdt
  cases q with
  | false =>
    rw [if_neg (by simp)]
    refine xw_call (fn := Try.f9) rfl Try.func9 rfl ⟨Nat.le_of_ble_eq_true rfl, rfl, rfl⟩ ?_
    repeat'(first|(refine na ?_;constructor)|(refine ite_two ?_ ?_<;>intro _<;>first|(exfalso;omega)|skip)|refine ord_split (by kernel_rfl) ?_|((first|(refine nb ?_;constructor)|refine pn rfl ?_|refine pe rfl ?_|((first|refine at2 ?_|refine at_cond ?_);split<;>first|(exfalso;omega;done)|skip))<;>try simp(config:={maxSteps:=3000000})(disch:=first|assumption|omega|exact VG.okg (by assumption)|(simp only[List.length_set,List.length_append,List.length_cons,List.length_nil,List.length_replicate];omega))only[go_sem,simprocAttr,Try.results9, hlv, hh, hix, hcut, hci, hct, hdi, hdt, hgl, hgt]))
  | true =>
    rw [if_pos rfl]
    have hMV : MV n bs a b l ∧ 0 ≤ l := by
      have := LV.cutT hLb
      rw [hbs] at this
      exact this
    have hl4 : l ≤ 4 := (hL.lv ((a, b), l, true) (by rw [hsp]; simp)).2
    obtain ⟨hMV, hl0⟩ := hMV
    have hlevel : ∀ cur : List Tl, ∀ j : Int, esT cur = cutE (a, b) (esT ts) → cur.length = ts.length - 1 → MV n cur a b j → 0 ≤ j → KP 42 [.ptr 1000 0 0 0, PE a b, I j] [boxL n (cutE (a, b) (esT ts)) (ts.length - 1), arrL (lvT cur ++ [0]), arrT (trT cur ++ [false])] =
      some (.tup [I (replL n a b j cur).2.1, B (replL n a b j cur).2.2], [boxL n (cutE (a, b) (esT ts)) (ts.length - 1), arrL (lvT (replL n a b j cur).1 ++ [0]), arrT (trT (replL n a b j cur).1 ++ [false])], []) := fun cur j h1 h2 h3 h4 => by
      have := c_replace n a b j cur [0] [false] h3.vg h3.lv ha hb ⟨h4, h3.k4⟩ (by simp) (by simp)
      rw [h1, h2] at this
      exact this
    generalize hR : cutR n a b (l + 1).toNat bs = R at *
    refine xw_call (fn := Try.f9) rfl Try.func9 rfl ⟨Nat.le_of_ble_eq_true rfl, rfl, rfl⟩ ?_
    repeat'(first|(refine na ?_;constructor)|(refine ite_two ?_ ?_<;>intro _<;>first|(exfalso;omega)|skip)|refine ord_split (by kernel_rfl) ?_|((first|(refine nb ?_;constructor)|refine pn rfl ?_|refine pe rfl ?_|((first|refine at2 ?_|refine at_cond ?_);split<;>first|(exfalso;omega;done)|skip))<;>try simp(config:={maxSteps:=3000000})(disch:=first|assumption|omega|exact VG.okg (by assumption)|(simp only[List.length_set,List.length_append,List.length_cons,List.length_nil,List.length_replicate];omega))only[go_sem,simprocAttr,Try.results9, hlv, hh, hix, hcut, hci, hct, hdi, hdt, hgl, hgt]))
    refine xw_loopR (fun (w : Int × Int × Bool × List Tl) s => s.m 9 = some (.box 0 [I n, LE (cutE (a, b) (esT ts)), .ref 3288 0 0 (ts.length - 1), .ref 3344 0 0 (ts.length - 1)]) ∧ s.m 3288 = some (arrL (lvT w.2.2.2 ++ [0])) ∧ s.m 3344 = some (arrT (trT w.2.2.2 ++ [false])) ∧ s.ρ 9 = .ptr 9 0 0 0 ∧ s.m 3 = some (.box 0 [I a, I b]) ∧ s.ρ 3 = .ptr 3 0 0 0 ∧ s.m 4 = some (.box 0 [I 0, .i .emp, .i .emp, .i .emp]) ∧ s.ρ 4 = .ptr 4 0 0 0 ∧ s.ρ 10 = I w.2.1 ∧ s.ρ 11 = B w.2.2.1 ∧ s.ρ 12 = I w.1 ∧
      esT w.2.2.2 = cutE (a, b) (esT ts) ∧ w.2.2.2.length = ts.length - 1 ∧ -1 ≤ w.1 ∧ w.1 ≤ l ∧ 0 ≤ w.2.1 ∧ w.2.1 ≤ 80 * (l - w.1) ∧
      ((w.2.2.1 = false ∧ MV n w.2.2.2 a b w.1 ∧ R.1 = (cutR n a b (w.1 + 1).toNat w.2.2.2).1 ∧ R.2.1 = w.2.1 + (cutR n a b (w.1 + 1).toNat w.2.2.2).2.1 ∧ R.2.2 = (cutR n a b (w.1 + 1).toNat w.2.2.2).2.2) ∨ (w.2.2.1 = true ∧ R = (w.2.2.2, w.2.1, true)))) (fun w => (w.1 + 1).toNat) (l, 0, false, bs) ?_ ?_
    · refine ⟨?_, rfl, rfl, rfl, rfl, rfl, ?_, rfl, rfl, rfl, rfl, hces, hbl, by simp only; omega, by simp, by simp, by simp, .inl ⟨rfl, hMV, by rw [hR], by rw [hR]; simp, by rw [hR]⟩⟩
      all_goals first | rfl | (simp [upd]; done) | trace_state
    rintro ⟨j, rs, fd, cur⟩ ⟨ρ, m⟩ ⟨m9, m1, m2, e9, m3, e3, m4, e4, e10, e11, e12, q1, q2, g0, g1, r0, r1, hw⟩
    simp only at m9 m1 m2 e9 m3 e3 m4 e4 e10 e11 e12 q1 q2 g0 g1 r0 r1 hw
    rcases hw with ⟨rfl, hM, s1, s2, s3⟩ | ⟨rfl, hRw⟩
    rotate_left
    · subst hRw
      by_cases hj : 0 ≤ j
      · repeat'(first|(refine na ?_;constructor)|(refine ite_two ?_ ?_<;>intro _<;>first|(exfalso;omega)|skip)|refine ord_split (by kernel_rfl) ?_|((first|(refine nb ?_;constructor)|refine pn rfl ?_|refine pe rfl ?_|((first|refine at2 ?_|refine at_cond ?_);split<;>first|(exfalso;omega;done)|skip))<;>try simp(config:={maxSteps:=3000000})(disch:=first|assumption|omega|exact VG.okg (by assumption)|(simp only[List.length_set,List.length_append,List.length_cons,List.length_nil,List.length_replicate];omega))only[go_sem,simprocAttr,Try.results9, m9, m1, m2, e9, m3, e3, m4, e4, e10, e11, e12, hj]))
      · repeat'(first|(refine na ?_;constructor)|(refine ite_two ?_ ?_<;>intro _<;>first|(exfalso;omega)|skip)|refine ord_split (by kernel_rfl) ?_|((first|(refine nb ?_;constructor)|refine pn rfl ?_|refine pe rfl ?_|((first|refine at2 ?_|refine at_cond ?_);split<;>first|(exfalso;omega;done)|skip))<;>try simp(config:={maxSteps:=3000000})(disch:=first|assumption|omega|exact VG.okg (by assumption)|(simp only[List.length_set,List.length_append,List.length_cons,List.length_nil,List.length_replicate];omega))only[go_sem,simprocAttr,Try.results9, m9, m1, m2, e9, m3, e3, m4, e4, e10, e11, e12, hj]))
    by_cases hj : 0 ≤ j
    rotate_left
    · have hj1 : (j + 1).toNat = 0 := by omega
      rw [hj1, cutR] at s1 s2 s3
      rw [Int.add_zero] at s2
      rw [s1, s2, s3]
      repeat'(first|(refine na ?_;constructor)|(refine ite_two ?_ ?_<;>intro _<;>first|(exfalso;omega)|skip)|refine ord_split (by kernel_rfl) ?_|((first|(refine nb ?_;constructor)|refine pn rfl ?_|refine pe rfl ?_|((first|refine at2 ?_|refine at_cond ?_);split<;>first|(exfalso;omega;done)|skip))<;>try simp(config:={maxSteps:=3000000})(disch:=first|assumption|omega|exact VG.okg (by assumption)|(simp only[List.length_set,List.length_append,List.length_cons,List.length_nil,List.length_replicate];omega))only[go_sem,simprocAttr,Try.results9, m9, m1, m2, e9, m3, e3, m4, e4, e10, e11, e12, hj]))
    have hrep := hlevel cur j q1 q2 hM hj
    obtain ⟨p1, p2⟩ := replL_spec hM hj
    have hbd := replL_bd (n := n) (a := a) (b := b) (k := j) (ts := cur)
    have hj1 : (j + 1).toNat = j.toNat + 1 := by omega
    have hj2 : ((j.toNat : Nat) : Int) = j := by omega
    have hj3 : (j - 1 + 1).toNat = j.toNat := by omega
    have hcl : ((replL n a b j cur).1).length = ts.length - 1 := by rw [esT_len p1, q2]
    rw [hj1, cutR, hj2] at s1 s2 s3
    rcases p2 with ⟨p3, p4, p5⟩ | ⟨p3, p4, p5, p6⟩
    · rw [if_neg (by rw [p3]; simp)] at s1 s2 s3
      rw [p3] at hrep
      rw [← hj3] at s1 s2 s3
      generalize hro : replL n a b j cur = ro at *
      obtain ⟨c1, c2, c3⟩ := ro
      simp only at hrep p1 p3 p4 hbd hcl s1 s2 s3
      subst p3
      repeat'(first|(refine na ?_;constructor)|(refine ite_two ?_ ?_<;>intro _<;>first|(exfalso;omega)|skip)|refine ord_split (by kernel_rfl) ?_|((first|(refine nb ?_;constructor)|refine pn rfl ?_|refine pe rfl ?_|((first|refine at2 ?_|refine at_cond ?_);split<;>first|(exfalso;omega;done)|skip))<;>try simp(config:={maxSteps:=3000000})(disch:=first|assumption|omega|exact VG.okg (by assumption)|(simp only[List.length_set,List.length_append,List.length_cons,List.length_nil,List.length_replicate];omega))only[go_sem,simprocAttr,Try.results9, m9, m1, m2, e9, m3, e3, m4, e4, e10, e11, e12, hj, hrep]))
      exact ⟨j - 1, rs + c2, false, c1, rfl, rfl, rfl, rfl, rfl, p1.trans q1, hcl, by omega, by omega, by omega, by omega, .inl ⟨rfl, p4, s1, by omega, s3⟩, by omega⟩
    · rw [if_pos p3] at s1 s2 s3
      rw [p3] at hrep
      generalize hro : replL n a b j cur = ro at *
      obtain ⟨c1, c2, c3⟩ := ro
      simp only at hrep p1 p3 p4 hbd hcl s1 s2 s3
      subst p3
      repeat'(first|(refine na ?_;constructor)|(refine ite_two ?_ ?_<;>intro _<;>first|(exfalso;omega)|skip)|refine ord_split (by kernel_rfl) ?_|((first|(refine nb ?_;constructor)|refine pn rfl ?_|refine pe rfl ?_|((first|refine at2 ?_|refine at_cond ?_);split<;>first|(exfalso;omega;done)|skip))<;>try simp(config:={maxSteps:=3000000})(disch:=first|assumption|omega|exact VG.okg (by assumption)|(simp only[List.length_set,List.length_append,List.length_cons,List.length_nil,List.length_replicate];omega))only[go_sem,simprocAttr,Try.results9, m9, m1, m2, e9, m3, e3, m4, e4, e10, e11, e12, hj, hrep]))
      exact ⟨j - 1, rs + c2, true, c1, rfl, rfl, rfl, rfl, rfl, p1.trans q1, hcl, by omega, by omega, by omega, by omega, .inr ⟨rfl, Prod.ext s1 (Prod.ext s2 s3)⟩, by omega⟩
end Go.Proofs.Ytdlfdoicheakoaa.X
