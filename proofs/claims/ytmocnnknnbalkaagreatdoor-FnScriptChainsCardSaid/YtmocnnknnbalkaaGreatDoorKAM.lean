/- What functions answer, and the plain laws behind it. -/
import Derived.Test.YtmocnnknnbalkaaGreatDoorKAH
import Derived.Test.YtmocnnknnbalkaaGreatDoorKAL
import Derived.Test.YtmocnnknnbalkaaGreatDoorKAF
/- What functions compute: lines of lists. -/
set_option linter.unusedSimpArgs false
set_option linter.unusedVariables false
set_option maxHeartbeats 8000000
set_option maxRecDepth 100000
namespace Go.Proofs.YtmocnnknnbalkaaGreatDoor.X
open Go Go.Proofs
/-- Lines of lists. -/
def linesT (D : List UInt8) (ps : List (List Int)) : List UInt8 := ps.flatMap fun p => D ++ numsT p ++ [10]
theorem linesT_snoc (D : List UInt8) (ps : List (List Int)) (p : List Int) : linesT D (ps ++ [p]) = linesT D ps ++ (D ++ numsT p ++ [10]) := by simp [linesT]
theorem linesT_len (D : List UInt8) (k : Nat) : ∀ ps : List (List Int), (∀ p ∈ ps, p.length ≤ k) → (linesT D ps).length ≤ ps.length * (D.length + 3 * k + 1)
  | [], _ => by simp [linesT]
  | p :: ps, h => by
    have h1 := linesT_len D k ps (fun q hq => h q (by simp [hq]))
    have h2 := numsT_len p
    have h3 := h p (by simp)
    have e : linesT D (p :: ps) = D ++ numsT p ++ [10] ++ linesT D ps := by simp [linesT]
    rw [e, List.length_append, List.length_append, List.length_append, List.length_cons, List.length_cons, Nat.add_mul ps.length 1, Nat.one_mul]
    simp only [List.length_nil]
    omega
theorem c_listsText (D : List UInt8) (ps : List (List Int)) (hs : ∀ p ∈ ps, smallL p) (hk : ∀ p ∈ ps, p.length ≤ 100) (hD : D.length ≤ 100) (hl : ps.length ≤ 1000) : KP 70 [S D, LL ps] [] = some (S (linesT D ps), [], []) := by
  refine xw_call (fn := Tryz.f70) rfl Tryz.func70 rfl ⟨Nat.le_of_ble_eq_true rfl, rfl, rfl⟩ ?_
  repeat'(first|(refine na ?_;constructor)|(refine ite_two ?_ ?_<;>intro _<;>first|(exfalso;omega)|skip)|refine ord_split (by kernel_rfl) ?_|((first|(refine nb ?_;constructor)|refine pn rfl ?_|refine pe rfl ?_|((first|refine at2 ?_|refine at_cond ?_);split<;>first|(exfalso;omega;done)|skip))<;>try simp(config:={maxSteps:=3000000})(disch:=first|assumption|omega|exact VG.okg (by assumption)|(simp only[List.length_set,List.length_append,List.length_cons,List.length_nil,List.length_replicate];omega))only[go_sem,simprocAttr,Tryz.results70]))
  refine xw_loopR (fun (i : Int) s => s.ρ 8 = LL ps ∧ s.ρ 9 = I ps.length ∧ s.ρ 0 = S D ∧ s.ρ 5 = S (linesT D (ps.take i.toNat)) ∧ s.ρ 10 = I i ∧ 0 ≤ i ∧ i ≤ ps.length) (fun i => (ps.length - i).toNat) 0 ?_ ?_
  · refine ⟨rfl, ?_, rfl, ?_, rfl, by omega, by omega⟩
    · simp [upd]
    · simp [upd, linesT]
  rintro i ⟨ρ, m⟩ ⟨h8, h9, h0, h5, h10, g0, g1⟩
  simp only at h8 h9 h0 h5 h10 g0 g1
  have hnl := linesT_len D 100 (ps.take i.toNat) (fun p hp => hk p (List.mem_of_mem_take hp))
  rw [List.length_take] at hnl
  have hnl2 : (linesT D (ps.take i.toNat)).length ≤ 1000 * 401 := Nat.le_trans hnl (Nat.mul_le_mul (by omega) (by omega))
  by_cases hi : i < ps.length
  rotate_left
  · rw [take_all (by omega)] at h5
    repeat'(first|(refine na ?_;constructor)|(refine ite_two ?_ ?_<;>intro _<;>first|(exfalso;omega)|skip)|refine ord_split (by kernel_rfl) ?_|((first|(refine nb ?_;constructor)|refine pn rfl ?_|refine pe rfl ?_|((first|refine at2 ?_|refine at_cond ?_);split<;>first|(exfalso;omega;done)|skip))<;>try simp(config:={maxSteps:=3000000})(disch:=first|assumption|omega|exact VG.okg (by assumption)|(simp only[List.length_set,List.length_append,List.length_cons,List.length_nil,List.length_replicate];omega))only[go_sem,simprocAttr,Tryz.results70, h8, h9, h0, h5, h10]))
  have hm := getD_mem (d := []) (show i.toNat < ps.length by omega)
  have hgi : (ps.map encL)[i.toNat]? = some [.lst ((ps.getD i.toNat []).map encI)] := by
    have : i.toNat < ps.length := by omega
    simp [encL, this]
  have hnx : linesT D (ps.take (i + 1).toNat) = linesT D (ps.take i.toNat) ++ (D ++ numsT (ps.getD i.toNat []) ++ [10]) := by
    rw [take_int [] g0 hi, linesT_snoc]
  generalize linesT D (ps.take i.toNat) = T at *
  generalize ps.getD i.toNat [] = p at hgi hm hnx
  have hnt := c_numbersText D p (hs p hm) (by omega) (by have := hk p hm; omega)
  have l1 := numsT_len p
  have l2 := hk p hm
  generalize hQ : D ++ numsT p ++ [10] = Q at *
  have hQl : Q.length ≤ 1000 := by rw [← hQ]; simp only [List.length_append, List.length_cons, List.length_nil]; omega
  repeat'(first|(refine na ?_;constructor)|(refine ite_two ?_ ?_<;>intro _<;>first|(exfalso;omega)|skip)|refine ord_split (by kernel_rfl) ?_|((first|(refine nb ?_;constructor)|refine pn rfl ?_|refine pe rfl ?_|((first|refine at2 ?_|refine at_cond ?_);split<;>first|(exfalso;omega;done)|skip))<;>try simp(config:={maxSteps:=3000000})(disch:=first|assumption|omega|exact VG.okg (by assumption)|(simp only[List.length_set,List.length_append,List.length_cons,List.length_nil,List.length_replicate];omega))only[go_sem,simprocAttr,Tryz.results70, h8, h9, h0, h5, h10, hgi, hnt]))
  exact ⟨i + 1, by rw [hnx], rfl, by omega, by omega, by omega⟩
end Go.Proofs.YtmocnnknnbalkaaGreatDoor.X

/- Search in depth, and low points: plain law. -/
set_option linter.unusedVariables false
namespace Go.Proofs.YtmocnnknnbalkaaGreatDoor.X
open Go
structure Sr where
  num : List Int
  par : List Int
  low : List Int
def enterS (st : Sr × Int) (v p : Int) : Sr × Int := (⟨st.1.num.set v.toNat (st.2 + 1), st.1.par.set v.toNat p, st.1.low.set v.toNat (st.2 + 1)⟩, st.2 + 1)
def lowerS (st : Sr × Int) (v x : Int) : Sr × Int := (⟨st.1.num, st.1.par, st.1.low.set v.toNat (min (gI st.1.low v) x)⟩, st.2)
def vstep (rec : Int → Int → Sr × Int → Sr × Int) (v p : Int) (st : Sr × Int) (u : Int) : Sr × Int :=
  if gI st.1.num u = 0 then lowerS (rec u v st) v (gI (rec u v st).1.low u) else if u = p then st else lowerS st v (gI st.1.num u)
/-- What follows from a node that is found. -/
def visit (es : List (Int × Int)) : Nat → Int → Int → Sr × Int → Sr × Int
  | 0, _, _, st => st
  | f + 1, v, p, st => (nbS v es).foldl (vstep (visit es f) v p) (enterS st v p)
def zeros (l : List Int) : Nat := (l.filter fun d => decide (d = 0)).length
theorem zeros_set : ∀ {l : List Int} {i : Nat} {v : Int}, i < l.length → l.getD i 0 = 0 → v ≠ 0 → zeros (l.set i v) + 1 = zeros l
  | [], i, v, h, _, _ => by simp at h
  | x :: l, 0, v, h, h1, h2 => by
    have : x = 0 := by simpa using h1
    subst this
    simp only [zeros, List.set_cons_zero, List.filter_cons, decide_eq_true_eq, if_neg h2, if_true, List.length_cons]
  | x :: l, i + 1, v, h, h1, h2 => by
    have ih := zeros_set (l := l) (i := i) (v := v) (by simpa using h) (by simpa using h1) h2
    simp only [zeros] at ih ⊢
    simp only [List.set_cons_succ, List.filter_cons]
    split <;> (try simp only [List.length_cons]) <;> omega
def inR (n u : Int) : Prop := 0 ≤ u ∧ u < n
/-- One neighbour more in the least of a node's row. -/
def lstep (s : Sr) (u a w : Int) : Int :=
  if gI s.par w = u ∧ gI s.low w < (if w ≠ gI s.par u ∧ gI s.num w < a then gI s.num w else a) then gI s.low w else (if w ≠ gI s.par u ∧ gI s.num w < a then gI s.num w else a)
def lowOf (s : Sr) (u : Int) (ws : List Int) : Int := ws.foldl (lstep s u) (gI s.num u)
def FinS (es : List (Int × Int)) (s : Sr) (u : Int) : Prop := (∀ w ∈ nbS u es, gI s.num w ≠ 0) ∧ gI s.low u = lowOf s u (nbS u es)
structure OkS (n : Int) (es : List (Int × Int)) (st : Sr × Int) : Prop where
  ln : st.1.num.length = n.toNat
  lp : st.1.par.length = n.toNat
  ll : st.1.low.length = n.toNat
  c0 : 0 ≤ st.2
  nn : ∀ u, inR n u → 0 ≤ gI st.1.num u ∧ gI st.1.num u ≤ st.2
  pr : ∀ u, inR n u → gI st.1.num u ≠ 0 → gI st.1.par u = -1 ∨ (inR n (gI st.1.par u) ∧ gI st.1.num (gI st.1.par u) ≠ 0)
theorem lowOf_le {s : Sr} {u : Int} : ∀ (ws : List Int) (a : Int), ws.foldl (lstep s u) a ≤ a
  | [], a => Int.le_refl _
  | w :: ws, a => by
    have h : lstep s u a w ≤ a := by unfold lstep; split <;> split at * <;> omega
    exact Int.le_trans (lowOf_le ws _) h
theorem lowOf_congr {s s' : Sr} {u : Int} (hp : gI s'.par u = gI s.par u) : ∀ (ws : List Int) (a : Int), (∀ w ∈ ws, gI s'.num w = gI s.num w ∧ gI s'.par w = gI s.par w ∧ (gI s.par w = u → gI s'.low w = gI s.low w)) →
    ws.foldl (lstep s' u) a = ws.foldl (lstep s u) a
  | [], a, _ => rfl
  | w :: ws, a, h => by
    obtain ⟨h1, h2, h3⟩ := h w (by simp)
    have e : lstep s' u a w = lstep s u a w := by
      unfold lstep
      rw [h1, h2, hp]
      by_cases hw : gI s.par w = u
      · rw [h3 hw]
      · simp only [hw, false_and, if_false]
    rw [List.foldl_cons, List.foldl_cons, e]
    exact lowOf_congr hp ws _ fun w hw => h w (List.mem_cons_of_mem _ hw)
/-- What a visit does. -/
structure PostS (n : Int) (es : List (Int × Int)) (v p : Int) (st st' : Sr × Int) : Prop where
  ok : OkS n es st'
  cc : st.2 ≤ st'.2
  old : ∀ u, inR n u → gI st.1.num u ≠ 0 → gI st'.1.num u = gI st.1.num u ∧ gI st'.1.par u = gI st.1.par u ∧ gI st'.1.low u = gI st.1.low u
  vn : gI st'.1.num v = st.2 + 1
  vp : gI st'.1.par v = p
  new : ∀ u, inR n u → gI st.1.num u = 0 → gI st'.1.num u ≠ 0 → st.2 < gI st'.1.num u ∧ (u = v ∨ (inR n (gI st'.1.par u) ∧ gI st.1.num (gI st'.1.par u) = 0))
  fin : ∀ u, inR n u → gI st.1.num u = 0 → gI st'.1.num u ≠ 0 → FinS es st'.1 u
  zz : zeros st'.1.num < zeros st.1.num
/-- Within the row of a node. -/
structure LoopS (n : Int) (es : List (Int × Int)) (v p : Int) (st s : Sr × Int) (pre : List Int) : Prop where
  ok : OkS n es s
  cc : st.2 < s.2
  old : ∀ u, inR n u → gI st.1.num u ≠ 0 → gI s.1.num u = gI st.1.num u ∧ gI s.1.par u = gI st.1.par u ∧ gI s.1.low u = gI st.1.low u
  vn : gI s.1.num v = st.2 + 1
  vp : gI s.1.par v = p
  new : ∀ u, inR n u → gI st.1.num u = 0 → gI s.1.num u ≠ 0 → st.2 < gI s.1.num u ∧ (u = v ∨ (inR n (gI s.1.par u) ∧ gI st.1.num (gI s.1.par u) = 0))
  fin : ∀ u, inR n u → u ≠ v → gI st.1.num u = 0 → gI s.1.num u ≠ 0 → FinS es s.1 u
  zz : zeros s.1.num < zeros st.1.num
  pf : ∀ w ∈ pre, gI s.1.num w ≠ 0
  kid : ∀ u, inR n u → gI s.1.num u ≠ 0 → gI s.1.par u = v → u ∈ pre
  lv : gI s.1.low v = lowOf s.1 v pre
section
variable {n : Int} {es : List (Int × Int)}
theorem nb_in (ho : ∀ e ∈ es, okE n e) {v u : Int} (h : u ∈ nbS v es) : inR n u ∧ u ≠ v := by
  have := ((mem_nbS ho).1 h).ok ho
  exact ⟨⟨by omega, by omega⟩, by omega⟩
theorem lower_get {s : Sr × Int} {v x : Int} (hs : OkS n es s) (hv : inR n v) {u : Int} (hu : inR n u) : gI (lowerS s v x).1.low u = if v = u then min (gI s.1.low v) x else gI s.1.low u :=
  gI_set hv.1 hu.1 (by rw [hs.ll]; obtain ⟨h0, h1⟩ := hu; omega)
theorem OkS.lower {s : Sr × Int} {v x : Int} (hs : OkS n es s) : OkS n es (lowerS s v x) :=
  ⟨hs.ln, hs.lp, by simp [lowerS, hs.ll], hs.c0, hs.nn, hs.pr⟩
theorem enter_loop (ho : ∀ e ∈ es, okE n e) {st : Sr × Int} {v p : Int} (hs : OkS n es st) (hv : inR n v) (hv0 : gI st.1.num v = 0) (hp : p = -1 ∨ (inR n p ∧ gI st.1.num p ≠ 0)) : LoopS n es v p st (enterS st v p) [] := by
  have hvl : v.toNat < n.toNat := by obtain ⟨h0, h1⟩ := hv; omega
  have gn : ∀ u, inR n u → gI (enterS st v p).1.num u = if v = u then st.2 + 1 else gI st.1.num u := fun u hu => gI_set hv.1 hu.1 (by rw [hs.ln]; obtain ⟨h0, h1⟩ := hu; omega)
  have gp : ∀ u, inR n u → gI (enterS st v p).1.par u = if v = u then p else gI st.1.par u := fun u hu => gI_set hv.1 hu.1 (by rw [hs.lp]; obtain ⟨h0, h1⟩ := hu; omega)
  have gl : ∀ u, inR n u → gI (enterS st v p).1.low u = if v = u then st.2 + 1 else gI st.1.low u := fun u hu => gI_set hv.1 hu.1 (by rw [hs.ll]; obtain ⟨h0, h1⟩ := hu; omega)
  have hc0 := hs.c0
  have ok : OkS n es (enterS st v p) := by
    refine ⟨by simp [enterS, hs.ln], by simp [enterS, hs.lp], by simp [enterS, hs.ll], ?_, fun u hu => ?_, fun u hu h => ?_⟩
    · show 0 ≤ st.2 + 1; omega
    · rw [gn u hu]
      have := hs.nn u hu
      show _ ∧ _ ≤ st.2 + 1
      split <;> omega
    · rw [gp u hu]
      by_cases he : v = u
      · rw [if_pos he]
        refine hp.imp id fun hp => ⟨hp.1, ?_⟩
        rw [gn p hp.1]
        split
        · omega
        · exact hp.2
      · rw [if_neg he]
        rw [gn u hu, if_neg he] at h
        refine (hs.pr u hu h).imp id fun hq => ⟨hq.1, ?_⟩
        rw [gn _ hq.1]
        split
        · omega
        · exact hq.2
  refine ⟨ok, ?_, fun u hu h => ?_, ?_, ?_, fun u hu h h' => ?_, fun u hu he h h' => ?_, ?_, by simp, fun u hu h he => ?_, ?_⟩
  · show st.2 < st.2 + 1; omega
  · have he : v ≠ u := fun e => h (e ▸ hv0)
    rw [gn u hu, gp u hu, gl u hu, if_neg he, if_neg he, if_neg he]
    exact ⟨rfl, rfl, rfl⟩
  · rw [gn v hv, if_pos rfl]
  · rw [gp v hv, if_pos rfl]
  · rw [gn u hu] at h' ⊢
    by_cases he : v = u
    · rw [if_pos he]; exact ⟨by omega, .inl he.symm⟩
    · rw [if_neg he] at h'; exact absurd h h'
  · rw [gn u hu, if_neg (fun e => he e.symm)] at h'
    exact absurd h h'
  · have := zeros_set (l := st.1.num) (i := v.toNat) (v := st.2 + 1) (by rw [hs.ln]; exact hvl) hv0 (by omega)
    show zeros (st.1.num.set v.toNat (st.2 + 1)) < _
    omega
  · rw [gp u hu] at he
    by_cases hq : v = u
    · subst hq
      rw [if_pos rfl] at he
      rcases hp with rfl | hp
      · obtain ⟨h0, h1⟩ := hv; omega
      · subst he; exact absurd hv0 hp.2
    · rw [if_neg hq] at he
      rw [gn u hu, if_neg hq] at h
      rcases hs.pr u hu h with e | e
      · obtain ⟨h0, h1⟩ := hv; omega
      · rw [he] at e; exact absurd hv0 e.2
  · rw [gl v hv, if_pos rfl]
    show st.2 + 1 = gI (enterS st v p).1.num v
    rw [gn v hv, if_pos rfl]
theorem step_loop (ho : ∀ e ∈ es, okE n e) {f : Nat} (ih : ∀ (v p : Int) (st : Sr × Int), OkS n es st → inR n v → gI st.1.num v = 0 → (p = -1 ∨ (inR n p ∧ gI st.1.num p ≠ 0)) → zeros st.1.num ≤ f → PostS n es v p st (visit es f v p st))
    {st s : Sr × Int} {v p u : Int} {pre suf : List Int} (hnd : (nbS v es).Nodup) (hsp : nbS v es = pre ++ u :: suf) (hc0 : 0 ≤ st.2) (hv : inR n v) (hv0 : gI st.1.num v = 0) (hp : p = -1 ∨ (inR n p ∧ gI st.1.num p ≠ 0)) (hz : zeros st.1.num ≤ f + 1)
    (h : LoopS n es v p st s pre) : LoopS n es v p st (vstep (visit es f) v p s u) (pre ++ [u]) := by
  have hum : u ∈ nbS v es := by rw [hsp]; simp
  obtain ⟨hu, huv⟩ := nb_in ho hum
  have hprem : ∀ w ∈ pre, w ∈ nbS v es := fun w hw => by rw [hsp]; simp [hw]
  have hupre : u ∉ pre := by
    rw [hsp, List.nodup_append] at hnd
    exact fun hm => hnd.2.2 u hm u (by simp) rfl
  have hvs : gI s.1.num v ≠ 0 := by rw [h.vn]; omega
  unfold vstep
  by_cases hu0 : gI s.1.num u = 0
  · rw [if_pos hu0]
    have P := ih u v s h.ok hu hu0 (.inr ⟨hv, hvs⟩) (by have := h.zz; omega)
    generalize visit es f u v s = s' at P
    obtain ⟨P1, P2, P3, P4, P5, P6, P7, P8⟩ := P
    have lg := fun w hw => lower_get (x := gI s'.1.low u) (u := w) P1 hv hw
    have hvo := P3 v hv hvs
    refine ⟨P1.lower, ?_, fun w hw hw0 => ?_, ?_, ?_, fun w hw hw0 hw1 => ?_, fun w hw hwv hw0 hw1 => ?_, ?_, fun w hw => ?_, fun w hw hw0 hwp => ?_, ?_⟩
    · have := h.cc; show st.2 < s'.2; omega
    · obtain ⟨a1, a2, a3⟩ := h.old w hw hw0
      obtain ⟨b1, b2, b3⟩ := P3 w hw (by rw [a1]; exact hw0)
      refine ⟨b1.trans a1, b2.trans a2, ?_⟩
      rw [lg w hw, if_neg (fun e : v = w => hw0 (by rw [← e]; exact hv0))]
      exact b3.trans a3
    · exact hvo.1.trans h.vn
    · exact hvo.2.1.trans h.vp
    · show st.2 < gI s'.1.num w ∧ (w = v ∨ (inR n (gI s'.1.par w) ∧ gI st.1.num (gI s'.1.par w) = 0))
      by_cases hq : gI s.1.num w = 0
      · obtain ⟨c1, c2⟩ := P6 w hw hq hw1
        have hcc := h.cc
        refine ⟨by omega, .inr ?_⟩
        rcases c2 with rfl | ⟨c2, c3⟩
        · rw [P5]; exact ⟨hv, hv0⟩
        · refine ⟨c2, ?_⟩
          exact Classical.byContradiction fun hne => by
            have := (h.old _ c2 hne).1
            rw [c3] at this; exact hne this.symm
      · obtain ⟨b1, b2, b3⟩ := P3 w hw hq
        rw [b1, b2]
        exact h.new w hw hw0 hq
    · have fin' : FinS es s'.1 w := by
        by_cases hq : gI s.1.num w = 0
        · exact P7 w hw hq hw1
        · obtain ⟨b1, b2, b3⟩ := P3 w hw hq
          obtain ⟨f1, f2⟩ := h.fin w hw hwv hw0 hq
          have hall : ∀ x ∈ nbS w es, gI s'.1.num x = gI s.1.num x ∧ gI s'.1.par x = gI s.1.par x ∧ gI s'.1.low x = gI s.1.low x := fun x hx => P3 x (nb_in ho hx).1 (f1 x hx)
          refine ⟨fun x hx => by rw [(hall x hx).1]; exact f1 x hx, ?_⟩
          rw [b3, f2]
          unfold lowOf
          rw [b1]
          exact (lowOf_congr b2 _ _ fun x hx => ⟨(hall x hx).1, (hall x hx).2.1, fun _ => (hall x hx).2.2⟩).symm
      obtain ⟨f1, f2⟩ := fin'
      refine ⟨f1, ?_⟩
      rw [lg w hw, if_neg (fun e => hwv e.symm), f2]
      refine (lowOf_congr (s := s'.1) (s' := (lowerS s' v (gI s'.1.low u)).1) rfl _ _ fun x hx => ⟨rfl, rfl, fun hxp => ?_⟩).symm
      have hxr := (nb_in ho hx).1
      rw [lg x hxr, if_neg]
      rintro rfl
      rw [hvo.2.1, h.vp] at hxp
      rcases hp with rfl | hp
      · obtain ⟨h0, h1⟩ := hw; omega
      · rw [hxp] at hp; exact hp.2 hw0
    · have := h.zz; show zeros s'.1.num < _; omega
    · show gI s'.1.num w ≠ 0
      rcases List.mem_append.1 hw with hw | hw
      · have := P3 w (nb_in ho (hprem w hw)).1 (h.pf w hw)
        rw [this.1]; exact h.pf w hw
      · rw [List.mem_singleton.1 hw, P4]; have := h.ok.c0; omega
    · by_cases hq : gI s.1.num w = 0
      · rcases (P6 w hw hq hw0).2 with rfl | c
        · simp
        · have : gI s'.1.par w = v := hwp
          rw [this] at c
          exact absurd c.2 hvs
      · obtain ⟨b1, b2, b3⟩ := P3 w hw hq
        have hwp' : gI s'.1.par w = v := hwp
        rw [b2] at hwp'
        exact List.mem_append_left _ (h.kid w hw hq hwp')
    · rw [lg v hv, if_pos rfl, hvo.2.2, h.lv]
      have e1 : lowOf (lowerS s' v (gI s'.1.low u)).1 v pre = lowOf s.1 v pre := by
        unfold lowOf
        show List.foldl _ (gI s'.1.num v) pre = _
        rw [hvo.1]
        refine lowOf_congr (s := s.1) (s' := (lowerS s' v (gI s'.1.low u)).1) hvo.2.1 _ _ fun x hx => ?_
        have hxr := nb_in ho (hprem x hx)
        obtain ⟨b1, b2, b3⟩ := P3 x hxr.1 (h.pf x hx)
        refine ⟨b1, b2, fun _ => ?_⟩
        rw [lg x hxr.1, if_neg (fun e => hxr.2 e.symm), b3]
      have e2 : lowOf (lowerS s' v (gI s'.1.low u)).1 v (pre ++ [u]) = lstep (lowerS s' v (gI s'.1.low u)).1 v (lowOf s.1 v pre) u := by
        rw [← e1]
        unfold lowOf
        rw [List.foldl_append]; rfl
      rw [e2]
      have hle : lowOf s.1 v pre ≤ gI s.1.num v := lowOf_le _ _
      have hcv := h.ok.nn v hv
      unfold lstep
      have g1 : gI (lowerS s' v (gI s'.1.low u)).1.num u = s.2 + 1 := P4
      have g2 : gI (lowerS s' v (gI s'.1.low u)).1.par u = v := P5
      have g3 : gI (lowerS s' v (gI s'.1.low u)).1.low u = gI s'.1.low u := by rw [lg u hu, if_neg (fun e => huv e.symm)]
      rw [g1, g2, g3, if_neg (fun k => by omega : ¬ (u ≠ gI (lowerS s' v (gI s'.1.low u)).1.par v ∧ s.2 + 1 < lowOf s.1 v pre))]
      rw [Int.min_def]
      split <;> split <;> omega
  · rw [if_neg hu0]
    have hune : gI s.1.par u ≠ v := fun e => hupre (h.kid u hu hu0 e)
    by_cases hup : u = p
    · rw [if_pos hup]
      refine ⟨h.ok, h.cc, h.old, h.vn, h.vp, h.new, h.fin, h.zz, fun w hw => ?_, fun w hw hw0 hwp => List.mem_append_left _ (h.kid w hw hw0 hwp), ?_⟩
      · rcases List.mem_append.1 hw with hw | hw
        · exact h.pf w hw
        · rw [List.mem_singleton.1 hw]; exact hu0
      · rw [h.lv]
        unfold lowOf
        rw [List.foldl_append]
        show _ = lstep s.1 v _ u
        unfold lstep
        rw [h.vp]
        rw [if_neg (fun k => hune k.1), if_neg (fun k => k.1 hup)]
    · rw [if_neg hup]
      have lg := fun w hw => lower_get (x := gI s.1.num u) (u := w) h.ok hv hw
      refine ⟨h.ok.lower, h.cc, fun w hw hw0 => ?_, h.vn, h.vp, h.new, fun w hw hwv hw0 hw1 => ?_, h.zz, fun w hw => ?_, fun w hw hw0 hwp => List.mem_append_left _ (h.kid w hw hw0 hwp), ?_⟩
      · obtain ⟨a1, a2, a3⟩ := h.old w hw hw0
        refine ⟨a1, a2, ?_⟩
        rw [lg w hw, if_neg (fun e : v = w => hw0 (by rw [← e]; exact hv0))]
        exact a3
      · obtain ⟨f1, f2⟩ := h.fin w hw hwv hw0 hw1
        refine ⟨f1, ?_⟩
        rw [lg w hw, if_neg (fun e => hwv e.symm), f2]
        refine (lowOf_congr (s := s.1) (s' := (lowerS s v (gI s.1.num u)).1) rfl _ _ fun x hx => ⟨rfl, rfl, fun hxp => ?_⟩).symm
        have hxr := (nb_in ho hx).1
        rw [lg x hxr, if_neg]
        rintro rfl
        rw [h.vp] at hxp
        rcases hp with rfl | hp
        · obtain ⟨h0, h1⟩ := hw; omega
        · rw [hxp] at hp; exact hp.2 hw0
      · rcases List.mem_append.1 hw with hw | hw
        · exact h.pf w hw
        · rw [List.mem_singleton.1 hw]; exact hu0
      · rw [lg v hv, if_pos rfl, h.lv]
        have e1 : lowOf (lowerS s v (gI s.1.num u)).1 v pre = lowOf s.1 v pre := by
          unfold lowOf
          refine lowOf_congr (s := s.1) (s' := (lowerS s v (gI s.1.num u)).1) rfl _ _ fun x hx => ?_
          have hxr := nb_in ho (hprem x hx)
          refine ⟨rfl, rfl, fun _ => ?_⟩
          rw [lg x hxr.1, if_neg (fun e => hxr.2 e.symm)]
        have e2 : lowOf (lowerS s v (gI s.1.num u)).1 v (pre ++ [u]) = lstep (lowerS s v (gI s.1.num u)).1 v (lowOf s.1 v pre) u := by
          rw [← e1]
          unfold lowOf
          rw [List.foldl_append]; rfl
        rw [e2]
        unfold lstep
        have g1 : gI (lowerS s v (gI s.1.num u)).1.num u = gI s.1.num u := rfl
        have g2 : gI (lowerS s v (gI s.1.num u)).1.par u = gI s.1.par u := rfl
        have g3 : gI (lowerS s v (gI s.1.num u)).1.par v = p := h.vp
        rw [g1, g2, g3, if_neg (fun k => hune k.1)]
        rw [Int.min_def]
        split <;> split <;> omega
theorem fold_loop (ho : ∀ e ∈ es, okE n e) {f : Nat} (ih : ∀ (v p : Int) (st : Sr × Int), OkS n es st → inR n v → gI st.1.num v = 0 → (p = -1 ∨ (inR n p ∧ gI st.1.num p ≠ 0)) → zeros st.1.num ≤ f → PostS n es v p st (visit es f v p st))
    {st : Sr × Int} {v p : Int} (hnd : (nbS v es).Nodup) (hc0 : 0 ≤ st.2) (hv : inR n v) (hv0 : gI st.1.num v = 0) (hp : p = -1 ∨ (inR n p ∧ gI st.1.num p ≠ 0)) (hz : zeros st.1.num ≤ f + 1) :
    ∀ (suf pre : List Int) (s : Sr × Int), nbS v es = pre ++ suf → LoopS n es v p st s pre → LoopS n es v p st (suf.foldl (vstep (visit es f) v p) s) (nbS v es)
  | [], pre, s, hsp, h => by rw [hsp, List.append_nil]; exact h
  | u :: suf, pre, s, hsp, h => by
    have := step_loop ho ih hnd hsp hc0 hv hv0 hp hz h
    exact fold_loop ho ih hnd hc0 hv hv0 hp hz suf (pre ++ [u]) _ (by rw [hsp]; simp) this
theorem visit_post (ho : ∀ e ∈ es, okE n e) (hn : es.Nodup) : ∀ (f : Nat) (v p : Int) (st : Sr × Int), OkS n es st → inR n v → gI st.1.num v = 0 → (p = -1 ∨ (inR n p ∧ gI st.1.num p ≠ 0)) → zeros st.1.num ≤ f → PostS n es v p st (visit es f v p st)
  | 0, v, p, st, hs, hv, hv0, hp, hz => by
    have := zeros_set (l := st.1.num) (i := v.toNat) (v := 1) (by rw [hs.ln]; obtain ⟨h0, h1⟩ := hv; omega) hv0 (by omega)
    omega
  | f + 1, v, p, st, hs, hv, hv0, hp, hz => by
    have hnd : (nbS v es).Nodup := (List.mergeSort_perm _ _).nodup_iff.2 (nodup_nbL ho hn v)
    have L := fold_loop ho (visit_post ho hn f) hnd hs.c0 hv hv0 hp hz (nbS v es) [] _ rfl (enter_loop ho hs hv hv0 hp)
    rw [visit]
    generalize (nbS v es).foldl (vstep (visit es f) v p) (enterS st v p) = s at L
    refine ⟨L.ok, by have := L.cc; omega, L.old, L.vn, L.vp, L.new, fun u hu h0 h1 => ?_, L.zz⟩
    by_cases huv : u = v
    · subst huv
      exact ⟨L.pf, L.lv⟩
    · exact L.fin u hu huv h0 h1
end
/-- The search of a graph: from each node that is not found yet. -/
def seekS (n : Int) (es : List (Int × Int)) : Nat → Sr × Int
  | 0 => (⟨List.replicate n.toNat 0, List.replicate n.toNat 0, List.replicate n.toNat 0⟩, 0)
  | k + 1 => if gI (seekS n es k).1.num (k : Int) = 0 then visit es n.toNat (k : Int) (-1) (seekS n es k) else seekS n es k
def seek (n : Int) (es : List (Int × Int)) : Sr := (seekS n es n.toNat).1
theorem zeros_le (l : List Int) : zeros l ≤ l.length := List.length_filter_le _ _
theorem rep0 {n u : Int} (h : inR n u) : gI (List.replicate n.toNat 0) u = 0 := by
  unfold gI
  simp only [List.getD_eq_getElem?_getD, List.getElem?_replicate]
  split <;> rfl
theorem seek_inv {n : Int} {es : List (Int × Int)} (ho : ∀ e ∈ es, okE n e) (hn : es.Nodup) : ∀ k : Nat, (k : Int) ≤ n → OkS n es (seekS n es k) ∧ (∀ u, inR n u → gI (seekS n es k).1.num u ≠ 0 → FinS es (seekS n es k).1 u) ∧ ∀ u : Int, 0 ≤ u → u < k → gI (seekS n es k).1.num u ≠ 0
  | 0, _ => by
    refine ⟨⟨by simp [seekS], by simp [seekS], by simp [seekS], by simp [seekS], fun u hu => ?_, fun u hu h => ?_⟩, fun u hu h => ?_, fun u h0 h1 => by omega⟩
    · simp only [seekS]; rw [rep0 hu]; omega
    · simp only [seekS] at h; rw [rep0 hu] at h; exact absurd rfl h
    · simp only [seekS] at h; rw [rep0 hu] at h; exact absurd rfl h
  | k + 1, hk => by
    obtain ⟨h1, h2, h3⟩ := seek_inv ho hn k (by omega)
    rw [seekS]
    split
    · rename_i h0
      have P := visit_post ho hn n.toNat (k : Int) (-1) (seekS n es k) h1 ⟨by omega, by omega⟩ h0 (.inl rfl) (by have := zeros_le (seekS n es k).1.num; rw [h1.ln] at this; exact this)
      generalize visit es n.toNat (k : Int) (-1) (seekS n es k) = s at P
      refine ⟨P.ok, fun u hu hu1 => ?_, fun u hu0 hu1 => ?_⟩
      · by_cases hq : gI (seekS n es k).1.num u = 0
        · exact P.fin u hu hq hu1
        · obtain ⟨f1, f2⟩ := h2 u hu hq
          obtain ⟨b1, b2, b3⟩ := P.old u hu hq
          have hall : ∀ x ∈ nbS u es, gI s.1.num x = gI (seekS n es k).1.num x ∧ gI s.1.par x = gI (seekS n es k).1.par x ∧ gI s.1.low x = gI (seekS n es k).1.low x := fun x hx => P.old x (nb_in ho hx).1 (f1 x hx)
          refine ⟨fun x hx => by rw [(hall x hx).1]; exact f1 x hx, ?_⟩
          rw [b3, f2]
          unfold lowOf
          rw [b1]
          exact (lowOf_congr b2 _ _ fun x hx => ⟨(hall x hx).1, (hall x hx).2.1, fun _ => (hall x hx).2.2⟩).symm
      · by_cases hq : u = k
        · subst hq
          rw [P.vn]; have := h1.c0; omega
        · have := h3 u hu0 (by omega)
          rw [(P.old u ⟨hu0, by omega⟩ this).1]; exact this
    · rename_i h0
      refine ⟨h1, h2, fun u hu0 hu1 => ?_⟩
      by_cases hq : u = k
      · subst hq; exact h0
      · exact h3 u hu0 (by omega)
/-- The count and what is left are together as many as there are nodes. -/
theorem visit_cnt {n : Int} {es : List (Int × Int)} (ho : ∀ e ∈ es, okE n e) : ∀ (f : Nat) (v p : Int) (st : Sr × Int), st.1.num.length = n.toNat → 0 ≤ st.2 → inR n v → gI st.1.num v = 0 → zeros st.1.num ≤ f →
    (visit es f v p st).1.num.length = n.toNat ∧ st.2 ≤ (visit es f v p st).2 ∧ (visit es f v p st).2 + zeros (visit es f v p st).1.num = st.2 + zeros st.1.num
  | 0, v, p, st, hl, hc, hv, hv0, hz => by
    have := zeros_set (l := st.1.num) (i := v.toNat) (v := 1) (by rw [hl]; obtain ⟨h0, h1⟩ := hv; omega) hv0 (by omega)
    omega
  | f + 1, v, p, st, hl, hc, hv, hv0, hz => by
    have key : ∀ (vs : List Int) (s : Sr × Int), (∀ u ∈ vs, inR n u) → s.1.num.length = n.toNat → 0 ≤ s.2 → zeros s.1.num ≤ f →
        (vs.foldl (vstep (visit es f) v p) s).1.num.length = n.toNat ∧ s.2 ≤ (vs.foldl (vstep (visit es f) v p) s).2 ∧ (vs.foldl (vstep (visit es f) v p) s).2 + zeros (vs.foldl (vstep (visit es f) v p) s).1.num = s.2 + zeros s.1.num := by
      intro vs
      induction vs with
      | nil => exact fun s _ h1 h2 h3 => ⟨h1, Int.le_refl _, rfl⟩
      | cons u vs ih =>
        intro s hu h1 h2 h3
        rw [List.foldl_cons]
        have hst : (vstep (visit es f) v p s u).1.num.length = n.toNat ∧ s.2 ≤ (vstep (visit es f) v p s u).2 ∧ (vstep (visit es f) v p s u).2 + zeros (vstep (visit es f) v p s u).1.num = s.2 + zeros s.1.num := by
          unfold vstep
          split
          · rename_i h0
            exact visit_cnt ho f u v s h1 h2 (hu u (by simp)) h0 h3
          · split
            · exact ⟨h1, Int.le_refl _, rfl⟩
            · exact ⟨h1, Int.le_refl _, rfl⟩
        obtain ⟨k1, k2, k3⟩ := ih _ (fun w hw => hu w (List.mem_cons_of_mem _ hw)) hst.1 (by omega) (by omega)
        exact ⟨k1, by omega, by omega⟩
    have hzs := zeros_set (l := st.1.num) (i := v.toNat) (v := st.2 + 1) (by rw [hl]; obtain ⟨h0, h1⟩ := hv; omega) hv0 (by omega)
    have e1 : (enterS st v p).1.num = st.1.num.set v.toNat (st.2 + 1) := rfl
    have e2 : (enterS st v p).2 = st.2 + 1 := rfl
    obtain ⟨k1, k2, k3⟩ := key (nbS v es) (enterS st v p) (fun u hu => (nb_in ho hu).1) (by rw [e1]; simpa using hl) (by omega) (by rw [e1]; omega)
    rw [visit]
    rw [e1] at k3
    exact ⟨k1, by omega, by omega⟩
theorem seek_cnt {n : Int} {es : List (Int × Int)} (ho : ∀ e ∈ es, okE n e) (hn : es.Nodup) (h0 : 0 ≤ n) : ∀ k : Nat, (k : Int) ≤ n → (seekS n es k).2 + zeros (seekS n es k).1.num = n
  | 0, _ => by
    have : zeros (List.replicate n.toNat 0) = n.toNat := by simp [zeros]
    simp only [seekS, this]; omega
  | k + 1, hk => by
    have ih := seek_cnt ho hn h0 k (by omega)
    obtain ⟨h1, h2, h3⟩ := seek_inv ho hn k (by omega)
    rw [seekS]
    split
    · rename_i hq
      have := (visit_cnt ho n.toNat (k : Int) (-1) (seekS n es k) h1.ln h1.c0 ⟨by omega, by omega⟩ hq (by have := zeros_le (seekS n es k).1.num; rw [h1.ln] at this; exact this)).2.2
      omega
    · exact ih
end Go.Proofs.YtmocnnknnbalkaaGreatDoor.X
