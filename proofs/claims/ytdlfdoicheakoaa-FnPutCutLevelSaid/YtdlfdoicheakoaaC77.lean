/- What functions compute: an edge is looked for that takes the place of another one. -/
import Derived.Test.YtdlfdoicheakoaaKAI
set_option linter.unusedSimpArgs false
set_option linter.unusedVariables false
set_option maxHeartbeats 16000000
set_option maxRecDepth 100000
namespace Go.Proofs.Ytdlfdoicheakoaa.X
open Go Go.Proofs
/-- How many labels are a number. -/
def cntI (ls : List Int) (x : Int) : Int := ((ls.filter fun y => decide (y = x)).length : Int)
theorem cntI_len (ls : List Int) (x : Int) : 0 ≤ cntI ls x ∧ cntI ls x ≤ ls.length := by
  unfold cntI
  have := List.length_filter_le (fun y => decide (y = x)) ls
  omega
theorem cntI_snoc {ls : List Int} {x : Int} {i : Int} (h0 : 0 ≤ i) (h1 : i < ls.length) : cntI (ls.take (i + 1).toNat) x = cntI (ls.take i.toNat) x + if ls.getD i.toNat 0 = x then 1 else 0 := by
  unfold cntI
  rw [take_int 0 h0 h1, List.filter_append, List.length_append]
  generalize ls.getD i.toNat 0 = y
  by_cases h : y = x
  · simp [h]
  · simp [h]
theorem cntI_lab {n : Int} {es : List (Int × Int)} {x : Int} (hx : inN n x) : cntI (lab n es) (lbl es x) = szC n es x := by
  have h1 := cnts_lbl (es := es) hx
  rw [cntsL_get _ (lbl_spec hx).1] at h1
  exact h1
theorem c_replace1 (ls : List Int) (x : Int) (hl : ls.length ≤ 1000) : KP 93 [I x, .i (.eptr [.lst (ls.map encI)] 0)] [] = some (I (cntI ls x), [], []) := by
  refine xw_call (fn := Try.f93) rfl Try.func93 rfl ⟨Nat.le_of_ble_eq_true rfl, rfl, rfl⟩ ?_
  repeat'(first|(refine na ?_;constructor)|(refine ite_two ?_ ?_<;>intro _<;>first|(exfalso;omega)|skip)|refine ord_split (by kernel_rfl) ?_|((first|(refine nb ?_;constructor)|refine pn rfl ?_|refine pe rfl ?_|((first|refine at2 ?_|refine at_cond ?_);split<;>first|(exfalso;omega;done)|skip))<;>try simp(config:={maxSteps:=3000000})(disch:=first|assumption|omega|exact VG.okg (by assumption)|(simp only[List.length_set,List.length_append,List.length_cons,List.length_nil,List.length_replicate];omega))only[go_sem,simprocAttr,Try.results93]))
  refine xw_loopR (fun (i : Int) s => s.ρ 0 = I x ∧ s.ρ 4 = I (cntI (ls.take i.toNat) x) ∧ s.ρ 7 = LI ls ∧ s.ρ 8 = I (ls.length : Int) ∧ s.ρ 9 = I i ∧ 0 ≤ i ∧ i ≤ ls.length) (fun i => (ls.length - i).toNat) 0 ⟨rfl, rfl, rfl, rfl, rfl, by omega, by omega⟩ ?_
  rintro i ⟨ρ, m⟩ ⟨e0, e4, e7, e8, e9, g0, g1⟩
  simp only at e0 e4 e7 e8 e9 g0 g1
  have hcl := cntI_len (ls.take i.toNat) x
  rw [List.length_take] at hcl
  by_cases hi : i < ls.length
  rotate_left
  · rw [take_all (by omega)] at e4
    repeat'(first|(refine na ?_;constructor)|(refine ite_two ?_ ?_<;>intro _<;>first|(exfalso;omega)|skip)|refine ord_split (by kernel_rfl) ?_|((first|(refine nb ?_;constructor)|refine pn rfl ?_|refine pe rfl ?_|((first|refine at2 ?_|refine at_cond ?_);split<;>first|(exfalso;omega;done)|skip))<;>try simp(config:={maxSteps:=3000000})(disch:=first|assumption|omega|exact VG.okg (by assumption)|(simp only[List.length_set,List.length_append,List.length_cons,List.length_nil,List.length_replicate];omega))only[go_sem,simprocAttr,Try.results93, e0, e4, e7, e8, e9]))
  have hgi := getI ls i.toNat (by omega)
  have hsn := cntI_snoc (x := x) g0 hi
  generalize ls.getD i.toNat 0 = y at *
  generalize cntI (ls.take i.toNat) x = c at *
  by_cases hq : y = x
  · rw [if_pos hq] at hsn
    repeat'(first|(refine na ?_;constructor)|(refine ite_two ?_ ?_<;>intro _<;>first|(exfalso;omega)|skip)|refine ord_split (by kernel_rfl) ?_|((first|(refine nb ?_;constructor)|refine pn rfl ?_|refine pe rfl ?_|((first|refine at2 ?_|refine at_cond ?_);split<;>first|(exfalso;omega;done)|skip))<;>try simp(config:={maxSteps:=3000000})(disch:=first|assumption|omega|exact VG.okg (by assumption)|(simp only[List.length_set,List.length_append,List.length_cons,List.length_nil,List.length_replicate];omega))only[go_sem,simprocAttr,Try.results93, e0, e4, e7, e8, e9, hgi, hq]))
    exact ⟨i + 1, by rw [hsn], rfl, by omega, by omega, by omega⟩
  · rw [if_neg hq] at hsn
    repeat'(first|(refine na ?_;constructor)|(refine ite_two ?_ ?_<;>intro _<;>first|(exfalso;omega)|skip)|refine ord_split (by kernel_rfl) ?_|((first|(refine nb ?_;constructor)|refine pn rfl ?_|refine pe rfl ?_|((first|refine at2 ?_|refine at_cond ?_);split<;>first|(exfalso;omega;done)|skip))<;>try simp(config:={maxSteps:=3000000})(disch:=first|assumption|omega|exact VG.okg (by assumption)|(simp only[List.length_set,List.length_append,List.length_cons,List.length_nil,List.length_replicate];omega))only[go_sem,simprocAttr,Try.results93, e0, e4, e7, e8, e9, hgi, hq]))
    exact ⟨i + 1, by rw [hsn]; omega, rfl, by omega, by omega, by omega⟩
def mxT (f : Tl → Tl) (ts : List Tl) (i : Nat) : List Tl := (ts.take i).map f ++ ts.drop i
theorem mxT_len (f : Tl → Tl) (ts : List Tl) (i : Nat) : (mxT f ts i).length = ts.length := by
  unfold mxT
  rw [List.length_append, List.length_map, List.length_take, List.length_drop]; omega
theorem mxT_get {f : Tl → Tl} {ts : List Tl} {i : Nat} (h : i < ts.length) : (mxT f ts i).getD i dT = ts.getD i dT := by
  unfold mxT
  have hl : ((ts.take i).map f).length = i := by rw [List.length_map, List.length_take]; omega
  simp only [List.getD]
  rw [List.getElem?_append_right (by omega), hl, Nat.sub_self, List.getElem?_drop, Nat.add_zero]
theorem mxT_next {f : Tl → Tl} {ts : List Tl} {i : Nat} (h : i < ts.length) : mxT f ts (i + 1) = (mxT f ts i).set i (f (ts.getD i dT)) := by
  unfold mxT
  have hl : ((ts.take i).map f).length = i := by rw [List.length_map, List.length_take]; omega
  have hg : ts.getD i dT = ts[i] := by simp [List.getD, h]
  rw [List.set_append_right _ _ (by omega), hl, Nat.sub_self, List.drop_eq_getElem_cons h, List.set_cons_zero, List.take_add_one, List.getElem?_eq_getElem h, hg, Option.toList_some, List.map_append, List.append_assoc]
  rfl
theorem lvT_set (ts : List Tl) (i : Nat) (t : Tl) : lvT (ts.set i t) = (lvT ts).set i t.2.1 := by simp [lvT, List.map_set]
theorem set_self {α : Type} {l : List α} {i : Nat} {d : α} (h : i < l.length) : l.set i (l.getD i d) = l := by
  simp [List.getD, h]
theorem lvT_get {ts : List Tl} {i : Nat} (h : i < ts.length) : (lvT ts).getD i 0 = (ts.getD i dT).2.1 := by simp [lvT, h]
theorem trT_get {ts : List Tl} {i : Nat} (h : i < ts.length) : (trT ts).getD i false = (ts.getD i dT).2.2 := by simp [trT, h]
theorem get_app {α : Type} {l r : List α} {i : Nat} {d : α} (h : i < l.length) : (l ++ r).getD i d = l.getD i d := by simp [List.getD, List.getElem?_append_left h]
theorem set_app {α : Type} {l r : List α} {i : Nat} {x : α} (h : i < l.length) : (l ++ r).set i x = l.set i x ++ r := List.set_append_left _ _ h
theorem tail_getI {A x0 : List Int} {i : Nat} {v : Int} (h : i < A.length) (hv : A.getD i 0 = v) : ((A ++ x0).map encI)[i]? = some [.v (.int .i64 v)] := by
  have := getI (A ++ x0) i (by rw [List.length_append]; omega)
  rw [get_app h, hv] at this
  exact this
theorem tail_getT {A x0 : List Bool} {i : Nat} {v : Bool} (h : i < A.length) (hv : A.getD i false = v) : ((A ++ x0).map encT)[i]? = some [.v (.bool v)] := by
  have := getT (A ++ x0) i (by rw [List.length_append]; omega)
  rw [get_app h, hv] at this
  exact this
theorem lvT_mid {D r : List Tl} {t : Tl} : lvT (D ++ t :: r) = lvT D ++ t.2.1 :: lvT r := by simp [lvT]
theorem trT_mid {D r : List Tl} {t : Tl} : trT (D ++ t :: r) = trT D ++ t.2.2 :: trT r := by simp [trT]
theorem mid_set {α : Type} {D r : List α} {x v : α} {i : Nat} (h : D.length = i) : (D ++ x :: r).set i v = D ++ v :: r := by
  subst h
  rw [List.set_append_right _ _ (Nat.le_refl _), Nat.sub_self]; rfl
theorem mid_get {α : Type} {D r : List α} {x d : α} {i : Nat} (h : D.length = i) : (D ++ x :: r).getD i d = x := by
  subst h; simp
section
variable {S : Int → Prop} [DecidablePred S] {k : Int}
theorem up1_tr (t : Tl) : (up1 S k t).2.2 = t.2.2 := by unfold up1; split <;> rfl
theorem up1_es (t : Tl) : (up1 S k t).1 = t.1 := by unfold up1; split <;> rfl
theorem upc_snoc {ts : List Tl} {i : Int} (h0 : 0 ≤ i) (h1 : i < ts.length) : (((ts.take (i + 1).toNat).filter fun t => decide (t.2.2 = true ∧ t.2.1 = k ∧ S t.1.1 ∧ S t.1.2)).length : Int) = ((ts.take i.toNat).filter fun t => decide (t.2.2 = true ∧ t.2.1 = k ∧ S t.1.1 ∧ S t.1.2)).length + if (ts.getD i.toNat dT).2.2 = true ∧ (ts.getD i.toNat dT).2.1 = k ∧ S (ts.getD i.toNat dT).1.1 ∧ S (ts.getD i.toNat dT).1.2 then 1 else 0 := by
  rw [take_int dT h0 h1, List.filter_append, List.length_append]
  generalize ts.getD i.toNat dT = t
  by_cases h : t.2.2 = true ∧ t.2.1 = k ∧ S t.1.1 ∧ S t.1.2
  · rw [if_pos h, List.filter_cons, if_pos (by simpa using h)]; simp
  · rw [if_neg h, List.filter_cons, if_neg (by simpa using h)]; simp
theorem scanT_skip {t : Tl} {r : List Tl} (h : t.2.2 = true ∨ t.2.1 ≠ k ∨ (¬ S t.1.1 ∧ ¬ S t.1.2)) : scanT S k (t :: r) = (t :: (scanT S k r).1, (scanT S k r).2) := by rw [scanT, if_pos h]
theorem scanT_both {t : Tl} {r : List Tl} (h1 : t.2.2 = false) (h2 : t.2.1 = k) (h3 : S t.1.1 ∧ S t.1.2) : scanT S k (t :: r) = (raT t :: (scanT S k r).1, (scanT S k r).2.1 + 1, (scanT S k r).2.2) := by
  rw [scanT, if_neg (by simp [h1, h2]; exact fun h => absurd h3.1 h), if_pos h3]
theorem scanT_hit {t : Tl} {r : List Tl} (h1 : t.2.2 = false) (h2 : t.2.1 = k) (h3 : ¬ (S t.1.1 ∧ S t.1.2)) (h4 : ¬ (¬ S t.1.1 ∧ ¬ S t.1.2)) : scanT S k (t :: r) = ((t.1, t.2.1, true) :: r, 0, true) := by
  rw [scanT, if_neg (by rw [h1]; simp only [Bool.false_eq_true, false_or]; exact fun h => h.elim (fun h => h h2) h4), if_neg h3]
end
theorem flatP_q {n : Nat} {xs : List (Int × Int)} : flatP n (qP xs) = true := by unfold qP; split <;> cases n <;> rfl
theorem flatA_q {xs : List (Int × Int)} : (qA xs).all flatA = true := by
  unfold qA
  split
  · rfl
  · simp [flatA, encE, flatIV]
attribute [go_sem] flatP_q flatA_q
end Go.Proofs.Ytdlfdoicheakoaa.X
