/- What functions answer, and the plain laws behind it. -/
import Derived.Test.YtmocnnknnbalkaaGreatDoorKAM
import Derived.Test.YtmocnnknnbalkaaGreatDoorKAO
/- Search in depth: the tree that it leaves. -/
set_option linter.unusedVariables false
namespace Go.Proofs.YtmocnnknnbalkaaGreatDoor.X
open Go
/-- A node above another one, by parents. -/
inductive Anc (n : Int) (par : List Int) (a : Int) : Int → Prop
  | refl : Anc n par a a
  | up {u : Int} : inR n u → inR n (gI par u) → Anc n par a (gI par u) → Anc n par a u
theorem Anc.trans {n : Int} {par : List Int} {a b c : Int} (h1 : Anc n par a b) (h2 : Anc n par b c) : Anc n par a c := by
  induction h2 with
  | refl => exact h1
  | up hu hp _ ih => exact .up hu hp ih
structure TreeS (n : Int) (es : List (Int × Int)) (st : Sr × Int) : Prop where
  pa : ∀ u, inR n u → gI st.1.num u ≠ 0 → gI st.1.par u = -1 ∨ (inR n (gI st.1.par u) ∧ gI st.1.num (gI st.1.par u) ≠ 0 ∧ gI st.1.num (gI st.1.par u) < gI st.1.num u ∧ u ∈ nbS (gI st.1.par u) es)
  inj : ∀ u w, inR n u → inR n w → gI st.1.num u ≠ 0 → gI st.1.num u = gI st.1.num w → u = w
structure PostT (n : Int) (es : List (Int × Int)) (v : Int) (st st' : Sr × Int) : Prop where
  tr : TreeS n es st'
  d : ∀ u, inR n u → gI st.1.num u = 0 → gI st'.1.num u ≠ 0 → Anc n st'.1.par v u
  e : ∀ x, inR n x → gI st.1.num x = 0 → gI st'.1.num x ≠ 0 → ∀ w ∈ nbS x es, gI st'.1.num x < gI st'.1.num w → Anc n st'.1.par x w
structure LoopT (n : Int) (es : List (Int × Int)) (v : Int) (st s : Sr × Int) : Prop where
  tr : TreeS n es s
  d : ∀ u, inR n u → gI st.1.num u = 0 → gI s.1.num u ≠ 0 → Anc n s.1.par v u
  e : ∀ x, inR n x → x ≠ v → gI st.1.num x = 0 → gI s.1.num x ≠ 0 → ∀ w ∈ nbS x es, gI s.1.num x < gI s.1.num w → Anc n s.1.par x w
section
variable {n : Int} {es : List (Int × Int)}
theorem Anc.mono {s s' : Sr × Int} (hs : OkS n es s) (old : ∀ u, inR n u → gI s.1.num u ≠ 0 → gI s'.1.num u = gI s.1.num u ∧ gI s'.1.par u = gI s.1.par u ∧ gI s'.1.low u = gI s.1.low u) {a u : Int} (h : Anc n s.1.par a u) : gI s.1.num u ≠ 0 → Anc n s'.1.par a u := by
  induction h with
  | refl => exact fun _ => .refl
  | @up u hu hp _ ih =>
    intro h0
    have e := (old u hu h0).2.1
    have hq : gI s.1.num (gI s.1.par u) ≠ 0 := by
      rcases hs.pr u hu h0 with h | h
      · obtain ⟨h1, h2⟩ := hp; omega
      · exact h.2
    exact .up hu (by rw [e]; exact hp) (by rw [e]; exact ih hq)
theorem enter_tree (ho : ∀ e ∈ es, okE n e) {st : Sr × Int} {v p : Int} (hs : OkS n es st) (ht : TreeS n es st) (hv : inR n v) (hv0 : gI st.1.num v = 0) (hp : p = -1 ∨ (inR n p ∧ gI st.1.num p ≠ 0 ∧ v ∈ nbS p es)) : LoopT n es v st (enterS st v p) := by
  have gn : ∀ u, inR n u → gI (enterS st v p).1.num u = if v = u then st.2 + 1 else gI st.1.num u := fun u hu => gI_set hv.1 hu.1 (by rw [hs.ln]; obtain ⟨h0, h1⟩ := hu; omega)
  have gp : ∀ u, inR n u → gI (enterS st v p).1.par u = if v = u then p else gI st.1.par u := fun u hu => gI_set hv.1 hu.1 (by rw [hs.lp]; obtain ⟨h0, h1⟩ := hu; omega)
  have hc0 := hs.c0
  refine ⟨⟨fun u hu h => ?_, fun u w hu hw h0 he => ?_⟩, fun u hu h h' => ?_, fun x hx hxv h h' => ?_⟩
  · rw [gp u hu]
    by_cases he : v = u
    · subst he
      rw [if_pos rfl]
      refine hp.imp id fun hp => ⟨hp.1, ?_, ?_, hp.2.2⟩
      · rw [gn p hp.1]; split
        · omega
        · exact hp.2.1
      · rw [gn v hv, if_pos rfl, gn p hp.1, if_neg (fun e : v = p => hp.2.1 (e ▸ hv0))]
        have := (hs.nn p hp.1).2
        omega
    · rw [if_neg he]
      rw [gn u hu, if_neg he] at h
      refine (ht.pa u hu h).imp id fun hq => ⟨hq.1, ?_, ?_, hq.2.2.2⟩
      · rw [gn _ hq.1, if_neg (fun e : v = gI st.1.par u => hq.2.1 (e ▸ hv0))]; exact hq.2.1
      · rw [gn _ hq.1, if_neg (fun e : v = gI st.1.par u => hq.2.1 (e ▸ hv0)), gn u hu, if_neg he]; exact hq.2.2.1
  · rw [gn u hu] at h0 he
    rw [gn w hw] at he
    have h1 := hs.nn u hu
    have h2 := hs.nn w hw
    by_cases e1 : v = u
    · by_cases e2 : v = w
      · exact e1.symm.trans e2
      · rw [if_pos e1, if_neg e2] at he; omega
    · by_cases e2 : v = w
      · rw [if_neg e1, if_pos e2] at he; omega
      · rw [if_neg e1] at h0
        rw [if_neg e1, if_neg e2] at he
        exact ht.inj u w hu hw h0 he
  · rw [gn u hu] at h'
    by_cases he : v = u
    · subst he; exact .refl
    · rw [if_neg he] at h'; exact absurd h h'
  · rw [gn x hx, if_neg (fun e => hxv e.symm)] at h'
    exact absurd h h'
theorem step_tree (ho : ∀ e ∈ es, okE n e) {f : Nat} (ihS : ∀ (v p : Int) (st : Sr × Int), OkS n es st → inR n v → gI st.1.num v = 0 → (p = -1 ∨ (inR n p ∧ gI st.1.num p ≠ 0)) → zeros st.1.num ≤ f → PostS n es v p st (visit es f v p st))
    (ih : ∀ (v p : Int) (st : Sr × Int), OkS n es st → TreeS n es st → inR n v → gI st.1.num v = 0 → (p = -1 ∨ (inR n p ∧ gI st.1.num p ≠ 0 ∧ v ∈ nbS p es)) → zeros st.1.num ≤ f → PostT n es v st (visit es f v p st))
    {st s : Sr × Int} {v p u : Int} {pre : List Int} (hc0 : 0 ≤ st.2) (hv : inR n v) (hum : u ∈ nbS v es) (hz : zeros st.1.num ≤ f + 1) (h : LoopS n es v p st s pre) (t : LoopT n es v st s) : LoopT n es v st (vstep (visit es f) v p s u) := by
  obtain ⟨hu, huv⟩ := nb_in ho hum
  have hvs : gI s.1.num v ≠ 0 := by rw [h.vn]; omega
  unfold vstep
  by_cases hu0 : gI s.1.num u = 0
  · rw [if_pos hu0]
    have P := ihS u v s h.ok hu hu0 (.inr ⟨hv, hvs⟩) (by have := h.zz; omega)
    have T := ih u v s h.ok t.tr hu hu0 (.inr ⟨hv, hvs, hum⟩) (by have := h.zz; omega)
    generalize visit es f u v s = s' at P T
    have mono : ∀ {a w : Int}, Anc n s.1.par a w → gI s.1.num w ≠ 0 → Anc n s'.1.par a w := fun hA hw => hA.mono h.ok P.old hw
    have hvu : Anc n s'.1.par v u := .up hu (by rw [P.vp]; exact hv) (by rw [P.vp]; exact .refl)
    refine ⟨⟨T.tr.pa, T.tr.inj⟩, fun w hw h0 h1 => ?_, fun x hx hxv h0 h1 w hw hlt => ?_⟩
    · show Anc n s'.1.par v w
      by_cases hq : gI s.1.num w = 0
      · exact hvu.trans (T.d w hw hq h1)
      · exact mono (t.d w hw h0 hq) hq
    · show Anc n s'.1.par x w
      by_cases hq : gI s.1.num x = 0
      · exact T.e x hx hq h1 w hw hlt
      · have hf := (h.fin x hx hxv h0 hq).1 w hw
        have hwr := (nb_in ho hw).1
        refine mono (t.e x hx hxv h0 hq w hw ?_) hf
        rw [← (P.old x hx hq).1, ← (P.old w hwr hf).1]
        exact hlt
  · rw [if_neg hu0]
    split
    · exact t
    · exact ⟨⟨t.tr.pa, t.tr.inj⟩, t.d, t.e⟩
theorem fold_tree (ho : ∀ e ∈ es, okE n e) {f : Nat} (ihS : ∀ (v p : Int) (st : Sr × Int), OkS n es st → inR n v → gI st.1.num v = 0 → (p = -1 ∨ (inR n p ∧ gI st.1.num p ≠ 0)) → zeros st.1.num ≤ f → PostS n es v p st (visit es f v p st))
    (ih : ∀ (v p : Int) (st : Sr × Int), OkS n es st → TreeS n es st → inR n v → gI st.1.num v = 0 → (p = -1 ∨ (inR n p ∧ gI st.1.num p ≠ 0 ∧ v ∈ nbS p es)) → zeros st.1.num ≤ f → PostT n es v st (visit es f v p st))
    {st : Sr × Int} {v p : Int} (hnd : (nbS v es).Nodup) (hc0 : 0 ≤ st.2) (hv : inR n v) (hv0 : gI st.1.num v = 0) (hp : p = -1 ∨ (inR n p ∧ gI st.1.num p ≠ 0)) (hz : zeros st.1.num ≤ f + 1) :
    ∀ (suf pre : List Int) (s : Sr × Int), nbS v es = pre ++ suf → LoopS n es v p st s pre → LoopT n es v st s → LoopT n es v st (suf.foldl (vstep (visit es f) v p) s)
  | [], pre, s, hsp, h, t => t
  | u :: suf, pre, s, hsp, h, t => by
    have h' := step_loop ho ihS hnd hsp hc0 hv hv0 hp hz h
    have hum : u ∈ nbS v es := by rw [hsp]; simp
    have t' := step_tree ho ihS ih hc0 hv hum hz h t
    exact fold_tree ho ihS ih hnd hc0 hv hv0 hp hz suf (pre ++ [u]) _ (by rw [hsp]; simp) h' t'
theorem visit_tree (ho : ∀ e ∈ es, okE n e) (hn : es.Nodup) : ∀ (f : Nat) (v p : Int) (st : Sr × Int), OkS n es st → TreeS n es st → inR n v → gI st.1.num v = 0 → (p = -1 ∨ (inR n p ∧ gI st.1.num p ≠ 0 ∧ v ∈ nbS p es)) → zeros st.1.num ≤ f → PostT n es v st (visit es f v p st)
  | 0, v, p, st, hs, ht, hv, hv0, hp, hz => by
    have := zeros_set (l := st.1.num) (i := v.toNat) (v := 1) (by rw [hs.ln]; obtain ⟨h0, h1⟩ := hv; omega) hv0 (by omega)
    omega
  | f + 1, v, p, st, hs, ht, hv, hv0, hp, hz => by
    have hp' : p = -1 ∨ (inR n p ∧ gI st.1.num p ≠ 0) := hp.imp id fun h => ⟨h.1, h.2.1⟩
    have hnd : (nbS v es).Nodup := (List.mergeSort_perm _ _).nodup_iff.2 (nodup_nbL ho hn v)
    have L := fold_loop ho (visit_post ho hn f) hnd hs.c0 hv hv0 hp' hz (nbS v es) [] _ rfl (enter_loop ho hs hv hv0 hp')
    have T := fold_tree ho (visit_post ho hn f) (visit_tree ho hn f) hnd hs.c0 hv hv0 hp' hz (nbS v es) [] _ rfl (enter_loop ho hs hv hv0 hp') (enter_tree ho hs ht hv hv0 hp)
    have hfin : visit es (f + 1) v p st = (nbS v es).foldl (vstep (visit es f) v p) (enterS st v p) := rfl
    rw [hfin]
    generalize (nbS v es).foldl (vstep (visit es f) v p) (enterS st v p) = s at L T
    refine ⟨T.tr, T.d, fun x hx h0 h1 w hw hlt => ?_⟩
    by_cases hxv : x = v
    · subst hxv
      have hwr := (nb_in ho hw).1
      refine T.d w hwr ?_ (L.pf w hw)
      refine Classical.byContradiction fun hne => ?_
      have a1 := (L.old w hwr hne).1
      have a2 := (hs.nn w hwr).2
      have a3 := L.vn
      omega
    · exact T.e x hx hxv h0 h1 w hw hlt
end
theorem seek_tree {n : Int} {es : List (Int × Int)} (ho : ∀ e ∈ es, okE n e) (hn : es.Nodup) : ∀ k : Nat, (k : Int) ≤ n → TreeS n es (seekS n es k) ∧ ∀ x, inR n x → gI (seekS n es k).1.num x ≠ 0 → ∀ w ∈ nbS x es, gI (seekS n es k).1.num x < gI (seekS n es k).1.num w → Anc n (seekS n es k).1.par x w
  | 0, _ => by
    have h0 : ∀ u, inR n u → gI (seekS n es 0).1.num u = 0 := fun u hu => rep0 hu
    exact ⟨⟨fun u hu h => absurd (h0 u hu) h, fun u w hu hw h => absurd (h0 u hu) h⟩, fun x hx h => absurd (h0 x hx) h⟩
  | k + 1, hk => by
    obtain ⟨ht, he⟩ := seek_tree ho hn k (by omega)
    obtain ⟨hs, hf, -⟩ := seek_inv ho hn k (by omega)
    have hnext : seekS n es (k + 1) = if gI (seekS n es k).1.num (k : Int) = 0 then visit es n.toNat (k : Int) (-1) (seekS n es k) else seekS n es k := rfl
    rw [hnext]
    split
    · rename_i h0
      have hkr : inR n (k : Int) := ⟨by omega, by omega⟩
      have hz : zeros (seekS n es k).1.num ≤ n.toNat := by have := zeros_le (seekS n es k).1.num; have := hs.ln; omega
      have P := visit_post ho hn n.toNat (k : Int) (-1) (seekS n es k) hs hkr h0 (.inl rfl) hz
      have T := visit_tree ho hn n.toNat (k : Int) (-1) (seekS n es k) hs ht hkr h0 (.inl rfl) hz
      generalize visit es n.toNat (k : Int) (-1) (seekS n es k) = s' at P T
      refine ⟨T.tr, fun x hx hx0 w hw hlt => ?_⟩
      by_cases hq : gI (seekS n es k).1.num x = 0
      · exact T.e x hx hq hx0 w hw hlt
      · have hwr := (nb_in ho hw).1
        have hwn := (hf x hx hq).1 w hw
        refine (he x hx hq w hw ?_).mono hs P.old hwn
        rw [← (P.old x hx hq).1, ← (P.old w hwr hwn).1]
        exact hlt
    · exact ⟨ht, he⟩
end Go.Proofs.YtmocnnknnbalkaaGreatDoor.X

/- Cut nodes by low points: plain law. -/
set_option linter.unusedVariables false
namespace Go.Proofs.YtmocnnknnbalkaaGreatDoor.X
open Go
/-- What a search in depth leaves. -/
structure Dfs (n : Int) (es : List (Int × Int)) (S : Sr) : Prop where
  bd : ∃ N : Int, ∀ u, inR n u → gI S.num u ≤ N
  pa : ∀ u, inR n u → gI S.par u = -1 ∨ (inR n (gI S.par u) ∧ gI S.num (gI S.par u) < gI S.num u ∧ u ∈ nbS (gI S.par u) es)
  inj : ∀ u w, inR n u → inR n w → gI S.num u = gI S.num w → u = w
  an : ∀ x, inR n x → ∀ w ∈ nbS x es, gI S.num x < gI S.num w → Anc n S.par x w
  lo : ∀ u, inR n u → gI S.low u = lowOf S u (nbS u es)
theorem seek_dfs {n : Int} {es : List (Int × Int)} (ho : ∀ e ∈ es, okE n e) (hn : es.Nodup) (h0 : 0 ≤ n) : Dfs n es (seek n es) := by
  obtain ⟨h1, h2, h3⟩ := seek_inv ho hn n.toNat (by omega)
  obtain ⟨ht, he⟩ := seek_tree ho hn n.toNat (by omega)
  have hz : ∀ u, inR n u → gI (seekS n es n.toNat).1.num u ≠ 0 := fun u hu => h3 u hu.1 (by obtain ⟨a, b⟩ := hu; omega)
  exact ⟨⟨_, fun u hu => (h1.nn u hu).2⟩, fun u hu => (ht.pa u hu (hz u hu)).imp id fun h => ⟨h.1, h.2.2.1, h.2.2.2⟩, fun u w hu hw h => ht.inj u w hu hw (hz u hu) h, fun x hx => he x hx (hz x hx), fun u hu => (h2 u hu (hz u hu)).2⟩
namespace Dfs
variable {n : Int} {es : List (Int × Int)} {S : Sr}
theorem num_le (D : Dfs n es S) {a u : Int} (h : Anc n S.par a u) : gI S.num a ≤ gI S.num u := by
  induction h with
  | refl => exact Int.le_refl _
  | @up u hu hp _ ih =>
    rcases D.pa u hu with h | h
    · obtain ⟨h1, h2⟩ := hp; omega
    · omega
theorem above (D : Dfs n es S) {a u : Int} (h : Anc n S.par a u) (hne : a ≠ u) : inR n (gI S.par u) ∧ Anc n S.par a (gI S.par u) := by
  cases h with
  | refl => exact absurd rfl hne
  | up hu hp h => exact ⟨hp, h⟩
theorem comp (D : Dfs n es S) {a b u : Int} (ha : Anc n S.par a u) (hb : Anc n S.par b u) : Anc n S.par a b ∨ Anc n S.par b a := by
  induction ha with
  | refl => exact .inr hb
  | up hu hp h ih =>
    cases hb with
    | refl => exact .inl (.up hu hp h)
    | up _ _ hb => exact ih hb
theorem kid (D : Dfs n es S) {v z : Int} (h : Anc n S.par v z) (hne : z ≠ v) (hv : inR n v) : ∃ i, inR n i ∧ gI S.par i = v ∧ Anc n S.par i z := by
  induction h with
  | refl => exact absurd rfl hne
  | @up u hu hp h ih =>
    by_cases e : gI S.par u = v
    · exact ⟨u, hu, e, .refl⟩
    · obtain ⟨i, h1, h2, h3⟩ := ih e
      exact ⟨i, h1, h2, .up hu hp h3⟩
end Dfs
end Go.Proofs.YtmocnnknnbalkaaGreatDoor.X
