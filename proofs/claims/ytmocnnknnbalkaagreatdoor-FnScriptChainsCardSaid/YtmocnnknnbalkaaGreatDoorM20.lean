/- Chains: plain law. -/
import Derived.Test.YtmocnnknnbalkaaGreatDoorKAP
set_option linter.unusedVariables false
namespace Go.Proofs.YtmocnnknnbalkaaGreatDoor.X
open Go
theorem seek_num {n : Int} {es : List (Int × Int)} (ho : ∀ e ∈ es, okE n e) (hn : es.Nodup) (h0 : 0 ≤ n) {u : Int} (hu : inR n u) : 1 ≤ gI (seek n es).num u ∧ gI (seek n es).num u ≤ n := by
  obtain ⟨h1, h2, h3⟩ := seek_inv ho hn n.toNat (by omega)
  have hz := h3 u hu.1 (by obtain ⟨a, b⟩ := hu; omega)
  have hb := h1.nn u hu
  have hc := seek_cnt ho hn h0 n.toNat (by omega)
  have hd : seek n es = (seekS n es n.toNat).1 := rfl
  rw [hd]
  omega
theorem all_in {l m : List Int} (hn : l.Nodup) (hs : ∀ x ∈ l, x ∈ m) (hl : m.length ≤ l.length) {x : Int} (hx : x ∈ m) : x ∈ l := by
  refine Classical.byContradiction fun h => ?_
  have := len_le_of_sub (l := x :: l) (m := m) (List.nodup_cons.2 ⟨h, hn⟩) fun y hy => by
    rcases List.mem_cons.1 hy with rfl | hy
    · exact hx
    · exact hs y hy
  simp at this; omega
def ordL (n : Int) (num : List Int) : List Int := (iota n).foldl (fun acc i => acc.set (gI num i - 1).toNat i) (List.replicate n.toNat 0)
theorem set_fold {num : List Int} {k : Nat} {i0 : Int} : ∀ (vs acc : List Int), (∀ i ∈ vs, (gI num i - 1).toNat = k → i = i0) → ((i0 ∈ vs ∧ (gI num i0 - 1).toNat = k) ∨ acc.getD k 0 = i0) → k < acc.length → (vs.foldl (fun acc i => acc.set (gI num i - 1).toNat i) acc).getD k 0 = i0
  | [], acc, _, h, _ => by
    rcases h with h | h
    · simp at h
    · exact h
  | v :: vs, acc, h1, h, hk => by
    rw [List.foldl_cons]
    refine set_fold vs _ (fun i hi => h1 i (List.mem_cons_of_mem _ hi)) ?_ (by rw [List.length_set]; exact hk)
    by_cases c : (gI num v - 1).toNat = k
    · refine .inr ?_
      rw [getD_set hk, if_pos c]
      exact h1 v (by simp) c
    · rw [getD_set hk, if_neg c]
      rcases h with ⟨h, h2⟩ | h
      · refine .inl ⟨?_, h2⟩
        rcases List.mem_cons.1 h with rfl | h
        · exact absurd h2 c
        · exact h
      · exact .inr h
theorem ord_len (n : Int) (num : List Int) : (ordL n num).length = n.toNat := by
  have : ∀ (vs acc : List Int), (vs.foldl (fun acc i => acc.set (gI num i - 1).toNat i) acc).length = acc.length := by
    intro vs
    induction vs with
    | nil => intro acc; rfl
    | cons v vs ih => intro acc; rw [List.foldl_cons, ih, List.length_set]
  unfold ordL
  rw [this, List.length_replicate]
theorem ord_at {n : Int} {num : List Int} (h1 : ∀ u, inR n u → 1 ≤ gI num u ∧ gI num u ≤ n) (h2 : ∀ u w, inR n u → inR n w → gI num u = gI num w → u = w) {k : Nat} (hk : k < n.toNat) : ∃ i, inR n i ∧ gI num i = k + 1 ∧ (ordL n num).getD k 0 = i := by
  have hnd : ((iota n).map fun i => gI num i - 1).Nodup := nodup_map ((sorted_iota n).imp fun h => by omega) fun x hx y hy h => h2 x y (mem_iota.1 hx) (mem_iota.1 hy) (by omega)
  have hm : (k : Int) ∈ (iota n).map fun i => gI num i - 1 := by
    refine all_in (m := iota n) hnd (fun x hx => ?_) (by simp) (mem_iota.2 (by omega))
    obtain ⟨i, hi, rfl⟩ := List.mem_map.1 hx
    have := h1 i (mem_iota.1 hi)
    exact mem_iota.2 (by omega)
  obtain ⟨i, hi, he⟩ := List.mem_map.1 hm
  refine ⟨i, mem_iota.1 hi, by omega, ?_⟩
  unfold ordL
  refine set_fold _ _ (fun j hj hjk => ?_) (.inl ⟨hi, by omega⟩) (by simpa using hk)
  have := h1 j (mem_iota.1 hj)
  exact h2 j i (mem_iota.1 hj) (mem_iota.1 hi) (by omega)
theorem mem_ord {n : Int} {num : List Int} (h1 : ∀ u, inR n u → 1 ≤ gI num u ∧ gI num u ≤ n) (h2 : ∀ u w, inR n u → inR n w → gI num u = gI num w → u = w) {u : Int} : u ∈ ordL n num ↔ inR n u := by
  constructor
  · intro h
    obtain ⟨k, hk, he⟩ := List.mem_iff_getElem.1 h
    have hk' := hk
    rw [ord_len] at hk'
    obtain ⟨a, a1, a2, a3⟩ := ord_at h1 h2 hk'
    have e1 : (ordL n num)[k] = a := by rw [← a3]; simp [List.getD, ord_len, hk']
    rw [← he, e1]; exact a1
  · intro h
    have hb := h1 u h
    obtain ⟨a, a1, a2, a3⟩ := ord_at h1 h2 (k := (gI num u - 1).toNat) (by omega)
    have : a = u := h2 a u a1 h (by omega)
    rw [← this, ← a3]
    exact getD_mem (by rw [ord_len]; omega)
def bkOf (es : List (Int × Int)) (S : Sr) (u : Int) : List (Int × Int) := ((nbS u es).filter fun w => decide (gI S.num u < gI S.num w) && !decide (gI S.par w = u)).map fun w => (u, w)
def backsL (n : Int) (es : List (Int × Int)) (S : Sr) : List (Int × Int) := (ordL n S.num).flatMap (bkOf es S)
theorem mem_bkOf {es : List (Int × Int)} {S : Sr} {u : Int} {b : Int × Int} : b ∈ bkOf es S u ↔ b.1 = u ∧ b.2 ∈ nbS u es ∧ gI S.num u < gI S.num b.2 ∧ gI S.par b.2 ≠ u := by
  unfold bkOf
  rw [List.mem_map]
  simp only [List.mem_filter, Bool.and_eq_true, decide_eq_true_eq, Bool.not_eq_true', decide_eq_false_iff_not]
  constructor
  · rintro ⟨w, ⟨h1, h2, h3⟩, rfl⟩; exact ⟨rfl, h1, h2, h3⟩
  · rintro ⟨h1, h2, h3, h4⟩; exact ⟨b.2, ⟨h2, h3, h4⟩, by rw [← h1]⟩
def gB (mk : List Bool) (x : Int) : Bool := mk.getD x.toNat false
def unm (mk : List Bool) : Nat := (mk.filter fun b => !b).length
theorem unm_set : ∀ {mk : List Bool} {i : Nat}, i < mk.length → mk.getD i false = false → unm (mk.set i true) + 1 = unm mk
  | [], i, h, _ => by simp at h
  | x :: l, 0, h, h1 => by
    have : x = false := by simpa using h1
    subst this
    simp [unm]
  | x :: l, i + 1, h, h1 => by
    have ih := unm_set (mk := l) (i := i) (by simpa using h) (by simpa using h1)
    unfold unm at ih ⊢
    simp only [List.set_cons_succ, List.filter_cons]
    split <;> (try simp only [List.length_cons]) <;> omega
theorem gB_set {n : Int} {mk : List Bool} {x y : Int} {b : Bool} (hl : mk.length = n.toNat) (hx : inR n x) (hy : inR n y) : gB (mk.set x.toNat b) y = if x = y then b else gB mk y := by
  obtain ⟨x0, x1⟩ := hx
  obtain ⟨y0, y1⟩ := hy
  unfold gB
  rw [List.getD_eq_getElem?_getD, List.getElem?_set]
  by_cases h : x = y
  · subst h; rw [if_pos rfl, if_pos (by omega), if_pos rfl]; rfl
  · rw [if_neg (by omega), if_neg h, ← List.getD_eq_getElem?_getD]
/-- On from a node, up to one that is marked. -/
def chW (par : List Int) : Nat → List Bool → Int → List Int → List Bool × List Int
  | 0, mk, _, acc => (mk, acc)
  | f + 1, mk, l, acc => if gB mk l = true then (mk, acc) else chW par f (mk.set l.toNat true) (gI par l) (acc ++ [gI par l])
theorem chW_stop {par : List Int} {f : Nat} {mk : List Bool} {l : Int} {acc : List Int} (h : gB mk l = true) : chW par f mk l acc = (mk, acc) := by
  cases f with
  | zero => rfl
  | succ f => rw [chW, if_pos h]
theorem chW_go {par : List Int} {f : Nat} {mk : List Bool} {l : Int} {acc : List Int} (h : gB mk l = false) (hf : 0 < f) : chW par f mk l acc = chW par (f - 1) (mk.set l.toNat true) (gI par l) (acc ++ [gI par l]) := by
  cases f with
  | zero => omega
  | succ f => rw [chW, if_neg (by simp [h])]; rfl
def chOne (n : Int) (par : List Int) (mk : List Bool) (b : Int × Int) : List Bool × List Int := chW par n.toNat (mk.set b.1.toNat true) b.2 [b.1, b.2]
def chStep (n : Int) (par : List Int) (st : List Bool × List (List Int)) (b : Int × Int) : List Bool × List (List Int) := ((chOne n par st.1 b).1, st.2 ++ [(chOne n par st.1 b).2])
def chFold (n : Int) (par : List Int) (bs : List (Int × Int)) : List Bool × List (List Int) := bs.foldl (chStep n par) (List.replicate n.toNat false, [])
theorem chFold_snoc {n : Int} {par : List Int} {bs : List (Int × Int)} {b : Int × Int} : chFold n par (bs ++ [b]) = chStep n par (chFold n par bs) b := by
  unfold chFold
  rw [List.foldl_append]; rfl
theorem take_nat {α : Type} {l : List α} {j : Nat} (d : α) (h : j < l.length) : l.take (j + 1) = l.take j ++ [l.getD j d] := by
  rw [List.take_add_one, List.getD_eq_getElem?_getD, List.getElem?_eq_getElem h]; rfl
theorem chFold_out {n : Int} {par : List Int} {bs : List (Int × Int)} : ∀ j, j ≤ bs.length → (chFold n par (bs.take j)).2 = (List.range j).map fun i => (chOne n par (chFold n par (bs.take i)).1 (bs.getD i (0, 0))).2
  | 0, _ => rfl
  | j + 1, h => by
    rw [take_nat (0, 0) (by omega), chFold_snoc, List.range_succ, List.map_append, ← chFold_out j (by omega)]
    rfl
section
variable {n : Int} {es : List (Int × Int)} {S : Sr}
theorem anc_conn (ho : ∀ e ∈ es, okE n e) (D : Dfs n es S) {a u : Int} (h : Anc n S.par a u) : Conn es a u := by
  induction h with
  | refl => exact .refl _
  | @up u hu hp h ih =>
    rcases D.pa u hu with h2 | h2
    · obtain ⟨h3, h4⟩ := hp; omega
    · exact ih.trans (.of ((mem_nbS ho).1 h2.2.2))
theorem anc_anti (D : Dfs n es S) {a b : Int} (h1 : Anc n S.par a b) (h2 : Anc n S.par b a) (ha : inR n a) (hb : inR n b) : a = b := by
  have := D.num_le h1
  have := D.num_le h2
  exact D.inj a b ha hb (by omega)
theorem par_lt (D : Dfs n es S) {u : Int} (hu : inR n u) (hp : inR n (gI S.par u)) : gI S.num (gI S.par u) < gI S.num u := by
  rcases D.pa u hu with h | h
  · obtain ⟨h1, h2⟩ := hp; omega
  · exact h.2.1
theorem chW_spec (D : Dfs n es S) {u : Int} : ∀ (f : Nat) (mk : List Bool) (l : Int) (acc : List Int), mk.length = n.toNat → inR n l → inR n u → gB mk u = true → Anc n S.par u l → unm mk ≤ f → 0 < acc.length → acc.getD (acc.length - 1) 0 = l →
    ∃ z, inR n z ∧ gB mk z = true ∧ Anc n S.par z l ∧ Anc n S.par u z ∧ (∀ x, inR n x → Anc n S.par x l → Anc n S.par z x → x ≠ z → gB mk x = false) ∧
      (∀ x, inR n x → (gB (chW S.par f mk l acc).1 x = true ↔ gB mk x = true ∨ (Anc n S.par z x ∧ Anc n S.par x l ∧ x ≠ z))) ∧
      (chW S.par f mk l acc).2.getD ((chW S.par f mk l acc).2.length - 1) 0 = z ∧ (chW S.par f mk l acc).2.getD 0 0 = acc.getD 0 0 ∧ (chW S.par f mk l acc).1.length = n.toNat ∧
      0 < (chW S.par f mk l acc).2.length ∧ (chW S.par f mk l acc).2.length ≤ acc.length + f := by
  intro f
  induction f with
  | zero =>
    intro mk l acc hl hlr hur hu ha hf hacc hlast
    have hm : gB mk l = true := Classical.byContradiction fun h => by
      have := unm_set (mk := mk) (i := l.toNat) (by obtain ⟨a, b⟩ := hlr; omega) (by simpa [gB] using h)
      omega
    rw [chW_stop hm]
    refine ⟨l, hlr, hm, .refl, ha, fun x hx h1 h2 h3 => absurd (anc_anti D h1 h2 hx hlr) h3, fun x hx => ⟨.inl, fun h => h.elim id fun h => absurd (anc_anti D h.2.1 h.1 hx hlr) h.2.2⟩, hlast, rfl, hl, hacc, Nat.le_refl _⟩
  | succ f ih =>
    intro mk l acc hl hlr hur hu ha hf hacc hlast
    by_cases hm : gB mk l = true
    · rw [chW_stop hm]
      refine ⟨l, hlr, hm, .refl, ha, fun x hx h1 h2 h3 => absurd (anc_anti D h1 h2 hx hlr) h3, fun x hx => ⟨.inl, fun h => h.elim id fun h => absurd (anc_anti D h.2.1 h.1 hx hlr) h.2.2⟩, hlast, rfl, hl, hacc, Nat.le_add_right _ _⟩
    · have hm' : gB mk l = false := by simpa using hm
      have hne : u ≠ l := fun e => hm (e ▸ hu)
      obtain ⟨hp, ha'⟩ := D.above ha hne
      have hlt := par_lt D hlr hp
      have hun := unm_set (mk := mk) (i := l.toNat) (by obtain ⟨a, b⟩ := hlr; omega) (by simpa [gB] using hm')
      have hset := fun x (hx : inR n x) => gB_set (b := true) hl hlr hx
      rw [chW_go hm' (by omega), Nat.add_sub_cancel]
      obtain ⟨z, z1, z2, z3, z4, z5, z6, z7, z8, z9, z10, z11⟩ := ih (mk.set l.toNat true) (gI S.par l) (acc ++ [gI S.par l]) (by rw [List.length_set]; exact hl) hp hur (by rw [hset u hur, if_neg (Ne.symm hne)]; exact hu) ha' (by omega) (by simp) (by simp)
      have hzl : z ≠ l := fun e => by have := D.num_le z3; rw [e] at this; omega
      refine ⟨z, z1, ?_, .up hlr hp z3, z4, fun x hx h1 h2 h3 => ?_, fun x hx => ?_, z7, ?_, z9, z10, ?_⟩
      · rw [hset z z1, if_neg (Ne.symm hzl)] at z2; exact z2
      · by_cases e : x = l
        · rw [e]; exact hm'
        · have := z5 x hx (D.above h1 e).2 h2 h3
          rw [hset x hx, if_neg (Ne.symm e)] at this; exact this
      · rw [z6 x hx, hset x hx]
        constructor
        · rintro (h | ⟨h1, h2, h3⟩)
          · by_cases e : l = x
            · exact .inr ⟨e ▸ .up hlr hp z3, e ▸ .refl, fun q => hzl (q.symm.trans e.symm)⟩
            · rw [if_neg e] at h; exact .inl h
          · exact .inr ⟨h1, .up hlr hp h2, h3⟩
        · rintro (h | ⟨h1, h2, h3⟩)
          · refine .inl ?_
            by_cases e : l = x
            · rw [if_pos e]
            · rw [if_neg e]; exact h
          · by_cases e : x = l
            · exact .inl (by rw [if_pos e.symm])
            · exact .inr ⟨h1, (D.above h2 e).2, h3⟩
      · rw [z8]
        match acc, hacc with
        | a :: acc, _ => rfl
      · rw [List.length_append, List.length_singleton] at z11; omega
/-- An edge back. -/
structure Bk (n : Int) (es : List (Int × Int)) (S : Sr) (b : Int × Int) : Prop where
  a : inR n b.1
  z : inR n b.2
  nb : b.2 ∈ nbS b.1 es
  lt : gI S.num b.1 < gI S.num b.2
  np : gI S.par b.2 ≠ b.1
theorem Bk.anc (D : Dfs n es S) {b : Int × Int} (h : Bk n es S b) : Anc n S.par b.1 b.2 := D.an b.1 h.a b.2 h.nb h.lt
/-- What is marked when edges have been gone back along. -/
structure CI (n : Int) (es : List (Int × Int)) (S : Sr) (bs : List (Int × Int)) (mk : List Bool) : Prop where
  ln : mk.length = n.toNat
  cn : ∀ x, inR n x → gB mk x = true → ∃ b ∈ bs, Conn es b.1 x
  up : ∀ x, inR n x → gB mk x = true → (∃ b ∈ bs, b.1 = x) ∨ (inR n (gI S.par x) ∧ gB mk (gI S.par x) = true)
  en : ∀ b ∈ bs, inR n b.2 ∧ gB mk b.2 = true
theorem unm_le (mk : List Bool) : unm mk ≤ mk.length := List.length_filter_le _ _
theorem CI.spec (D : Dfs n es S) {bs : List (Int × Int)} {mk : List Bool} (c : CI n es S bs mk) {b : Int × Int} (hb : Bk n es S b) :
    ∃ z, inR n z ∧ (z = b.1 ∨ gB mk z = true) ∧ Anc n S.par z b.2 ∧ Anc n S.par b.1 z ∧ (∀ x, inR n x → Anc n S.par x b.2 → Anc n S.par z x → x ≠ z → gB mk x = false) ∧
      (∀ x, inR n x → (gB (chOne n S.par mk b).1 x = true ↔ (x = b.1 ∨ gB mk x = true) ∨ (Anc n S.par z x ∧ Anc n S.par x b.2 ∧ x ≠ z))) ∧
      (chOne n S.par mk b).2.getD ((chOne n S.par mk b).2.length - 1) 0 = z ∧ (chOne n S.par mk b).2.getD 0 0 = b.1 ∧ (chOne n S.par mk b).1.length = n.toNat ∧
      0 < (chOne n S.par mk b).2.length ∧ (chOne n S.par mk b).2.length ≤ 2 + n.toNat := by
  have hset := fun x (hx : inR n x) => gB_set (b := true) c.ln hb.a hx
  have hs : ∀ x, inR n x → (gB (mk.set b.1.toNat true) x = true ↔ x = b.1 ∨ gB mk x = true) := fun x hx => by
    rw [hset x hx]
    by_cases e : b.1 = x
    · rw [if_pos e]; exact ⟨fun _ => .inl e.symm, fun _ => rfl⟩
    · rw [if_neg e]; exact ⟨.inr, fun h => h.elim (fun h => absurd h.symm e) id⟩
  obtain ⟨z, z1, z2, z3, z4, z5, z6, z7, z8, z9, z10, z11⟩ := chW_spec D n.toNat (mk.set b.1.toNat true) b.2 [b.1, b.2] (by rw [List.length_set]; exact c.ln) hb.z hb.a ((hs _ hb.a).2 (.inl rfl)) (hb.anc D) (by
    have h1 := unm_le (mk.set b.1.toNat true); rw [List.length_set, c.ln] at h1; exact h1) (by simp) rfl
  refine ⟨z, z1, (hs z z1).1 z2, z3, z4, fun x hx h1 h2 h3 => ?_, fun x hx => ?_, z7, z8, z9, z10, z11⟩
  · have := z5 x hx h1 h2 h3
    cases hg : gB mk x with
    | false => rfl
    | true => rw [(hs x hx).2 (.inr hg)] at this; cases this
  · show gB (chW S.par n.toNat (mk.set b.1.toNat true) b.2 [b.1, b.2]).1 x = true ↔ _
    rw [z6 x hx, hs x hx]
theorem CI.step (ho : ∀ e ∈ es, okE n e) (D : Dfs n es S) {bs : List (Int × Int)} {mk : List Bool} (c : CI n es S bs mk) {b : Int × Int} (hb : Bk n es S b) : CI n es S (bs ++ [b]) (chOne n S.par mk b).1 := by
  obtain ⟨z, z1, z2, z3, z4, z5, z6, z7, z8, z9, z10, z11⟩ := c.spec D hb
  refine ⟨z9, fun x hx h => ?_, fun x hx h => ?_, fun e he => ?_⟩
  · rcases (z6 x hx).1 h with (h | h) | ⟨h1, h2, h3⟩
    · exact ⟨b, by simp, h ▸ .refl _⟩
    · obtain ⟨e, e1, e2⟩ := c.cn x hx h
      exact ⟨e, by simp [e1], e2⟩
    · exact ⟨b, by simp, (anc_conn ho D (hb.anc D)).trans (anc_conn ho D h2).symm⟩
  · rcases (z6 x hx).1 h with (h | h) | ⟨h1, h2, h3⟩
    · exact .inl ⟨b, by simp, h.symm⟩
    · rcases c.up x hx h with ⟨e, e1, e2⟩ | ⟨e1, e2⟩
      · exact .inl ⟨e, by simp [e1], e2⟩
      · exact .inr ⟨e1, (z6 _ e1).2 (.inl (.inr e2))⟩
    · obtain ⟨p1, p2⟩ := D.above h1 (Ne.symm h3)
      refine .inr ⟨p1, (z6 _ p1).2 ?_⟩
      by_cases e : gI S.par x = z
      · rw [e]; exact .inl z2
      · exact .inr ⟨p2, Anc.trans (.up hx p1 .refl) h2, e⟩
  · rcases List.mem_append.1 he with he | he
    · obtain ⟨her, hm⟩ := c.en e he
      exact ⟨her, (z6 _ her).2 (.inl (.inr hm))⟩
    · rw [List.mem_singleton.1 he]
      refine ⟨hb.z, (z6 _ hb.z).2 ?_⟩
      by_cases e : b.2 = z
      · rw [e]; exact .inl z2
      · exact .inr ⟨z3, .refl, e⟩
theorem CI.nil (n : Int) (es : List (Int × Int)) (S : Sr) : CI n es S [] (List.replicate n.toNat false) :=
  ⟨by simp, fun x hx h => by simp [gB, List.getElem?_replicate] at h; split at h <;> simp at h, fun x hx h => by simp [gB, List.getElem?_replicate] at h; split at h <;> simp at h, fun b hb => by simp at hb⟩
theorem CI.take (ho : ∀ e ∈ es, okE n e) (D : Dfs n es S) {bs : List (Int × Int)} (hg : ∀ b ∈ bs, Bk n es S b) : ∀ j, j ≤ bs.length → CI n es S (bs.take j) (chFold n S.par (bs.take j)).1
  | 0, _ => CI.nil n es S
  | j + 1, h => by
    have c := CI.take ho D hg j (by omega)
    rw [take_nat (0, 0) (by omega), chFold_snoc]
    exact c.step ho D (hg _ (getD_mem (by omega)))
end
section
variable {n : Int} {es : List (Int × Int)}
theorem backs_bk (ho : ∀ e ∈ es, okE n e) (hn : es.Nodup) (h0 : 0 ≤ n) {b : Int × Int} : b ∈ backsL n es (seek n es) ↔ Bk n es (seek n es) b := by
  have D := seek_dfs ho hn h0
  unfold backsL
  rw [List.mem_flatMap]
  constructor
  · rintro ⟨u, hu, hb⟩
    have hur := (mem_ord (fun u hu => seek_num ho hn h0 hu) D.inj).1 hu
    obtain ⟨rfl, h2, h3, h4⟩ := mem_bkOf.1 hb
    exact ⟨hur, (nb_in ho h2).1, h2, h3, h4⟩
  · intro h
    exact ⟨b.1, (mem_ord (fun u hu => seek_num ho hn h0 hu) D.inj).2 h.a, mem_bkOf.2 ⟨rfl, h.nb, h.lt, h.np⟩⟩
noncomputable def chainsL (n : Int) (es : List (Int × Int)) : List (List Int) := (chFold n (seek n es).par (backsL n es (seek n es))).2
noncomputable def roundsL (n : Int) (es : List (Int × Int)) (i : Int) : List Int := (iota i).filter fun j => decide (((chainsL n es).getD j.toNat []).getD 0 0 = ((chainsL n es).getD j.toNat []).getD (((chainsL n es).getD j.toNat []).length - 1) 0)
theorem chains_len : (chainsL n es).length = (backsL n es (seek n es)).length := by
  have := chFold_out (n := n) (par := (seek n es).par) (bs := backsL n es (seek n es)) _ (Nat.le_refl _)
  rw [List.take_length] at this
  unfold chainsL
  rw [this]; simp
theorem chains_at {i : Nat} (hi : i < (backsL n es (seek n es)).length) : (chainsL n es).getD i [] = (chOne n (seek n es).par (chFold n (seek n es).par ((backsL n es (seek n es)).take i)).1 ((backsL n es (seek n es)).getD i (0, 0))).2 := by
  have := chFold_out (n := n) (par := (seek n es).par) (bs := backsL n es (seek n es)) _ (Nat.le_refl _)
  rw [List.take_length] at this
  unfold chainsL
  rw [this]; simp [hi]
end
end Go.Proofs.YtmocnnknnbalkaaGreatDoor.X
