/- Units along ways, and cuts: plain law. -/
import Derived.Test.YtdlfdoicheakoaaM9
set_option linter.unusedVariables false
namespace Go.Proofs.Ytdlfdoicheakoaa.X
open Go
abbrev Un := Int → Int → Bool
/-- A unit more from a node to another one. -/
def stepF (F : Un) (a b : Int) : Un := fun c d => if F b a = true then (if c = b ∧ d = a then false else F c d) else (if c = a ∧ d = b then true else F c d)
/-- A unit more along a row of nodes, from its first step on. -/
def augF (F : Un) : List Int → Un
  | a :: b :: r => augF (stepF F a b) (b :: r)
  | _ => F
/-- The same, from the last step on. -/
def augB (F : Un) : List Int → Un
  | a :: b :: r => stepF (augB F (b :: r)) a b
  | _ => F
theorem stepF_off {F : Un} {a b c d : Int} (h1 : ¬ (c = a ∧ d = b)) (h2 : ¬ (c = b ∧ d = a)) : stepF F a b c d = F c d := by
  unfold stepF
  rw [if_neg h1, if_neg h2]; split <;> rfl
theorem stepF_comm {F : Un} {a b c d : Int} (h1 : ¬ (a = c ∧ b = d)) (h2 : ¬ (a = d ∧ b = c)) : stepF (stepF F c d) a b = stepF (stepF F a b) c d := by
  have e1 : stepF F c d b a = F b a := stepF_off (fun h => h2 ⟨h.2, h.1⟩) (fun h => h1 ⟨h.2, h.1⟩)
  have e2 : stepF F a b d c = F d c := stepF_off (fun h => h2 ⟨h.1.symm, h.2.symm⟩ |> fun x => x) (fun h => h1 ⟨h.2.symm, h.1.symm⟩)
  funext p q
  rw [stepF, e1]
  conv => rhs; rw [stepF, e2]
  unfold stepF
  by_cases k1 : F b a = true <;> by_cases k2 : F d c = true <;> simp only [k1, k2, if_true, if_false, Bool.false_eq_true] <;> grind
theorem aug_step {a b : Int} : ∀ {q : List Int} {F : Un}, a ∉ q → augF (stepF F a b) q = stepF (augF F q) a b
  | [], F, _ => rfl
  | [c], F, _ => rfl
  | c :: d :: r, F, h => by
    have hc : a ≠ c := fun e => h (by rw [e]; simp)
    have hd : a ≠ d := fun e => h (by rw [e]; simp)
    rw [augF, augF, ← stepF_comm (fun k => hc k.1) (fun k => hd k.1)]
    exact aug_step (q := d :: r) fun hm => h (List.mem_cons_of_mem _ hm)
theorem augB_eq : ∀ {p : List Int} {F : Un}, p.Nodup → augB F p = augF F p
  | [], F, _ => rfl
  | [a], F, _ => rfl
  | a :: b :: r, F, h => by
    rw [List.nodup_cons] at h
    rw [augB, augF, augB_eq (p := b :: r) h.2, aug_step h.1]
theorem augF_snoc {a b : Int} : ∀ {l : List Int} {F : Un}, augF F (l ++ [a, b]) = stepF (augF F (l ++ [a])) a b
  | [], F => rfl
  | [c], F => rfl
  | c :: d :: l, F => by
    have := augF_snoc (a := a) (b := b) (l := d :: l) (F := stepF F c d)
    simpa [augF] using this
theorem augF_take {F : Un} {p : List Int} {i : Nat} (h0 : 0 < i) (h1 : i < p.length) : augF F (p.take (i + 1)) = stepF (augF F (p.take i)) (p.getD (i - 1) 0) (p.getD i 0) := by
  obtain ⟨k, rfl⟩ : ∃ k, i = k + 1 := ⟨i - 1, by omega⟩
  have e1 : p.take (k + 1) = p.take k ++ [p.getD k 0] := by rw [List.take_add_one]; simp [show k < p.length by omega]
  have e2 : p.take (k + 1 + 1) = p.take k ++ [p.getD k 0, p.getD (k + 1) 0] := by
    rw [List.take_add_one, e1]; simp [h1]
  rw [e1, e2, augF_snoc]; rfl
theorem augB_drop {F : Un} {p : List Int} {t : Nat} (h0 : 0 < t) (h1 : t < p.length) : augB F (p.drop (t - 1)) = stepF (augB F (p.drop t)) (p.getD (t - 1) 0) (p.getD t 0) := by
  obtain ⟨k, rfl⟩ : ∃ k, t = k + 1 := ⟨t - 1, by omega⟩
  have e1 : p.drop (k + 1) = p.getD (k + 1) 0 :: p.drop (k + 1 + 1) := by rw [List.drop_eq_getElem_cons h1]; simp [h1]
  have e2 : p.drop k = p.getD k 0 :: p.getD (k + 1) 0 :: p.drop (k + 1 + 1) := by
    rw [List.drop_eq_getElem_cons (show k < p.length by omega), e1]; simp [show k < p.length by omega]
  rw [show k + 1 - 1 = k by omega, e2, augB, ← e1]
def Steps (P : Int → Int → Prop) : List Int → Prop
  | a :: b :: r => P a b ∧ Steps P (b :: r)
  | _ => True
theorem Steps.of {P : Int → Int → Prop} : ∀ {p : List Int}, (∀ i, i + 1 < p.length → P (p.getD i 0) (p.getD (i + 1) 0)) → Steps P p
  | [], _ => trivial
  | [a], _ => trivial
  | a :: b :: r, h => ⟨h 0 (by simp), Steps.of (p := b :: r) fun i hi => by
      have := h (i + 1) (by simp only [List.length_cons] at hi ⊢; omega)
      simpa using this⟩
theorem Steps.mono {P Q : Int → Int → Prop} : ∀ {p : List Int}, (∀ a b, a ∈ p → b ∈ p → P a b → Q a b) → Steps P p → Steps Q p
  | [], _, _ => trivial
  | [a], _, _ => trivial
  | a :: b :: r, h, ⟨h1, h2⟩ => ⟨h a b (by simp) (by simp) h1, Steps.mono (p := b :: r) (fun c d hc hd => h c d (List.mem_cons_of_mem _ hc) (List.mem_cons_of_mem _ hd)) h2⟩
/-- Units lie on edges, and not in both directions. -/
structure OKF (es : List (Int × Int)) (F : Un) : Prop where
  adj : ∀ a b, F a b = true → Adj es a b
  one : ∀ a b, F a b = true → F b a = false
theorem OKF.step {es : List (Int × Int)} {F : Un} {a b : Int} (h : OKF es F) (ha : Adj es a b) (hne : a ≠ b) : OKF es (stepF F a b) := by
  constructor
  · intro c d hcd
    unfold stepF at hcd
    split at hcd
    · split at hcd
      · cases hcd
      · exact h.adj c d hcd
    · split at hcd
      · rename_i hc; rw [hc.1, hc.2]; exact ha
      · exact h.adj c d hcd
  · intro c d hcd
    unfold stepF at hcd ⊢
    split at hcd
    · rename_i hba
      rw [if_pos hba]
      split at hcd
      · cases hcd
      · split
        · rfl
        · exact h.one c d hcd
    · rename_i hba
      rw [if_neg hba]
      split at hcd
      · rename_i hc
        obtain ⟨rfl, rfl⟩ := hc
        rw [if_neg (fun k => hne k.2)]
        exact Bool.not_eq_true _ ▸ hba
      · rename_i hc
        split
        · rename_i hd
          obtain ⟨rfl, rfl⟩ := hd
          exact absurd hcd hba
        · exact h.one c d hcd
theorem OKF.aug {es : List (Int × Int)} : ∀ {p : List Int} {F : Un}, OKF es F → p.Nodup → Steps (Adj es) p → OKF es (augF F p)
  | [], F, h, _, _ => h
  | [a], F, h, _, _ => h
  | a :: b :: r, F, h, hn, hs => by
    rw [List.nodup_cons] at hn
    exact OKF.aug (p := b :: r) (h.step hs.1 fun e => hn.1 (by rw [e]; simp)) hn.2 hs.2
def b2i (b : Bool) : Int := if b = true then 1 else 0
def contrib (S : Int → Bool) (F : Un) (e : Int × Int) : Int := (b2i (S e.1) - b2i (S e.2)) * (b2i (F e.1 e.2) - b2i (F e.2 e.1))
def val (S : Int → Bool) (F : Un) (es : List (Int × Int)) : Int := (es.map (contrib S F)).sum
/-- The edges that lead out of a set. -/
def cutsz (S : Int → Bool) (es : List (Int × Int)) : Nat := (es.filter fun e => S e.1 != S e.2).length
theorem sum_one {f g : Int × Int → Int} {e0 : Int × Int} : ∀ {es : List (Int × Int)}, es.Nodup → e0 ∈ es → (∀ e ∈ es, e ≠ e0 → g e = f e) → (es.map g).sum = (es.map f).sum + (g e0 - f e0)
  | [], _, h, _ => by simp at h
  | e :: es, hn, h, hfg => by
    rw [List.nodup_cons] at hn
    simp only [List.map_cons, List.sum_cons]
    by_cases he : e = e0
    · subst he
      have : es.map g = es.map f := List.map_congr_left fun x hx => hfg x (List.mem_cons_of_mem _ hx) fun e => hn.1 (e ▸ hx)
      rw [this]; omega
    · rw [sum_one hn.2 ((List.mem_cons.1 h).resolve_left fun e' => he e'.symm) (fun x hx => hfg x (List.mem_cons_of_mem _ hx)), hfg e (by simp) he]
      omega
theorem val_step {n : Int} {es : List (Int × Int)} {F : Un} {S : Int → Bool} {a b : Int} (ho : ∀ e ∈ es, okE n e) (hn : es.Nodup) (ha : Adj es a b) (hF : F a b = false) :
    val S (stepF F a b) es = val S F es + (b2i (S a) - b2i (S b)) := by
  have hk := ha.ok ho
  have key : b2i (stepF F a b a b) - b2i (stepF F a b b a) = b2i (F a b) - b2i (F b a) + 1 := by
    unfold stepF
    by_cases hb : F b a = true
    · rw [if_pos hb, if_pos hb, if_neg (fun h => hk.2.2.2.2 h.1), if_pos ⟨rfl, rfl⟩, hF, hb]; rfl
    · rw [if_neg hb, if_neg hb, if_pos ⟨rfl, rfl⟩, if_neg (fun h => hk.2.2.2.2 h.1.symm), hF, (by simpa using hb : F b a = false)]; rfl
  unfold val
  rcases ha with h | h
  · have hoe := ho _ h
    unfold okE at hoe; simp only at hoe
    rw [sum_one (f := contrib S F) hn h fun e hes he => by
      have := ho e hes
      unfold okE at this
      unfold contrib
      rw [stepF_off (fun k => he (Prod.ext k.1 k.2)) (fun k => by omega), stepF_off (fun k => by omega) (fun k => he (Prod.ext k.2 k.1))]]
    congr 1
    unfold contrib
    simp only
    rw [key]
    generalize b2i (F a b) - b2i (F b a) = v
    cases S a <;> cases S b <;> simp [b2i] <;> omega
  · have hoe := ho _ h
    unfold okE at hoe; simp only at hoe
    rw [sum_one (f := contrib S F) hn h fun e hes he => by
      have := ho e hes
      unfold okE at this
      unfold contrib
      rw [stepF_off (fun k => by omega) (fun k => he (Prod.ext k.1 k.2)), stepF_off (fun k => he (Prod.ext k.2 k.1)) (fun k => by omega)]]
    congr 1
    unfold contrib
    simp only
    generalize b2i (stepF F a b b a) = p at *
    generalize b2i (stepF F a b a b) = q at *
    generalize b2i (F a b) = r at *
    generalize b2i (F b a) = t at *
    cases S a <;> cases S b <;> simp [b2i] <;> omega
theorem getD_cons_last {a b : Int} {r : List Int} : (a :: b :: r).getD ((a :: b :: r).length - 1) 0 = (b :: r).getD ((b :: r).length - 1) 0 := by
  simp [List.getD]
theorem val_aug {n : Int} {es : List (Int × Int)} {S : Int → Bool} (ho : ∀ e ∈ es, okE n e) (hn : es.Nodup) : ∀ {p : List Int} {F : Un}, 0 < p.length → p.Nodup → Steps (fun a b => Adj es a b ∧ F a b = false) p →
    val S (augF F p) es = val S F es + (b2i (S (p.getD 0 0)) - b2i (S (p.getD (p.length - 1) 0)))
  | [], F, h, _, _ => by simp at h
  | [a], F, _, _, _ => by simp [augF]
  | a :: b :: r, F, _, hd, hs => by
    rw [List.nodup_cons] at hd
    have hs' : Steps (fun c d => Adj es c d ∧ stepF F a b c d = false) (b :: r) := hs.2.mono fun c d hc hd' h => by
      have hac : c ≠ a := fun e => hd.1 (e ▸ hc)
      have had : d ≠ a := fun e => hd.1 (e ▸ hd')
      rw [stepF_off (fun k => hac k.1) (fun k => had k.2)]
      exact h
    rw [augF, val_aug ho hn (p := b :: r) (by simp) hd.2 hs', val_step ho hn hs.1.1 hs.1.2, getD_cons_last]
    simp only [List.getD_cons_zero]
    omega
theorem sum_le {f g : Int × Int → Int} : ∀ {es : List (Int × Int)}, (∀ e ∈ es, f e ≤ g e) → (es.map f).sum ≤ (es.map g).sum
  | [], _ => by simp
  | e :: es, h => by
    have := sum_le (es := es) fun x hx => h x (List.mem_cons_of_mem _ hx)
    have := h e (by simp)
    simp only [List.map_cons, List.sum_cons]; omega
theorem cutsz_sum {S : Int → Bool} : ∀ {es : List (Int × Int)}, (es.map fun e => b2i (S e.1 != S e.2)).sum = (cutsz S es : Int)
  | [] => by simp [cutsz]
  | e :: es => by
    have ih := cutsz_sum (S := S) (es := es)
    unfold cutsz at ih ⊢
    simp only [List.map_cons, List.sum_cons, List.filter_cons, ih]
    split
    · rename_i h; rw [h]; simp [b2i]; omega
    · rename_i h; simp [b2i, h]
theorem val_le {es : List (Int × Int)} {S : Int → Bool} {F : Un} (h : OKF es F) : val S F es ≤ cutsz S es := by
  rw [← cutsz_sum]
  refine sum_le fun e _ => ?_
  unfold contrib
  have := h.one e.1 e.2
  cases h1 : F e.1 e.2 <;> cases h2 : F e.2 e.1 <;> cases S e.1 <;> cases S e.2 <;> simp_all [b2i]
theorem val_full {es : List (Int × Int)} {S : Int → Bool} {F : Un} (h : OKF es F) (hf : ∀ a b, Adj es a b → S a = true → S b = false → F a b = true) : val S F es = cutsz S es := by
  rw [← cutsz_sum]
  unfold val
  congr 1
  refine List.map_congr_left fun e he => ?_
  unfold contrib
  have h1 := hf e.1 e.2 (.inl he)
  have h2 := hf e.2 e.1 (.inr he)
  have h3 := h.one e.1 e.2
  have h4 := h.one e.2 e.1
  cases h5 : S e.1 <;> cases h6 : S e.2 <;> simp_all [b2i]
def goesF (F : Un) : Int → Int → Bool := fun a b => !F a b
def flS (n : Int) (es : List (Int × Int)) (x y : Int) : Nat → Un
  | 0 => fun _ _ => false
  | k + 1 => augF (flS n es x y k) (wayL n (bfs n es (goesF (flS n es x y k)) x).1 x y)
/-- Is there a way yet? -/
def more (n : Int) (es : List (Int × Int)) (x y : Int) (k : Nat) : Prop := y ∈ (bfs n es (goesF (flS n es x y k)) x).2
instance (n : Int) (es : List (Int × Int)) (x y : Int) (k : Nat) : Decidable (more n es x y k) := by unfold more; infer_instance
theorem flS_inv {n : Int} {es : List (Int × Int)} {x y : Int} (ho : ∀ e ∈ es, okE n e) (hn : es.Nodup) (hx : 0 ≤ x ∧ x < n) : ∀ k, (∀ j, j < k → more n es x y j) →
    OKF es (flS n es x y k) ∧ ∀ S : Int → Bool, S x = true → S y = false → val S (flS n es x y k) es = k
  | 0, _ => ⟨⟨fun a b h => by simp [flS] at h, fun a b h => by simp [flS] at h⟩, fun S _ _ => by
      have : es.map (contrib S (flS n es x y 0)) = es.map fun _ => 0 := List.map_congr_left fun e _ => by simp [contrib, flS, b2i]
      unfold val
      rw [this]
      clear this ho hn
      induction es with
      | nil => rfl
      | cons e es ih => simpa using ih⟩
  | k + 1, hm => by
    obtain ⟨h1, h2⟩ := flS_inv ho hn hx k fun j hj => hm j (by omega)
    have hw := bfs_way ho hx (hm k (by omega))
    have hst : Steps (fun a b => Adj es a b ∧ flS n es x y k a b = false) (wayL n (bfs n es (goesF (flS n es x y k)) x).1 x y) := Steps.of fun i hi => by
      obtain ⟨a1, a2⟩ := hw.st i hi
      exact ⟨a1, by simpa [goesF] using a2⟩
    refine ⟨h1.aug hw.nd (hst.mono fun _ _ _ _ h => h.1), fun S hSx hSy => ?_⟩
    rw [flS, val_aug ho hn hw.pos hw.nd hst, h2 S hSx hSy, hw.hd, hw.la, hSx, hSy]
    simp [b2i]
theorem deg_cut {n : Int} {es : List (Int × Int)} {x : Int} (ho : ∀ e ∈ es, okE n e) : cutsz (fun v => decide (v = x)) es = (nbS x es).length := by
  rw [nbS_length]
  unfold cutsz
  induction es with
  | nil => rfl
  | cons e es ih =>
    have ih := ih fun f hf => ho f (List.mem_cons_of_mem _ hf)
    have hoe := ho e (by simp)
    unfold okE at hoe
    rw [nbL_cons, List.filter_cons]
    by_cases h1 : x = e.1
    · have h2 : ¬ e.2 = x := by omega
      rw [if_pos h1]
      simp only [h1.symm, decide_true, h2, decide_false, bne_iff_ne, ne_eq, Bool.true_eq_false, not_false_eq_true, if_true, List.length_cons, ih]
    · by_cases h2 : x = e.2
      · have h3 : ¬ e.1 = x := fun e => h1 e.symm
        rw [if_neg h1, if_pos h2]
        simp only [h2.symm, decide_true, h3, decide_false, bne_iff_ne, ne_eq, Bool.false_eq_true, not_false_eq_true, if_true, List.length_cons, ih]
      · have h3 : ¬ e.1 = x := fun e => h1 e.symm
        have h4 : ¬ e.2 = x := fun e => h2 e.symm
        rw [if_neg h1, if_neg h2]
        simp only [h3, h4, decide_false, bne_self_eq_false, Bool.false_eq_true, if_false, ih]
theorem deg_le {n : Int} {es : List (Int × Int)} {x : Int} (ho : ∀ e ∈ es, okE n e) (hn : es.Nodup) : (nbS x es).length ≤ n.toNat := by
  have hs := sorted_nbS ho hn x
  have := len_le_of_sub (l := nbS x es) (m := iota n) (hs.imp fun {a b} h e => by omega) fun v hv => by
    have := ((mem_nbS ho).1 hv).ok ho
    exact mem_iota.2 (by omega)
  rwa [iota_length] at this
theorem more_stops {n : Int} {es : List (Int × Int)} {x y : Int} (ho : ∀ e ∈ es, okE n e) (hn : es.Nodup) (hx : 0 ≤ x ∧ x < n) (hxy : x ≠ y) {k : Nat} (h : ∀ j, j < k → more n es x y j) : k ≤ (nbS x es).length := by
  obtain ⟨h1, h2⟩ := flS_inv ho hn hx k h
  have h3 := h2 (fun v => decide (v = x)) (by simp) (by simp; exact fun e => hxy e.symm)
  have h4 := val_le (S := fun v => decide (v = x)) h1
  rw [h3, deg_cut ho] at h4
  omega
/-- How many ways there are. -/
def flN (n : Int) (es : List (Int × Int)) (x y : Int) : Nat := ((List.range (n.toNat + 1)).find? fun k => decide ¬ more n es x y k).getD 0
theorem flN_spec {n : Int} {es : List (Int × Int)} {x y : Int} (ho : ∀ e ∈ es, okE n e) (hn : es.Nodup) (hx : 0 ≤ x ∧ x < n) (hxy : x ≠ y) :
    ¬ more n es x y (flN n es x y) ∧ (∀ j, j < flN n es x y → more n es x y j) ∧ flN n es x y ≤ (nbS x es).length := by
  have hex : ∃ k, k < n.toNat + 1 ∧ ¬ more n es x y k := Classical.byContradiction fun hno => by
    have := more_stops ho hn hx hxy (k := n.toNat + 1) fun j hj => Classical.byContradiction fun h => hno ⟨j, hj, h⟩
    have := deg_le (x := x) ho hn
    omega
  unfold flN
  cases hf : (List.range (n.toNat + 1)).find? fun k => decide ¬ more n es x y k with
  | none =>
    obtain ⟨k, hk, hm⟩ := hex
    rw [List.find?_eq_none] at hf
    exact absurd (decide_eq_true hm) (by simpa using hf k (List.mem_range.2 hk))
  | some k =>
    rw [List.find?_range_eq_some] at hf
    obtain ⟨h1, h2, h3⟩ := hf
    have h4 : ∀ j, j < k → more n es x y j := fun j hj => by simpa using h3 j hj
    simp only [Option.getD_some]
    exact ⟨by simpa using h1, h4, more_stops ho hn hx hxy h4⟩
theorem flN_eq {n : Int} {es : List (Int × Int)} {x y : Int} {k : Nat} (ho : ∀ e ∈ es, okE n e) (hn : es.Nodup) (hx : 0 ≤ x ∧ x < n) (hxy : x ≠ y) (h1 : ∀ j, j < k → more n es x y j) (h2 : ¬ more n es x y k) : k = flN n es x y := by
  obtain ⟨a, b, _⟩ := flN_spec ho hn hx hxy
  by_cases h : k < flN n es x y
  · exact absurd (b k h) h2
  · by_cases h' : flN n es x y < k
    · exact absurd (h1 _ h') a
    · omega
/-- The units in the end. -/
def flU (n : Int) (es : List (Int × Int)) (x y : Int) : Un := flS n es x y (flN n es x y)
/-- The nodes that can be reached in the end. -/
def sideO (n : Int) (es : List (Int × Int)) (x y : Int) : List Int := (bfs n es (goesF (flU n es x y)) x).2
theorem flow_le {n : Int} {es : List (Int × Int)} {x y : Int} (ho : ∀ e ∈ es, okE n e) (hn : es.Nodup) (hx : 0 ≤ x ∧ x < n) (hxy : x ≠ y) {S : Int → Bool} (hSx : S x = true) (hSy : S y = false) : flN n es x y ≤ cutsz S es := by
  obtain ⟨a, b, _⟩ := flN_spec ho hn hx hxy
  obtain ⟨h1, h2⟩ := flS_inv ho hn hx _ b
  have h3 := h2 S hSx hSy
  have h4 := val_le (S := S) h1
  omega
theorem side_x {n : Int} {es : List (Int × Int)} {x y : Int} (ho : ∀ e ∈ es, okE n e) (hx : 0 ≤ x ∧ x < n) : x ∈ sideO n es x y := by
  have h := bfs_inv (goes := goesF (flU n es x y)) ho hx
  have := getD_mem (d := 0) h.pos
  rw [h.hd] at this
  exact this
theorem side_y {n : Int} {es : List (Int × Int)} {x y : Int} (ho : ∀ e ∈ es, okE n e) (hn : es.Nodup) (hx : 0 ≤ x ∧ x < n) (hxy : x ≠ y) : y ∉ sideO n es x y := (flN_spec ho hn hx hxy).1
theorem flow_cut {n : Int} {es : List (Int × Int)} {x y : Int} (ho : ∀ e ∈ es, okE n e) (hn : es.Nodup) (hx : 0 ≤ x ∧ x < n) (hxy : x ≠ y) : cutsz (fun v => decide (v ∈ sideO n es x y)) es = flN n es x y := by
  obtain ⟨a, b, _⟩ := flN_spec ho hn hx hxy
  obtain ⟨h1, h2⟩ := flS_inv ho hn hx _ b
  have h3 := h2 (fun v => decide (v ∈ sideO n es x y)) (by simpa using side_x ho hx) (by simpa using side_y ho hn hx hxy)
  have h4 := val_full (S := fun v => decide (v ∈ sideO n es x y)) h1 fun p q hpq hp hq => by
    simp only [decide_eq_true_eq, decide_eq_false_iff_not] at hp hq
    refine Classical.byContradiction fun hF => hq (bfs_closed ho hx hp hpq ?_)
    show (!flU n es x y p q) = true
    cases hU : flU n es x y p q with
    | true => exact absurd hU hF
    | false => rfl
  omega
end Go.Proofs.Ytdlfdoicheakoaa.X
