/- Connected nodes, and their labels: plain law. -/
import Derived.Test.YtdlfdoicheakoaaGreatKAD
set_option linter.unusedVariables false
namespace Go.Proofs.YtdlfdoicheakoaaGreat.X
open Go
def Adj (es : List (Int × Int)) (x y : Int) : Prop := (x, y) ∈ es ∨ (y, x) ∈ es
theorem Adj.symm {es : List (Int × Int)} {x y : Int} (h : Adj es x y) : Adj es y x := h.elim .inr .inl
/-- Connected by edges. -/
inductive Conn (es : List (Int × Int)) : Int → Int → Prop
  | refl (x : Int) : Conn es x x
  | step {x y z : Int} (h : Conn es x y) (a : Adj es y z) : Conn es x z
noncomputable instance decConn (es : List (Int × Int)) (x y : Int) : Decidable (Conn es x y) := Classical.propDecidable _
theorem Conn.of {es : List (Int × Int)} {x y : Int} (h : Adj es x y) : Conn es x y := .step (.refl x) h
theorem Conn.trans {es : List (Int × Int)} {x y z : Int} (h : Conn es x y) (k : Conn es y z) : Conn es x z := by
  induction k with
  | refl => exact h
  | step _ a ih => exact .step ih a
theorem Conn.symm {es : List (Int × Int)} {x y : Int} (h : Conn es x y) : Conn es y x := by
  induction h with
  | refl => exact .refl _
  | step _ a ih => exact (Conn.of a.symm).trans ih
theorem Adj.mono {es fs : List (Int × Int)} (hs : ∀ e ∈ es, e ∈ fs) {x y : Int} (h : Adj es x y) : Adj fs x y := h.elim (fun h => .inl (hs _ h)) fun h => .inr (hs _ h)
theorem Conn.mono {es fs : List (Int × Int)} (hs : ∀ e ∈ es, e ∈ fs) {x y : Int} (h : Conn es x y) : Conn fs x y := by
  induction h with
  | refl => exact .refl _
  | step _ a ih => exact .step ih (a.mono hs)
theorem Adj.ok {n : Int} {es : List (Int × Int)} (ho : ∀ e ∈ es, okE n e) {x y : Int} (h : Adj es x y) : 0 ≤ x ∧ x < n ∧ 0 ≤ y ∧ y < n ∧ x ≠ y := by
  rcases h with h | h
  · have := ho _ h; unfold okE at this; simp only at this; omega
  · have := ho _ h; unfold okE at this; simp only at this; omega
theorem Conn.ok {n : Int} {es : List (Int × Int)} (ho : ∀ e ∈ es, okE n e) {x y : Int} (h : Conn es x y) : x = y ∨ (0 ≤ x ∧ x < n ∧ 0 ≤ y ∧ y < n) := by
  induction h with
  | refl => exact .inl rfl
  | step _ a ih =>
    have := a.ok ho
    rcases ih with rfl | ih
    · exact .inr ⟨by omega, by omega, by omega, by omega⟩
    · exact .inr ⟨by omega, by omega, by omega, by omega⟩
/-- What is closed under edges holds of connected nodes alike. -/
theorem Conn.closed {es : List (Int × Int)} {p : Int → Prop} (hp : ∀ x y, Adj es x y → p x → p y) {x y : Int} (h : Conn es x y) (hx : p x) : p y := by
  induction h with
  | refl => exact hx
  | step _ a ih => exact hp _ _ a ih
def Rk (es : List (Int × Int)) (x : Int) : Nat → Int → Prop
  | 0, y => y = x
  | k + 1, y => Rk es x k y ∨ ∃ z, Rk es x k z ∧ Adj es z y
theorem Rk.conn {es : List (Int × Int)} {x : Int} : ∀ {k : Nat} {y : Int}, Rk es x k y → Conn es x y
  | 0, y, h => by cases h; exact .refl _
  | k + 1, y, h => by
    rcases h with h | ⟨z, h, a⟩
    · exact h.conn
    · exact .step h.conn a
theorem Rk.self {es : List (Int × Int)} {x : Int} : ∀ k, Rk es x k x
  | 0 => rfl
  | k + 1 => .inl (Rk.self k)
theorem filter_lt {α : Type} {p q : α → Bool} : ∀ {l : List α}, (∀ x ∈ l, p x = true → q x = true) → (∃ x ∈ l, q x = true ∧ p x = false) → (l.filter p).length < (l.filter q).length
  | [], _, ⟨x, hx, _⟩ => by simp at hx
  | y :: l, h, ⟨x, hx, hq, hp⟩ => by
    have hle : (l.filter p).length ≤ (l.filter q).length := by
      clear hx
      have h' := fun x hx => h x (List.mem_cons_of_mem _ hx)
      clear h
      induction l with
      | nil => simp
      | cons z l ih =>
        have := ih fun x hx => h' x (List.mem_cons_of_mem _ hx)
        simp only [List.filter_cons]
        cases hpz : p z
        · simp only [Bool.false_eq_true, if_false]; split <;> simp <;> omega
        · rw [h' z (by simp) hpz]; simp only [if_true, List.length_cons]; omega
    rcases List.mem_cons.1 hx with rfl | hx
    · simp only [List.filter_cons, hp, hq, Bool.false_eq_true, if_false, if_true, List.length_cons]; omega
    · have ih := filter_lt (l := l) (fun x hx => h x (List.mem_cons_of_mem _ hx)) ⟨x, hx, hq, hp⟩
      simp only [List.filter_cons]
      cases hpz : p y
      · simp only [Bool.false_eq_true, if_false]; split <;> simp <;> omega
      · rw [h y (by simp) hpz]; simp only [if_true, List.length_cons]; omega
open Classical in
theorem Rk.all {n : Nat} {es : List (Int × Int)} (ho : ∀ e ∈ es, okE n e) {x y : Int} (h : Conn es x y) : Rk es x n y := by
  let c := fun k => ((List.range n).filter fun i => decide (Rk es x k (i : Nat))).length
  have key : ∀ k, k + 1 ≤ c k ∨ (∀ y z, Rk es x k y → Adj es y z → Rk es x k z) := by
    intro k
    induction k with
    | zero =>
      by_cases hx : 0 ≤ x ∧ x < n
      · left
        have : x.toNat ∈ (List.range n).filter fun i => decide (Rk es x 0 (i : Nat)) := by
          simp only [List.mem_filter, List.mem_range, decide_eq_true_eq]
          exact ⟨by omega, by show ((x.toNat : Nat) : Int) = x; omega⟩
        have := List.length_pos_of_mem this
        exact this
      · right
        intro y z hy a
        have := a.ok ho
        have hy' : y = x := hy
        omega
    | succ k ih =>
      by_cases hcl : ∀ y z, Rk es x k y → Adj es y z → Rk es x k z
      · right
        intro y z hy a
        have hy' : Rk es x k y := by
          rcases hy with h | ⟨u, h, b⟩
          · exact h
          · exact hcl _ _ h b
        exact .inl (hcl _ _ hy' a)
      · rcases ih with ih | ih
        · left
          have hlt : c k < c (k + 1) := by
            refine filter_lt (fun i _ hi => ?_) ?_
            · simp only [decide_eq_true_eq] at hi ⊢
              exact .inl hi
            · refine byContradiction fun hno => hcl fun y z hy a => byContradiction fun hz => hno ?_
              have := a.ok ho
              refine ⟨z.toNat, List.mem_range.2 (by omega), ?_, ?_⟩
              · simp only [decide_eq_true_eq, Int.toNat_of_nonneg (show 0 ≤ z by omega)]
                exact .inr ⟨y, hy, a⟩
              · simp only [decide_eq_false_iff_not, Int.toNat_of_nonneg (show 0 ≤ z by omega)]
                exact hz
          omega
        · exact absurd ih hcl
  have hn : c n ≤ n := by
    have := List.length_filter_le (fun i => decide (Rk es x n ((i : Nat) : Int))) (List.range n)
    simpa using this
  rcases key n with h1 | h1
  · omega
  · refine h.closed (p := fun y => Rk es x n y) (fun y z a hy => h1 y z hy a) ?_
    exact Rk.self n
open Classical in
noncomputable def least (es : List (Int × Int)) (x : Nat) : Nat := ((List.range (x + 1)).find? fun y => decide (Conn es (y : Nat) (x : Nat))).getD x
theorem least_spec (es : List (Int × Int)) (x : Nat) : least es x ≤ x ∧ Conn es (least es x : Nat) (x : Nat) ∧ ∀ y : Nat, y < least es x → ¬ Conn es (y : Nat) (x : Nat) := by
  unfold least
  cases h : (List.range (x + 1)).find? fun y => @decide (Conn es (y : Nat) (x : Nat)) (Classical.propDecidable _) with
  | none =>
    rw [List.find?_eq_none] at h
    exact absurd (Conn.refl (x : Int)) (by simpa using h x (by simp))
  | some y =>
    rw [List.find?_range_eq_some] at h
    obtain ⟨h1, h2, h3⟩ := h
    simp only [decide_eq_true_eq] at h1
    refine ⟨?_, h1, fun z hz => by simpa using h3 z hz⟩
    have := List.mem_range.1 h2
    simp only [Option.getD_some]; omega
noncomputable def lab (n : Int) (es : List (Int × Int)) : List Int := (List.range n.toNat).map fun x => ((least es x : Nat) : Int)
theorem lab_length (n : Int) (es : List (Int × Int)) : (lab n es).length = n.toNat := by simp [lab]
theorem lab_get {n : Int} {es : List (Int × Int)} {x : Nat} (h : x < n.toNat) : (lab n es).getD x 0 = (least es x : Nat) := by simp [lab, h]
theorem least_conn {es : List (Int × Int)} {x y : Nat} (h : Conn es (x : Nat) (y : Nat)) : least es x = least es y := by
  obtain ⟨h1, h2, h3⟩ := least_spec es x
  obtain ⟨k1, k2, k3⟩ := least_spec es y
  rcases Nat.lt_trichotomy (least es x) (least es y) with e | e | e
  · exact absurd (h2.trans h) (k3 _ e)
  · exact e
  · exact absurd (k2.trans h.symm) (h3 _ e)
theorem least_iff {es : List (Int × Int)} {x y : Nat} : least es x = least es y ↔ Conn es (x : Nat) (y : Nat) := by
  refine ⟨fun h => ?_, least_conn⟩
  have h1 := (least_spec es x).2.1
  have h2 := (least_spec es y).2.1
  rw [h] at h1
  exact h1.symm.trans h2
theorem lab_iff {n : Int} {es : List (Int × Int)} {x y : Int} (hx : 0 ≤ x ∧ x < n) (hy : 0 ≤ y ∧ y < n) : (lab n es).getD x.toNat 0 = (lab n es).getD y.toNat 0 ↔ Conn es x y := by
  rw [lab_get (by omega), lab_get (by omega)]
  have := @least_iff es x.toNat y.toNat
  rw [Int.toNat_of_nonneg hx.1, Int.toNat_of_nonneg hy.1] at this
  rw [← this]; omega
/-- Labels that are of the part, and not above the node. -/
def Snd (n : Int) (es : List (Int × Int)) (out : List Int) : Prop := out.length = n.toNat ∧ ∀ x : Nat, x < n.toNat → ∃ y : Nat, out.getD x 0 = y ∧ y ≤ x ∧ Conn es (y : Nat) (x : Nat)
theorem Snd.ge {n : Int} {es : List (Int × Int)} {out : List Int} (h : Snd n es out) {x : Nat} (hx : x < n.toNat) : (least es x : Nat) ≤ out.getD x 0 := by
  obtain ⟨y, h1, h2, h3⟩ := h.2 x hx
  rw [h1]
  have := (least_spec es x).2.2 y
  refine Int.ofNat_le.2 (Nat.le_of_not_lt fun hl => this hl h3)
theorem lab_ext {n : Int} {es : List (Int × Int)} {out : List Int} (h : Snd n es out) (hle : ∀ x : Nat, x < n.toNat → out.getD x 0 ≤ (least es x : Nat)) : out = lab n es := by
  refine List.ext_getElem (by rw [h.1, lab_length]) fun i h1 h2 => ?_
  have hi : i < n.toNat := by rw [← h.1]; exact h1
  have a := hle i hi
  have b := h.ge hi
  have e1 : out.getD i 0 = out[i] := by simp [h1]
  have e2 : (lab n es).getD i 0 = (lab n es)[i] := by simp [h2]
  rw [← e1, ← e2, lab_get hi]; omega
theorem lab_of {n : Int} {es : List (Int × Int)} {out : List Int} (ho : ∀ e ∈ es, okE n e) (h : Snd n es out) (he : ∀ e ∈ es, out.getD e.1.toNat 0 = out.getD e.2.toNat 0) : out = lab n es := by
  refine lab_ext h fun x hx => ?_
  obtain ⟨h1, h2, h3⟩ := least_spec es x
  have key : out.getD ((x : Nat) : Int).toNat 0 = out.getD ((least es x : Nat) : Int).toNat 0 := by
    refine Conn.closed (p := fun y => out.getD y.toNat 0 = out.getD ((least es x : Nat) : Int).toNat 0) (fun y z a hy => ?_) h2 rfl
    rcases a with a | a
    · exact (he _ a).symm.trans hy
    · exact (he _ a).trans hy
  simp only [Int.toNat_natCast] at key
  rw [key]
  obtain ⟨y, k1, k2, _⟩ := h.2 (least es x) (by omega)
  rw [k1]; omega
def stepE (out : List Int) (e : Int × Int) : List Int := (out.set e.1.toNat (min (out.getD e.1.toNat 0) (out.getD e.2.toNat 0))).set e.2.toNat (min (out.getD e.1.toNat 0) (out.getD e.2.toNat 0))
def roundE (es : List (Int × Int)) (out : List Int) : List Int := es.foldl stepE out
def iota (n : Int) : List Int := (List.range n.toNat).map fun x => ((x : Nat) : Int)
def rounds (es : List (Int × Int)) : Nat → List Int → List Int
  | 0, out => out
  | k + 1, out => roundE es (rounds es k out)
theorem getD_set {l : List Int} {i j : Nat} {x d : Int} (h : j < l.length) : (l.set i x).getD j d = if i = j then x else l.getD j d := by
  simp only [List.getD, List.getElem?_set]
  split
  · subst i; simp [h]
  · rfl
theorem stepE_get {n : Int} {out : List Int} {e : Int × Int} (hl : out.length = n.toNat) (ho : okE n e) {x : Nat} (hx : x < n.toNat) :
    (stepE out e).getD x 0 = if x = e.1.toNat ∨ x = e.2.toNat then min (out.getD e.1.toNat 0) (out.getD e.2.toNat 0) else out.getD x 0 := by
  unfold stepE
  rw [getD_set (by simp; omega), getD_set (by omega)]
  by_cases h1 : e.2.toNat = x
  · rw [if_pos h1, if_pos (.inr h1.symm)]
  · rw [if_neg h1]
    by_cases h2 : e.1.toNat = x
    · rw [if_pos h2, if_pos (.inl h2.symm)]
    · rw [if_neg h2, if_neg (by omega)]
theorem stepE_length (out : List Int) (e : Int × Int) : (stepE out e).length = out.length := by simp [stepE]
theorem stepE_le {n : Int} {out : List Int} {e : Int × Int} (hl : out.length = n.toNat) (ho : okE n e) {x : Nat} (hx : x < n.toNat) : (stepE out e).getD x 0 ≤ out.getD x 0 := by
  rw [stepE_get hl ho hx]
  split
  · rename_i h
    rcases h with rfl | rfl <;> omega
  · omega
theorem stepE_snd {n : Int} {es : List (Int × Int)} {out : List Int} {e : Int × Int} (ho : okE n e) (he : e ∈ es) (h : Snd n es out) : Snd n es (stepE out e) := by
  refine ⟨by rw [stepE_length, h.1], fun x hx => ?_⟩
  rw [stepE_get h.1 ho hx]
  have ho' := ho
  unfold okE at ho'
  split
  · rename_i hxe
    obtain ⟨y1, a1, b1, c1⟩ := h.2 e.1.toNat (by omega)
    obtain ⟨y2, a2, b2, c2⟩ := h.2 e.2.toNat (by omega)
    rw [a1, a2]
    rw [Int.toNat_of_nonneg ho'.1] at c1
    rw [Int.toNat_of_nonneg (by omega)] at c2
    have hadj : Conn es e.1 e.2 := .of (.inl he)
    have hc : ∀ y : Nat, Conn es (y : Nat) e.1 → Conn es (y : Nat) (x : Nat) := by
      intro y hy
      rcases hxe with rfl | rfl
      · rw [Int.toNat_of_nonneg ho'.1]; exact hy
      · rw [Int.toNat_of_nonneg (by omega)]; exact hy.trans hadj
    refine ⟨min y1 y2, by omega, by omega, ?_⟩
    rcases Nat.le_total y1 y2 with hle | hle
    · rw [Nat.min_eq_left hle]; exact hc _ c1
    · rw [Nat.min_eq_right hle]; exact hc _ (c2.trans hadj.symm)
  · exact h.2 x hx
theorem roundE_facts {n : Int} {es : List (Int × Int)} : ∀ {fs : List (Int × Int)} {out : List Int}, (∀ e ∈ fs, okE n e) → (∀ e ∈ fs, e ∈ es) → Snd n es out →
    Snd n es (fs.foldl stepE out) ∧ (∀ x : Nat, x < n.toNat → (fs.foldl stepE out).getD x 0 ≤ out.getD x 0) ∧
    ∀ e ∈ fs, (fs.foldl stepE out).getD e.1.toNat 0 ≤ out.getD e.2.toNat 0 ∧ (fs.foldl stepE out).getD e.2.toNat 0 ≤ out.getD e.1.toNat 0
  | [], out, _, _, h => ⟨h, fun _ _ => Int.le_refl _, by simp⟩
  | e :: fs, out, ho, hs, h => by
    have h1 := stepE_snd (ho e (by simp)) (hs e (by simp)) h
    obtain ⟨a, b, c⟩ := roundE_facts (fs := fs) (fun e he => ho e (by simp [he])) (fun e he => hs e (by simp [he])) h1
    simp only [List.foldl_cons]
    refine ⟨a, fun x hx => Int.le_trans (b x hx) (stepE_le h.1 (ho e (by simp)) hx), fun f hf => ?_⟩
    have hf' := ho f hf
    unfold okE at hf'
    rcases List.mem_cons.1 hf with rfl | hf
    · have h2 := b f.1.toNat (by omega)
      have h3 := b f.2.toNat (by omega)
      rw [stepE_get h.1 (ho f (by simp)) (by omega), if_pos (.inl rfl)] at h2
      rw [stepE_get h.1 (ho f (by simp)) (by omega), if_pos (.inr rfl)] at h3
      omega
    · have h2 := c f hf
      have h3 := stepE_le h.1 (ho e (by simp)) (show f.1.toNat < n.toNat by omega)
      have h4 := stepE_le h.1 (ho e (by simp)) (show f.2.toNat < n.toNat by omega)
      omega
theorem iota_snd (n : Int) (es : List (Int × Int)) : Snd n es (iota n) := ⟨by simp [iota], fun x hx => ⟨x, by simp [iota, hx], Nat.le_refl _, .refl _⟩⟩
theorem rounds_snd {n : Int} {es : List (Int × Int)} (ho : ∀ e ∈ es, okE n e) : ∀ k, Snd n es (rounds es k (iota n))
  | 0 => iota_snd n es
  | k + 1 => (roundE_facts ho (fun _ h => h) (rounds_snd ho k)).1
theorem rounds_le {n : Int} {es : List (Int × Int)} (ho : ∀ e ∈ es, okE n e) {r : Nat} (hr : r < n.toNat) : ∀ (k : Nat) {y : Int}, Rk es (r : Nat) k y → 0 ≤ y ∧ y < n ∧ (rounds es k (iota n)).getD y.toNat 0 ≤ (r : Nat)
  | 0, y, h => by
    cases h
    exact ⟨by omega, by omega, by simp [rounds, iota, hr]⟩
  | k + 1, y, h => by
    obtain ⟨-, f2, f3⟩ := roundE_facts ho (fun _ h => h) (rounds_snd ho k)
    rcases h with h | ⟨z, h, a⟩
    · obtain ⟨h1, h2, h3⟩ := rounds_le ho hr k h
      exact ⟨h1, h2, Int.le_trans (f2 _ (by omega)) h3⟩
    · obtain ⟨h1, h2, h3⟩ := rounds_le ho hr k h
      have hok := a.ok ho
      refine ⟨by omega, by omega, ?_⟩
      rcases a with a | a
      · exact Int.le_trans (f3 _ a).2 h3
      · exact Int.le_trans (f3 _ a).1 h3
theorem rounds_lab {n : Int} {es : List (Int × Int)} (ho : ∀ e ∈ es, okE n e) : rounds es n.toNat (iota n) = lab n es := by
  refine lab_ext (rounds_snd ho _) fun x hx => ?_
  obtain ⟨h1, h2, _⟩ := least_spec es x
  have ho' : ∀ e ∈ es, okE ((n.toNat : Nat) : Int) e := fun e he => by have := ho e he; unfold okE at this ⊢; omega
  have := (rounds_le ho (show least es x < n.toNat by omega) n.toNat (Rk.all ho' h2)).2.2
  simpa using this
theorem lab_beq {n : Int} {es : List (Int × Int)} {x y : Int} (hx : 0 ≤ x ∧ x < n) (hy : 0 ≤ y ∧ y < n) : decide ((lab n es).getD x.toNat 0 = (lab n es).getD y.toNat 0) = decide (Conn es x y) :=
  decide_eq_decide.2 (lab_iff hx hy)
theorem sum_set {l : List Int} {k : Nat} {v : Int} (h : k < l.length) : (l.set k v).sum = l.sum + v - l.getD k 0 := by
  induction l generalizing k with
  | nil => simp at h
  | cons x l ih =>
    cases k with
    | zero => simp; omega
    | succ k =>
      have := ih (k := k) (by simpa using h)
      simp only [List.set_cons_succ, List.sum_cons, this, List.getD_cons_succ]; omega
theorem sum_nonneg {l : List Int} (h : ∀ x ∈ l, 0 ≤ x) : 0 ≤ l.sum := by
  induction l with
  | nil => simp
  | cons x l ih =>
    have h1 := h x (by simp)
    have h2 := ih fun y hy => h y (by simp [hy])
    simp only [List.sum_cons]; omega
theorem Snd.sum {n : Int} {es : List (Int × Int)} {out : List Int} (h : Snd n es out) : 0 ≤ out.sum := by
  refine sum_nonneg fun x hx => ?_
  obtain ⟨i, hi, rfl⟩ := List.getElem_of_mem hx
  obtain ⟨y, hy, _⟩ := h.2 i (by rw [← h.1]; exact hi)
  have : out.getD i 0 = out[i] := by simp [hi]
  rw [← this, hy]; omega
theorem Snd.set1 {n : Int} {es : List (Int × Int)} {out : List Int} {e : Int × Int} (h : Snd n es out) (ho : okE n e) (he : e ∈ es) : Snd n es (out.set e.2.toNat (out.getD e.1.toNat 0)) := by
  unfold okE at ho
  refine ⟨by simp [h.1], fun x hx => ?_⟩
  rw [getD_set (by rw [h.1]; exact hx)]
  split
  · rename_i hx'
    obtain ⟨y, a, b, c⟩ := h.2 e.1.toNat (by omega)
    refine ⟨y, a, by omega, ?_⟩
    rw [Int.toNat_of_nonneg ho.1] at c
    rw [← hx', Int.toNat_of_nonneg (by omega)]
    exact .step c (.inl he)
  · exact h.2 x hx
theorem Snd.set2 {n : Int} {es : List (Int × Int)} {out : List Int} {e : Int × Int} (h : Snd n es out) (ho : okE n e) (he : e ∈ es) (hl : out.getD e.2.toNat 0 < out.getD e.1.toNat 0) : Snd n es (out.set e.1.toNat (out.getD e.2.toNat 0)) := by
  unfold okE at ho
  refine ⟨by simp [h.1], fun x hx => ?_⟩
  rw [getD_set (by rw [h.1]; exact hx)]
  split
  · rename_i hx'
    obtain ⟨y, a, b, c⟩ := h.2 e.2.toNat (by omega)
    obtain ⟨y', a', b', c'⟩ := h.2 e.1.toNat (by omega)
    refine ⟨y, a, by omega, ?_⟩
    rw [Int.toNat_of_nonneg (by omega)] at c
    rw [← hx', Int.toNat_of_nonneg ho.1]
    exact .step c (.inr he)
  · exact h.2 x hx
end Go.Proofs.YtdlfdoicheakoaaGreat.X
