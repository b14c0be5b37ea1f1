/- Connected nodes, and their labels: plain law. -/
import Derived.Test.YtdlfdoicheakoaaRun
set_option linter.unusedVariables false
namespace Go.Proofs.Ytdlfdoicheakoaa.X
open Go
def Adj (es : List (Int × Int)) (x y : Int) : Prop := (x, y) ∈ es ∨ (y, x) ∈ es
theorem Adj.symm {es : List (Int × Int)} {x y : Int} (h : Adj es x y) : Adj es y x := h.elim .inr .inl
/-- Connected by edges. -/
inductive Conn (es : List (Int × Int)) : Int → Int → Prop
  | refl (x : Int) : Conn es x x
  | step {x y z : Int} (h : Conn es x y) (a : Adj es y z) : Conn es x z
noncomputable instance decConn (es : List (Int × Int)) (x y : Int) : Decidable (Conn es x y) := Classical.propDecidable _
theorem Conn.of {es : List (Int × Int)} {x y : Int} (h : Adj es x y) : Conn es x y := .step (.refl x) h
theorem Conn.trans {es : List (Int × Int)} {x y z : Int} (h : Conn es x y) (k : Conn es y z) : Conn es x z := by
  induction k with
  | refl => exact h
  | step _ a ih => exact .step ih a
theorem Conn.symm {es : List (Int × Int)} {x y : Int} (h : Conn es x y) : Conn es y x := by
  induction h with
  | refl => exact .refl _
  | step _ a ih => exact (Conn.of a.symm).trans ih
theorem Adj.mono {es fs : List (Int × Int)} (hs : ∀ e ∈ es, e ∈ fs) {x y : Int} (h : Adj es x y) : Adj fs x y := h.elim (fun h => .inl (hs _ h)) fun h => .inr (hs _ h)
theorem Conn.mono {es fs : List (Int × Int)} (hs : ∀ e ∈ es, e ∈ fs) {x y : Int} (h : Conn es x y) : Conn fs x y := by
  induction h with
  | refl => exact .refl _
  | step _ a ih => exact .step ih (a.mono hs)
theorem Adj.ok {n : Int} {es : List (Int × Int)} (ho : ∀ e ∈ es, okE n e) {x y : Int} (h : Adj es x y) : 0 ≤ x ∧ x < n ∧ 0 ≤ y ∧ y < n ∧ x ≠ y := by
  rcases h with h | h
  · have := ho _ h; unfold okE at this; simp only at this; omega
  · have := ho _ h; unfold okE at this; simp only at this; omega
theorem Conn.ok {n : Int} {es : List (Int × Int)} (ho : ∀ e ∈ es, okE n e) {x y : Int} (h : Conn es x y) : x = y ∨ (0 ≤ x ∧ x < n ∧ 0 ≤ y ∧ y < n) := by
  induction h with
  | refl => exact .inl rfl
  | step _ a ih =>
    have := a.ok ho
    rcases ih with rfl | ih
    · exact .inr ⟨by omega, by omega, by omega, by omega⟩
    · exact .inr ⟨by omega, by omega, by omega, by omega⟩
/-- What is closed under edges holds of connected nodes alike. -/
theorem Conn.closed {es : List (Int × Int)} {p : Int → Prop} (hp : ∀ x y, Adj es x y → p x → p y) {x y : Int} (h : Conn es x y) (hx : p x) : p y := by
  induction h with
  | refl => exact hx
  | step _ a ih => exact hp _ _ a ih
def Rk (es : List (Int × Int)) (x : Int) : Nat → Int → Prop
  | 0, y => y = x
  | k + 1, y => Rk es x k y ∨ ∃ z, Rk es x k z ∧ Adj es z y
theorem Rk.conn {es : List (Int × Int)} {x : Int} : ∀ {k : Nat} {y : Int}, Rk es x k y → Conn es x y
  | 0, y, h => by cases h; exact .refl _
  | k + 1, y, h => by
    rcases h with h | ⟨z, h, a⟩
    · exact h.conn
    · exact .step h.conn a
theorem Rk.self {es : List (Int × Int)} {x : Int} : ∀ k, Rk es x k x
  | 0 => rfl
  | k + 1 => .inl (Rk.self k)
theorem filter_lt {α : Type} {p q : α → Bool} : ∀ {l : List α}, (∀ x ∈ l, p x = true → q x = true) → (∃ x ∈ l, q x = true ∧ p x = false) → (l.filter p).length < (l.filter q).length
  | [], _, ⟨x, hx, _⟩ => by simp at hx
  | y :: l, h, ⟨x, hx, hq, hp⟩ => by
    have hle : (l.filter p).length ≤ (l.filter q).length := by
      clear hx
      have h' := fun x hx => h x (List.mem_cons_of_mem _ hx)
      clear h
      induction l with
      | nil => simp
      | cons z l ih =>
        have := ih fun x hx => h' x (List.mem_cons_of_mem _ hx)
        simp only [List.filter_cons]
        cases hpz : p z
        · simp only [Bool.false_eq_true, if_false]; split <;> simp <;> omega
        · rw [h' z (by simp) hpz]; simp only [if_true, List.length_cons]; omega
    rcases List.mem_cons.1 hx with rfl | hx
    · simp only [List.filter_cons, hp, hq, Bool.false_eq_true, if_false, if_true, List.length_cons]; omega
    · have ih := filter_lt (l := l) (fun x hx => h x (List.mem_cons_of_mem _ hx)) ⟨x, hx, hq, hp⟩
      simp only [List.filter_cons]
      cases hpz : p y
      · simp only [Bool.false_eq_true, if_false]; split <;> simp <;> omega
      · rw [h y (by simp) hpz]; simp only [if_true, List.length_cons]; omega
open Classical in
theorem Rk.all {n : Nat} {es : List (Int × Int)} (ho : ∀ e ∈ es, okE n e) {x y : Int} (h : Conn es x y) : Rk es x n y := by
  let c := fun k => ((List.range n).filter fun i => decide (Rk es x k (i : Nat))).length
  have key : ∀ k, k + 1 ≤ c k ∨ (∀ y z, Rk es x k y → Adj es y z → Rk es x k z) := by
    intro k
    induction k with
    | zero =>
      by_cases hx : 0 ≤ x ∧ x < n
      · left
        have : x.toNat ∈ (List.range n).filter fun i => decide (Rk es x 0 (i : Nat)) := by
          simp only [List.mem_filter, List.mem_range, decide_eq_true_eq]
          exact ⟨by omega, by show ((x.toNat : Nat) : Int) = x; omega⟩
        have := List.length_pos_of_mem this
        exact this
      · right
        intro y z hy a
        have := a.ok ho
        have hy' : y = x := hy
        omega
    | succ k ih =>
      by_cases hcl : ∀ y z, Rk es x k y → Adj es y z → Rk es x k z
      · right
        intro y z hy a
        have hy' : Rk es x k y := by
          rcases hy with h | ⟨u, h, b⟩
          · exact h
          · exact hcl _ _ h b
        exact .inl (hcl _ _ hy' a)
      · rcases ih with ih | ih
        · left
          have hlt : c k < c (k + 1) := by
            refine filter_lt (fun i _ hi => ?_) ?_
            · simp only [decide_eq_true_eq] at hi ⊢
              exact .inl hi
            · refine byContradiction fun hno => hcl fun y z hy a => byContradiction fun hz => hno ?_
              have := a.ok ho
              refine ⟨z.toNat, List.mem_range.2 (by omega), ?_, ?_⟩
              · simp only [decide_eq_true_eq, Int.toNat_of_nonneg (show 0 ≤ z by omega)]
                exact .inr ⟨y, hy, a⟩
              · simp only [decide_eq_false_iff_not, Int.toNat_of_nonneg (show 0 ≤ z by omega)]
                exact hz
          omega
        · exact absurd ih hcl
  have hn : c n ≤ n := by
    have := List.length_filter_le (fun i => decide (Rk es x n ((i : Nat) : Int))) (List.range n)
    simpa using this
  rcases key n with h1 | h1
  · omega
  · refine h.closed (p := fun y => Rk es x n y) (fun y z a hy => h1 y z hy a) ?_
    exact Rk.self n
open Classical in
noncomputable def least (es : List (Int × Int)) (x : Nat) : Nat := ((List.range (x + 1)).find? fun y => decide (Conn es (y : Nat) (x : Nat))).getD x
theorem least_spec (es : List (Int × Int)) (x : Nat) : least es x ≤ x ∧ Conn es (least es x : Nat) (x : Nat) ∧ ∀ y : Nat, y < least es x → ¬ Conn es (y : Nat) (x : Nat) := by
  unfold least
  cases h : (List.range (x + 1)).find? fun y => @decide (Conn es (y : Nat) (x : Nat)) (Classical.propDecidable _) with
  | none =>
    rw [List.find?_eq_none] at h
    exact absurd (Conn.refl (x : Int)) (by simpa using h x (by simp))
  | some y =>
    rw [List.find?_range_eq_some] at h
    obtain ⟨h1, h2, h3⟩ := h
    simp only [decide_eq_true_eq] at h1
    refine ⟨?_, h1, fun z hz => by simpa using h3 z hz⟩
    have := List.mem_range.1 h2
    simp only [Option.getD_some]; omega
noncomputable def lab (n : Int) (es : List (Int × Int)) : List Int := (List.range n.toNat).map fun x => ((least es x : Nat) : Int)
/-- Labels that are of the part, and not above the node. -/
def Snd (n : Int) (es : List (Int × Int)) (out : List Int) : Prop := out.length = n.toNat ∧ ∀ x : Nat, x < n.toNat → ∃ y : Nat, out.getD x 0 = y ∧ y ≤ x ∧ Conn es (y : Nat) (x : Nat)
theorem Snd.ge {n : Int} {es : List (Int × Int)} {out : List Int} (h : Snd n es out) {x : Nat} (hx : x < n.toNat) : (least es x : Nat) ≤ out.getD x 0 := by
  obtain ⟨y, h1, h2, h3⟩ := h.2 x hx
  rw [h1]
  have := (least_spec es x).2.2 y
  refine Int.ofNat_le.2 (Nat.le_of_not_lt fun hl => this hl h3)
def stepE (out : List Int) (e : Int × Int) : List Int := (out.set e.1.toNat (min (out.getD e.1.toNat 0) (out.getD e.2.toNat 0))).set e.2.toNat (min (out.getD e.1.toNat 0) (out.getD e.2.toNat 0))
def roundE (es : List (Int × Int)) (out : List Int) : List Int := es.foldl stepE out
def iota (n : Int) : List Int := (List.range n.toNat).map fun x => ((x : Nat) : Int)
def rounds (es : List (Int × Int)) : Nat → List Int → List Int
  | 0, out => out
  | k + 1, out => roundE es (rounds es k out)
theorem getD_set {l : List Int} {i j : Nat} {x d : Int} (h : j < l.length) : (l.set i x).getD j d = if i = j then x else l.getD j d := by
  simp only [List.getD, List.getElem?_set]
  split
  · subst i; simp [h]
  · rfl
theorem sum_nonneg {l : List Int} (h : ∀ x ∈ l, 0 ≤ x) : 0 ≤ l.sum := by
  induction l with
  | nil => simp
  | cons x l ih =>
    have h1 := h x (by simp)
    have h2 := ih fun y hy => h y (by simp [hy])
    simp only [List.sum_cons]; omega
theorem Snd.sum {n : Int} {es : List (Int × Int)} {out : List Int} (h : Snd n es out) : 0 ≤ out.sum := by
  refine sum_nonneg fun x hx => ?_
  obtain ⟨i, hi, rfl⟩ := List.getElem_of_mem hx
  obtain ⟨y, hy, _⟩ := h.2 i (by rw [← h.1]; exact hi)
  have : out.getD i 0 = out[i] := by simp [hi]
  rw [← this, hy]; omega
end Go.Proofs.Ytdlfdoicheakoaa.X
