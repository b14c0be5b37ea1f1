/- Paths without common edges: plain law. -/
import Derived.Test.YtdlfdoicheakoaaM10
set_option linter.unusedVariables false
namespace Go.Proofs.Ytdlfdoicheakoaa.X
open Go
/-- Units without one, and without those along a row of nodes. -/
def dropF (F : Un) (a b : Int) : Un := fun c d => if c = a ∧ d = b then false else F c d
def dropP (F : Un) : List Int → Un
  | a :: b :: r => dropP (dropF F a b) (b :: r)
  | _ => F
theorem dropF_le {F : Un} {a b c d : Int} (h : dropF F a b c d = true) : F c d = true := by
  unfold dropF at h; split at h
  · cases h
  · exact h
theorem dropP_le : ∀ {p : List Int} {F : Un} {c d : Int}, dropP F p c d = true → F c d = true
  | [], F, c, d, h => h
  | [a], F, c, d, h => h
  | a :: b :: r, F, c, d, h => dropF_le (dropP_le (p := b :: r) h)
theorem dropP_off : ∀ {p : List Int} {F : Un} {c d : Int}, F c d = false → dropP F p c d = false
  | p, F, c, d, h => by
    cases k : dropP F p c d with
    | false => rfl
    | true => rw [dropP_le k] at h; cases h
theorem dropP_snoc {a b : Int} : ∀ {l : List Int} {F : Un}, dropP F (l ++ [a, b]) = dropF (dropP F (l ++ [a])) a b
  | [], F => rfl
  | [c], F => rfl
  | c :: d :: l, F => by
    have := dropP_snoc (a := a) (b := b) (l := d :: l) (F := dropF F c d)
    simpa [dropP] using this
theorem dropP_take {F : Un} {p : List Int} {i : Nat} (h0 : 0 < i) (h1 : i < p.length) : dropP F (p.take (i + 1)) = dropF (dropP F (p.take i)) (p.getD (i - 1) 0) (p.getD i 0) := by
  obtain ⟨k, rfl⟩ : ∃ k, i = k + 1 := ⟨i - 1, by omega⟩
  have e1 : p.take (k + 1) = p.take k ++ [p.getD k 0] := by rw [List.take_add_one]; simp [show k < p.length by omega]
  have e2 : p.take (k + 1 + 1) = p.take k ++ [p.getD k 0, p.getD (k + 1) 0] := by
    rw [List.take_add_one, e1]; simp [h1]
  rw [e1, e2, dropP_snoc]; rfl
theorem OKF.sub {es : List (Int × Int)} {F G : Un} (h : OKF es F) (hs : ∀ a b, G a b = true → F a b = true) : OKF es G :=
  ⟨fun a b k => h.adj a b (hs a b k), fun a b k => by
    cases q : G b a with
    | false => rfl
    | true => have := h.one a b (hs a b k); rw [hs b a q] at this; cases this⟩
theorem dropF_stepF {F : Un} {a b : Int} (h : F a b = true) : dropF F a b = stepF F b a := by
  funext c d
  unfold dropF stepF
  rw [if_pos h]
theorem val_drop {n : Int} {es : List (Int × Int)} {S : Int → Bool} (ho : ∀ e ∈ es, okE n e) (hn : es.Nodup) : ∀ {p : List Int} {F : Un}, 0 < p.length → p.Nodup → OKF es F → Steps (fun a b => F a b = true) p →
    val S (dropP F p) es = val S F es + (b2i (S (p.getD (p.length - 1) 0)) - b2i (S (p.getD 0 0)))
  | [], F, h, _, _, _ => by simp at h
  | [a], F, _, _, _, _ => by simp [dropP]
  | a :: b :: r, F, _, hp, hF, hs => by
    rw [List.nodup_cons] at hp
    have hs' : Steps (fun c d => dropF F a b c d = true) (b :: r) := hs.2.mono fun c d hc hd h => by
      unfold dropF
      rw [if_neg (fun k : c = a ∧ d = b => hp.1 (by rw [← k.1]; exact hc))]; exact h
    rw [dropP, val_drop ho hn (p := b :: r) (by simp) hp.2 (hF.sub fun _ _ => dropF_le) hs', dropF_stepF hs.1, val_step ho hn (hF.adj a b hs.1).symm (hF.one a b hs.1), getD_cons_last]
    simp only [List.getD_cons_zero]
    omega
theorem val_neg {es : List (Int × Int)} {S : Int → Bool} {F : Un} (h : ∀ a b, Adj es a b → S a = true → S b = false → F a b = false) : val S F es ≤ 0 := by
  have := sum_le (f := contrib S F) (g := fun _ => 0) (es := es) fun e he => by
    have h1 := h e.1 e.2 (Or.inl he)
    have h2 := h e.2 e.1 (Or.inr he)
    unfold contrib b2i
    cases a1 : S e.1 <;> cases a2 : S e.2 <;> simp_all <;> split <;> omega
  have e0 : (es.map fun _ : Int × Int => (0 : Int)).sum = 0 := by
    clear this h
    induction es with
    | nil => rfl
    | cons e es ih => simpa using ih
  unfold val
  omega
/-- The units that paths have left. -/
def dpF (n : Int) (es : List (Int × Int)) (x y : Int) : Nat → Un
  | 0 => flU n es x y
  | k + 1 => dropP (dpF n es x y k) (wayL n (bfs n es (dpF n es x y k) x).1 x y)
def dpP (n : Int) (es : List (Int × Int)) (x y : Int) (k : Nat) : List Int := wayL n (bfs n es (dpF n es x y k) x).1 x y
section
variable {n : Int} {es : List (Int × Int)} {x y : Int}
theorem dp_way0 (ho : ∀ e ∈ es, okE n e) (hx : 0 ≤ x ∧ x < n) {F : Un} {k : Int} (hy : 0 ≤ y ∧ y < n) (hk : 0 < k) (hv : ∀ S : Int → Bool, S x = true → S y = false → val S F es = k) : y ∈ (bfs n es F x).2 := by
  refine Classical.byContradiction fun hno => ?_
  have hB := bfs_inv (goes := F) ho hx
  have hxm : x ∈ (bfs n es F x).2 := by
    have := getD_mem (d := 0) hB.pos
    rw [hB.hd] at this; exact this
  have h1 := hv (fun v => decide (v ∈ (bfs n es F x).2)) (by simpa using hxm) (by simpa using hno)
  have h2 := val_neg (es := es) (S := fun v => decide (v ∈ (bfs n es F x).2)) (F := F) fun a b hab ha hb => by
    simp only [decide_eq_true_eq, decide_eq_false_iff_not] at ha hb
    cases q : F a b with
    | false => rfl
    | true => exact absurd (bfs_closed ho hx ha hab q) hb
  omega
theorem dp_inv (ho : ∀ e ∈ es, okE n e) (hn : es.Nodup) (hx : 0 ≤ x ∧ x < n) (hy : 0 ≤ y ∧ y < n) (hxy : x ≠ y) : ∀ k, k ≤ flN n es x y → OKF es (dpF n es x y k) ∧ ∀ S : Int → Bool, S x = true → S y = false → val S (dpF n es x y k) es = (flN n es x y : Int) - k
  | 0, _ => by
    obtain ⟨h1, h2⟩ := flS_inv ho hn hx _ (flN_spec ho hn hx hxy).2.1
    exact ⟨h1, fun S a b => by rw [dpF, flU, h2 S a b]; omega⟩
  | k + 1, hk => by
    obtain ⟨h1, h2⟩ := dp_inv ho hn hx hy hxy k (by omega)
    have hm := dp_way0 (k := (flN n es x y : Int) - k) ho hx hy (by omega) h2
    have hw := bfs_way ho hx hm
    have hst : Steps (fun a b => dpF n es x y k a b = true) (wayL n (bfs n es (dpF n es x y k) x).1 x y) := Steps.of fun i hi => (hw.st i hi).2
    refine ⟨h1.sub fun _ _ => dropP_le, fun S hSx hSy => ?_⟩
    rw [dpF, val_drop ho hn hw.pos hw.nd h1 hst, h2 S hSx hSy, hw.hd, hw.la, hSx, hSy]
    simp only [b2i, if_true, Bool.false_eq_true, if_false]
    omega
theorem dp_mem (ho : ∀ e ∈ es, okE n e) (hn : es.Nodup) (hx : 0 ≤ x ∧ x < n) (hy : 0 ≤ y ∧ y < n) (hxy : x ≠ y) {k : Nat} (hk : k < flN n es x y) : y ∈ (bfs n es (dpF n es x y k) x).2 :=
  dp_way0 (k := (flN n es x y : Int) - k) ho hx hy (by omega) (dp_inv ho hn hx hy hxy k (by omega)).2
theorem dp_way (ho : ∀ e ∈ es, okE n e) (hn : es.Nodup) (hx : 0 ≤ x ∧ x < n) (hy : 0 ≤ y ∧ y < n) (hxy : x ≠ y) {k : Nat} (hk : k < flN n es x y) : Way es (dpF n es x y k) x y (dpP n es x y k) :=
  bfs_way ho hx (dp_mem ho hn hx hy hxy hk)
/-- The edges that do not lead out of a set. -/
def keepS (S : Int → Bool) (es : List (Int × Int)) : List (Int × Int) := es.filter fun e => S e.1 == S e.2
end
end Go.Proofs.Ytdlfdoicheakoaa.X
