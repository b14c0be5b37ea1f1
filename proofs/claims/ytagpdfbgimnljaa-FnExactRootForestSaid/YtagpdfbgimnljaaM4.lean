/- Shortest paths: plain law. -/
import Derived.Test.YtagpdfbgimnljaaM3
set_option linter.unusedVariables false
namespace Go.Proofs.Ytagpdfbgimnljaa.X
open Go

theorem Rk.one {es : List (Int × Int)} {x y : Int} (h : Adj es x y) : Rk es x 1 y := .inr ⟨x, rfl, h⟩
theorem Rk.comp {es : List (Int × Int)} {x y : Int} {j : Nat} (h : Rk es x j y) : ∀ (k : Nat) {z : Int}, Rk es y k z → Rk es x (j + k) z
  | 0, z, hk => by cases hk; exact h
  | k + 1, z, hk => by
    rcases hk with hk | ⟨w, hw, ha⟩
    · exact .inl (Rk.comp h k hk)
    · exact .inr ⟨w, Rk.comp h k hw, ha⟩
theorem Rk.symm {es : List (Int × Int)} {x : Int} : ∀ (k : Nat) {y : Int}, Rk es x k y → Rk es y k x
  | 0, y, h => by cases h; rfl
  | k + 1, y, h => by
    rcases h with h | ⟨z, h, a⟩
    · exact .inl (Rk.symm k h)
    · have := (Rk.one a.symm).comp k (Rk.symm k h)
      rwa [Nat.add_comm 1 k] at this
theorem dst_symm {n : Int} {es : List (Int × Int)} {x y : Int} (ho : ∀ e ∈ es, okE n e) (hc : Conn es x y) : dst n es x y = dst n es y x := by
  obtain ⟨a0, a1, a2⟩ := dst_spec ho hc
  obtain ⟨b0, b1, b2⟩ := dst_spec ho hc.symm
  have h1 := a2 _ (b1.symm _)
  have h2 := b2 _ (a1.symm _)
  omega
theorem dst_tri {n : Int} {es : List (Int × Int)} {x y z : Int} (ho : ∀ e ∈ es, okE n e) (hc : Conn es x y) (hd : Conn es y z) : dst n es x z ≤ dst n es x y + dst n es y z := by
  obtain ⟨a0, a1, a2⟩ := dst_spec ho hc
  obtain ⟨b0, b1, b2⟩ := dst_spec ho hd
  obtain ⟨c0, c1, c2⟩ := dst_spec ho (hc.trans hd)
  have := c2 _ (a1.comp _ b1)
  omega
theorem gpath_len (es : List (Int × Int)) (far : List Int) : ∀ (k : Nat) (x : Int), (gpath es far k x).length = k + 1
  | 0, _ => rfl
  | k + 1, x => by rw [gpath, List.length_cons, gpath_len es far k]
theorem pathL_len {n : Int} {es : List (Int × Int)} {x y : Int} : (pathL n es x y).length = (dst n es y x).toNat + 1 := gpath_len _ _ _ _
/-- What stands at each place of a path. -/
theorem gpath_at {n : Int} {es : List (Int × Int)} {t : Int} (ho : ∀ e ∈ es, okE n e) (hn : 0 ≤ n) : ∀ (k : Nat) {x : Int}, Conn es t x → dst n es t x = k →
    ∀ i : Nat, i ≤ k → Conn es t ((gpath es (dstL n es t) k x).getD i 0) ∧ dst n es t ((gpath es (dstL n es t) k x).getD i 0) = k - i ∧
      (i < k → Adj es ((gpath es (dstL n es t) k x).getD i 0) ((gpath es (dstL n es t) k x).getD (i + 1) 0))
  | 0, x, hc, hd, i, hi => by
    obtain rfl : i = 0 := by omega
    exact ⟨hc, by simpa [gpath] using hd, fun h => by omega⟩
  | k + 1, x, hc, hd, i, hi => by
    obtain ⟨s1, s2, -, -⟩ := nxtN_spec ho hn hc (by omega)
    have ha := (mem_nbS ho).1 s1
    have ih := gpath_at ho hn k (hc.step ha) (by omega)
    cases i with
    | zero =>
      refine ⟨by simpa [gpath] using hc, by simp only [gpath, List.getD_cons_zero]; omega, fun _ => ?_⟩
      have e : ∀ x, (gpath es (dstL n es t) k x).getD 0 0 = x := fun x => by cases k <;> rfl
      simp only [gpath, List.getD_cons_zero, List.getD_cons_succ, e]
      exact ha
    | succ i =>
      obtain ⟨i1, i2, i3⟩ := ih i (by omega)
      simp only [gpath, List.getD_cons_succ]
      exact ⟨i1, by omega, fun h => i3 (by omega)⟩
theorem pathL_at {n : Int} {es : List (Int × Int)} {x y : Int} (ho : ∀ e ∈ es, okE n e) (hn : 0 ≤ n) (hc : Conn es x y) {i : Nat} (hi : i < (pathL n es x y).length) :
    Conn es y ((pathL n es x y).getD i 0) ∧ dst n es y ((pathL n es x y).getD i 0) = dst n es y x - i ∧
      (i + 1 < (pathL n es x y).length → Adj es ((pathL n es x y).getD i 0) ((pathL n es x y).getD (i + 1) 0)) := by
  have h0 := (dst_spec ho hc.symm).1
  rw [pathL_len] at hi ⊢
  obtain ⟨h1, h2, h3⟩ := gpath_at ho hn (dst n es y x).toNat hc.symm (by omega) i (by omega)
  exact ⟨h1, by unfold pathL; omega, fun h => h3 (by omega)⟩
theorem pathL_zero {n : Int} {es : List (Int × Int)} {x y : Int} : (pathL n es x y).getD 0 0 = x := by
  unfold pathL
  cases (dst n es y x).toNat <;> rfl
theorem pathL_last {n : Int} {es : List (Int × Int)} {x y : Int} (ho : ∀ e ∈ es, okE n e) (hn : 0 ≤ n) (hc : Conn es x y) {i : Nat} (hi : i + 1 = (pathL n es x y).length) : (pathL n es x y).getD i 0 = y := by
  obtain ⟨h1, h2, h3⟩ := pathL_at ho hn hc (i := i) (by omega)
  have h0 := (dst_spec ho hc.symm).1
  rw [pathL_len] at hi
  exact dst_zero ho h1 (by omega)
theorem pathL_new {n : Int} {es : List (Int × Int)} {x y : Int} (ho : ∀ e ∈ es, okE n e) (hn : 0 ≤ n) (hc : Conn es x y) {i j : Nat} (hj : j < i) (hi : i < (pathL n es x y).length) :
    (pathL n es x y).getD j 0 ≠ (pathL n es x y).getD i 0 := by
  obtain ⟨h1, h2, h3⟩ := pathL_at ho hn hc hi
  obtain ⟨k1, k2, k3⟩ := pathL_at ho hn hc (i := j) (by omega)
  intro e
  rw [e] at k2
  omega
theorem pathL_notake {n : Int} {es : List (Int × Int)} {x y : Int} (ho : ∀ e ∈ es, okE n e) (hn : 0 ≤ n) (hc : Conn es x y) {i : Nat} (hi : i < (pathL n es x y).length) :
    (pathL n es x y).getD i 0 ∉ (pathL n es x y).take i := by
  intro hm
  rw [List.mem_take_iff_getElem] at hm
  obtain ⟨j, hj, he⟩ := hm
  refine pathL_new ho hn hc (i := i) (j := j) (by omega) hi ?_
  rw [← he]
  have : j < (pathL n es x y).length := by omega
  simp [this]
theorem pathL_chord {n : Int} {es : List (Int × Int)} {x y : Int} (ho : ∀ e ∈ es, okE n e) (hn : 0 ≤ n) (hc : Conn es x y) {i : Nat} (hi : i + 2 < (pathL n es x y).length) :
    ¬ Adj es ((pathL n es x y).getD (i + 2) 0) ((pathL n es x y).getD i 0) := by
  intro ha
  obtain ⟨h1, h2, h3⟩ := pathL_at ho hn hc hi
  obtain ⟨k1, k2, k3⟩ := pathL_at ho hn hc (i := i) (by omega)
  have := dst_adj ho h1 ha
  omega
end Go.Proofs.Ytagpdfbgimnljaa.X
