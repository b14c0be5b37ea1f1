/- Certificates: plain law. -/
import Derived.Test.YtbaholclcfpknaaM11
import Derived.Test.YtbaholclcfpknaaM12
set_option linter.unusedVariables false
namespace Go.Proofs.Ytbaholclcfpknaa.X
open Go

/-- What forests leave. -/
noncomputable def restE (es : List (Int × Int)) : Nat → List (Int × Int)
  | 0 => es
  | k + 1 => (restE es k).filter fun e => !decide (e ∈ forestL (restE es k))
/-- The edges of forests. -/
noncomputable def certL (es : List (Int × Int)) (k : Nat) : List (Int × Int) := es.filter fun e => !decide (e ∈ restE es k)
theorem rest_sub {es : List (Int × Int)} : ∀ k, (restE es k).Sublist es
  | 0 => List.Sublist.refl _
  | k + 1 => List.filter_sublist.trans (rest_sub k)
theorem rest_succ {es : List (Int × Int)} {k : Nat} {e : Int × Int} : e ∈ restE es (k + 1) ↔ e ∈ restE es k ∧ e ∉ forestL (restE es k) := by simp [restE]
theorem rest_ok {n : Int} {es : List (Int × Int)} (ho : ∀ e ∈ es, okE n e) (k : Nat) : ∀ f ∈ restE es k, okE n f := fun f hf => ho f ((rest_sub k).subset hf)
theorem cert_mem {es : List (Int × Int)} {k : Nat} {e : Int × Int} : e ∈ certL es k ↔ e ∈ es ∧ e ∉ restE es k := by simp [certL]
theorem cert_succ {n : Int} {es : List (Int × Int)} (ho : ∀ e ∈ es, okE n e) {k : Nat} {e : Int × Int} : e ∈ certL es (k + 1) ↔ e ∈ certL es k ∨ e ∈ forestL (restE es k) := by
  rw [cert_mem, cert_mem, rest_succ]
  have h1 : e ∈ forestL (restE es k) → e ∈ restE es k := fun h => (forest_sub (rest_ok ho k)).subset h
  have h2 : e ∈ restE es k → e ∈ es := fun h => (rest_sub k).subset h
  constructor
  · rintro ⟨a, b⟩
    by_cases h : e ∈ restE es k
    · exact .inr (Classical.byContradiction fun c => b ⟨h, c⟩)
    · exact .inl ⟨a, h⟩
  · rintro (⟨a, b⟩ | a)
    · exact ⟨a, fun c => b c.1⟩
    · exact ⟨h2 (h1 a), fun c => c.2 a⟩
theorem cutsz_cert {S : Int → Bool} {es : List (Int × Int)} {k : Nat} : cutsz S (certL es k) = (es.filter fun e => (S e.1 != S e.2) && !decide (e ∈ restE es k)).length := by
  unfold cutsz certL
  rw [List.filter_filter]
theorem cutsz_has {S : Int → Bool} {es : List (Int × Int)} {a b : Int} (hc : Conn es a b) (h : S a ≠ S b) : ∃ e ∈ es, S e.1 ≠ S e.2 := by
  refine Classical.byContradiction fun hn => h ?_
  have h0 : cutsz S es = 0 := by
    unfold cutsz
    rw [List.length_eq_zero_iff, List.filter_eq_nil_iff]
    intro e he hb
    exact hn ⟨e, he, by simpa using hb⟩
  exact cutsz_zero h0 hc
/-- An edge that is left leads out of a set: each forest has one that does. -/
theorem cert_cross {n : Int} {es : List (Int × Int)} {S : Int → Bool} (ho : ∀ e ∈ es, okE n e) : ∀ {k : Nat} {e : Int × Int}, e ∈ restE es k → S e.1 ≠ S e.2 → k ≤ cutsz S (certL es k)
  | 0, _, _, _ => Nat.zero_le _
  | k + 1, e, he, hS => by
    have h1 := rest_succ.1 he
    have ih := cert_cross ho h1.1 hS
    have hc : Conn (forestL (restE es k)) e.1 e.2 := (forest_conn (rest_ok ho k)).2 (Conn.edge h1.1)
    obtain ⟨f, hf, hfS⟩ := cutsz_has hc hS
    have hfr : f ∈ restE es k := (forest_sub (rest_ok ho k)).subset hf
    have hlt := filter_lt (p := fun e => (S e.1 != S e.2) && !decide (e ∈ restE es k)) (q := fun e => (S e.1 != S e.2) && !decide (e ∈ restE es (k + 1))) (l := es)
      (fun x hx hp => by
        simp only [Bool.and_eq_true, Bool.not_eq_true', decide_eq_false_iff_not] at hp ⊢
        exact ⟨hp.1, fun c => hp.2 (rest_succ.1 c).1⟩)
      ⟨f, (rest_sub k).subset hfr, by
        simp only [Bool.and_eq_true, Bool.not_eq_true', decide_eq_false_iff_not, bne_iff_ne]
        exact ⟨hfS, fun c => (rest_succ.1 c).2 hf⟩, by
        simp [hfr]⟩
    rw [cutsz_cert] at ih ⊢
    omega
theorem cert_flow {n : Int} {es : List (Int × Int)} {x y : Int} {k : Nat} (ho : ∀ e ∈ es, okE n e) (hn : es.Nodup) (hx : 0 ≤ x ∧ x < n) (hxy : x ≠ y) : min (flN n es x y) k ≤ flN n (certL es k) x y := by
  have hoc : ∀ e ∈ certL es k, okE n e := fun e he => ho e (cert_mem.1 he).1
  have hnc : (certL es k).Nodup := hn.sublist List.filter_sublist
  have hc := flow_cut (y := y) hoc hnc hx hxy
  have hSx : (fun v => decide (v ∈ sideO n (certL es k) x y)) x = true := decide_eq_true (side_x hoc hx)
  have hSy : (fun v => decide (v ∈ sideO n (certL es k) x y)) y = false := decide_eq_false (side_y hoc hnc hx hxy)
  have hle := flow_le (S := fun v => decide (v ∈ sideO n (certL es k) x y)) ho hn hx hxy hSx hSy
  generalize (fun v => decide (v ∈ sideO n (certL es k) x y)) = S at hc hSx hSy hle
  by_cases h : ∃ e ∈ restE es k, S e.1 ≠ S e.2
  · obtain ⟨e, he, hS⟩ := h
    have := cert_cross ho he hS
    omega
  · have e1 : cutsz S (certL es k) = cutsz S es := by
      rw [cutsz_cert]
      unfold cutsz
      congr 1
      refine List.filter_congr fun e he => ?_
      by_cases hr : e ∈ restE es k
      · have : S e.1 = S e.2 := Classical.byContradiction fun c => h ⟨e, hr, c⟩
        simp [this]
      · simp [hr]
    omega
theorem cert_zero {es : List (Int × Int)} : certL es 0 = [] := by
  unfold certL
  rw [List.filter_eq_nil_iff]
  intro e he
  simp [restE, he]
theorem cert_len {n : Int} {es : List (Int × Int)} (ho : ∀ e ∈ es, okE n e) (hn : es.Nodup) (h1 : 1 ≤ n) : ∀ k : Nat, ((certL es k).length : Int) ≤ k * (n - 1)
  | 0 => by rw [cert_zero]; simp
  | k + 1 => by
    have ih := cert_len ho hn h1 k
    have hsub : (certL es (k + 1)).length ≤ (certL es k ++ forestL (restE es k)).length := len_le_of_sub (hn.sublist List.filter_sublist) fun e he => List.mem_append.2 ((cert_succ ho).1 he)
    have hf := forest_len (rest_ok ho k)
    have hp := cnt_pos (n := n) (es := restE es k) h1
    rw [List.length_append] at hsub
    have e1 : ((k + 1 : Nat) : Int) * (n - 1) = k * (n - 1) + (n - 1) := by rw [Int.natCast_add, Int.add_mul]; simp
    omega
theorem restE_ord {es : List (Int × Int)} (k : Nat) (h : es.Nodup) : (restE es k).Nodup := h.sublist (rest_sub k)
end Go.Proofs.Ytbaholclcfpknaa.X

