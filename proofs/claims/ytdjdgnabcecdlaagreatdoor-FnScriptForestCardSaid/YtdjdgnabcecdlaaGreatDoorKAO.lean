/- What functions answer, and the plain laws behind it. -/
import Derived.Test.YtdjdgnabcecdlaaGreatDoorC21
import Derived.Test.YtdjdgnabcecdlaaGreatDoorKAN
import Derived.Test.YtdjdgnabcecdlaaGreatDoorKAG
import Derived.Test.YtdjdgnabcecdlaaGreatDoorKAK
import Derived.Test.YtdjdgnabcecdlaaGreatDoorKAL
import Derived.Test.YtdjdgnabcecdlaaGreatDoorKAM
/- What functions compute: the tour of a tree. -/
set_option linter.unusedSimpArgs false
set_option linter.unusedVariables false
set_option maxHeartbeats 8000000
set_option maxRecDepth 100000
namespace Go.Proofs.YtdjdgnabcecdlaaGreatDoor.X
open Go Go.Proofs
/-- A tour so far: the neighbors up to a place have been gone to. -/
def tkL (es : List (Int × Int)) (f : Nat) (x p : Int) (ys : List Int) : List Int := x :: ys.flatMap fun y => if y = p then [] else tourL es f y x ++ [x]
theorem tkL_all (es : List (Int × Int)) (f : Nat) (x p : Int) : tkL es f x p (nbS x es) = tourL es (f + 1) x p := by
  unfold tkL
  rw [tourL, kidsL]
  congr 1
  generalize nbS x es = l
  induction l with
  | nil => rfl
  | cons a l ih =>
    rw [List.flatMap_cons, List.filter_cons]
    by_cases h : a = p
    · rw [if_pos h, if_neg (by simpa using h), List.nil_append, ih]
    · rw [if_neg h, if_pos (by simpa using h), List.flatMap_cons, ih]
theorem tkL_snoc (es : List (Int × Int)) (f : Nat) (x p y : Int) (ys : List Int) : tkL es f x p (ys ++ [y]) = tkL es f x p ys ++ if y = p then [] else tourL es f y x ++ [x] := by
  simp [tkL]
theorem tkL_len {es : List (Int × Int)} {f : Nat} {x p : Int} {l : List Int} (k : Nat) : (tkL es f x p (l.take k)).length ≤ (tkL es f x p l).length := by
  conv => rhs; rw [← List.take_append_drop k l]
  unfold tkL
  rw [List.flatMap_append]
  simp only [List.length_cons, List.length_append]
  omega
theorem tour_le {n : Int} {es : List (Int × Int)} (hG : OKG n es) (hn : es.Nodup) (ht : Tree n es) {r : Int} {f : Nat} {x p : Int} (h : At n es r x p) (hf : n - dst n es r x ≤ f) : (tourL es f x p).length ≤ 31 := by
  have h1 := tour_len (es := es) f (x := x) (p := p)
  have h2 := sub_len hG.ok hn hG.n0 ht h hf
  have h3 := hG.n1
  omega
theorem c_tour {n : Int} {es : List (Int × Int)} (hG : OKG n es) (hn : es.Nodup) (ht : Tree n es) {r : Int} : ∀ (f : Nat) (x p : Int), At n es r x p → n - dst n es r x ≤ f →
    KP 100 [GL n es, I x, I p] [] = some (.ref 2000 0 0 (tourL es f x p).length, [], [.arr 0 1 ((tourL es f x p).map encI)]) := by
  have ho := hG.ok
  have h0 := hG.n0
  have hlen := hG.len
  intro f
  induction f with
  | zero =>
    intro x p h hf
    have := dst_bound ho h0 h.cn h.inx
    omega
  | succ f ih =>
    intro x p h hf
    have hnb := c_neighbors n x es (by omega)
    have hnbl : (nbS x es).length ≤ 40 := by have := alone_length x es; omega
    have hall := tkL_all es f x p
    have htl := tour_le hG hn ht h hf
    rw [← hall] at htl ⊢
    refine xw_call (fn := Tryz.f100) rfl Tryz.func100 rfl ⟨Nat.le_of_ble_eq_true rfl, rfl, rfl⟩ ?_
    repeat' (first
      | refine xw_seq ?_
      | refine xw_block ?_
      | (refine ite_two ?_ ?_ <;> intro _ <;> first | (exfalso; omega) | skip)
      | refine ord_split (by kernel_rfl) ?_
      | (refine xw_ret ?_ <;> try simp only [sq, bl, LQ])
      | ((first | refine xw_reg ?_ | refine xw_regd ?_ | refine xw_if ?_ | refine xw_skip ?_ | refine xw_exit ?_ | refine xw_label ?_ | refine post_ret ?_ | refine post_normal ?_ | refine postE_ret ?_ | refine postE_normal ?_ | (((first | refine at_region ?_ | refine at_out ?_ | refine at_cond ?_); split) <;> first | (exfalso; omega; done) | skip)) <;> try simp (config := { maxSteps := 3000000 }) (disch := first | assumption | omega | exact VG.okg (by assumption) | (simp only [List.length_set, List.length_append, List.length_cons, List.length_nil, List.length_replicate]; omega)) only [go_sem, ↓reduceIte, Int.reduceLE, Int.reduceLT, Int.reduceToNat, Int.reduceNeg, Int.reduceAdd, Int.reduceSub, Int.reduceMul, Int.reduceEq, Int.reduceNe, Nat.reduceEqDiff, Nat.reduceAdd, Nat.reduceSub, Nat.reduceMul, Nat.reduceLT, Nat.reduceLeDiff, Nat.reduceBEq, Nat.reduceBNe, UInt8.reduceToNat, Tryz.results100, hnb]))
    refine xw_loopR (fun (u : Int × Nat) s => s.m 3 = some (.box 0 [I n, LE es]) ∧ s.ρ 3 = .ptr 3 0 0 0 ∧ s.m 11 = some (.arr u.2 1 ((tkL es f x p ((nbS x es).take u.1.toNat)).map encI)) ∧ s.ρ 7 = .ref 11 u.2 0 (tkL es f x p ((nbS x es).take u.1.toNat)).length ∧ s.ρ 1 = I x ∧ s.ρ 2 = I p ∧ s.ρ 14 = LI (nbS x es) ∧ s.ρ 15 = I ((nbS x es).length : Int) ∧ s.ρ 16 = I u.1 ∧ 0 ≤ u.1 ∧ u.1 ≤ (nbS x es).length) (fun u => ((nbS x es).length - u.1).toNat) (0, 0) ?_ ?_
    · exact ⟨rfl, rfl, rfl, rfl, rfl, rfl, rfl, rfl, rfl, by simp, by simp⟩
    rintro ⟨i, w⟩ ⟨ρ, m⟩ ⟨m3, e3, m11, e7, e1, e2, e14, e15, e16, g0, g1⟩
    simp only at m3 e3 m11 e7 e1 e2 e14 e15 e16 g0 g1
    by_cases hi : i < (nbS x es).length
    rotate_left
    · rw [take_all (by omega)] at m11 e7
      repeat' (first
        | refine xw_seq ?_
        | refine xw_block ?_
        | (refine ite_two ?_ ?_ <;> intro _ <;> first | (exfalso; omega) | skip)
        | refine ord_split (by kernel_rfl) ?_
        | (refine xw_ret ?_ <;> try simp only [sq, bl, LQ])
        | ((first | refine xw_reg ?_ | refine xw_regd ?_ | refine xw_if ?_ | refine xw_skip ?_ | refine xw_exit ?_ | refine xw_label ?_ | refine post_ret ?_ | refine post_normal ?_ | refine postE_ret ?_ | refine postE_normal ?_ | (((first | refine at_region ?_ | refine at_out ?_ | refine at_cond ?_); split) <;> first | (exfalso; omega; done) | skip)) <;> try simp (config := { maxSteps := 3000000 }) (disch := first | assumption | omega | exact VG.okg (by assumption) | (simp only [List.length_set, List.length_append, List.length_cons, List.length_nil, List.length_replicate]; omega)) only [go_sem, ↓reduceIte, Int.reduceLE, Int.reduceLT, Int.reduceToNat, Int.reduceNeg, Int.reduceAdd, Int.reduceSub, Int.reduceMul, Int.reduceEq, Int.reduceNe, Nat.reduceEqDiff, Nat.reduceAdd, Nat.reduceSub, Nat.reduceMul, Nat.reduceLT, Nat.reduceLeDiff, Nat.reduceBEq, Nat.reduceBNe, UInt8.reduceToNat, Tryz.results100, m3, e3, m11, e7, e1, e2, e14, e15, e16]))
    have hym := getD_mem (d := 0) (show i.toNat < (nbS x es).length by omega)
    have hgy := getI (nbS x es) i.toNat (by omega)
    have htk := take_int 0 g0 hi
    have hsn := tkL_snoc es f x p ((nbS x es).getD i.toNat 0) ((nbS x es).take i.toNat)
    rw [← htk] at hsn
    have hl1 := tkL_len (es := es) (f := f) (x := x) (p := p) (l := nbS x es) i.toNat
    have hl2 := tkL_len (es := es) (f := f) (x := x) (p := p) (l := nbS x es) (i + 1).toNat
    generalize (nbS x es).getD i.toNat 0 = y at hym hgy hsn
    generalize tkL es f x p ((nbS x es).take i.toNat) = T0 at *
    by_cases hy : y = p
    · subst hy
      rw [if_pos rfl, List.append_nil] at hsn
      repeat' (first
        | refine xw_seq ?_
        | refine xw_block ?_
        | (refine ite_two ?_ ?_ <;> intro _ <;> first | (exfalso; omega) | skip)
        | refine ord_split (by kernel_rfl) ?_
        | (refine xw_ret ?_ <;> try simp only [sq, bl, LQ])
        | ((first | refine xw_reg ?_ | refine xw_regd ?_ | refine xw_if ?_ | refine xw_skip ?_ | refine xw_exit ?_ | refine xw_label ?_ | refine post_ret ?_ | refine post_normal ?_ | refine postE_ret ?_ | refine postE_normal ?_ | (((first | refine at_region ?_ | refine at_out ?_ | refine at_cond ?_); split) <;> first | (exfalso; omega; done) | skip)) <;> try simp (config := { maxSteps := 3000000 }) (disch := first | assumption | omega | exact VG.okg (by assumption) | (simp only [List.length_set, List.length_append, List.length_cons, List.length_nil, List.length_replicate]; omega)) only [go_sem, ↓reduceIte, Int.reduceLE, Int.reduceLT, Int.reduceToNat, Int.reduceNeg, Int.reduceAdd, Int.reduceSub, Int.reduceMul, Int.reduceEq, Int.reduceNe, Nat.reduceEqDiff, Nat.reduceAdd, Nat.reduceSub, Nat.reduceMul, Nat.reduceLT, Nat.reduceLeDiff, Nat.reduceBEq, Nat.reduceBNe, UInt8.reduceToNat, Tryz.results100, m3, e3, m11, e7, e1, e2, e14, e15, e16, hgy]))
      exact ⟨i + 1, by rw [hsn], by rw [hsn], rfl, by omega, by omega, by omega⟩
    · rw [if_neg hy] at hsn
      rw [hsn] at hl2
      rw [List.length_append, List.length_append] at hl2
      have hk : y ∈ kidsL es x p := (mem_kids ho).2 ⟨(mem_nbS ho).1 hym, hy⟩
      obtain ⟨hk1, hk2⟩ := h.kid ho h0 ht hk
      have hrec := ih y x hk1 (by omega)
      have htl2 := tour_le hG hn ht hk1 (f := f) (by omega)
      generalize tourL es f y x = U at *
      repeat' (first
        | refine xw_seq ?_
        | refine xw_block ?_
        | (refine ite_two ?_ ?_ <;> intro _ <;> first | (exfalso; omega) | skip)
        | refine ord_split (by kernel_rfl) ?_
        | (refine xw_ret ?_ <;> try simp only [sq, bl, LQ])
        | ((first | refine xw_reg ?_ | refine xw_regd ?_ | refine xw_if ?_ | refine xw_skip ?_ | refine xw_exit ?_ | refine xw_label ?_ | refine post_ret ?_ | refine post_normal ?_ | refine postE_ret ?_ | refine postE_normal ?_ | (((first | refine at_region ?_ | refine at_out ?_ | refine at_cond ?_); split) <;> first | (exfalso; omega; done) | skip)) <;> try simp (config := { maxSteps := 3000000 }) (disch := first | assumption | omega | exact VG.okg (by assumption) | (simp only [List.length_set, List.length_append, List.length_cons, List.length_nil, List.length_replicate]; omega)) only [go_sem, ↓reduceIte, Int.reduceLE, Int.reduceLT, Int.reduceToNat, Int.reduceNeg, Int.reduceAdd, Int.reduceSub, Int.reduceMul, Int.reduceEq, Int.reduceNe, Nat.reduceEqDiff, Nat.reduceAdd, Nat.reduceSub, Nat.reduceMul, Nat.reduceLT, Nat.reduceLeDiff, Nat.reduceBEq, Nat.reduceBNe, UInt8.reduceToNat, Tryz.results100, m3, e3, m11, e7, e1, e2, e14, e15, e16, hgy, hrec]))
      exact ⟨i + 1, by rw [hsn, List.append_assoc], by rw [hsn]; simp; omega, rfl, by omega, by omega, by omega⟩
end Go.Proofs.YtdjdgnabcecdlaaGreatDoor.X

/- What functions compute: draws of graphs, and of a graph and an edge. -/
set_option linter.unusedSimpArgs false
set_option linter.unusedVariables false
set_option maxHeartbeats 8000000
namespace Go.Proofs.YtdjdgnabcecdlaaGreatDoor.X
open Go Go.Proofs
end Go.Proofs.YtdjdgnabcecdlaaGreatDoor.X

/- What functions compute: lists without neighbours alike. -/
set_option linter.unusedSimpArgs false
set_option linter.unusedVariables false
set_option maxHeartbeats 8000000
namespace Go.Proofs.YtdjdgnabcecdlaaGreatDoor.X
open Go Go.Proofs
end Go.Proofs.YtdjdgnabcecdlaaGreatDoor.X

/- What functions compute: lists that may be tours. -/
set_option linter.unusedSimpArgs false
set_option linter.unusedVariables false
set_option maxHeartbeats 8000000
set_option maxRecDepth 100000
namespace Go.Proofs.YtdjdgnabcecdlaaGreatDoor.X
open Go Go.Proofs
/-- The place of a number, or -1. -/
def findI (xs : List Int) (x : Int) : Int := if x ∈ xs then (xs.idxOf x : Int) else -1
/-- Each step is an edge. -/
def stOk (l : List Int) : Prop := ∀ i, i + 1 < l.length → eOk (l.getD i 0) (l.getD (i + 1) 0)
noncomputable instance decStOk (l : List Int) : Decidable (stOk l) := Classical.propDecidable _
end Go.Proofs.YtdjdgnabcecdlaaGreatDoor.X

/- What functions compute: lists that may be tours, as the reference sees them. -/
set_option linter.unusedSimpArgs false
set_option linter.unusedVariables false
set_option maxHeartbeats 8000000
set_option maxRecDepth 100000
namespace Go.Proofs.YtdjdgnabcecdlaaGreatDoor.X
open Go Go.Proofs
end Go.Proofs.YtdjdgnabcecdlaaGreatDoor.X

/- What functions compute: whether a list is a tour. -/
set_option linter.unusedSimpArgs false
set_option linter.unusedVariables false
set_option maxHeartbeats 8000000
set_option maxRecDepth 100000
namespace Go.Proofs.YtdjdgnabcecdlaaGreatDoor.X
open Go Go.Proofs
end Go.Proofs.YtdjdgnabcecdlaaGreatDoor.X

/- What functions compute: whether a list is a tour, as the reference sees it. -/
set_option linter.unusedSimpArgs false
set_option linter.unusedVariables false
set_option maxHeartbeats 8000000
set_option maxRecDepth 100000
namespace Go.Proofs.YtdjdgnabcecdlaaGreatDoor.X
open Go Go.Proofs
end Go.Proofs.YtdjdgnabcecdlaaGreatDoor.X

/- What functions compute: tours of trees, edges of tours. -/
set_option linter.unusedSimpArgs false
set_option linter.unusedVariables false
set_option maxHeartbeats 8000000
set_option maxRecDepth 100000
namespace Go.Proofs.YtdjdgnabcecdlaaGreatDoor.X
open Go Go.Proofs
/-- A tree with a node in it. -/
def TO (n : Int) (es : List (Int × Int)) (r : Int) : Prop := VG n es ∧ inN n r ∧ Tree n es
noncomputable instance decTree (n : Int) (es : List (Int × Int)) : Decidable (Tree n es) := Classical.propDecidable _
noncomputable instance decTO (n : Int) (es : List (Int × Int)) (r : Int) : Decidable (TO n es r) := Classical.propDecidable _
abbrev toL (n : Int) (es : List (Int × Int)) (r : Int) : List Int := tourL es n.toNat r (-1)
theorem TO.at' {n : Int} {es : List (Int × Int)} {r : Int} (h : TO n es r) : At n es r r (-1) ∧ n - dst n es r r ≤ n.toNat := by
  have h0 : 0 ≤ n := by have := h.1.1; omega
  exact ⟨⟨.refl _, h.2.1, .inl ⟨rfl, rfl⟩⟩, by rw [dst_self h.1.okg.ok h0]; omega⟩
theorem c_TourOf (n r : Int) (es : List (Int × Int)) (hl : es.length ≤ 1048576) : KP 37 [GL n es, I r] [] =
    some (if TO n es r then (.tup [.ref 2000 0 0 (toL n es r).length, B true], [], [.arr 0 1 ((toL n es r).map encI)]) else (.tup [.i .emp, B false], [], [])) := by
  have hhn := c_hasNode n es r hl
  by_cases h1 : VG n es ∧ 0 ≤ r ∧ r < n
  rotate_left
  · have hno : ¬ TO n es r := fun h => h1 ⟨h.1, h.2.1⟩
    rw [if_neg hno]
    rw [decide_eq_false h1] at hhn
    refine xw_call (fn := Tryz.f37) rfl Tryz.func37 rfl ⟨Nat.le_of_ble_eq_true rfl, rfl, rfl⟩ ?_
    repeat' (first
      | refine xw_seq ?_
      | refine xw_block ?_
      | (refine ite_two ?_ ?_ <;> intro _ <;> first | (exfalso; omega) | skip)
      | refine ord_split (by kernel_rfl) ?_
      | (refine xw_ret ?_ <;> try simp only [sq, bl, LQ])
      | ((first | refine xw_reg ?_ | refine xw_regd ?_ | refine xw_if ?_ | refine xw_skip ?_ | refine xw_exit ?_ | refine xw_label ?_ | refine post_ret ?_ | refine post_normal ?_ | refine postE_ret ?_ | refine postE_normal ?_ | (((first | refine at_region ?_ | refine at_out ?_ | refine at_cond ?_); split) <;> first | (exfalso; omega; done) | skip)) <;> try simp (config := { maxSteps := 3000000 }) (disch := first | assumption | omega | exact VG.okg (by assumption) | (simp only [List.length_set, List.length_append, List.length_cons, List.length_nil, List.length_replicate]; omega)) only [go_sem, ↓reduceIte, Int.reduceLE, Int.reduceLT, Int.reduceToNat, Int.reduceNeg, Int.reduceAdd, Int.reduceSub, Int.reduceMul, Int.reduceEq, Int.reduceNe, Nat.reduceEqDiff, Nat.reduceAdd, Nat.reduceSub, Nat.reduceMul, Nat.reduceLT, Nat.reduceLeDiff, Nat.reduceBEq, Nat.reduceBNe, UInt8.reduceToNat, Tryz.results37, hhn]))
  rw [decide_eq_true h1] at hhn
  have hV := h1.1
  have hel := hV.2.2.1
  have hff := c_forest n es hV.okg
  have hlq := lenP_qe (es := forestL es)
  have hfl := (forest_sub hV.okg.ok).length_le
  have htr := tree_forest (n := n) hV.okg.ok
  by_cases h2 : Tree n es
  rotate_left
  · have hno : ¬ TO n es r := fun h => h2 h.2.2
    rw [if_neg hno]
    have hlt : ((forestL es).length : Int) < es.length := by
      have h3 : (forestL es).length ≠ es.length := fun e => h2 (htr.1 e)
      omega
    refine xw_call (fn := Tryz.f37) rfl Tryz.func37 rfl ⟨Nat.le_of_ble_eq_true rfl, rfl, rfl⟩ ?_
    repeat' (first
      | refine xw_seq ?_
      | refine xw_block ?_
      | (refine ite_two ?_ ?_ <;> intro _ <;> first | (exfalso; omega) | skip)
      | refine ord_split (by kernel_rfl) ?_
      | (refine xw_ret ?_ <;> try simp only [sq, bl, LQ])
      | ((first | refine xw_reg ?_ | refine xw_regd ?_ | refine xw_if ?_ | refine xw_skip ?_ | refine xw_exit ?_ | refine xw_label ?_ | refine post_ret ?_ | refine post_normal ?_ | refine postE_ret ?_ | refine postE_normal ?_ | (((first | refine at_region ?_ | refine at_out ?_ | refine at_cond ?_); split) <;> first | (exfalso; omega; done) | skip)) <;> try simp (config := { maxSteps := 3000000 }) (disch := first | assumption | omega | exact VG.okg (by assumption) | (simp only [List.length_set, List.length_append, List.length_cons, List.length_nil, List.length_replicate]; omega)) only [go_sem, ↓reduceIte, Int.reduceLE, Int.reduceLT, Int.reduceToNat, Int.reduceNeg, Int.reduceAdd, Int.reduceSub, Int.reduceMul, Int.reduceEq, Int.reduceNe, Nat.reduceEqDiff, Nat.reduceAdd, Nat.reduceSub, Nat.reduceMul, Nat.reduceLT, Nat.reduceLeDiff, Nat.reduceBEq, Nat.reduceBNe, UInt8.reduceToNat, Tryz.results37, hhn, hff, hlq, hlt]))
  have hT : TO n es r := ⟨hV, h1.2, h2⟩
  rw [if_pos hT]
  obtain ⟨ha, hf⟩ := hT.at'
  have hto := c_tour hV.okg hV.nodup h2 n.toNat r (-1) ha hf
  have hge : ¬ ((forestL es).length : Int) < es.length := by have := htr.2 h2; omega
  have htk : (toL n es r).take (toL n es r).length = toL n es r := List.take_length
  refine xw_call (fn := Tryz.f37) rfl Tryz.func37 rfl ⟨Nat.le_of_ble_eq_true rfl, rfl, rfl⟩ ?_
  repeat' (first
    | refine xw_seq ?_
    | refine xw_block ?_
    | (refine ite_two ?_ ?_ <;> intro _ <;> first | (exfalso; omega) | skip)
    | refine ord_split (by kernel_rfl) ?_
    | (refine xw_ret ?_ <;> try simp only [sq, bl, LQ])
    | ((first | refine xw_reg ?_ | refine xw_regd ?_ | refine xw_if ?_ | refine xw_skip ?_ | refine xw_exit ?_ | refine xw_label ?_ | refine post_ret ?_ | refine post_normal ?_ | refine postE_ret ?_ | refine postE_normal ?_ | (((first | refine at_region ?_ | refine at_out ?_ | refine at_cond ?_); split) <;> first | (exfalso; omega; done) | skip)) <;> try simp (config := { maxSteps := 3000000 }) (disch := first | assumption | omega | exact VG.okg (by assumption) | (simp only [List.length_set, List.length_append, List.length_cons, List.length_nil, List.length_replicate]; omega)) only [go_sem, ↓reduceIte, Int.reduceLE, Int.reduceLT, Int.reduceToNat, Int.reduceNeg, Int.reduceAdd, Int.reduceSub, Int.reduceMul, Int.reduceEq, Int.reduceNe, Nat.reduceEqDiff, Nat.reduceAdd, Nat.reduceSub, Nat.reduceMul, Nat.reduceLT, Nat.reduceLeDiff, Nat.reduceBEq, Nat.reduceBNe, UInt8.reduceToNat, Tryz.results37, hhn, hff, hlq, hge, hto, htk]))
end Go.Proofs.YtdjdgnabcecdlaaGreatDoor.X

/- What functions compute: the line of a tour. -/
set_option linter.unusedSimpArgs false
set_option linter.unusedVariables false
set_option maxHeartbeats 8000000
set_option maxRecDepth 100000
namespace Go.Proofs.YtdjdgnabcecdlaaGreatDoor.X
open Go Go.Proofs
theorem c_nl_tour (n a : Int) (x y z : IV) (ts : List Tl) (h3 : LV3 x y z ts) (hV : VG n (esT ts)) (hT : TO n (forestL (esT ts)) a) (hs : smallL (toL n (forestL (esT ts)) a)) (hl : (toL n (forestL (esT ts)) a).length ≤ 100) :
    KP 140 [.ptr 1000 0 0 0, S [116, 111, 117, 114], .i (.lst [[.v (.int .i64 a)]])] [.box 0 [I n, .i x, .i y, .i z]] =
      some (S ([116, 111, 117, 114] ++ numsT (toL n (forestL (esT ts)) a) ++ [10]), [.box 0 [I n, .i x, .i y, .i z]], []) := by
  have hfx := h3.fx
  have hlx := h3.lx
  have hel := hV.2.2.1
  have hfl := (forest_sub hV.okg.ok).length_le
  have hfo := c_ForestOf n (esT ts) (by omega)
  rw [if_pos hV] at hfo
  have hp := c_TourOf n a (forestL (esT ts)) (by omega)
  rw [if_pos hT] at hp
  have hnt := c_numbersText [116, 111, 117, 114] (toL n (forestL (esT ts)) a) hs (by simp) (by omega)
  generalize toL n (forestL (esT ts)) a = P at *
  generalize hR : ([116, 111, 117, 114] : List UInt8) ++ numsT P ++ [10] = R at *
  refine xw_call (fn := Tryz.f140) rfl Tryz.func140 rfl ⟨Nat.le_of_ble_eq_true rfl, rfl, rfl⟩ ?_
  repeat' (first
    | refine xw_seq ?_
    | refine xw_block ?_
    | (refine ite_two ?_ ?_ <;> intro _ <;> first | (exfalso; omega) | skip)
    | refine ord_split (by kernel_rfl) ?_
    | (refine xw_ret ?_ <;> try simp only [sq, bl, LQ])
    | ((first | refine xw_reg ?_ | refine xw_regd ?_ | refine xw_if ?_ | refine xw_skip ?_ | refine xw_exit ?_ | refine xw_label ?_ | refine post_ret ?_ | refine post_normal ?_ | refine postE_ret ?_ | refine postE_normal ?_ | (((first | refine at_region ?_ | refine at_out ?_ | refine at_cond ?_); split) <;> first | (exfalso; omega; done) | skip)) <;> try simp (config := { maxSteps := 3000000 }) (disch := first | assumption | omega | exact VG.okg (by assumption) | (simp only [List.length_set, List.length_append, List.length_cons, List.length_nil, List.length_replicate]; omega)) only [go_sem, ↓reduceIte, Int.reduceLE, Int.reduceLT, Int.reduceToNat, Int.reduceNeg, Int.reduceAdd, Int.reduceSub, Int.reduceMul, Int.reduceEq, Int.reduceNe, Nat.reduceEqDiff, Nat.reduceAdd, Nat.reduceSub, Nat.reduceMul, Nat.reduceLT, Nat.reduceLeDiff, Nat.reduceBEq, Nat.reduceBNe, UInt8.reduceToNat, Tryz.results140, hfx, hlx, hfo, hp, hnt]))
end Go.Proofs.YtdjdgnabcecdlaaGreatDoor.X

/- What functions compute: bridges and nodes between two nodes, and the reference's bridges. -/
set_option linter.unusedSimpArgs false
set_option linter.unusedVariables false
set_option maxHeartbeats 2000000
namespace Go.Proofs.YtdjdgnabcecdlaaGreatDoor.X
open Go Go.Proofs
/-- The nodes between two nodes. -/
noncomputable def cutsB (n x y : Int) (es : List (Int × Int)) : List Int := (iota n).filter fun v => decide (v ≠ x ∧ v ≠ y ∧ ¬ Conn (alone v es) x y)
/-- The bridges between two nodes. -/
noncomputable def brgsB (x y : Int) (es : List (Int × Int)) : List (Int × Int) := es.filter fun e => !decide (Conn (cutE e es) x y)
theorem c_dyEdges (xs ys : List (Int × Int)) (hl : xs.length ≤ 1048576) : KP 34 [LE xs, LE ys] [] = some (B (decide (xs = ys)), [], []) := by
  refine xw_call (fn := Tryz.f34) rfl Tryz.func34 rfl ⟨Nat.le_of_ble_eq_true rfl, rfl, rfl⟩ ?_
  by_cases hle : xs.length = ys.length
  rotate_left
  · have hne : xs ≠ ys := fun h => hle (by rw [h])
    repeat' (first
      | refine xw_seq ?_
      | refine xw_block ?_
      | (refine ite_two ?_ ?_ <;> intro _ <;> first | (exfalso; omega) | skip)
      | refine ord_split (by kernel_rfl) ?_
      | (refine xw_ret ?_ <;> try simp only [sq, bl, LQ])
      | ((first | refine xw_reg ?_ | refine xw_regd ?_ | refine xw_if ?_ | refine xw_skip ?_ | refine xw_exit ?_ | refine xw_label ?_ | refine post_ret ?_ | refine post_normal ?_ | refine postE_ret ?_ | refine postE_normal ?_ | (((first | refine at_region ?_ | refine at_out ?_ | refine at_cond ?_); split) <;> first | (exfalso; omega; done) | skip)) <;> try simp (config := { maxSteps := 3000000 }) (disch := first | assumption | omega | exact VG.okg (by assumption) | (simp only [List.length_set, List.length_append, List.length_cons, List.length_nil, List.length_replicate]; omega)) only [go_sem, ↓reduceIte, Int.reduceLE, Int.reduceLT, Int.reduceToNat, Int.reduceNeg, Int.reduceAdd, Int.reduceSub, Int.reduceMul, Int.reduceEq, Int.reduceNe, Nat.reduceEqDiff, Nat.reduceAdd, Nat.reduceSub, Nat.reduceMul, Nat.reduceLT, Nat.reduceLeDiff, Nat.reduceBEq, Nat.reduceBNe, UInt8.reduceToNat, Tryz.results34]))
    simp [hne]
  repeat' (first
    | refine xw_seq ?_
    | refine xw_block ?_
    | (refine ite_two ?_ ?_ <;> intro _ <;> first | (exfalso; omega) | skip)
    | refine ord_split (by kernel_rfl) ?_
    | (refine xw_ret ?_ <;> try simp only [sq, bl, LQ])
    | ((first | refine xw_reg ?_ | refine xw_regd ?_ | refine xw_if ?_ | refine xw_skip ?_ | refine xw_exit ?_ | refine xw_label ?_ | refine post_ret ?_ | refine post_normal ?_ | refine postE_ret ?_ | refine postE_normal ?_ | (((first | refine at_region ?_ | refine at_out ?_ | refine at_cond ?_); split) <;> first | (exfalso; omega; done) | skip)) <;> try simp (config := { maxSteps := 3000000 }) (disch := first | assumption | omega | exact VG.okg (by assumption) | (simp only [List.length_set, List.length_append, List.length_cons, List.length_nil, List.length_replicate]; omega)) only [go_sem, ↓reduceIte, Int.reduceLE, Int.reduceLT, Int.reduceToNat, Int.reduceNeg, Int.reduceAdd, Int.reduceSub, Int.reduceMul, Int.reduceEq, Int.reduceNe, Nat.reduceEqDiff, Nat.reduceAdd, Nat.reduceSub, Nat.reduceMul, Nat.reduceLT, Nat.reduceLeDiff, Nat.reduceBEq, Nat.reduceBNe, UInt8.reduceToNat, Tryz.results34]))
  refine xw_loopR (fun (i : Int) s => s.ρ 0 = LE xs ∧ s.ρ 1 = LE ys ∧ s.ρ 5 = I i ∧ 0 ≤ i ∧ i ≤ xs.length ∧ xs.take i.toNat = ys.take i.toNat) (fun i => (xs.length - i).toNat) 0 ⟨rfl, rfl, rfl, by simp, by simp, by simp⟩ ?_
  rintro i ⟨ρ, m⟩ ⟨h0, h1, h5, g0, g1, g2⟩
  simp only at h0 h1 h5
  by_cases hj : i < xs.length
  · have hpe : xs.getD i.toNat (0, 0) = ys.getD i.toNat (0, 0) ↔ (xs.getD i.toNat (0, 0)).1 = (ys.getD i.toNat (0, 0)).1 ∧ (xs.getD i.toNat (0, 0)).2 = (ys.getD i.toNat (0, 0)).2 := Prod.ext_iff
    repeat' (first
      | refine xw_seq ?_
      | refine xw_block ?_
      | (refine ite_two ?_ ?_ <;> intro _ <;> first | (exfalso; omega) | skip)
      | refine ord_split (by kernel_rfl) ?_
      | (refine xw_ret ?_ <;> try simp only [sq, bl, LQ])
      | ((first | refine xw_reg ?_ | refine xw_regd ?_ | refine xw_if ?_ | refine xw_skip ?_ | refine xw_exit ?_ | refine xw_label ?_ | refine post_ret ?_ | refine post_normal ?_ | refine postE_ret ?_ | refine postE_normal ?_ | (((first | refine at_region ?_ | refine at_out ?_ | refine at_cond ?_); split) <;> first | (exfalso; omega; done) | skip)) <;> try simp (config := { maxSteps := 3000000 }) (disch := first | assumption | omega | exact VG.okg (by assumption) | (simp only [List.length_set, List.length_append, List.length_cons, List.length_nil, List.length_replicate]; omega)) only [go_sem, ↓reduceIte, Int.reduceLE, Int.reduceLT, Int.reduceToNat, Int.reduceNeg, Int.reduceAdd, Int.reduceSub, Int.reduceMul, Int.reduceEq, Int.reduceNe, Nat.reduceEqDiff, Nat.reduceAdd, Nat.reduceSub, Nat.reduceMul, Nat.reduceLT, Nat.reduceLeDiff, Nat.reduceBEq, Nat.reduceBNe, UInt8.reduceToNat, Tryz.results34, h0, h1, h5]))
    all_goals first
      | (refine ⟨by omega, by omega, ?_, by omega⟩
         rw [take_int (0, 0) g0 (by omega), take_int (0, 0) g0 (by omega), g2, hpe.2 (by grind)])
      | (symm; rw [decide_eq_false_iff_not]
         intro he
         rw [he] at hpe
         grind)
  · repeat' (first
      | refine xw_seq ?_
      | refine xw_block ?_
      | (refine ite_two ?_ ?_ <;> intro _ <;> first | (exfalso; omega) | skip)
      | refine ord_split (by kernel_rfl) ?_
      | (refine xw_ret ?_ <;> try simp only [sq, bl, LQ])
      | ((first | refine xw_reg ?_ | refine xw_regd ?_ | refine xw_if ?_ | refine xw_skip ?_ | refine xw_exit ?_ | refine xw_label ?_ | refine post_ret ?_ | refine post_normal ?_ | refine postE_ret ?_ | refine postE_normal ?_ | (((first | refine at_region ?_ | refine at_out ?_ | refine at_cond ?_); split) <;> first | (exfalso; omega; done) | skip)) <;> try simp (config := { maxSteps := 3000000 }) (disch := first | assumption | omega | exact VG.okg (by assumption) | (simp only [List.length_set, List.length_append, List.length_cons, List.length_nil, List.length_replicate]; omega)) only [go_sem, ↓reduceIte, Int.reduceLE, Int.reduceLT, Int.reduceToNat, Int.reduceNeg, Int.reduceAdd, Int.reduceSub, Int.reduceMul, Int.reduceEq, Int.reduceNe, Nat.reduceEqDiff, Nat.reduceAdd, Nat.reduceSub, Nat.reduceMul, Nat.reduceLT, Nat.reduceLeDiff, Nat.reduceBEq, Nat.reduceBNe, UInt8.reduceToNat, Tryz.results34, h0, h1, h5]))
    symm; rw [decide_eq_true_iff]
    rw [take_all (by omega), take_all (by omega)] at g2
    exact g2
theorem c_dyEdges_nil : KP 34 [.i (.lst []), .i (.lst [])] [] = some (B true, [], []) := c_dyEdges [] [] (by simp)
end Go.Proofs.YtdjdgnabcecdlaaGreatDoor.X
