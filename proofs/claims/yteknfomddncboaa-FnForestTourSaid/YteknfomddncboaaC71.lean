/- What functions compute: the tour of a tree. -/
import Derived.Test.YteknfomddncboaaC21
import Derived.Test.YteknfomddncboaaM25
set_option linter.unusedSimpArgs false
set_option linter.unusedVariables false
set_option maxHeartbeats 8000000
set_option maxRecDepth 100000
namespace Go.Proofs.Yteknfomddncboaa.X
open Go Go.Proofs
/-- A tour so far: the neighbors up to a place have been gone to. -/
def tkL (es : List (Int × Int)) (f : Nat) (x p : Int) (ys : List Int) : List Int := x :: ys.flatMap fun y => if y = p then [] else tourL es f y x ++ [x]
theorem tkL_all (es : List (Int × Int)) (f : Nat) (x p : Int) : tkL es f x p (nbS x es) = tourL es (f + 1) x p := by
  unfold tkL
  rw [tourL, kidsL]
  congr 1
  generalize nbS x es = l
  induction l with
  | nil => rfl
  | cons a l ih =>
    rw [List.flatMap_cons, List.filter_cons]
    by_cases h : a = p
    · rw [if_pos h, if_neg (by simpa using h), List.nil_append, ih]
    · rw [if_neg h, if_pos (by simpa using h), List.flatMap_cons, ih]
theorem tkL_snoc (es : List (Int × Int)) (f : Nat) (x p y : Int) (ys : List Int) : tkL es f x p (ys ++ [y]) = tkL es f x p ys ++ if y = p then [] else tourL es f y x ++ [x] := by
  simp [tkL]
theorem tkL_len {es : List (Int × Int)} {f : Nat} {x p : Int} {l : List Int} (k : Nat) : (tkL es f x p (l.take k)).length ≤ (tkL es f x p l).length := by
  conv => rhs; rw [← List.take_append_drop k l]
  unfold tkL
  rw [List.flatMap_append]
  simp only [List.length_cons, List.length_append]
  omega
theorem tour_le {n : Int} {es : List (Int × Int)} (hG : OKG n es) (hn : es.Nodup) (ht : Tree n es) {r : Int} {f : Nat} {x p : Int} (h : At n es r x p) (hf : n - dst n es r x ≤ f) : (tourL es f x p).length ≤ 31 := by
  have h1 := tour_len (es := es) f (x := x) (p := p)
  have h2 := sub_len hG.ok hn hG.n0 ht h hf
  have h3 := hG.n1
  omega
theorem c_tour {n : Int} {es : List (Int × Int)} (hG : OKG n es) (hn : es.Nodup) (ht : Tree n es) {r : Int} : ∀ (f : Nat) (x p : Int), At n es r x p → n - dst n es r x ≤ f →
    KP 97 [GL n es, I x, I p] [] = some (.ref 2000 0 0 (tourL es f x p).length, [], [.arr 0 1 ((tourL es f x p).map encI)]) := by
  have ho := hG.ok
  have h0 := hG.n0
  have hlen := hG.len
  intro f
  induction f with
  | zero =>
    intro x p h hf
    have := dst_bound ho h0 h.cn h.inx
    omega
  | succ f ih =>
    intro x p h hf
    have hnb := c_neighbors n x es (by omega)
    have hnbl : (nbS x es).length ≤ 40 := by have := alone_length x es; omega
    have hall := tkL_all es f x p
    have htl := tour_le hG hn ht h hf
    rw [← hall] at htl ⊢
    refine xw_call (fn := Try.f97) rfl Try.func97 rfl ⟨Nat.le_of_ble_eq_true rfl, rfl, rfl⟩ ?_
    repeat' (first
      | refine xw_seq ?_
      | refine xw_block ?_
      | (refine ite_two ?_ ?_ <;> intro _ <;> first | (exfalso; omega) | skip)
      | refine ord_split (by kernel_rfl) ?_
      | (refine xw_ret ?_ <;> try simp only [sq, bl, LQ])
      | ((first | refine xw_reg ?_ | refine xw_regd ?_ | refine xw_if ?_ | refine xw_skip ?_ | refine xw_exit ?_ | refine xw_label ?_ | refine post_ret ?_ | refine post_normal ?_ | refine postE_ret ?_ | refine postE_normal ?_) <;> simp (config := { maxSteps := 3000000 }) (disch := first | assumption | omega | exact VG.okg (by assumption) | (simp only [List.length_set, List.length_append, List.length_cons, List.length_nil, List.length_replicate]; omega)) only [go_sem, ↓reduceIte, Int.reduceLE, Int.reduceLT, Int.reduceToNat, Int.reduceNeg, Int.reduceAdd, Int.reduceSub, Int.reduceMul, Int.reduceEq, Int.reduceNe, Nat.reduceEqDiff, Nat.reduceAdd, Nat.reduceSub, Nat.reduceMul, Nat.reduceLT, Nat.reduceLeDiff, Nat.reduceBEq, Nat.reduceBNe, Try.results97, hnb])
      | (((first | refine at_region ?_ | refine at_out ?_ | refine at_cond ?_); split) <;> first | (exfalso; omega; done) | simp (config := { maxSteps := 3000000 }) (disch := first | assumption | omega | exact VG.okg (by assumption) | (simp only [List.length_set, List.length_append, List.length_cons, List.length_nil, List.length_replicate]; omega)) only [go_sem, ↓reduceIte, Int.reduceLE, Int.reduceLT, Int.reduceToNat, Int.reduceNeg, Int.reduceAdd, Int.reduceSub, Int.reduceMul, Int.reduceEq, Int.reduceNe, Nat.reduceEqDiff, Nat.reduceAdd, Nat.reduceSub, Nat.reduceMul, Nat.reduceLT, Nat.reduceLeDiff, Nat.reduceBEq, Nat.reduceBNe, Try.results97, hnb] | skip))
    refine xw_loopR (fun (u : Int × Nat) s => s.m 3 = some (.box 0 [I n, LE es]) ∧ s.ρ 3 = .ptr 3 0 0 0 ∧ s.m 11 = some (.arr u.2 1 ((tkL es f x p ((nbS x es).take u.1.toNat)).map encI)) ∧ s.ρ 7 = .ref 11 u.2 0 (tkL es f x p ((nbS x es).take u.1.toNat)).length ∧ s.ρ 1 = I x ∧ s.ρ 2 = I p ∧ s.ρ 14 = LI (nbS x es) ∧ s.ρ 15 = I ((nbS x es).length : Int) ∧ s.ρ 16 = I u.1 ∧ 0 ≤ u.1 ∧ u.1 ≤ (nbS x es).length) (fun u => ((nbS x es).length - u.1).toNat) (0, 0) ?_ ?_
    · exact ⟨rfl, rfl, rfl, rfl, rfl, rfl, rfl, rfl, rfl, by simp, by simp⟩
    rintro ⟨i, w⟩ ⟨ρ, m⟩ ⟨m3, e3, m11, e7, e1, e2, e14, e15, e16, g0, g1⟩
    simp only at m3 e3 m11 e7 e1 e2 e14 e15 e16 g0 g1
    by_cases hi : i < (nbS x es).length
    rotate_left
    · rw [take_all (by omega)] at m11 e7
      repeat' (first
        | refine xw_seq ?_
        | refine xw_block ?_
        | (refine ite_two ?_ ?_ <;> intro _ <;> first | (exfalso; omega) | skip)
        | refine ord_split (by kernel_rfl) ?_
        | (refine xw_ret ?_ <;> try simp only [sq, bl, LQ])
        | ((first | refine xw_reg ?_ | refine xw_regd ?_ | refine xw_if ?_ | refine xw_skip ?_ | refine xw_exit ?_ | refine xw_label ?_ | refine post_ret ?_ | refine post_normal ?_ | refine postE_ret ?_ | refine postE_normal ?_) <;> simp (config := { maxSteps := 3000000 }) (disch := first | assumption | omega | exact VG.okg (by assumption) | (simp only [List.length_set, List.length_append, List.length_cons, List.length_nil, List.length_replicate]; omega)) only [go_sem, ↓reduceIte, Int.reduceLE, Int.reduceLT, Int.reduceToNat, Int.reduceNeg, Int.reduceAdd, Int.reduceSub, Int.reduceMul, Int.reduceEq, Int.reduceNe, Nat.reduceEqDiff, Nat.reduceAdd, Nat.reduceSub, Nat.reduceMul, Nat.reduceLT, Nat.reduceLeDiff, Nat.reduceBEq, Nat.reduceBNe, Try.results97, m3, e3, m11, e7, e1, e2, e14, e15, e16])
        | (((first | refine at_region ?_ | refine at_out ?_ | refine at_cond ?_); split) <;> first | (exfalso; omega; done) | simp (config := { maxSteps := 3000000 }) (disch := first | assumption | omega | exact VG.okg (by assumption) | (simp only [List.length_set, List.length_append, List.length_cons, List.length_nil, List.length_replicate]; omega)) only [go_sem, ↓reduceIte, Int.reduceLE, Int.reduceLT, Int.reduceToNat, Int.reduceNeg, Int.reduceAdd, Int.reduceSub, Int.reduceMul, Int.reduceEq, Int.reduceNe, Nat.reduceEqDiff, Nat.reduceAdd, Nat.reduceSub, Nat.reduceMul, Nat.reduceLT, Nat.reduceLeDiff, Nat.reduceBEq, Nat.reduceBNe, Try.results97, m3, e3, m11, e7, e1, e2, e14, e15, e16] | skip))
    have hym := getD_mem (d := 0) (show i.toNat < (nbS x es).length by omega)
    have hgy := getI (nbS x es) i.toNat (by omega)
    have htk := take_int 0 g0 hi
    have hsn := tkL_snoc es f x p ((nbS x es).getD i.toNat 0) ((nbS x es).take i.toNat)
    rw [← htk] at hsn
    have hl1 := tkL_len (es := es) (f := f) (x := x) (p := p) (l := nbS x es) i.toNat
    have hl2 := tkL_len (es := es) (f := f) (x := x) (p := p) (l := nbS x es) (i + 1).toNat
    generalize (nbS x es).getD i.toNat 0 = y at hym hgy hsn
    generalize tkL es f x p ((nbS x es).take i.toNat) = T0 at *
    by_cases hy : y = p
    · subst hy
      rw [if_pos rfl, List.append_nil] at hsn
      repeat' (first
        | refine xw_seq ?_
        | refine xw_block ?_
        | (refine ite_two ?_ ?_ <;> intro _ <;> first | (exfalso; omega) | skip)
        | refine ord_split (by kernel_rfl) ?_
        | (refine xw_ret ?_ <;> try simp only [sq, bl, LQ])
        | ((first | refine xw_reg ?_ | refine xw_regd ?_ | refine xw_if ?_ | refine xw_skip ?_ | refine xw_exit ?_ | refine xw_label ?_ | refine post_ret ?_ | refine post_normal ?_ | refine postE_ret ?_ | refine postE_normal ?_) <;> simp (config := { maxSteps := 3000000 }) (disch := first | assumption | omega | exact VG.okg (by assumption) | (simp only [List.length_set, List.length_append, List.length_cons, List.length_nil, List.length_replicate]; omega)) only [go_sem, ↓reduceIte, Int.reduceLE, Int.reduceLT, Int.reduceToNat, Int.reduceNeg, Int.reduceAdd, Int.reduceSub, Int.reduceMul, Int.reduceEq, Int.reduceNe, Nat.reduceEqDiff, Nat.reduceAdd, Nat.reduceSub, Nat.reduceMul, Nat.reduceLT, Nat.reduceLeDiff, Nat.reduceBEq, Nat.reduceBNe, Try.results97, m3, e3, m11, e7, e1, e2, e14, e15, e16, hgy])
        | (((first | refine at_region ?_ | refine at_out ?_ | refine at_cond ?_); split) <;> first | (exfalso; omega; done) | simp (config := { maxSteps := 3000000 }) (disch := first | assumption | omega | exact VG.okg (by assumption) | (simp only [List.length_set, List.length_append, List.length_cons, List.length_nil, List.length_replicate]; omega)) only [go_sem, ↓reduceIte, Int.reduceLE, Int.reduceLT, Int.reduceToNat, Int.reduceNeg, Int.reduceAdd, Int.reduceSub, Int.reduceMul, Int.reduceEq, Int.reduceNe, Nat.reduceEqDiff, Nat.reduceAdd, Nat.reduceSub, Nat.reduceMul, Nat.reduceLT, Nat.reduceLeDiff, Nat.reduceBEq, Nat.reduceBNe, Try.results97, m3, e3, m11, e7, e1, e2, e14, e15, e16, hgy] | skip))
      exact ⟨i + 1, by rw [hsn], by rw [hsn], rfl, by omega, by omega, by omega⟩
    · rw [if_neg hy] at hsn
      rw [hsn] at hl2
      rw [List.length_append, List.length_append] at hl2
      have hk : y ∈ kidsL es x p := (mem_kids ho).2 ⟨(mem_nbS ho).1 hym, hy⟩
      obtain ⟨hk1, hk2⟩ := h.kid ho h0 ht hk
      have hrec := ih y x hk1 (by omega)
      have htl2 := tour_le hG hn ht hk1 (f := f) (by omega)
      generalize tourL es f y x = U at *
      repeat' (first
        | refine xw_seq ?_
        | refine xw_block ?_
        | (refine ite_two ?_ ?_ <;> intro _ <;> first | (exfalso; omega) | skip)
        | refine ord_split (by kernel_rfl) ?_
        | (refine xw_ret ?_ <;> try simp only [sq, bl, LQ])
        | ((first | refine xw_reg ?_ | refine xw_regd ?_ | refine xw_if ?_ | refine xw_skip ?_ | refine xw_exit ?_ | refine xw_label ?_ | refine post_ret ?_ | refine post_normal ?_ | refine postE_ret ?_ | refine postE_normal ?_) <;> simp (config := { maxSteps := 3000000 }) (disch := first | assumption | omega | exact VG.okg (by assumption) | (simp only [List.length_set, List.length_append, List.length_cons, List.length_nil, List.length_replicate]; omega)) only [go_sem, ↓reduceIte, Int.reduceLE, Int.reduceLT, Int.reduceToNat, Int.reduceNeg, Int.reduceAdd, Int.reduceSub, Int.reduceMul, Int.reduceEq, Int.reduceNe, Nat.reduceEqDiff, Nat.reduceAdd, Nat.reduceSub, Nat.reduceMul, Nat.reduceLT, Nat.reduceLeDiff, Nat.reduceBEq, Nat.reduceBNe, Try.results97, m3, e3, m11, e7, e1, e2, e14, e15, e16, hgy, hrec])
        | (((first | refine at_region ?_ | refine at_out ?_ | refine at_cond ?_); split) <;> first | (exfalso; omega; done) | simp (config := { maxSteps := 3000000 }) (disch := first | assumption | omega | exact VG.okg (by assumption) | (simp only [List.length_set, List.length_append, List.length_cons, List.length_nil, List.length_replicate]; omega)) only [go_sem, ↓reduceIte, Int.reduceLE, Int.reduceLT, Int.reduceToNat, Int.reduceNeg, Int.reduceAdd, Int.reduceSub, Int.reduceMul, Int.reduceEq, Int.reduceNe, Nat.reduceEqDiff, Nat.reduceAdd, Nat.reduceSub, Nat.reduceMul, Nat.reduceLT, Nat.reduceLeDiff, Nat.reduceBEq, Nat.reduceBNe, Try.results97, m3, e3, m11, e7, e1, e2, e14, e15, e16, hgy, hrec] | skip))
      exact ⟨i + 1, by rw [hsn, List.append_assoc], by rw [hsn]; simp; omega, rfl, by omega, by omega, by omega⟩
end Go.Proofs.Yteknfomddncboaa.X
