/- What functions answer, and the plain laws behind it. -/
import Derived.Test.YtdjdgnabcecdlaaGreatDoorKAD
import Derived.Test.YtdjdgnabcecdlaaGreatDoorKAH
import Derived.Test.YtdjdgnabcecdlaaGreatDoorC46
import Derived.Test.YtdjdgnabcecdlaaGreatDoorM23
import Derived.Test.YtdjdgnabcecdlaaGreatDoorKAE
import Derived.Test.YtdjdgnabcecdlaaGreatDoorKAF
import Derived.Test.YtdjdgnabcecdlaaGreatDoorM21
/- What functions compute: graphs with levels, whether they are valid. -/
set_option linter.unusedSimpArgs false
set_option linter.unusedVariables false
set_option maxHeartbeats 8000000
set_option maxRecDepth 100000
namespace Go.Proofs.YtdjdgnabcecdlaaGreatDoor.X
open Go Go.Proofs
def lvT (ts : List Tl) : List Int := ts.map (·.2.1)
def trT (ts : List Tl) : List Bool := ts.map (·.2.2)
abbrev LvP (n : Int) (ts : List Tl) : PV := .agg [I n, LE (esT ts), LI (lvT ts), LT (trT ts)]
theorem esT_len' (ts : List Tl) : (esT ts).length = ts.length := by simp [esT]
theorem lvT_len (ts : List Tl) : (lvT ts).length = ts.length := by simp [lvT]
theorem trT_len (ts : List Tl) : (trT ts).length = ts.length := by simp [trT]
abbrev dT : Tl := ((0, 0), 0, false)
theorem getTe (ts : List Tl) (i : Nat) (h : i < ts.length) : ((esT ts).map encE)[i]? = some [.v (.int .i64 (ts.getD i dT).1.1), .v (.int .i64 (ts.getD i dT).1.2)] := by simp [esT, encE, h]
theorem getTl (ts : List Tl) (i : Nat) (h : i < ts.length) : ((lvT ts).map encI)[i]? = some [.v (.int .i64 (ts.getD i dT).2.1)] := by simp [lvT, encI, h]
theorem getTt (ts : List Tl) (i : Nat) (h : i < ts.length) : ((trT ts).map encT)[i]? = some [.v (.bool (ts.getD i dT).2.2)] := by simp [trT, encT, h]
theorem abT_snoc {ts : List Tl} {i k : Int} {f : Bool} (h0 : 0 ≤ i) (h1 : i < ts.length) : abT (ts.take (i + 1).toNat) k f = abT (ts.take i.toNat) k f ++ if abP k f (ts.getD i.toNat dT) = true then [(ts.getD i.toNat dT).1] else [] := by
  rw [take_int dT h0 h1, abT_split]
  simp [abT]
theorem abT_len (ts : List Tl) (k : Int) (f : Bool) : (abT ts k f).length ≤ ts.length := by
  unfold abT
  rw [List.length_map]; exact List.length_filter_le _ _
theorem c_above (n k : Int) (f : Bool) (ts : List Tl) (hl : ts.length ≤ 1000) : KP 202 [LvP n ts, I k, B f] [] = some (.agg [I n, qP (abT ts k f)], [], qA (abT ts k f)) := by
  have l1 := esT_len' ts
  have l2 := lvT_len ts
  have l3 := trT_len ts
  refine xw_call (fn := Tryz.f202) rfl Tryz.func202 rfl ⟨Nat.le_of_ble_eq_true rfl, rfl, rfl⟩ ?_
  repeat' (first
    | refine xw_seq ?_
    | refine xw_block ?_
    | (refine ite_two ?_ ?_ <;> intro _ <;> first | (exfalso; omega) | skip)
    | refine ord_split (by kernel_rfl) ?_
    | (refine xw_ret ?_ <;> try simp only [sq, bl, LQ])
    | ((first | refine xw_reg ?_ | refine xw_regd ?_ | refine xw_if ?_ | refine xw_skip ?_ | refine xw_exit ?_ | refine xw_label ?_ | refine post_ret ?_ | refine post_normal ?_ | refine postE_ret ?_ | refine postE_normal ?_ | (((first | refine at_region ?_ | refine at_out ?_ | refine at_cond ?_); split) <;> first | (exfalso; omega; done) | skip)) <;> try simp (config := { maxSteps := 3000000 }) (disch := first | assumption | omega | exact VG.okg (by assumption) | (simp only [List.length_set, List.length_append, List.length_cons, List.length_nil, List.length_replicate]; omega)) only [go_sem, ↓reduceIte, Int.reduceLE, Int.reduceLT, Int.reduceToNat, Int.reduceNeg, Int.reduceAdd, Int.reduceSub, Int.reduceMul, Int.reduceEq, Int.reduceNe, Nat.reduceEqDiff, Nat.reduceAdd, Nat.reduceSub, Nat.reduceMul, Nat.reduceLT, Nat.reduceLeDiff, Nat.reduceBEq, Nat.reduceBNe, UInt8.reduceToNat, Tryz.results202]))
  refine xw_loopR (fun (x : Int × Nat × List (Int × Int)) s => s.m 3 = some (.box 0 [I n, LE (esT ts), LI (lvT ts), LT (trT ts)]) ∧ s.ρ 3 = .ptr 3 0 0 0 ∧ s.ρ 6 = .ptr 6 0 0 0 ∧ s.m 6 = some (.box 0 [I 0, .i .emp]) ∧ s.ρ 7 = .ptr 7 0 0 0 ∧ s.m 7 = some (.box 0 [I n, fP 45 x.2.1 x.2.2]) ∧ (x.2.2 ≠ [] → s.m 45 = some (.arr x.2.1 2 (x.2.2.map encE))) ∧
    s.ρ 16 = LE (esT ts) ∧ s.ρ 17 = I ts.length ∧ s.ρ 18 = I x.1 ∧ s.ρ 1 = I k ∧ s.ρ 2 = B f ∧ 0 ≤ x.1 ∧ x.1 ≤ ts.length ∧ x.2.2 = abT (ts.take x.1.toNat) k f) (fun x => (ts.length - x.1).toNat) (0, 0, []) ?_ ?_
  · exact ⟨rfl, rfl, rfl, rfl, rfl, rfl, fun h => absurd rfl h, rfl, by simp [upd, l1], rfl, rfl, rfl, by simp, by simp, rfl⟩
  rintro ⟨i, w, xs⟩ ⟨ρ, m⟩ ⟨m3, e3, e6, m6, e7, m7, m45, e16, e17, e18, e1, e2, g0, g1, hx⟩
  simp only at m3 e3 e6 m6 e7 m7 m45 e16 e17 e18 e1 e2 g0 g1 hx
  by_cases hi : i < ts.length
  rotate_left
  · have hxe : abT ts k f = xs := by rw [hx, take_all (by omega)]
    rw [hxe]
    unfold qP qA
    by_cases hn : xs = []
    · have m7' : m 7 = some (.box 0 [I n, .i .emp]) := by rw [m7, fP, if_pos hn]
      rw [if_pos hn, if_pos hn]
      repeat' (first
        | refine xw_seq ?_
        | refine xw_block ?_
        | (refine ite_two ?_ ?_ <;> intro _ <;> first | (exfalso; omega) | skip)
        | refine ord_split (by kernel_rfl) ?_
        | (refine xw_ret ?_ <;> try simp only [sq, bl, LQ])
        | ((first | refine xw_reg ?_ | refine xw_regd ?_ | refine xw_if ?_ | refine xw_skip ?_ | refine xw_exit ?_ | refine xw_label ?_ | refine post_ret ?_ | refine post_normal ?_ | refine postE_ret ?_ | refine postE_normal ?_ | (((first | refine at_region ?_ | refine at_out ?_ | refine at_cond ?_); split) <;> first | (exfalso; omega; done) | skip)) <;> try simp (config := { maxSteps := 3000000 }) (disch := first | assumption | omega | exact VG.okg (by assumption) | (simp only [List.length_set, List.length_append, List.length_cons, List.length_nil, List.length_replicate]; omega)) only [go_sem, ↓reduceIte, Int.reduceLE, Int.reduceLT, Int.reduceToNat, Int.reduceNeg, Int.reduceAdd, Int.reduceSub, Int.reduceMul, Int.reduceEq, Int.reduceNe, Nat.reduceEqDiff, Nat.reduceAdd, Nat.reduceSub, Nat.reduceMul, Nat.reduceLT, Nat.reduceLeDiff, Nat.reduceBEq, Nat.reduceBNe, UInt8.reduceToNat, Tryz.results202, m3, e3, e6, m6, e7, m7', e16, e17, e18, e1, e2]))
    · have m7' : m 7 = some (.box 0 [I n, .ref 45 w 0 xs.length]) := by rw [m7, fP, if_neg hn]
      have m45' := m45 hn
      rw [if_neg hn, if_neg hn]
      repeat' (first
        | refine xw_seq ?_
        | refine xw_block ?_
        | (refine ite_two ?_ ?_ <;> intro _ <;> first | (exfalso; omega) | skip)
        | refine ord_split (by kernel_rfl) ?_
        | (refine xw_ret ?_ <;> try simp only [sq, bl, LQ])
        | ((first | refine xw_reg ?_ | refine xw_regd ?_ | refine xw_if ?_ | refine xw_skip ?_ | refine xw_exit ?_ | refine xw_label ?_ | refine post_ret ?_ | refine post_normal ?_ | refine postE_ret ?_ | refine postE_normal ?_ | (((first | refine at_region ?_ | refine at_out ?_ | refine at_cond ?_); split) <;> first | (exfalso; omega; done) | skip)) <;> try simp (config := { maxSteps := 3000000 }) (disch := first | assumption | omega | exact VG.okg (by assumption) | (simp only [List.length_set, List.length_append, List.length_cons, List.length_nil, List.length_replicate]; omega)) only [go_sem, ↓reduceIte, Int.reduceLE, Int.reduceLT, Int.reduceToNat, Int.reduceNeg, Int.reduceAdd, Int.reduceSub, Int.reduceMul, Int.reduceEq, Int.reduceNe, Nat.reduceEqDiff, Nat.reduceAdd, Nat.reduceSub, Nat.reduceMul, Nat.reduceLT, Nat.reduceLeDiff, Nat.reduceBEq, Nat.reduceBNe, UInt8.reduceToNat, Tryz.results202, m3, e3, e6, m6, e7, m7', m45', e16, e17, e18, e1, e2]))
  have hE := getTe ts i.toNat (by omega)
  have hL := getTl ts i.toNat (by omega)
  have hT := getTt ts i.toNat (by omega)
  have hsn := abT_snoc (k := k) (f := f) g0 hi
  have hxl : xs.length ≤ ts.length := by rw [hx]; have := abT_len (ts.take i.toNat) k f; rw [List.length_take] at this; omega
  rw [← hx] at hsn
  generalize ts.getD i.toNat dT = t at hE hL hT hsn
  obtain ⟨⟨a, b⟩, l, q⟩ := t
  simp only at hE hL hT hsn
  have hdec : abP k f ((a, b), l, q) = (decide (k ≤ l) && (!f || q)) := rfl
  rw [hdec] at hsn
  by_cases hk : k ≤ l
  · have hkd := decide_eq_true hk
    by_cases hfq : (!f || q) = true
    · rw [hkd, hfq] at hsn
      simp only [Bool.and_self, if_true] at hsn
      by_cases hn : xs = []
      · subst hn
        have m7' : m 7 = some (.box 0 [I n, .i .emp]) := m7
        cases f <;> cases q
        · repeat' (first
            | refine xw_seq ?_
            | refine xw_block ?_
            | (refine ite_two ?_ ?_ <;> intro _ <;> first | (exfalso; omega) | skip)
            | refine ord_split (by kernel_rfl) ?_
            | (refine xw_ret ?_ <;> try simp only [sq, bl, LQ])
            | ((first | refine xw_reg ?_ | refine xw_regd ?_ | refine xw_if ?_ | refine xw_skip ?_ | refine xw_exit ?_ | refine xw_label ?_ | refine post_ret ?_ | refine post_normal ?_ | refine postE_ret ?_ | refine postE_normal ?_ | (((first | refine at_region ?_ | refine at_out ?_ | refine at_cond ?_); split) <;> first | (exfalso; omega; done) | skip)) <;> try simp (config := { maxSteps := 3000000 }) (disch := first | assumption | omega | exact VG.okg (by assumption) | (simp only [List.length_set, List.length_append, List.length_cons, List.length_nil, List.length_replicate]; omega)) only [go_sem, ↓reduceIte, Int.reduceLE, Int.reduceLT, Int.reduceToNat, Int.reduceNeg, Int.reduceAdd, Int.reduceSub, Int.reduceMul, Int.reduceEq, Int.reduceNe, Nat.reduceEqDiff, Nat.reduceAdd, Nat.reduceSub, Nat.reduceMul, Nat.reduceLT, Nat.reduceLeDiff, Nat.reduceBEq, Nat.reduceBNe, UInt8.reduceToNat, Tryz.results202, m3, e3, e6, m6, e7, m7', e16, e17, e18, e1, e2, hE, hL, hT]))
          exact ⟨i + 1, _, [(a, b)], rfl, fun _ => ⟨rfl, by simp [encE]⟩, rfl, by omega, by omega, by rw [hsn]; rfl, by omega⟩
        · repeat' (first
            | refine xw_seq ?_
            | refine xw_block ?_
            | (refine ite_two ?_ ?_ <;> intro _ <;> first | (exfalso; omega) | skip)
            | refine ord_split (by kernel_rfl) ?_
            | (refine xw_ret ?_ <;> try simp only [sq, bl, LQ])
            | ((first | refine xw_reg ?_ | refine xw_regd ?_ | refine xw_if ?_ | refine xw_skip ?_ | refine xw_exit ?_ | refine xw_label ?_ | refine post_ret ?_ | refine post_normal ?_ | refine postE_ret ?_ | refine postE_normal ?_ | (((first | refine at_region ?_ | refine at_out ?_ | refine at_cond ?_); split) <;> first | (exfalso; omega; done) | skip)) <;> try simp (config := { maxSteps := 3000000 }) (disch := first | assumption | omega | exact VG.okg (by assumption) | (simp only [List.length_set, List.length_append, List.length_cons, List.length_nil, List.length_replicate]; omega)) only [go_sem, ↓reduceIte, Int.reduceLE, Int.reduceLT, Int.reduceToNat, Int.reduceNeg, Int.reduceAdd, Int.reduceSub, Int.reduceMul, Int.reduceEq, Int.reduceNe, Nat.reduceEqDiff, Nat.reduceAdd, Nat.reduceSub, Nat.reduceMul, Nat.reduceLT, Nat.reduceLeDiff, Nat.reduceBEq, Nat.reduceBNe, UInt8.reduceToNat, Tryz.results202, m3, e3, e6, m6, e7, m7', e16, e17, e18, e1, e2, hE, hL, hT]))
          exact ⟨i + 1, _, [(a, b)], rfl, fun _ => ⟨rfl, by simp [encE]⟩, rfl, by omega, by omega, by rw [hsn]; rfl, by omega⟩
        · cases hfq
        · repeat' (first
            | refine xw_seq ?_
            | refine xw_block ?_
            | (refine ite_two ?_ ?_ <;> intro _ <;> first | (exfalso; omega) | skip)
            | refine ord_split (by kernel_rfl) ?_
            | (refine xw_ret ?_ <;> try simp only [sq, bl, LQ])
            | ((first | refine xw_reg ?_ | refine xw_regd ?_ | refine xw_if ?_ | refine xw_skip ?_ | refine xw_exit ?_ | refine xw_label ?_ | refine post_ret ?_ | refine post_normal ?_ | refine postE_ret ?_ | refine postE_normal ?_ | (((first | refine at_region ?_ | refine at_out ?_ | refine at_cond ?_); split) <;> first | (exfalso; omega; done) | skip)) <;> try simp (config := { maxSteps := 3000000 }) (disch := first | assumption | omega | exact VG.okg (by assumption) | (simp only [List.length_set, List.length_append, List.length_cons, List.length_nil, List.length_replicate]; omega)) only [go_sem, ↓reduceIte, Int.reduceLE, Int.reduceLT, Int.reduceToNat, Int.reduceNeg, Int.reduceAdd, Int.reduceSub, Int.reduceMul, Int.reduceEq, Int.reduceNe, Nat.reduceEqDiff, Nat.reduceAdd, Nat.reduceSub, Nat.reduceMul, Nat.reduceLT, Nat.reduceLeDiff, Nat.reduceBEq, Nat.reduceBNe, UInt8.reduceToNat, Tryz.results202, m3, e3, e6, m6, e7, m7', e16, e17, e18, e1, e2, hE, hL, hT]))
          exact ⟨i + 1, _, [(a, b)], rfl, fun _ => ⟨rfl, by simp [encE]⟩, rfl, by omega, by omega, by rw [hsn]; rfl, by omega⟩
      · have m7' : m 7 = some (.box 0 [I n, .ref 45 w 0 xs.length]) := by rw [m7, fP, if_neg hn]
        have m45' := m45 hn
        cases f <;> cases q
        · repeat' (first
            | refine xw_seq ?_
            | refine xw_block ?_
            | (refine ite_two ?_ ?_ <;> intro _ <;> first | (exfalso; omega) | skip)
            | refine ord_split (by kernel_rfl) ?_
            | (refine xw_ret ?_ <;> try simp only [sq, bl, LQ])
            | ((first | refine xw_reg ?_ | refine xw_regd ?_ | refine xw_if ?_ | refine xw_skip ?_ | refine xw_exit ?_ | refine xw_label ?_ | refine post_ret ?_ | refine post_normal ?_ | refine postE_ret ?_ | refine postE_normal ?_ | (((first | refine at_region ?_ | refine at_out ?_ | refine at_cond ?_); split) <;> first | (exfalso; omega; done) | skip)) <;> try simp (config := { maxSteps := 3000000 }) (disch := first | assumption | omega | exact VG.okg (by assumption) | (simp only [List.length_set, List.length_append, List.length_cons, List.length_nil, List.length_replicate]; omega)) only [go_sem, ↓reduceIte, Int.reduceLE, Int.reduceLT, Int.reduceToNat, Int.reduceNeg, Int.reduceAdd, Int.reduceSub, Int.reduceMul, Int.reduceEq, Int.reduceNe, Nat.reduceEqDiff, Nat.reduceAdd, Nat.reduceSub, Nat.reduceMul, Nat.reduceLT, Nat.reduceLeDiff, Nat.reduceBEq, Nat.reduceBNe, UInt8.reduceToNat, Tryz.results202, m3, e3, e6, m6, e7, m7', m45', e16, e17, e18, e1, e2, hE, hL, hT]))
          exact ⟨i + 1, w + 1, xs ++ [(a, b)], by rw [fP, if_neg (by simp)]; simp, fun _ => ⟨rfl, rfl⟩, rfl, by omega, by omega, hsn.symm, by omega⟩
        · repeat' (first
            | refine xw_seq ?_
            | refine xw_block ?_
            | (refine ite_two ?_ ?_ <;> intro _ <;> first | (exfalso; omega) | skip)
            | refine ord_split (by kernel_rfl) ?_
            | (refine xw_ret ?_ <;> try simp only [sq, bl, LQ])
            | ((first | refine xw_reg ?_ | refine xw_regd ?_ | refine xw_if ?_ | refine xw_skip ?_ | refine xw_exit ?_ | refine xw_label ?_ | refine post_ret ?_ | refine post_normal ?_ | refine postE_ret ?_ | refine postE_normal ?_ | (((first | refine at_region ?_ | refine at_out ?_ | refine at_cond ?_); split) <;> first | (exfalso; omega; done) | skip)) <;> try simp (config := { maxSteps := 3000000 }) (disch := first | assumption | omega | exact VG.okg (by assumption) | (simp only [List.length_set, List.length_append, List.length_cons, List.length_nil, List.length_replicate]; omega)) only [go_sem, ↓reduceIte, Int.reduceLE, Int.reduceLT, Int.reduceToNat, Int.reduceNeg, Int.reduceAdd, Int.reduceSub, Int.reduceMul, Int.reduceEq, Int.reduceNe, Nat.reduceEqDiff, Nat.reduceAdd, Nat.reduceSub, Nat.reduceMul, Nat.reduceLT, Nat.reduceLeDiff, Nat.reduceBEq, Nat.reduceBNe, UInt8.reduceToNat, Tryz.results202, m3, e3, e6, m6, e7, m7', m45', e16, e17, e18, e1, e2, hE, hL, hT]))
          exact ⟨i + 1, w + 1, xs ++ [(a, b)], by rw [fP, if_neg (by simp)]; simp, fun _ => ⟨rfl, rfl⟩, rfl, by omega, by omega, hsn.symm, by omega⟩
        · cases hfq
        · repeat' (first
            | refine xw_seq ?_
            | refine xw_block ?_
            | (refine ite_two ?_ ?_ <;> intro _ <;> first | (exfalso; omega) | skip)
            | refine ord_split (by kernel_rfl) ?_
            | (refine xw_ret ?_ <;> try simp only [sq, bl, LQ])
            | ((first | refine xw_reg ?_ | refine xw_regd ?_ | refine xw_if ?_ | refine xw_skip ?_ | refine xw_exit ?_ | refine xw_label ?_ | refine post_ret ?_ | refine post_normal ?_ | refine postE_ret ?_ | refine postE_normal ?_ | (((first | refine at_region ?_ | refine at_out ?_ | refine at_cond ?_); split) <;> first | (exfalso; omega; done) | skip)) <;> try simp (config := { maxSteps := 3000000 }) (disch := first | assumption | omega | exact VG.okg (by assumption) | (simp only [List.length_set, List.length_append, List.length_cons, List.length_nil, List.length_replicate]; omega)) only [go_sem, ↓reduceIte, Int.reduceLE, Int.reduceLT, Int.reduceToNat, Int.reduceNeg, Int.reduceAdd, Int.reduceSub, Int.reduceMul, Int.reduceEq, Int.reduceNe, Nat.reduceEqDiff, Nat.reduceAdd, Nat.reduceSub, Nat.reduceMul, Nat.reduceLT, Nat.reduceLeDiff, Nat.reduceBEq, Nat.reduceBNe, UInt8.reduceToNat, Tryz.results202, m3, e3, e6, m6, e7, m7', m45', e16, e17, e18, e1, e2, hE, hL, hT]))
          exact ⟨i + 1, w + 1, xs ++ [(a, b)], by rw [fP, if_neg (by simp)]; simp, fun _ => ⟨rfl, rfl⟩, rfl, by omega, by omega, hsn.symm, by omega⟩
    · obtain ⟨rfl, rfl⟩ : f = true ∧ q = false := by cases f <;> cases q <;> simp at hfq ⊢
      rw [hkd] at hsn
      simp only [Bool.not_true, Bool.or_self, Bool.and_false, Bool.false_eq_true, if_false, List.append_nil] at hsn
      repeat' (first
        | refine xw_seq ?_
        | refine xw_block ?_
        | (refine ite_two ?_ ?_ <;> intro _ <;> first | (exfalso; omega) | skip)
        | refine ord_split (by kernel_rfl) ?_
        | (refine xw_ret ?_ <;> try simp only [sq, bl, LQ])
        | ((first | refine xw_reg ?_ | refine xw_regd ?_ | refine xw_if ?_ | refine xw_skip ?_ | refine xw_exit ?_ | refine xw_label ?_ | refine post_ret ?_ | refine post_normal ?_ | refine postE_ret ?_ | refine postE_normal ?_ | (((first | refine at_region ?_ | refine at_out ?_ | refine at_cond ?_); split) <;> first | (exfalso; omega; done) | skip)) <;> try simp (config := { maxSteps := 3000000 }) (disch := first | assumption | omega | exact VG.okg (by assumption) | (simp only [List.length_set, List.length_append, List.length_cons, List.length_nil, List.length_replicate]; omega)) only [go_sem, ↓reduceIte, Int.reduceLE, Int.reduceLT, Int.reduceToNat, Int.reduceNeg, Int.reduceAdd, Int.reduceSub, Int.reduceMul, Int.reduceEq, Int.reduceNe, Nat.reduceEqDiff, Nat.reduceAdd, Nat.reduceSub, Nat.reduceMul, Nat.reduceLT, Nat.reduceLeDiff, Nat.reduceBEq, Nat.reduceBNe, UInt8.reduceToNat, Tryz.results202, m3, e3, e6, m6, e7, m7, e16, e17, e18, e1, e2, hE, hL, hT]))
      exact ⟨i + 1, w, xs, rfl, m45, rfl, by omega, by omega, hsn.symm, by omega⟩
  · have hkd := decide_eq_false hk
    rw [hkd] at hsn
    simp only [Bool.false_and, Bool.false_eq_true, if_false, List.append_nil] at hsn
    repeat' (first
      | refine xw_seq ?_
      | refine xw_block ?_
      | (refine ite_two ?_ ?_ <;> intro _ <;> first | (exfalso; omega) | skip)
      | refine ord_split (by kernel_rfl) ?_
      | (refine xw_ret ?_ <;> try simp only [sq, bl, LQ])
      | ((first | refine xw_reg ?_ | refine xw_regd ?_ | refine xw_if ?_ | refine xw_skip ?_ | refine xw_exit ?_ | refine xw_label ?_ | refine post_ret ?_ | refine post_normal ?_ | refine postE_ret ?_ | refine postE_normal ?_ | (((first | refine at_region ?_ | refine at_out ?_ | refine at_cond ?_); split) <;> first | (exfalso; omega; done) | skip)) <;> try simp (config := { maxSteps := 3000000 }) (disch := first | assumption | omega | exact VG.okg (by assumption) | (simp only [List.length_set, List.length_append, List.length_cons, List.length_nil, List.length_replicate]; omega)) only [go_sem, ↓reduceIte, Int.reduceLE, Int.reduceLT, Int.reduceToNat, Int.reduceNeg, Int.reduceAdd, Int.reduceSub, Int.reduceMul, Int.reduceEq, Int.reduceNe, Nat.reduceEqDiff, Nat.reduceAdd, Nat.reduceSub, Nat.reduceMul, Nat.reduceLT, Nat.reduceLeDiff, Nat.reduceBEq, Nat.reduceBNe, UInt8.reduceToNat, Tryz.results202, m3, e3, e6, m6, e7, m7, e16, e17, e18, e1, e2, hE, hL, hT]))
    exact ⟨i + 1, w, xs, rfl, m45, rfl, by omega, by omega, hsn.symm, by omega⟩
end Go.Proofs.YtdjdgnabcecdlaaGreatDoor.X

/- What functions compute: rooted trees of a forest. -/
set_option linter.unusedSimpArgs false
set_option linter.unusedVariables false
set_option maxHeartbeats 8000000
set_option maxRecDepth 100000
namespace Go.Proofs.YtdjdgnabcecdlaaGreatDoor.X
open Go Go.Proofs
/-- The label of a node. -/
noncomputable def lbl (es : List (Int × Int)) (x : Int) : Int := (least es x.toNat : Nat)
theorem lbl_at {n x : Int} {es : List (Int × Int)} (hx : inN n x) : (lab n es).getD x.toNat 0 = lbl es x := lab_get (by omega)
theorem lbl_spec {n x : Int} {es : List (Int × Int)} (hx : inN n x) : inN n (lbl es x) ∧ Conn es x (lbl es x) ∧ lbl es x ≤ x := by
  obtain ⟨h1, h2, -⟩ := least_spec es x.toNat
  have e : ((x.toNat : Nat) : Int) = x := Int.toNat_of_nonneg hx.1
  rw [e] at h2
  unfold lbl
  exact ⟨by omega, h2.symm, by omega⟩
theorem lbl_iff {n x y : Int} {es : List (Int × Int)} (hx : inN n x) (hy : inN n y) : lbl es x = lbl es y ↔ Conn es x y := by
  have := lab_iff (es := es) hx hy
  rwa [lbl_at hx, lbl_at hy] at this
/-- The node above a node. -/
noncomputable def upN (n : Int) (es : List (Int × Int)) (x : Int) : Int := if lbl es x = x then -1 else (pathL n (forestL es) x (lbl es x)).getD 1 0
noncomputable def wtN (es : List (Int × Int)) (x : Int) : Int := if lbl es x = x then 0 else 1
noncomputable def upsL (n : Int) (es : List (Int × Int)) (i : Int) : List Int := (iota i).map (upN n es)
noncomputable def wtsL (es : List (Int × Int)) (i : Int) : List Int := (iota i).map (wtN es)
abbrev RP (ps ws : List Int) : PV := .agg [LI ps, LI ws]
end Go.Proofs.YtdjdgnabcecdlaaGreatDoor.X
