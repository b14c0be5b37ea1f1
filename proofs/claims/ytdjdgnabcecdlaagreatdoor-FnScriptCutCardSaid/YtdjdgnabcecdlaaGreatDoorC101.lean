/- What functions compute: places of bytes, pieces of strings. -/
import Derived.Test.YtdjdgnabcecdlaaGreatDoorC10
import Derived.Test.YtdjdgnabcecdlaaGreatDoorKAB
set_option linter.unusedSimpArgs false
set_option linter.unusedVariables false
set_option maxHeartbeats 8000000
set_option maxRecDepth 100000
namespace Go.Proofs.YtdjdgnabcecdlaaGreatDoor.X
open Go Go.Proofs
theorem u8_back (c : UInt8) : ((c.toNat : Int)).toNat.toUInt8 = c := by
  rw [Int.toNat_natCast]
  exact UInt8.ofNat_toNat
theorem ixB_index (l : List UInt8) (c : UInt8) : Lib.indexByte l c = ixB c l := by
  induction l with
  | nil => rfl
  | cons b l ih =>
    unfold Lib.indexByte
    rw [ih]
    by_cases h : b = c
    · subst h
      simp [ixB]
    · have hb : (b == c) = false := by simpa using h
      have h' : ¬ c = b := fun e => h e.symm
      rw [hb]
      unfold ixB
      by_cases hm : c ∈ l
      · rw [if_pos hm, if_pos (List.mem_cons_of_mem _ hm), List.idxOf_cons, hb]
        have : ¬ ((l.idxOf c : Int) == -1) = true := by simp
        simp only [Bool.false_eq_true, if_false, this]
        simp
      · rw [if_neg hm, if_neg (show ¬ c ∈ b :: l by rw [List.mem_cons, not_or]; exact ⟨h', hm⟩)]
        rfl
@[go_sem] theorem c_indexByte (l : List UInt8) (c : UInt8) : KP 233 [S l, .i (.v (.int .u8 c.toNat))] [] = some (I (ixB c l), [], []) := by
  refine KK_prim rfl ?_
  simp only [idxP, u8_back, ixB_index]
@[go_sem] theorem c_count (l : List UInt8) (c : UInt8) : KP 172 [S l, S [c]] [] = some (I (l.count c), [], []) := by
  refine KK_prim rfl ?_
  simp only [cntP, Lib.countByte]
@[go_sem] theorem c_sIndex (l : List UInt8) (c : UInt8) (hl : l.length ≤ 1048576) : KP 200 [S l, S [c]] [] = some (I (ixB c l), [], []) := by
  by_cases hz : l = [c]
  · subst hz
    have he : ixB c [c] = 0 := by simp [ixB]
    refine xw_call (fn := Tryz.f200) rfl Tryz.func200 rfl ⟨Nat.le_of_ble_eq_true rfl, rfl, rfl⟩ ?_
    repeat' (first
      | refine xw_seq ?_
      | refine xw_block ?_
      | (refine ite_two ?_ ?_ <;> intro _ <;> first | (exfalso; omega) | skip)
      | refine ord_split (by kernel_rfl) ?_
      | (refine xw_ret ?_ <;> try simp only [sq, bl, LQ])
      | ((first | refine xw_reg ?_ | refine xw_regd ?_ | refine xw_if ?_ | refine xw_skip ?_ | refine xw_exit ?_ | refine xw_label ?_ | refine post_ret ?_ | refine post_normal ?_ | refine postE_ret ?_ | refine postE_normal ?_ | (((first | refine at_region ?_ | refine at_out ?_ | refine at_cond ?_); split) <;> first | (exfalso; omega; done) | skip)) <;> try simp (config := { maxSteps := 3000000 }) (disch := first | assumption | omega | exact VG.okg (by assumption) | (simp only [List.length_set, List.length_append, List.length_cons, List.length_nil, List.length_replicate]; omega)) only [go_sem, ↓reduceIte, Int.reduceLE, Int.reduceLT, Int.reduceToNat, Int.reduceNeg, Int.reduceAdd, Int.reduceSub, Int.reduceMul, Int.reduceEq, Int.reduceNe, Nat.reduceEqDiff, Nat.reduceAdd, Nat.reduceSub, Nat.reduceMul, Nat.reduceLT, Nat.reduceLeDiff, Nat.reduceBEq, Nat.reduceBNe, UInt8.reduceToNat, Tryz.results200, he]))
  · have he : eqS [c] l = false := eqS_ne (fun h => hz h.symm)
    refine xw_call (fn := Tryz.f200) rfl Tryz.func200 rfl ⟨Nat.le_of_ble_eq_true rfl, rfl, rfl⟩ ?_
    repeat' (first
      | refine xw_seq ?_
      | refine xw_block ?_
      | (refine ite_two ?_ ?_ <;> intro _ <;> first | (exfalso; omega) | skip)
      | refine ord_split (by kernel_rfl) ?_
      | (refine xw_ret ?_ <;> try simp only [sq, bl, LQ])
      | ((first | refine xw_reg ?_ | refine xw_regd ?_ | refine xw_if ?_ | refine xw_skip ?_ | refine xw_exit ?_ | refine xw_label ?_ | refine post_ret ?_ | refine post_normal ?_ | refine postE_ret ?_ | refine postE_normal ?_ | (((first | refine at_region ?_ | refine at_out ?_ | refine at_cond ?_); split) <;> first | (exfalso; omega; done) | skip)) <;> try simp (config := { maxSteps := 3000000 }) (disch := first | assumption | omega | exact VG.okg (by assumption) | (simp only [List.length_set, List.length_append, List.length_cons, List.length_nil, List.length_replicate]; omega)) only [go_sem, ↓reduceIte, Int.reduceLE, Int.reduceLT, Int.reduceToNat, Int.reduceNeg, Int.reduceAdd, Int.reduceSub, Int.reduceMul, Int.reduceEq, Int.reduceNe, Nat.reduceEqDiff, Nat.reduceAdd, Nat.reduceSub, Nat.reduceMul, Nat.reduceLT, Nat.reduceLeDiff, Nat.reduceBEq, Nat.reduceBNe, UInt8.reduceToNat, Tryz.results200, he]))
@[go_sem] theorem c_Index (l : List UInt8) (c : UInt8) (hl : l.length ≤ 1048576) : KP 173 [S l, S [c]] [] = some (I (ixB c l), [], []) := by
  refine xw_call (fn := Tryz.f173) rfl Tryz.func173 rfl ⟨Nat.le_of_ble_eq_true rfl, rfl, rfl⟩ ?_
  repeat' (first
    | refine xw_seq ?_
    | refine xw_block ?_
    | (refine ite_two ?_ ?_ <;> intro _ <;> first | (exfalso; omega) | skip)
    | refine ord_split (by kernel_rfl) ?_
    | (refine xw_ret ?_ <;> try simp only [sq, bl, LQ])
    | ((first | refine xw_reg ?_ | refine xw_regd ?_ | refine xw_if ?_ | refine xw_skip ?_ | refine xw_exit ?_ | refine xw_label ?_ | refine post_ret ?_ | refine post_normal ?_ | refine postE_ret ?_ | refine postE_normal ?_ | (((first | refine at_region ?_ | refine at_out ?_ | refine at_cond ?_); split) <;> first | (exfalso; omega; done) | skip)) <;> try simp (config := { maxSteps := 3000000 }) (disch := first | assumption | omega | exact VG.okg (by assumption) | (simp only [List.length_set, List.length_append, List.length_cons, List.length_nil, List.length_replicate]; omega)) only [go_sem, ↓reduceIte, Int.reduceLE, Int.reduceLT, Int.reduceToNat, Int.reduceNeg, Int.reduceAdd, Int.reduceSub, Int.reduceMul, Int.reduceEq, Int.reduceNe, Nat.reduceEqDiff, Nat.reduceAdd, Nat.reduceSub, Nat.reduceMul, Nat.reduceLT, Nat.reduceLeDiff, Nat.reduceBEq, Nat.reduceBNe, UInt8.reduceToNat, Tryz.results173]))
theorem c_sCut (l : List UInt8) (c : UInt8) (hl : l.length ≤ 1048576) : KP 174 [S l, S [c]] [] = some (if 0 ≤ ixB c l then .tup [S (l.take (ixB c l).toNat), S (l.drop ((ixB c l).toNat + 1)), B true] else .tup [S l, S [], B false], [], []) := by
  have hb := ixB_lt (c := c) (l := l)
  by_cases h : 0 ≤ ixB c l
  · rw [if_pos h]
    obtain ⟨k, hk⟩ := Int.eq_ofNat_of_zero_le h
    rw [hk] at hb ⊢
    have hi := c_sIndex l c hl
    rw [hk] at hi
    have h1 : ((k : Int) + 1).toNat = k + 1 := by omega
    have h2 : (l.drop (k + 1)).take (l.length - (k + 1)) = l.drop (k + 1) := List.take_of_length_le (by simp)
    refine xw_call (fn := Tryz.f174) rfl Tryz.func174 rfl ⟨Nat.le_of_ble_eq_true rfl, rfl, rfl⟩ ?_
    repeat' (first
      | refine xw_seq ?_
      | refine xw_block ?_
      | (refine ite_two ?_ ?_ <;> intro _ <;> first | (exfalso; omega) | skip)
      | refine ord_split (by kernel_rfl) ?_
      | (refine xw_ret ?_ <;> try simp only [sq, bl, LQ])
      | ((first | refine xw_reg ?_ | refine xw_regd ?_ | refine xw_if ?_ | refine xw_skip ?_ | refine xw_exit ?_ | refine xw_label ?_ | refine post_ret ?_ | refine post_normal ?_ | refine postE_ret ?_ | refine postE_normal ?_ | (((first | refine at_region ?_ | refine at_out ?_ | refine at_cond ?_); split) <;> first | (exfalso; omega; done) | skip)) <;> try simp (config := { maxSteps := 3000000 }) (disch := first | assumption | omega | exact VG.okg (by assumption) | (simp only [List.length_set, List.length_append, List.length_cons, List.length_nil, List.length_replicate]; omega)) only [go_sem, ↓reduceIte, Int.reduceLE, Int.reduceLT, Int.reduceToNat, Int.reduceNeg, Int.reduceAdd, Int.reduceSub, Int.reduceMul, Int.reduceEq, Int.reduceNe, Nat.reduceEqDiff, Nat.reduceAdd, Nat.reduceSub, Nat.reduceMul, Nat.reduceLT, Nat.reduceLeDiff, Nat.reduceBEq, Nat.reduceBNe, UInt8.reduceToNat, Tryz.results174, hi, h1, h2]))
  · rw [if_neg h]
    refine xw_call (fn := Tryz.f174) rfl Tryz.func174 rfl ⟨Nat.le_of_ble_eq_true rfl, rfl, rfl⟩ ?_
    repeat' (first
      | refine xw_seq ?_
      | refine xw_block ?_
      | (refine ite_two ?_ ?_ <;> intro _ <;> first | (exfalso; omega) | skip)
      | refine ord_split (by kernel_rfl) ?_
      | (refine xw_ret ?_ <;> try simp only [sq, bl, LQ])
      | ((first | refine xw_reg ?_ | refine xw_regd ?_ | refine xw_if ?_ | refine xw_skip ?_ | refine xw_exit ?_ | refine xw_label ?_ | refine post_ret ?_ | refine post_normal ?_ | refine postE_ret ?_ | refine postE_normal ?_ | (((first | refine at_region ?_ | refine at_out ?_ | refine at_cond ?_); split) <;> first | (exfalso; omega; done) | skip)) <;> try simp (config := { maxSteps := 3000000 }) (disch := first | assumption | omega | exact VG.okg (by assumption) | (simp only [List.length_set, List.length_append, List.length_cons, List.length_nil, List.length_replicate]; omega)) only [go_sem, ↓reduceIte, Int.reduceLE, Int.reduceLT, Int.reduceToNat, Int.reduceNeg, Int.reduceAdd, Int.reduceSub, Int.reduceMul, Int.reduceEq, Int.reduceNe, Nat.reduceEqDiff, Nat.reduceAdd, Nat.reduceSub, Nat.reduceMul, Nat.reduceLT, Nat.reduceLeDiff, Nat.reduceBEq, Nat.reduceBNe, UInt8.reduceToNat, Tryz.results174]))
theorem c_Cut (l : List UInt8) (c : UInt8) (hl : l.length ≤ 1048576) : KP 136 [S l, S [c]] [] = some (if 0 ≤ ixB c l then .tup [S (l.take (ixB c l).toNat), S (l.drop ((ixB c l).toNat + 1)), B true] else .tup [S l, S [], B false], [], []) := by
  have h0 := c_sCut l c hl
  by_cases h : 0 ≤ ixB c l
  · rw [if_pos h] at h0 ⊢
    refine xw_call (fn := Tryz.f136) rfl Tryz.func136 rfl ⟨Nat.le_of_ble_eq_true rfl, rfl, rfl⟩ ?_
    repeat' (first
      | refine xw_seq ?_
      | refine xw_block ?_
      | (refine ite_two ?_ ?_ <;> intro _ <;> first | (exfalso; omega) | skip)
      | refine ord_split (by kernel_rfl) ?_
      | (refine xw_ret ?_ <;> try simp only [sq, bl, LQ])
      | ((first | refine xw_reg ?_ | refine xw_regd ?_ | refine xw_if ?_ | refine xw_skip ?_ | refine xw_exit ?_ | refine xw_label ?_ | refine post_ret ?_ | refine post_normal ?_ | refine postE_ret ?_ | refine postE_normal ?_ | (((first | refine at_region ?_ | refine at_out ?_ | refine at_cond ?_); split) <;> first | (exfalso; omega; done) | skip)) <;> try simp (config := { maxSteps := 3000000 }) (disch := first | assumption | omega | exact VG.okg (by assumption) | (simp only [List.length_set, List.length_append, List.length_cons, List.length_nil, List.length_replicate]; omega)) only [go_sem, ↓reduceIte, Int.reduceLE, Int.reduceLT, Int.reduceToNat, Int.reduceNeg, Int.reduceAdd, Int.reduceSub, Int.reduceMul, Int.reduceEq, Int.reduceNe, Nat.reduceEqDiff, Nat.reduceAdd, Nat.reduceSub, Nat.reduceMul, Nat.reduceLT, Nat.reduceLeDiff, Nat.reduceBEq, Nat.reduceBNe, UInt8.reduceToNat, Tryz.results136, h0]))
  · rw [if_neg h] at h0 ⊢
    refine xw_call (fn := Tryz.f136) rfl Tryz.func136 rfl ⟨Nat.le_of_ble_eq_true rfl, rfl, rfl⟩ ?_
    repeat' (first
      | refine xw_seq ?_
      | refine xw_block ?_
      | (refine ite_two ?_ ?_ <;> intro _ <;> first | (exfalso; omega) | skip)
      | refine ord_split (by kernel_rfl) ?_
      | (refine xw_ret ?_ <;> try simp only [sq, bl, LQ])
      | ((first | refine xw_reg ?_ | refine xw_regd ?_ | refine xw_if ?_ | refine xw_skip ?_ | refine xw_exit ?_ | refine xw_label ?_ | refine post_ret ?_ | refine post_normal ?_ | refine postE_ret ?_ | refine postE_normal ?_ | (((first | refine at_region ?_ | refine at_out ?_ | refine at_cond ?_); split) <;> first | (exfalso; omega; done) | skip)) <;> try simp (config := { maxSteps := 3000000 }) (disch := first | assumption | omega | exact VG.okg (by assumption) | (simp only [List.length_set, List.length_append, List.length_cons, List.length_nil, List.length_replicate]; omega)) only [go_sem, ↓reduceIte, Int.reduceLE, Int.reduceLT, Int.reduceToNat, Int.reduceNeg, Int.reduceAdd, Int.reduceSub, Int.reduceMul, Int.reduceEq, Int.reduceNe, Nat.reduceEqDiff, Nat.reduceAdd, Nat.reduceSub, Nat.reduceMul, Nat.reduceLT, Nat.reduceLeDiff, Nat.reduceBEq, Nat.reduceBNe, UInt8.reduceToNat, Tryz.results136, h0]))
/-- Cut at a byte that is not in the first part. -/
theorem c_Cut_at (a b : List UInt8) (c : UInt8) (hc : c ∉ a) (hl : a.length + b.length ≤ 1000000) : KP 136 [S (a ++ c :: b), S [c]] [] = some (.tup [S a, S b, B true], [], []) := by
  have h0 := c_Cut (a ++ c :: b) c (by simp; omega)
  have hi : ixB c (a ++ c :: b) = a.length := ixB_at (by simp) (by simpa using hc)
  rw [hi, if_pos (by omega)] at h0
  simpa using h0
theorem c_Cut_no (a : List UInt8) (c : UInt8) (hc : c ∉ a) (hl : a.length ≤ 1000000) : KP 136 [S a, S [c]] [] = some (.tup [S a, S [], B false], [], []) := by
  have h0 := c_Cut a c (by omega)
  rw [ixB_none hc, if_neg (by omega)] at h0
  exact h0
abbrev zS : List IV := [.v (.string ⟨(([] : List UInt8)).toArray⟩)]
theorem rep_set {d : List (List UInt8)} {k : Nat} {s : List UInt8} (hk : 0 < k) : (d.map encS ++ List.replicate k zS).set d.length (encS s) = (d ++ [s]).map encS ++ List.replicate (k - 1) zS := by
  obtain ⟨k, rfl⟩ : ∃ j, k = j + 1 := ⟨k - 1, by omega⟩
  rw [List.replicate_succ, List.set_append_right _ _ (by simp)]
  simp
/-- What an array that is split into holds. -/
def splA (d : List (List UInt8)) (k : Nat) : List (List IV) := d.map encS ++ List.replicate k zS
theorem splA_len (d : List (List UInt8)) (k : Nat) : (splA d k).length = d.length + k := by simp [splA]
theorem splA_set {d : List (List UInt8)} {k : Nat} {s : List UInt8} (hk : 0 < k) : (splA d k).set d.length [.v (.string ⟨s.toArray⟩)] = splA (d ++ [s]) (k - 1) := rep_set hk
theorem splA_get {d : List (List UInt8)} {k : Nat} (hk : 0 < k) : ∃ e, (splA d k)[d.length]? = some [e] := by
  obtain ⟨k, rfl⟩ : ∃ j, k = j + 1 := ⟨k - 1, by omega⟩
  unfold splA
  rw [List.replicate_succ, List.getElem?_append_right (by simp)]
  simp
theorem pcs_one {c : UInt8} {s : List UInt8} (h : (pcs c s).length ≤ 1) : pcs c s = [s] := by
  rw [pcs_len] at h
  exact pcs_none (fun hm => by have := List.one_le_count_iff.2 hm; omega)
theorem c_genSplit (l : List UInt8) (c : UInt8) (n : Int) (hl : l.length ≤ 1000000) (hn : n < 0 ∨ ((pcs c l).length : Int) ≤ n) (hn2 : n ≤ 1000000) :
    ∃ k, KP 135 [S l, S [c], I 0, I n] [] = some (.ref 2000 0 0 (pcs c l).length, [], [.arr 0 1 (splA (pcs c l) k)]) ∧ (n < 0 → k = 0) := by
  have hp1 := pcs_len (c := c) l
  have hp2 := pcs_le (c := c) l
  obtain ⟨N, hN1, hN2, hN3, hN4⟩ : ∃ N : Nat, (min (if n < 0 then (l.count c : Int) + 1 else n) (l.length + 1) = (N : Int)) ∧ (pcs c l).length ≤ N ∧ N ≤ 1000001 ∧ (n < 0 → N = (pcs c l).length) := by
    refine ⟨(min (if n < 0 then (l.count c : Int) + 1 else n) (l.length + 1)).toNat, ?_, ?_, ?_, ?_⟩
    · split <;> omega
    · split <;> omega
    · split <;> omega
    · intro h; rw [if_pos h]; omega
  refine ⟨N - (pcs c l).length, ?_, fun h => by rw [hN4 h]; omega⟩
  have hrep : List.replicate N zS = splA [] N := by simp [splA]
  have hsp : ∀ d k, (splA d k).length = d.length + k := splA_len
  by_cases hneg : n < 0
  all_goals
    first | rw [if_pos hneg] at hN1 | rw [if_neg hneg] at hN1
    refine xw_call (fn := Tryz.f135) rfl Tryz.func135 rfl ⟨Nat.le_of_ble_eq_true rfl, rfl, rfl⟩ ?_
    repeat' (first
      | refine xw_seq ?_
      | refine xw_block ?_
      | (refine ite_two ?_ ?_ <;> intro _ <;> first | (exfalso; omega) | skip)
      | refine ord_split (by kernel_rfl) ?_
      | (refine xw_ret ?_ <;> try simp only [sq, bl, LQ])
      | ((first | refine xw_reg ?_ | refine xw_regd ?_ | refine xw_if ?_ | refine xw_skip ?_ | refine xw_exit ?_ | refine xw_label ?_ | refine post_ret ?_ | refine post_normal ?_ | refine postE_ret ?_ | refine postE_normal ?_ | (((first | refine at_region ?_ | refine at_out ?_ | refine at_cond ?_); split) <;> first | (exfalso; omega; done) | skip)) <;> try simp (config := { maxSteps := 3000000 }) (disch := first | assumption | omega | exact VG.okg (by assumption) | (simp only [List.length_set, List.length_append, List.length_cons, List.length_nil, List.length_replicate]; omega)) only [go_sem, ↓reduceIte, Int.reduceLE, Int.reduceLT, Int.reduceToNat, Int.reduceNeg, Int.reduceAdd, Int.reduceSub, Int.reduceMul, Int.reduceEq, Int.reduceNe, Nat.reduceEqDiff, Nat.reduceAdd, Nat.reduceSub, Nat.reduceMul, Nat.reduceLT, Nat.reduceLeDiff, Nat.reduceBEq, Nat.reduceBNe, UInt8.reduceToNat, Tryz.results135, hN1, hrep]))
    refine xw_loopR (fun (x : List (List UInt8) × List UInt8) s => s.m 31 = some (.arr 0 1 (splA x.1 (N - x.1.length))) ∧ s.ρ 9 = .ref 31 0 0 N ∧ s.ρ 10 = I x.1.length ∧ s.ρ 0 = S x.2 ∧ s.ρ 1 = S [c] ∧ s.ρ 2 = I 0 ∧ s.ρ 3 = I (N - 1) ∧ pcs c l = x.1 ++ pcs c x.2 ∧ x.2.length ≤ l.length) (fun x => x.2.length) ([], l) ?_ ?_
    · refine ⟨?_, ?_, rfl, rfl, rfl, rfl, ?_, rfl, Nat.le_refl _⟩
      all_goals (simp [upd]; done)
    rintro ⟨d, s⟩ ⟨ρ, m⟩ ⟨m31, h9, h10, h0, h1, h2, h3, g1, g2⟩
    simp only at m31 h9 h10 h0 h1 h2 h3 g1 g2
    have g3 := congrArg List.length g1
    rw [List.length_append] at g3
    have g4 := List.length_pos_iff.2 (pcs_ne c s)
    have hk : 0 < N - d.length := by omega
    have hset : ∀ t : List UInt8, (splA d (N - d.length)).set d.length [.v (.string ⟨t.toArray⟩)] = splA (d ++ [t]) (N - d.length - 1) := fun t => splA_set hk
    obtain ⟨e0, hget⟩ := splA_get (d := d) hk
    have hdl : d.length < (splA d (N - d.length)).length := by rw [splA_len]; omega
    have hix := ixB_lt (c := c) (l := s)
    by_cases hd : (d.length : Int) < N - 1
    · by_cases hi : ixB c s < 0
      · have hfin : pcs c l = d ++ [s] := by rw [g1, pcs_end hi]
        rw [hfin]
        repeat' (first
          | refine xw_seq ?_
          | refine xw_block ?_
          | (refine ite_two ?_ ?_ <;> intro _ <;> first | (exfalso; omega) | skip)
          | refine ord_split (by kernel_rfl) ?_
          | (refine xw_ret ?_ <;> try simp only [sq, bl, LQ])
          | ((first | refine xw_reg ?_ | refine xw_regd ?_ | refine xw_if ?_ | refine xw_skip ?_ | refine xw_exit ?_ | refine xw_label ?_ | refine post_ret ?_ | refine post_normal ?_ | refine postE_ret ?_ | refine postE_normal ?_ | (((first | refine at_region ?_ | refine at_out ?_ | refine at_cond ?_); split) <;> first | (exfalso; omega; done) | skip)) <;> try simp (config := { maxSteps := 3000000 }) (disch := first | assumption | omega | exact VG.okg (by assumption) | (simp only [List.length_set, List.length_append, List.length_cons, List.length_nil, List.length_replicate]; omega)) only [go_sem, ↓reduceIte, Int.reduceLE, Int.reduceLT, Int.reduceToNat, Int.reduceNeg, Int.reduceAdd, Int.reduceSub, Int.reduceMul, Int.reduceEq, Int.reduceNe, Nat.reduceEqDiff, Nat.reduceAdd, Nat.reduceSub, Nat.reduceMul, Nat.reduceLT, Nat.reduceLeDiff, Nat.reduceBEq, Nat.reduceBNe, UInt8.reduceToNat, Tryz.results135, m31, h9, h10, h0, h1, h2, h3, hset, hget, hsp]))
        exact ⟨by omega, by rw [Nat.sub_sub]⟩
      · obtain ⟨k, hk0⟩ := Int.eq_ofNat_of_zero_le (show 0 ≤ ixB c s by omega)
        have hci := c_Index s c (by omega)
        have hst := pcs_step (c := c) (l := s) (by omega)
        rw [hk0] at hix hci hst
        repeat' (first
          | refine xw_seq ?_
          | refine xw_block ?_
          | (refine ite_two ?_ ?_ <;> intro _ <;> first | (exfalso; omega) | skip)
          | refine ord_split (by kernel_rfl) ?_
          | (refine xw_ret ?_ <;> try simp only [sq, bl, LQ])
          | ((first | refine xw_reg ?_ | refine xw_regd ?_ | refine xw_if ?_ | refine xw_skip ?_ | refine xw_exit ?_ | refine xw_label ?_ | refine post_ret ?_ | refine post_normal ?_ | refine postE_ret ?_ | refine postE_normal ?_ | (((first | refine at_region ?_ | refine at_out ?_ | refine at_cond ?_); split) <;> first | (exfalso; omega; done) | skip)) <;> try simp (config := { maxSteps := 3000000 }) (disch := first | assumption | omega | exact VG.okg (by assumption) | (simp only [List.length_set, List.length_append, List.length_cons, List.length_nil, List.length_replicate]; omega)) only [go_sem, ↓reduceIte, Int.reduceLE, Int.reduceLT, Int.reduceToNat, Int.reduceNeg, Int.reduceAdd, Int.reduceSub, Int.reduceMul, Int.reduceEq, Int.reduceNe, Nat.reduceEqDiff, Nat.reduceAdd, Nat.reduceSub, Nat.reduceMul, Nat.reduceLT, Nat.reduceLeDiff, Nat.reduceBEq, Nat.reduceBNe, UInt8.reduceToNat, Tryz.results135, m31, h9, h10, h0, h1, h2, h3, hset, hget, hsp, hci]))
        have e1 : ((k : Int) + 0).toNat = k := by omega
        have e2 : ((k : Int) + 1).toNat = k + 1 := by omega
        have e3 : ((k : Int)).toNat = k := by omega
        rw [e3] at hst
        rw [e1, e2]
        refine ⟨d ++ [s.take k], by rw [List.length_append, Nat.sub_sub]; rfl, by simp, s.drop (k + 1), ?_, ?_, ?_, ?_⟩
        · rw [List.take_of_length_le (by simp)]
        · rw [g1, hst]; simp
        · simp; omega
        · simp; omega
    · have hfin : pcs c l = d ++ [s] := by rw [g1, pcs_one (by omega)]
      rw [hfin]
      repeat' (first
        | refine xw_seq ?_
        | refine xw_block ?_
        | (refine ite_two ?_ ?_ <;> intro _ <;> first | (exfalso; omega) | skip)
        | refine ord_split (by kernel_rfl) ?_
        | (refine xw_ret ?_ <;> try simp only [sq, bl, LQ])
        | ((first | refine xw_reg ?_ | refine xw_regd ?_ | refine xw_if ?_ | refine xw_skip ?_ | refine xw_exit ?_ | refine xw_label ?_ | refine post_ret ?_ | refine post_normal ?_ | refine postE_ret ?_ | refine postE_normal ?_ | (((first | refine at_region ?_ | refine at_out ?_ | refine at_cond ?_); split) <;> first | (exfalso; omega; done) | skip)) <;> try simp (config := { maxSteps := 3000000 }) (disch := first | assumption | omega | exact VG.okg (by assumption) | (simp only [List.length_set, List.length_append, List.length_cons, List.length_nil, List.length_replicate]; omega)) only [go_sem, ↓reduceIte, Int.reduceLE, Int.reduceLT, Int.reduceToNat, Int.reduceNeg, Int.reduceAdd, Int.reduceSub, Int.reduceMul, Int.reduceEq, Int.reduceNe, Nat.reduceEqDiff, Nat.reduceAdd, Nat.reduceSub, Nat.reduceMul, Nat.reduceLT, Nat.reduceLeDiff, Nat.reduceBEq, Nat.reduceBNe, UInt8.reduceToNat, Tryz.results135, m31, h9, h10, h0, h1, h2, h3, hset, hget, hsp]))
      exact ⟨by omega, by rw [Nat.sub_sub]⟩
theorem splA_zero (d : List (List UInt8)) : splA d 0 = d.map encS := by simp [splA]
theorem c_Split (l : List UInt8) (c : UInt8) (hl : l.length ≤ 1000000) : KP 71 [S l, S [c]] [] = some (.i (.lst ((pcs c l).map encS)), [], []) := by
  obtain ⟨k, h1, h2⟩ := c_genSplit l c (-1) hl (.inl (by omega)) (by omega)
  rw [h2 (by omega), splA_zero] at h1
  have ht : ((pcs c l).map encS).take (pcs c l).length = (pcs c l).map encS := List.take_of_length_le (by simp)
  refine xw_call (fn := Tryz.f71) rfl Tryz.func71 rfl ⟨Nat.le_of_ble_eq_true rfl, rfl, rfl⟩ ?_
  repeat' (first
    | refine xw_seq ?_
    | refine xw_block ?_
    | (refine ite_two ?_ ?_ <;> intro _ <;> first | (exfalso; omega) | skip)
    | refine ord_split (by kernel_rfl) ?_
    | (refine xw_ret ?_ <;> try simp only [sq, bl, LQ])
    | ((first | refine xw_reg ?_ | refine xw_regd ?_ | refine xw_if ?_ | refine xw_skip ?_ | refine xw_exit ?_ | refine xw_label ?_ | refine post_ret ?_ | refine post_normal ?_ | refine postE_ret ?_ | refine postE_normal ?_ | (((first | refine at_region ?_ | refine at_out ?_ | refine at_cond ?_); split) <;> first | (exfalso; omega; done) | skip)) <;> try simp (config := { maxSteps := 3000000 }) (disch := first | assumption | omega | exact VG.okg (by assumption) | (simp only [List.length_set, List.length_append, List.length_cons, List.length_nil, List.length_replicate]; omega)) only [go_sem, ↓reduceIte, Int.reduceLE, Int.reduceLT, Int.reduceToNat, Int.reduceNeg, Int.reduceAdd, Int.reduceSub, Int.reduceMul, Int.reduceEq, Int.reduceNe, Nat.reduceEqDiff, Nat.reduceAdd, Nat.reduceSub, Nat.reduceMul, Nat.reduceLT, Nat.reduceLeDiff, Nat.reduceBEq, Nat.reduceBNe, UInt8.reduceToNat, Tryz.results71, h1, ht]))
theorem c_SplitN (l : List UInt8) (c : UInt8) (n : Int) (hl : l.length ≤ 1000000) (hn : ((pcs c l).length : Int) ≤ n) (hn2 : n ≤ 1000000) : KP 204 [S l, S [c], I n] [] = some (.i (.lst ((pcs c l).map encS)), [], []) := by
  obtain ⟨k, h1, h2⟩ := c_genSplit l c n hl (.inr hn) hn2
  have ht : (splA (pcs c l) k).take (pcs c l).length = (pcs c l).map encS := by
    unfold splA
    rw [List.take_left' (by simp)]
  refine xw_call (fn := Tryz.f204) rfl Tryz.func204 rfl ⟨Nat.le_of_ble_eq_true rfl, rfl, rfl⟩ ?_
  repeat' (first
    | refine xw_seq ?_
    | refine xw_block ?_
    | (refine ite_two ?_ ?_ <;> intro _ <;> first | (exfalso; omega) | skip)
    | refine ord_split (by kernel_rfl) ?_
    | (refine xw_ret ?_ <;> try simp only [sq, bl, LQ])
    | ((first | refine xw_reg ?_ | refine xw_regd ?_ | refine xw_if ?_ | refine xw_skip ?_ | refine xw_exit ?_ | refine xw_label ?_ | refine post_ret ?_ | refine post_normal ?_ | refine postE_ret ?_ | refine postE_normal ?_ | (((first | refine at_region ?_ | refine at_out ?_ | refine at_cond ?_); split) <;> first | (exfalso; omega; done) | skip)) <;> try simp (config := { maxSteps := 3000000 }) (disch := first | assumption | omega | exact VG.okg (by assumption) | (simp only [List.length_set, List.length_append, List.length_cons, List.length_nil, List.length_replicate]; omega)) only [go_sem, ↓reduceIte, Int.reduceLE, Int.reduceLT, Int.reduceToNat, Int.reduceNeg, Int.reduceAdd, Int.reduceSub, Int.reduceMul, Int.reduceEq, Int.reduceNe, Nat.reduceEqDiff, Nat.reduceAdd, Nat.reduceSub, Nat.reduceMul, Nat.reduceLT, Nat.reduceLeDiff, Nat.reduceBEq, Nat.reduceBNe, UInt8.reduceToNat, Tryz.results204, h1, ht]))
end Go.Proofs.YtdjdgnabcecdlaaGreatDoor.X
