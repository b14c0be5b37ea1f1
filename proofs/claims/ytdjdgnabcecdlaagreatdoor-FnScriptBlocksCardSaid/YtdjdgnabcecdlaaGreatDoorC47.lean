/- What functions compute: blocks as lists of edges, and their nodes. -/
import Derived.Test.YtdjdgnabcecdlaaGreatDoorC41
import Derived.Test.YtdjdgnabcecdlaaGreatDoorC45
set_option linter.unusedSimpArgs false
set_option linter.unusedVariables false
set_option maxHeartbeats 8000000
set_option maxRecDepth 100000
namespace Go.Proofs.YtdjdgnabcecdlaaGreatDoor.X
open Go Go.Proofs
/-- Rows of rows of edges. -/
def encLE (b : List (Int × Int)) : List IV := [.lst (b.map encE)]
abbrev LLE (bs : List (List (Int × Int))) : PV := .i (.lst (bs.map encLE))
theorem getLE (ps : List (List (Int × Int))) (i : Nat) (h : i < ps.length) : (ps.map encLE)[i]? = some [.lst ((ps.getD i []).map encE)] := by simp [encLE, h]
theorem appLE (ps : List (List (Int × Int))) (p : List (Int × Int)) : ps.map encLE ++ [[.lst (p.map encE)]] = (ps ++ [p]).map encLE := by simp [encLE]
attribute [go_sem] getLE appLE
/-- The edges whose labels are a number. -/
def blkE (es : List (Int × Int)) (ls : List Int) (k : Int) : List (Int × Int) := (es.zip ls).filterMap fun q => if q.2 = k then some q.1 else none
theorem blkE_snoc {es : List (Int × Int)} {ls : List Int} {k i : Int} (h0 : 0 ≤ i) (h1 : i < es.length) (hl : ls.length = es.length) :
    blkE (es.take (i + 1).toNat) (ls.take (i + 1).toNat) k = blkE (es.take i.toNat) (ls.take i.toNat) k ++ if ls.getD i.toNat 0 = k then [es.getD i.toNat (0, 0)] else [] := by
  have h2 : i < ls.length := by omega
  unfold blkE
  rw [take_int (0, 0) h0 h1, take_int 0 h0 h2, List.zip_append (by simp; omega), List.filterMap_append]
  congr 1
  simp only [List.zip_cons_cons, List.zip_nil_right, List.filterMap_cons, List.filterMap_nil]
  split
  · rename_i h; rw [if_neg]; intro e; rw [if_pos e] at h; cases h
  · rename_i h
    split at h
    · rename_i e; rw [if_pos e]; cases h; rfl
    · cases h
theorem blkE_len {es : List (Int × Int)} {ls : List Int} {k : Int} : (blkE es ls k).length ≤ es.length := by
  unfold blkE
  refine Nat.le_trans (List.length_filterMap_le _ _) ?_
  simp; omega
theorem c_block (n k : Int) (es : List (Int × Int)) (ls : List Int) (hl : ls.length = es.length) (he : es.length ≤ 1000) : KP 123 [GL n es, LI ls, I k] [] = some (.ref 2000 0 0 (blkE es ls k).length, [], [.arr 0 2 ((blkE es ls k).map encE)]) := by
  refine xw_call (fn := Tryz.f123) rfl Tryz.func123 rfl ⟨Nat.le_of_ble_eq_true rfl, rfl, rfl⟩ ?_
  repeat' (first
    | refine xw_seq ?_
    | refine xw_block ?_
    | (refine ite_two ?_ ?_ <;> intro _ <;> first | (exfalso; omega) | skip)
    | refine ord_split (by kernel_rfl) ?_
    | (refine xw_ret ?_ <;> try simp only [sq, bl, LQ])
    | ((first | refine xw_reg ?_ | refine xw_regd ?_ | refine xw_if ?_ | refine xw_skip ?_ | refine xw_exit ?_ | refine xw_label ?_ | refine post_ret ?_ | refine post_normal ?_ | refine postE_ret ?_ | refine postE_normal ?_ | (((first | refine at_region ?_ | refine at_out ?_ | refine at_cond ?_); split) <;> first | (exfalso; omega; done) | skip)) <;> try simp (config := { maxSteps := 3000000 }) (disch := first | assumption | omega | exact VG.okg (by assumption) | (simp only [List.length_set, List.length_append, List.length_cons, List.length_nil, List.length_replicate]; omega)) only [go_sem, ↓reduceIte, Int.reduceLE, Int.reduceLT, Int.reduceToNat, Int.reduceNeg, Int.reduceAdd, Int.reduceSub, Int.reduceMul, Int.reduceEq, Int.reduceNe, Nat.reduceEqDiff, Nat.reduceAdd, Nat.reduceSub, Nat.reduceMul, Nat.reduceLT, Nat.reduceLeDiff, Nat.reduceBEq, Nat.reduceBNe, UInt8.reduceToNat, Tryz.results123]))
  refine xw_loopR (fun (u : Int × Nat) s => s.m 10 = some (.arr u.2 2 ((blkE (es.take u.1.toNat) (ls.take u.1.toNat) k).map encE)) ∧ s.ρ 7 = .ref 10 u.2 0 (blkE (es.take u.1.toNat) (ls.take u.1.toNat) k).length ∧ s.ρ 1 = LI ls ∧ s.ρ 2 = I k ∧ s.ρ 12 = LE es ∧ s.ρ 13 = I es.length ∧ s.ρ 14 = I u.1 ∧ 0 ≤ u.1 ∧ u.1 ≤ es.length) (fun u => (es.length - u.1).toNat) (0, 0) ?_ ?_
  · exact ⟨rfl, rfl, rfl, rfl, rfl, rfl, rfl, by simp, by simp only; omega⟩
  rintro ⟨i, v⟩ ⟨ρ, m⟩ ⟨m10, h7, h1, h2, h12, h13, h14, g0, g1⟩
  simp only at m10 h7 h1 h2 h12 h13 h14 g0 g1
  by_cases hi : i < es.length
  · have hsn := blkE_snoc (k := k) g0 hi hl
    have hbl := blkE_len (es := es.take i.toNat) (ls := ls.take i.toNat) (k := k)
    rw [List.length_take] at hbl
    by_cases hk : ls.getD i.toNat 0 = k
    · rw [if_pos hk] at hsn
      repeat' (first
        | refine xw_seq ?_
        | refine xw_block ?_
        | (refine ite_two ?_ ?_ <;> intro _ <;> first | (exfalso; omega) | skip)
        | refine ord_split (by kernel_rfl) ?_
        | (refine xw_ret ?_ <;> try simp only [sq, bl, LQ])
        | ((first | refine xw_reg ?_ | refine xw_regd ?_ | refine xw_if ?_ | refine xw_skip ?_ | refine xw_exit ?_ | refine xw_label ?_ | refine post_ret ?_ | refine post_normal ?_ | refine postE_ret ?_ | refine postE_normal ?_ | (((first | refine at_region ?_ | refine at_out ?_ | refine at_cond ?_); split) <;> first | (exfalso; omega; done) | skip)) <;> try simp (config := { maxSteps := 3000000 }) (disch := first | assumption | omega | exact VG.okg (by assumption) | (simp only [List.length_set, List.length_append, List.length_cons, List.length_nil, List.length_replicate]; omega)) only [go_sem, ↓reduceIte, Int.reduceLE, Int.reduceLT, Int.reduceToNat, Int.reduceNeg, Int.reduceAdd, Int.reduceSub, Int.reduceMul, Int.reduceEq, Int.reduceNe, Nat.reduceEqDiff, Nat.reduceAdd, Nat.reduceSub, Nat.reduceMul, Nat.reduceLT, Nat.reduceLeDiff, Nat.reduceBEq, Nat.reduceBNe, UInt8.reduceToNat, Tryz.results123, m10, h7, h1, h2, h12, h13, h14, hk]))
      exact ⟨i + 1, hsn.symm, by rw [hsn, List.length_append]; rfl, rfl, by omega, by omega, by omega⟩
    · rw [if_neg hk, List.append_nil] at hsn
      repeat' (first
        | refine xw_seq ?_
        | refine xw_block ?_
        | (refine ite_two ?_ ?_ <;> intro _ <;> first | (exfalso; omega) | skip)
        | refine ord_split (by kernel_rfl) ?_
        | (refine xw_ret ?_ <;> try simp only [sq, bl, LQ])
        | ((first | refine xw_reg ?_ | refine xw_regd ?_ | refine xw_if ?_ | refine xw_skip ?_ | refine xw_exit ?_ | refine xw_label ?_ | refine post_ret ?_ | refine post_normal ?_ | refine postE_ret ?_ | refine postE_normal ?_ | (((first | refine at_region ?_ | refine at_out ?_ | refine at_cond ?_); split) <;> first | (exfalso; omega; done) | skip)) <;> try simp (config := { maxSteps := 3000000 }) (disch := first | assumption | omega | exact VG.okg (by assumption) | (simp only [List.length_set, List.length_append, List.length_cons, List.length_nil, List.length_replicate]; omega)) only [go_sem, ↓reduceIte, Int.reduceLE, Int.reduceLT, Int.reduceToNat, Int.reduceNeg, Int.reduceAdd, Int.reduceSub, Int.reduceMul, Int.reduceEq, Int.reduceNe, Nat.reduceEqDiff, Nat.reduceAdd, Nat.reduceSub, Nat.reduceMul, Nat.reduceLT, Nat.reduceLeDiff, Nat.reduceBEq, Nat.reduceBNe, UInt8.reduceToNat, Tryz.results123, m10, h7, h1, h2, h12, h13, h14, hk]))
      exact ⟨i + 1, hsn.symm, by rw [hsn], rfl, by omega, by omega, by omega⟩
  · rw [take_all (by omega), take_all (by omega)] at m10 h7
    repeat' (first
      | refine xw_seq ?_
      | refine xw_block ?_
      | (refine ite_two ?_ ?_ <;> intro _ <;> first | (exfalso; omega) | skip)
      | refine ord_split (by kernel_rfl) ?_
      | (refine xw_ret ?_ <;> try simp only [sq, bl, LQ])
      | ((first | refine xw_reg ?_ | refine xw_regd ?_ | refine xw_if ?_ | refine xw_skip ?_ | refine xw_exit ?_ | refine xw_label ?_ | refine post_ret ?_ | refine post_normal ?_ | refine postE_ret ?_ | refine postE_normal ?_ | (((first | refine at_region ?_ | refine at_out ?_ | refine at_cond ?_); split) <;> first | (exfalso; omega; done) | skip)) <;> try simp (config := { maxSteps := 3000000 }) (disch := first | assumption | omega | exact VG.okg (by assumption) | (simp only [List.length_set, List.length_append, List.length_cons, List.length_nil, List.length_replicate]; omega)) only [go_sem, ↓reduceIte, Int.reduceLE, Int.reduceLT, Int.reduceToNat, Int.reduceNeg, Int.reduceAdd, Int.reduceSub, Int.reduceMul, Int.reduceEq, Int.reduceNe, Nat.reduceEqDiff, Nat.reduceAdd, Nat.reduceSub, Nat.reduceMul, Nat.reduceLT, Nat.reduceLeDiff, Nat.reduceBEq, Nat.reduceBNe, UInt8.reduceToNat, Tryz.results123, m10, h7, h1, h2, h12, h13, h14]))
/-- The blocks whose first edges lie ahead of a place. -/
noncomputable def blocksT (es : List (Int × Int)) (i : Int) : List (List (Int × Int)) := ((iota i).filter fun j => decide ((blkL es).getD j.toNat 0 = j)).map fun j => blkE es (blkL es) j
noncomputable def blocksL (es : List (Int × Int)) : List (List (Int × Int)) := blocksT es es.length
theorem blocksT_snoc {es : List (Int × Int)} {i : Int} (h : 0 ≤ i) : blocksT es (i + 1) = blocksT es i ++ if (blkL es).getD i.toNat 0 = i then [blkE es (blkL es) i] else [] := by
  unfold blocksT
  rw [iota_snoc h, List.filter_append, List.map_append]
  congr 1
  by_cases c : (blkL es).getD i.toNat 0 = i
  · rw [if_pos c, List.filter_cons, if_pos (decide_eq_true c)]; rfl
  · rw [if_neg c, List.filter_cons, if_neg (by simpa using c)]; rfl
theorem blocksT_len {es : List (Int × Int)} {i : Int} (h : 0 ≤ i) : (blocksT es i).length ≤ i.toNat := by
  unfold blocksT
  rw [List.length_map]
  refine Nat.le_trans (List.length_filter_le _ _) ?_
  rw [iota_length]; omega
theorem c_BlocksOf (n : Int) (es : List (Int × Int)) (hl : es.length ≤ 1000) : KP 57 [GL n es] [] =
    some (if VG n es then (.ref 2000 0 0 (blocksL es).length, [], [.arr 0 1 ((blocksL es).map encLE)]) else (.i .emp, [], [])) := by
  by_cases hV : VG n es
  rotate_left
  · rw [if_neg hV]
    have h1 := decide_eq_false hV
    refine xw_call (fn := Tryz.f57) rfl Tryz.func57 rfl ⟨Nat.le_of_ble_eq_true rfl, rfl, rfl⟩ ?_
    repeat' (first
      | refine xw_seq ?_
      | refine xw_block ?_
      | (refine ite_two ?_ ?_ <;> intro _ <;> first | (exfalso; omega) | skip)
      | refine ord_split (by kernel_rfl) ?_
      | (refine xw_ret ?_ <;> try simp only [sq, bl, LQ])
      | ((first | refine xw_reg ?_ | refine xw_regd ?_ | refine xw_if ?_ | refine xw_skip ?_ | refine xw_exit ?_ | refine xw_label ?_ | refine post_ret ?_ | refine post_normal ?_ | refine postE_ret ?_ | refine postE_normal ?_ | (((first | refine at_region ?_ | refine at_out ?_ | refine at_cond ?_); split) <;> first | (exfalso; omega; done) | skip)) <;> try simp (config := { maxSteps := 3000000 }) (disch := first | assumption | omega | exact VG.okg (by assumption) | (simp only [List.length_set, List.length_append, List.length_cons, List.length_nil, List.length_replicate]; omega)) only [go_sem, ↓reduceIte, Int.reduceLE, Int.reduceLT, Int.reduceToNat, Int.reduceNeg, Int.reduceAdd, Int.reduceSub, Int.reduceMul, Int.reduceEq, Int.reduceNe, Nat.reduceEqDiff, Nat.reduceAdd, Nat.reduceSub, Nat.reduceMul, Nat.reduceLT, Nat.reduceLeDiff, Nat.reduceBEq, Nat.reduceBNe, UInt8.reduceToNat, Tryz.results57, h1]))
  rw [if_pos hV]
  have h1 := decide_eq_true hV
  have hbk := c_blocks n es hV.okg hV.nodup
  have hbl := blkL_length es
  refine xw_call (fn := Tryz.f57) rfl Tryz.func57 rfl ⟨Nat.le_of_ble_eq_true rfl, rfl, rfl⟩ ?_
  repeat' (first
    | refine xw_seq ?_
    | refine xw_block ?_
    | (refine ite_two ?_ ?_ <;> intro _ <;> first | (exfalso; omega) | skip)
    | refine ord_split (by kernel_rfl) ?_
    | (refine xw_ret ?_ <;> try simp only [sq, bl, LQ])
    | ((first | refine xw_reg ?_ | refine xw_regd ?_ | refine xw_if ?_ | refine xw_skip ?_ | refine xw_exit ?_ | refine xw_label ?_ | refine post_ret ?_ | refine post_normal ?_ | refine postE_ret ?_ | refine postE_normal ?_ | (((first | refine at_region ?_ | refine at_out ?_ | refine at_cond ?_); split) <;> first | (exfalso; omega; done) | skip)) <;> try simp (config := { maxSteps := 3000000 }) (disch := first | assumption | omega | exact VG.okg (by assumption) | (simp only [List.length_set, List.length_append, List.length_cons, List.length_nil, List.length_replicate]; omega)) only [go_sem, ↓reduceIte, Int.reduceLE, Int.reduceLT, Int.reduceToNat, Int.reduceNeg, Int.reduceAdd, Int.reduceSub, Int.reduceMul, Int.reduceEq, Int.reduceNe, Nat.reduceEqDiff, Nat.reduceAdd, Nat.reduceSub, Nat.reduceMul, Nat.reduceLT, Nat.reduceLeDiff, Nat.reduceBEq, Nat.reduceBNe, UInt8.reduceToNat, Tryz.results57, h1, hbk]))
  refine xw_loopR (fun (u : Int × Nat) s => s.m 10 = some (.arr u.2 1 ((blocksT es u.1).map encLE)) ∧ s.ρ 3 = .ref 10 u.2 0 (blocksT es u.1).length ∧ s.ρ 4 = LI (blkL es) ∧ s.ρ 1 = .ptr 1 0 0 0 ∧ s.m 1 = some (.box 0 [I n, LE es]) ∧ s.ρ 13 = LI (blkL es) ∧ s.ρ 14 = I (blkL es).length ∧ s.ρ 15 = I u.1 ∧ 0 ≤ u.1 ∧ u.1 ≤ es.length) (fun u => (es.length - u.1).toNat) (0, 0) ?_ ?_
  · exact ⟨rfl, rfl, rfl, rfl, rfl, rfl, rfl, rfl, by simp, by simp only; omega⟩
  rintro ⟨i, v⟩ ⟨ρ, m⟩ ⟨m10, h3, h4, h1', m1, h13, h14, h15, g0, g1⟩
  simp only at m10 h3 h4 h1' m1 h13 h14 h15 g0 g1
  by_cases hi : i < es.length
  · have hsn := blocksT_snoc (es := es) g0
    have hbt := blocksT_len (es := es) g0
    have hcb := c_block n i es (blkL es) hbl (by omega)
    by_cases hk : (blkL es).getD i.toNat 0 = i
    · rw [if_pos hk] at hsn
      repeat' (first
        | refine xw_seq ?_
        | refine xw_block ?_
        | (refine ite_two ?_ ?_ <;> intro _ <;> first | (exfalso; omega) | skip)
        | refine ord_split (by kernel_rfl) ?_
        | (refine xw_ret ?_ <;> try simp only [sq, bl, LQ])
        | ((first | refine xw_reg ?_ | refine xw_regd ?_ | refine xw_if ?_ | refine xw_skip ?_ | refine xw_exit ?_ | refine xw_label ?_ | refine post_ret ?_ | refine post_normal ?_ | refine postE_ret ?_ | refine postE_normal ?_ | (((first | refine at_region ?_ | refine at_out ?_ | refine at_cond ?_); split) <;> first | (exfalso; omega; done) | skip)) <;> try simp (config := { maxSteps := 3000000 }) (disch := first | assumption | omega | exact VG.okg (by assumption) | (simp only [List.length_set, List.length_append, List.length_cons, List.length_nil, List.length_replicate]; omega)) only [go_sem, ↓reduceIte, Int.reduceLE, Int.reduceLT, Int.reduceToNat, Int.reduceNeg, Int.reduceAdd, Int.reduceSub, Int.reduceMul, Int.reduceEq, Int.reduceNe, Nat.reduceEqDiff, Nat.reduceAdd, Nat.reduceSub, Nat.reduceMul, Nat.reduceLT, Nat.reduceLeDiff, Nat.reduceBEq, Nat.reduceBNe, UInt8.reduceToNat, Tryz.results57, m10, h3, h4, h1', m1, h13, h14, h15, hk, hcb]))
      exact ⟨i + 1, by rw [hsn], by rw [hsn, List.length_append]; rfl, rfl, by omega, by omega, by omega⟩
    · rw [if_neg hk, List.append_nil] at hsn
      have hk' : ¬ i = (blkL es).getD i.toNat 0 := fun e => hk e.symm
      repeat' (first
        | refine xw_seq ?_
        | refine xw_block ?_
        | (refine ite_two ?_ ?_ <;> intro _ <;> first | (exfalso; omega) | skip)
        | refine ord_split (by kernel_rfl) ?_
        | (refine xw_ret ?_ <;> try simp only [sq, bl, LQ])
        | ((first | refine xw_reg ?_ | refine xw_regd ?_ | refine xw_if ?_ | refine xw_skip ?_ | refine xw_exit ?_ | refine xw_label ?_ | refine post_ret ?_ | refine post_normal ?_ | refine postE_ret ?_ | refine postE_normal ?_ | (((first | refine at_region ?_ | refine at_out ?_ | refine at_cond ?_); split) <;> first | (exfalso; omega; done) | skip)) <;> try simp (config := { maxSteps := 3000000 }) (disch := first | assumption | omega | exact VG.okg (by assumption) | (simp only [List.length_set, List.length_append, List.length_cons, List.length_nil, List.length_replicate]; omega)) only [go_sem, ↓reduceIte, Int.reduceLE, Int.reduceLT, Int.reduceToNat, Int.reduceNeg, Int.reduceAdd, Int.reduceSub, Int.reduceMul, Int.reduceEq, Int.reduceNe, Nat.reduceEqDiff, Nat.reduceAdd, Nat.reduceSub, Nat.reduceMul, Nat.reduceLT, Nat.reduceLeDiff, Nat.reduceBEq, Nat.reduceBNe, UInt8.reduceToNat, Tryz.results57, m10, h3, h4, h1', m1, h13, h14, h15, hk, hk']))
      exact ⟨i + 1, by rw [hsn], by rw [hsn], rfl, by omega, by omega, by omega⟩
  · have he : i = es.length := by omega
    subst he
    have e : blocksT es es.length = blocksL es := rfl
    rw [e] at m10 h3
    repeat' (first
      | refine xw_seq ?_
      | refine xw_block ?_
      | (refine ite_two ?_ ?_ <;> intro _ <;> first | (exfalso; omega) | skip)
      | refine ord_split (by kernel_rfl) ?_
      | (refine xw_ret ?_ <;> try simp only [sq, bl, LQ])
      | ((first | refine xw_reg ?_ | refine xw_regd ?_ | refine xw_if ?_ | refine xw_skip ?_ | refine xw_exit ?_ | refine xw_label ?_ | refine post_ret ?_ | refine post_normal ?_ | refine postE_ret ?_ | refine postE_normal ?_ | (((first | refine at_region ?_ | refine at_out ?_ | refine at_cond ?_); split) <;> first | (exfalso; omega; done) | skip)) <;> try simp (config := { maxSteps := 3000000 }) (disch := first | assumption | omega | exact VG.okg (by assumption) | (simp only [List.length_set, List.length_append, List.length_cons, List.length_nil, List.length_replicate]; omega)) only [go_sem, ↓reduceIte, Int.reduceLE, Int.reduceLT, Int.reduceToNat, Int.reduceNeg, Int.reduceAdd, Int.reduceSub, Int.reduceMul, Int.reduceEq, Int.reduceNe, Nat.reduceEqDiff, Nat.reduceAdd, Nat.reduceSub, Nat.reduceMul, Nat.reduceLT, Nat.reduceLeDiff, Nat.reduceBEq, Nat.reduceBNe, UInt8.reduceToNat, Tryz.results57, m10, h3, h4, h1', m1, h13, h14, h15]))
/-- The nodes of an edge's block. -/
noncomputable def bnL (n : Int) (es : List (Int × Int)) (e : Int × Int) : List Int := nodesL n (blkE es (blkL es) ((blkL es).getD (findE es e).toNat 0))
theorem blkE_ok {n : Int} {es : List (Int × Int)} {ls : List Int} {k : Int} (ho : ∀ e ∈ es, okE n e) : ∀ e ∈ blkE es ls k, okE n e := fun e he => by
  unfold blkE at he
  rw [List.mem_filterMap] at he
  obtain ⟨q, hq, h⟩ := he
  split at h
  · cases h; exact ho _ (List.of_mem_zip hq).1
  · cases h
end Go.Proofs.YtdjdgnabcecdlaaGreatDoor.X
