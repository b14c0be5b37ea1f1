/- What functions compute: forests, and their edges as a graph. -/
import Derived.Test.YtbaholclcfpknaaC26
import Derived.Test.YtbaholclcfpknaaC47
import Derived.Test.YtbaholclcfpknaaC50
import Derived.Test.YtbaholclcfpknaaM14
set_option linter.unusedSimpArgs false
set_option linter.unusedVariables false
set_option maxHeartbeats 8000000
set_option maxRecDepth 100000
namespace Go.Proofs.Ytbaholclcfpknaa.X
open Go Go.Proofs

/-! Forests, each of what the ones before it leave. -/
noncomputable def frs (es : List (Int × Int)) (k : Nat) : List (List (Int × Int)) := (List.range k).map fun i => forestL (restE es i)
theorem frs_succ (es : List (Int × Int)) (k : Nat) : frs es (k + 1) = frs es k ++ [forestL (restE es k)] := by simp [frs, List.range_succ]
theorem frs_len (es : List (Int × Int)) (k : Nat) : (frs es k).length = k := by simp [frs]
theorem mem_frs {n : Int} {es : List (Int × Int)} (ho : ∀ e ∈ es, okE n e) {e : Int × Int} : ∀ {k : Nat}, e ∈ (frs es k).flatten ↔ e ∈ certL es k
  | 0 => by rw [cert_zero]; simp [frs]
  | k + 1 => by rw [frs_succ, List.flatten_append, List.mem_append, mem_frs ho, cert_succ ho]; simp
theorem frs_nodup {n : Int} {es : List (Int × Int)} (ho : ∀ e ∈ es, okE n e) (hn : es.Nodup) : ∀ {k : Nat}, (frs es k).flatten.Nodup
  | 0 => by simp [frs]
  | k + 1 => by
    rw [frs_succ, List.flatten_append, List.nodup_append]
    refine ⟨frs_nodup ho hn, ?_, fun a ha b hb e => ?_⟩
    · simp only [List.flatten_cons, List.flatten_nil, List.append_nil]
      exact (restE_ord k hn).sublist (forest_sub (rest_ok ho k))
    · subst e
      simp only [List.flatten_cons, List.flatten_nil, List.append_nil] at hb
      have h1 := (forest_sub (rest_ok ho k)).subset hb
      exact (cert_mem.1 ((mem_frs ho).1 ha)).2 h1
theorem cert_ord {es : List (Int × Int)} (k : Nat) (h : Ord es) : Ord (certL es k) := List.Pairwise.filter _ h
theorem frs_sort {n : Int} {es : List (Int × Int)} (ho : ∀ e ∈ es, okE n e) (h : Ord es) (k : Nat) : sortEs (frs es k).flatten = certL es k :=
  ord_ext (sortEs_ord (frs_nodup ho h.nodup)) (cert_ord k h) fun e => mem_sortEs.trans (mem_frs ho)
def putAll (fs : List (Int × Int)) (acc : List (Int × Int)) : List (Int × Int) := fs.foldl (fun acc e => putE e acc) acc
theorem putAll_mem {f : Int × Int} : ∀ {bs acc : List (Int × Int)}, f ∈ putAll bs acc ↔ f ∈ acc ∨ f ∈ bs
  | [], acc => by simp [putAll]
  | b :: bs, acc => by
    unfold putAll
    rw [List.foldl_cons]
    show f ∈ putAll bs _ ↔ _
    rw [putAll_mem, mem_putE, List.mem_cons]
    constructor
    · rintro ((h | h) | h) <;> simp [h]
    · rintro (h | h | h) <;> simp [h]
theorem putAll_ord : ∀ {bs acc : List (Int × Int)}, Ord acc → bs.Nodup → (∀ f ∈ acc, f ∉ bs) → Ord (putAll bs acc)
  | [], acc, h, _, _ => h
  | b :: bs, acc, h, hn, hd => by
    rw [List.nodup_cons] at hn
    unfold putAll
    rw [List.foldl_cons]
    refine putAll_ord (bs := bs) (h.put fun hm => hd _ hm (by simp)) hn.2 fun f hf => ?_
    rcases mem_putE.1 hf with rfl | hf
    · exact hn.1
    · intro hm; exact hd f hf (List.mem_cons_of_mem _ hm)
theorem putAll_len : ∀ (bs acc : List (Int × Int)), (putAll bs acc).length = acc.length + bs.length
  | [], acc => by simp [putAll]
  | b :: bs, acc => by
    unfold putAll
    rw [List.foldl_cons]
    show (putAll bs _).length = _
    rw [putAll_len, putE_length, List.length_cons]; omega
theorem putAll_frs {n : Int} {es : List (Int × Int)} (ho : ∀ e ∈ es, okE n e) (h : Ord es) (k : Nat) : putAll (frs es k).flatten [] = certL es k :=
  ord_ext (putAll_ord (by simp [Ord]) (frs_nodup ho h.nodup) (by simp)) (cert_ord k h) fun e => by rw [putAll_mem, mem_frs ho]; simp
theorem frs_flen {n : Int} {es : List (Int × Int)} (ho : ∀ e ∈ es, okE n e) (h : es.Nodup) (k : Nat) : (frs es k).flatten.length ≤ es.length :=
  len_le_of_sub (frs_nodup ho h) fun e he => (cert_mem.1 ((mem_frs ho).1 he)).1
theorem take_flen {α : Type} (l : List (List α)) (i : Nat) : (l.take i).flatten.length ≤ l.flatten.length := by
  have : l.flatten = (l.take i).flatten ++ (l.drop i).flatten := by rw [← List.flatten_append, List.take_append_drop]
  rw [this, List.length_append]; omega
theorem cuts_fold (r : List (Int × Int)) : ∀ f : List (Int × Int), f.foldl (fun r e => cutE e r) r = r.filter fun e => !decide (e ∈ f)
  | [] => (List.filter_eq_self.2 (by simp)).symm
  | a :: f => by
    rw [List.foldl_cons, cuts_fold (cutE a r) f]
    unfold cutE
    rw [List.filter_filter]
    refine List.filter_congr fun e _ => ?_
    simp only [List.mem_cons, not_or, Bool.decide_or, Bool.not_or]
    by_cases h : e = a <;> simp [h]
theorem rest_len {es : List (Int × Int)} (k : Nat) : (restE es k).length ≤ es.length := (rest_sub k).length_le
theorem rest_okg {n : Int} {es : List (Int × Int)} (h : OKG n es) (k : Nat) : OKG n (restE es k) := h.sub (rest_sub k)

/-! Rows of rows of edges that may be nothing. -/
def encQ (b : List (Int × Int)) : List IV := [qe b]
theorem getQ (ps : List (List (Int × Int))) (i : Nat) (h : i < ps.length) : (ps.map encQ)[i]? = some [qe (ps.getD i [])] := by simp [encQ, h]
theorem appQ (ps : List (List (Int × Int))) (p : List (Int × Int)) : ps.map encQ ++ [[qe p]] = (ps ++ [p]).map encQ := by simp [encQ]
theorem elems_qe (f : List (Int × Int)) : elems 2 (.i (qe f)) = .ret (f.map encE) := by
  unfold qe
  split
  · rename_i h; subst h; rfl
  · simp only [elems, all_encE, Mm.chk, if_true]
attribute [go_sem] getQ appQ elems_qe
theorem clo_ForestsOf (f : List (Int × Int)) (hl : f.length ≤ 1000) : Clo (.fn 139 [] [.eptr [.lst (f.map encE)] 0]) (fun _ => True) (fun e => decide (e ∈ f)) := by
  have k : ∀ a b : Int, KP 139 [PE a b, .i (.eptr [.lst (f.map encE)] 0)] [] = some (B (decide ((a, b) ∈ f)), [], []) := by
    intro a b
    have h := c_containsE f a b (by omega)
    refine xw_call (fn := Try.f139) rfl Try.func139 rfl ⟨Nat.le_of_ble_eq_true rfl, rfl, rfl⟩ ?_
    repeat' (first
      | refine xw_seq ?_
      | refine xw_block ?_
      | (refine ite_two ?_ ?_ <;> intro _ <;> first | (exfalso; omega) | skip)
      | refine ord_split (by kernel_rfl) ?_
      | (refine xw_ret ?_ <;> try simp only [sq, bl, LQ])
      | ((first | refine xw_reg ?_ | refine xw_regd ?_ | refine xw_if ?_ | refine xw_skip ?_ | refine xw_exit ?_ | refine xw_label ?_ | refine post_ret ?_ | refine post_normal ?_ | refine postE_ret ?_ | refine postE_normal ?_) <;> simp (config := { maxSteps := 3000000 }) (disch := first | assumption | omega | exact VG.okg (by assumption) | (simp only [List.length_set, List.length_append, List.length_cons, List.length_nil, List.length_replicate]; omega)) only [go_sem, ↓reduceIte, Int.reduceLE, Int.reduceLT, Int.reduceToNat, Int.reduceNeg, Int.reduceAdd, Int.reduceSub, Int.reduceMul, Int.reduceEq, Int.reduceNe, Nat.reduceEqDiff, Nat.reduceAdd, Nat.reduceSub, Nat.reduceMul, Nat.reduceLT, Nat.reduceLeDiff, Nat.reduceBEq, Nat.reduceBNe, Try.results139, h])
      | (((first | refine at_region ?_ | refine at_out ?_ | refine at_cond ?_); split) <;> first | (exfalso; omega; done) | simp (config := { maxSteps := 3000000 }) (disch := first | assumption | omega | exact VG.okg (by assumption) | (simp only [List.length_set, List.length_append, List.length_cons, List.length_nil, List.length_replicate]; omega)) only [go_sem, ↓reduceIte, Int.reduceLE, Int.reduceLT, Int.reduceToNat, Int.reduceNeg, Int.reduceAdd, Int.reduceSub, Int.reduceMul, Int.reduceEq, Int.reduceNe, Nat.reduceEqDiff, Nat.reduceAdd, Nat.reduceSub, Nat.reduceMul, Nat.reduceLT, Nat.reduceLeDiff, Nat.reduceBEq, Nat.reduceBNe, Try.results139, h] | skip))
  refine ⟨fun n => by cases n <;> rfl, rfl, fun me d x y hd => ?_⟩
  have hx := k x y
  simp only [go_sem, ↓reduceIte, Int.reduceLE, Int.reduceLT, Int.reduceToNat, Int.reduceNeg, Int.reduceAdd, Int.reduceSub, Int.reduceMul, Int.reduceEq, Int.reduceNe, Nat.reduceEqDiff, Nat.reduceAdd, Nat.reduceSub, Nat.reduceMul, Nat.reduceLT, Nat.reduceLeDiff, Nat.reduceBEq, Nat.reduceBNe, hx, ite_self]

theorem c_ForestsOf (n k : Int) (es : List (Int × Int)) (hl : es.length ≤ 1000) : KP 76 [GL n es, I k] [] =
    some (if VG n es ∧ 0 ≤ k ∧ k ≤ 40 then (.tup [.ref 2000 0 0 k.toNat, B true], [], [.arr 0 1 ((frs es k.toNat).map encQ)]) else (.tup [.i .emp, B false], [], [])) := by
  by_cases hV : VG n es
  rotate_left
  · rw [if_neg (fun h => hV h.1)]
    have hg := decide_eq_false hV
    refine xw_call (fn := Try.f76) rfl Try.func76 rfl ⟨Nat.le_of_ble_eq_true rfl, rfl, rfl⟩ ?_
    repeat' (first
      | refine xw_seq ?_
      | refine xw_block ?_
      | (refine ite_two ?_ ?_ <;> intro _ <;> first | (exfalso; omega) | skip)
      | refine ord_split (by kernel_rfl) ?_
      | (refine xw_ret ?_ <;> try simp only [sq, bl, LQ])
      | ((first | refine xw_reg ?_ | refine xw_regd ?_ | refine xw_if ?_ | refine xw_skip ?_ | refine xw_exit ?_ | refine xw_label ?_ | refine post_ret ?_ | refine post_normal ?_ | refine postE_ret ?_ | refine postE_normal ?_) <;> simp (config := { maxSteps := 3000000 }) (disch := first | assumption | omega | exact VG.okg (by assumption) | (simp only [List.length_set, List.length_append, List.length_cons, List.length_nil, List.length_replicate]; omega)) only [go_sem, ↓reduceIte, Int.reduceLE, Int.reduceLT, Int.reduceToNat, Int.reduceNeg, Int.reduceAdd, Int.reduceSub, Int.reduceMul, Int.reduceEq, Int.reduceNe, Nat.reduceEqDiff, Nat.reduceAdd, Nat.reduceSub, Nat.reduceMul, Nat.reduceLT, Nat.reduceLeDiff, Nat.reduceBEq, Nat.reduceBNe, Try.results76, hg])
      | (((first | refine at_region ?_ | refine at_out ?_ | refine at_cond ?_); split) <;> first | (exfalso; omega; done) | simp (config := { maxSteps := 3000000 }) (disch := first | assumption | omega | exact VG.okg (by assumption) | (simp only [List.length_set, List.length_append, List.length_cons, List.length_nil, List.length_replicate]; omega)) only [go_sem, ↓reduceIte, Int.reduceLE, Int.reduceLT, Int.reduceToNat, Int.reduceNeg, Int.reduceAdd, Int.reduceSub, Int.reduceMul, Int.reduceEq, Int.reduceNe, Nat.reduceEqDiff, Nat.reduceAdd, Nat.reduceSub, Nat.reduceMul, Nat.reduceLT, Nat.reduceLeDiff, Nat.reduceBEq, Nat.reduceBNe, Try.results76, hg] | skip))
  have hg := decide_eq_true hV
  by_cases hk : 0 ≤ k ∧ k ≤ 40
  rotate_left
  · rw [if_neg (fun h => hk h.2)]
    refine xw_call (fn := Try.f76) rfl Try.func76 rfl ⟨Nat.le_of_ble_eq_true rfl, rfl, rfl⟩ ?_
    repeat' (first
      | refine xw_seq ?_
      | refine xw_block ?_
      | (refine ite_two ?_ ?_ <;> intro _ <;> first | (exfalso; omega) | skip)
      | refine ord_split (by kernel_rfl) ?_
      | (refine xw_ret ?_ <;> try simp only [sq, bl, LQ])
      | ((first | refine xw_reg ?_ | refine xw_regd ?_ | refine xw_if ?_ | refine xw_skip ?_ | refine xw_exit ?_ | refine xw_label ?_ | refine post_ret ?_ | refine post_normal ?_ | refine postE_ret ?_ | refine postE_normal ?_) <;> simp (config := { maxSteps := 3000000 }) (disch := first | assumption | omega | exact VG.okg (by assumption) | (simp only [List.length_set, List.length_append, List.length_cons, List.length_nil, List.length_replicate]; omega)) only [go_sem, ↓reduceIte, Int.reduceLE, Int.reduceLT, Int.reduceToNat, Int.reduceNeg, Int.reduceAdd, Int.reduceSub, Int.reduceMul, Int.reduceEq, Int.reduceNe, Nat.reduceEqDiff, Nat.reduceAdd, Nat.reduceSub, Nat.reduceMul, Nat.reduceLT, Nat.reduceLeDiff, Nat.reduceBEq, Nat.reduceBNe, Try.results76, hg])
      | (((first | refine at_region ?_ | refine at_out ?_ | refine at_cond ?_); split) <;> first | (exfalso; omega; done) | simp (config := { maxSteps := 3000000 }) (disch := first | assumption | omega | exact VG.okg (by assumption) | (simp only [List.length_set, List.length_append, List.length_cons, List.length_nil, List.length_replicate]; omega)) only [go_sem, ↓reduceIte, Int.reduceLE, Int.reduceLT, Int.reduceToNat, Int.reduceNeg, Int.reduceAdd, Int.reduceSub, Int.reduceMul, Int.reduceEq, Int.reduceNe, Nat.reduceEqDiff, Nat.reduceAdd, Nat.reduceSub, Nat.reduceMul, Nat.reduceLT, Nat.reduceLeDiff, Nat.reduceBEq, Nat.reduceBNe, Try.results76, hg] | skip))
  rw [if_pos ⟨hV, hk⟩]
  have hG := hV.okg
  refine xw_call (fn := Try.f76) rfl Try.func76 rfl ⟨Nat.le_of_ble_eq_true rfl, rfl, rfl⟩ ?_
  repeat' (first
    | refine xw_seq ?_
    | refine xw_block ?_
    | (refine ite_two ?_ ?_ <;> intro _ <;> first | (exfalso; omega) | skip)
    | refine ord_split (by kernel_rfl) ?_
    | (refine xw_ret ?_ <;> try simp only [sq, bl, LQ])
    | ((first | refine xw_reg ?_ | refine xw_regd ?_ | refine xw_if ?_ | refine xw_skip ?_ | refine xw_exit ?_ | refine xw_label ?_ | refine post_ret ?_ | refine post_normal ?_ | refine postE_ret ?_ | refine postE_normal ?_) <;> simp (config := { maxSteps := 3000000 }) (disch := first | assumption | omega | exact VG.okg (by assumption) | (simp only [List.length_set, List.length_append, List.length_cons, List.length_nil, List.length_replicate]; omega)) only [go_sem, ↓reduceIte, Int.reduceLE, Int.reduceLT, Int.reduceToNat, Int.reduceNeg, Int.reduceAdd, Int.reduceSub, Int.reduceMul, Int.reduceEq, Int.reduceNe, Nat.reduceEqDiff, Nat.reduceAdd, Nat.reduceSub, Nat.reduceMul, Nat.reduceLT, Nat.reduceLeDiff, Nat.reduceBEq, Nat.reduceBNe, Try.results76, hg])
    | (((first | refine at_region ?_ | refine at_out ?_ | refine at_cond ?_); split) <;> first | (exfalso; omega; done) | simp (config := { maxSteps := 3000000 }) (disch := first | assumption | omega | exact VG.okg (by assumption) | (simp only [List.length_set, List.length_append, List.length_cons, List.length_nil, List.length_replicate]; omega)) only [go_sem, ↓reduceIte, Int.reduceLE, Int.reduceLT, Int.reduceToNat, Int.reduceNeg, Int.reduceAdd, Int.reduceSub, Int.reduceMul, Int.reduceEq, Int.reduceNe, Nat.reduceEqDiff, Nat.reduceAdd, Nat.reduceSub, Nat.reduceMul, Nat.reduceLT, Nat.reduceLeDiff, Nat.reduceBEq, Nat.reduceBNe, Try.results76, hg] | skip))
  refine xw_loopR (fun (u : Int × Nat × IV) s => s.m 2 = some (.box 0 [I n, .i u.2.2]) ∧ s.ρ 2 = .ptr 2 0 0 0 ∧ EL u.2.2 (restE es u.1.toNat) ∧ s.m 19 = some (.arr u.2.1 1 ((frs es u.1.toNat).map encQ)) ∧ s.ρ 6 = .ref 19 u.2.1 0 (frs es u.1.toNat).length ∧ s.ρ 20 = I k ∧ s.ρ 21 = I u.1 ∧ 0 ≤ u.1 ∧ u.1 ≤ k) (fun u => (k - u.1).toNat) (0, 0, .lst (es.map encE)) ?_ ?_
  · exact ⟨rfl, rfl, EL.lst es, rfl, rfl, rfl, rfl, by simp, by simp only; omega⟩
  rintro ⟨i, v, x⟩ ⟨ρ, m⟩ ⟨m2, e2, hx, m19, e6, e20, e21, g0, g1⟩
  simp only at m2 e2 hx m19 e6 e20 e21 g0 g1
  have hfl := frs_len es i.toNat
  by_cases hi : i < k
  rotate_left
  · have hik : i = k := by omega
    subst hik
    rw [hfl] at e6
    repeat' (first
      | refine xw_seq ?_
      | refine xw_block ?_
      | (refine ite_two ?_ ?_ <;> intro _ <;> first | (exfalso; omega) | skip)
      | refine ord_split (by kernel_rfl) ?_
      | (refine xw_ret ?_ <;> try simp only [sq, bl, LQ])
      | ((first | refine xw_reg ?_ | refine xw_regd ?_ | refine xw_if ?_ | refine xw_skip ?_ | refine xw_exit ?_ | refine xw_label ?_ | refine post_ret ?_ | refine post_normal ?_ | refine postE_ret ?_ | refine postE_normal ?_) <;> simp (config := { maxSteps := 3000000 }) (disch := first | assumption | omega | exact VG.okg (by assumption) | (simp only [List.length_set, List.length_append, List.length_cons, List.length_nil, List.length_replicate]; omega)) only [go_sem, ↓reduceIte, Int.reduceLE, Int.reduceLT, Int.reduceToNat, Int.reduceNeg, Int.reduceAdd, Int.reduceSub, Int.reduceMul, Int.reduceEq, Int.reduceNe, Nat.reduceEqDiff, Nat.reduceAdd, Nat.reduceSub, Nat.reduceMul, Nat.reduceLT, Nat.reduceLeDiff, Nat.reduceBEq, Nat.reduceBNe, Try.results76, m2, e2, m19, e6, e20, e21])
      | (((first | refine at_region ?_ | refine at_out ?_ | refine at_cond ?_); split) <;> first | (exfalso; omega; done) | simp (config := { maxSteps := 3000000 }) (disch := first | assumption | omega | exact VG.okg (by assumption) | (simp only [List.length_set, List.length_append, List.length_cons, List.length_nil, List.length_replicate]; omega)) only [go_sem, ↓reduceIte, Int.reduceLE, Int.reduceLT, Int.reduceToNat, Int.reduceNeg, Int.reduceAdd, Int.reduceSub, Int.reduceMul, Int.reduceEq, Int.reduceNe, Nat.reduceEqDiff, Nat.reduceAdd, Nat.reduceSub, Nat.reduceMul, Nat.reduceLT, Nat.reduceLeDiff, Nat.reduceBEq, Nat.reduceBNe, Try.results76, m2, e2, m19, e6, e20, e21] | skip))
  have hr := rest_okg hG i.toNat
  have hrl := rest_len (es := es) i.toNat
  have hfr := c_forest n (restE es i.toNat) hr
  have hsb := (forest_sub (rest_ok hG.ok i.toNat)).length_le
  have hsn := frs_succ es i.toNat
  have hsi : (i + 1).toNat = i.toNat + 1 := by omega
  have hrs : restE es (i.toNat + 1) = (restE es i.toNat).filter fun e => !decide (e ∈ forestL (restE es i.toNat)) := rfl
  rw [← hsi] at hrs hsn
  have hf := hx.f
  have hfl2 := hx.fl
  generalize forestL (restE es i.toNat) = f at hfr hsb hsn hrs
  have hw := c_without (clo_ForestsOf f (by omega)) n (restE es i.toNat) (fun _ _ => trivial) (by omega)
  repeat' (first
    | refine xw_seq ?_
    | refine xw_block ?_
    | (refine ite_two ?_ ?_ <;> intro _ <;> first | (exfalso; omega) | skip)
    | refine ord_split (by kernel_rfl) ?_
    | (refine xw_ret ?_ <;> try simp only [sq, bl, LQ])
    | ((first | refine xw_reg ?_ | refine xw_regd ?_ | refine xw_if ?_ | refine xw_skip ?_ | refine xw_exit ?_ | refine xw_label ?_ | refine post_ret ?_ | refine post_normal ?_ | refine postE_ret ?_ | refine postE_normal ?_) <;> simp (config := { maxSteps := 3000000 }) (disch := first | assumption | omega | exact VG.okg (by assumption) | (simp only [List.length_set, List.length_append, List.length_cons, List.length_nil, List.length_replicate]; omega)) only [go_sem, ↓reduceIte, Int.reduceLE, Int.reduceLT, Int.reduceToNat, Int.reduceNeg, Int.reduceAdd, Int.reduceSub, Int.reduceMul, Int.reduceEq, Int.reduceNe, Nat.reduceEqDiff, Nat.reduceAdd, Nat.reduceSub, Nat.reduceMul, Nat.reduceLT, Nat.reduceLeDiff, Nat.reduceBEq, Nat.reduceBNe, Try.results76, m2, e2, m19, e6, e20, e21, hf, hfl2, hfr, hw, flat_qe, frz_qe])
    | (((first | refine at_region ?_ | refine at_out ?_ | refine at_cond ?_); split) <;> first | (exfalso; omega; done) | simp (config := { maxSteps := 3000000 }) (disch := first | assumption | omega | exact VG.okg (by assumption) | (simp only [List.length_set, List.length_append, List.length_cons, List.length_nil, List.length_replicate]; omega)) only [go_sem, ↓reduceIte, Int.reduceLE, Int.reduceLT, Int.reduceToNat, Int.reduceNeg, Int.reduceAdd, Int.reduceSub, Int.reduceMul, Int.reduceEq, Int.reduceNe, Nat.reduceEqDiff, Nat.reduceAdd, Nat.reduceSub, Nat.reduceMul, Nat.reduceLT, Nat.reduceLeDiff, Nat.reduceBEq, Nat.reduceBNe, Try.results76, m2, e2, m19, e6, e20, e21, hf, hfl2, hfr, hw, flat_qe, frz_qe] | skip))
  exact ⟨i + 1, v + 1, _, rfl, by rw [hrs]; exact EL.del _ _, rfl, by rw [hsn], rfl, by rw [hsn]; simp, rfl, by omega, by omega, by omega⟩

theorem c_growE (n : Int) (h0 : 0 ≤ n) (h1 : n ≤ 4000000) : KP 141 [.i .emp, I n] [] = some (if n = 0 then (.i .emp, [], []) else (.ref 2000 0 0 0, [], [.arr 0 2 ((zE n.toNat).map encE)])) := by
  by_cases hn : n = 0
  · subst hn
    refine xw_call (fn := Try.f141) rfl Try.func141 rfl ⟨Nat.le_of_ble_eq_true rfl, rfl, rfl⟩ ?_
    repeat' (first
      | refine xw_seq ?_
      | refine xw_block ?_
      | (refine ite_two ?_ ?_ <;> intro _ <;> first | (exfalso; omega) | skip)
      | refine ord_split (by kernel_rfl) ?_
      | (refine xw_ret ?_ <;> try simp only [sq, bl, LQ])
      | ((first | refine xw_reg ?_ | refine xw_regd ?_ | refine xw_if ?_ | refine xw_skip ?_ | refine xw_exit ?_ | refine xw_label ?_ | refine post_ret ?_ | refine post_normal ?_ | refine postE_ret ?_ | refine postE_normal ?_) <;> simp (config := { maxSteps := 3000000 }) (disch := first | assumption | omega | exact VG.okg (by assumption) | (simp only [List.length_set, List.length_append, List.length_cons, List.length_nil, List.length_replicate]; omega)) only [go_sem, ↓reduceIte, Int.reduceLE, Int.reduceLT, Int.reduceToNat, Int.reduceNeg, Int.reduceAdd, Int.reduceSub, Int.reduceMul, Int.reduceEq, Int.reduceNe, Nat.reduceEqDiff, Nat.reduceAdd, Nat.reduceSub, Nat.reduceMul, Nat.reduceLT, Nat.reduceLeDiff, Nat.reduceBEq, Nat.reduceBNe, Try.results141])
      | (((first | refine at_region ?_ | refine at_out ?_ | refine at_cond ?_); split) <;> first | (exfalso; omega; done) | simp (config := { maxSteps := 3000000 }) (disch := first | assumption | omega | exact VG.okg (by assumption) | (simp only [List.length_set, List.length_append, List.length_cons, List.length_nil, List.length_replicate]; omega)) only [go_sem, ↓reduceIte, Int.reduceLE, Int.reduceLT, Int.reduceToNat, Int.reduceNeg, Int.reduceAdd, Int.reduceSub, Int.reduceMul, Int.reduceEq, Int.reduceNe, Nat.reduceEqDiff, Nat.reduceAdd, Nat.reduceSub, Nat.reduceMul, Nat.reduceLT, Nat.reduceLeDiff, Nat.reduceBEq, Nat.reduceBNe, Try.results141] | skip))
  · rw [if_neg hn]
    refine xw_call (fn := Try.f141) rfl Try.func141 rfl ⟨Nat.le_of_ble_eq_true rfl, rfl, rfl⟩ ?_
    repeat' (first
      | refine xw_seq ?_
      | refine xw_block ?_
      | (refine ite_two ?_ ?_ <;> intro _ <;> first | (exfalso; omega) | skip)
      | refine ord_split (by kernel_rfl) ?_
      | (refine xw_ret ?_ <;> try simp only [sq, bl, LQ])
      | ((first | refine xw_reg ?_ | refine xw_regd ?_ | refine xw_if ?_ | refine xw_skip ?_ | refine xw_exit ?_ | refine xw_label ?_ | refine post_ret ?_ | refine post_normal ?_ | refine postE_ret ?_ | refine postE_normal ?_) <;> simp (config := { maxSteps := 3000000 }) (disch := first | assumption | omega | exact VG.okg (by assumption) | (simp only [List.length_set, List.length_append, List.length_cons, List.length_nil, List.length_replicate]; omega)) only [go_sem, ↓reduceIte, Int.reduceLE, Int.reduceLT, Int.reduceToNat, Int.reduceNeg, Int.reduceAdd, Int.reduceSub, Int.reduceMul, Int.reduceEq, Int.reduceNe, Nat.reduceEqDiff, Nat.reduceAdd, Nat.reduceSub, Nat.reduceMul, Nat.reduceLT, Nat.reduceLeDiff, Nat.reduceBEq, Nat.reduceBNe, Try.results141])
      | (((first | refine at_region ?_ | refine at_out ?_ | refine at_cond ?_); split) <;> first | (exfalso; omega; done) | simp (config := { maxSteps := 3000000 }) (disch := first | assumption | omega | exact VG.okg (by assumption) | (simp only [List.length_set, List.length_append, List.length_cons, List.length_nil, List.length_replicate]; omega)) only [go_sem, ↓reduceIte, Int.reduceLE, Int.reduceLT, Int.reduceToNat, Int.reduceNeg, Int.reduceAdd, Int.reduceSub, Int.reduceMul, Int.reduceEq, Int.reduceNe, Nat.reduceEqDiff, Nat.reduceAdd, Nat.reduceSub, Nat.reduceMul, Nat.reduceLT, Nat.reduceLeDiff, Nat.reduceBEq, Nat.reduceBNe, Try.results141] | skip))
    rw [Int.sub_zero]

theorem flat_snoc {fs : List (List (Int × Int))} {i : Int} (h0 : 0 ≤ i) (h1 : i < fs.length) : (fs.take (i + 1).toNat).flatten = (fs.take i.toNat).flatten ++ fs.getD i.toNat [] := by
  rw [take_int [] h0 h1, List.flatten_append]; simp
theorem drop_done {xs : List (Int × Int)} {q r : Nat} : (xs ++ zE r).drop (xs.length + q) = zE (r - q) := by
  rw [List.drop_append, List.drop_of_length_le (by omega), List.nil_append]
  unfold zE
  rw [List.drop_replicate]
  congr 1; omega

theorem c_concatE (fs : List (List (Int × Int))) (hl : fs.flatten.length ≤ 1000) (hn : fs.length ≤ 1000) : KP 77 [.i (.lst (fs.map encQ))] [] = some (qP fs.flatten, [], qA fs.flatten) := by
  refine xw_call (fn := Try.f77) rfl Try.func77 rfl ⟨Nat.le_of_ble_eq_true rfl, rfl, rfl⟩ ?_
  repeat' (first
    | refine xw_seq ?_
    | refine xw_block ?_
    | (refine ite_two ?_ ?_ <;> intro _ <;> first | (exfalso; omega) | skip)
    | refine ord_split (by kernel_rfl) ?_
    | (refine xw_ret ?_ <;> try simp only [sq, bl, LQ])
    | ((first | refine xw_reg ?_ | refine xw_regd ?_ | refine xw_if ?_ | refine xw_skip ?_ | refine xw_exit ?_ | refine xw_label ?_ | refine post_ret ?_ | refine post_normal ?_ | refine postE_ret ?_ | refine postE_normal ?_) <;> simp (config := { maxSteps := 3000000 }) (disch := first | assumption | omega | exact VG.okg (by assumption) | (simp only [List.length_set, List.length_append, List.length_cons, List.length_nil, List.length_replicate]; omega)) only [go_sem, ↓reduceIte, Int.reduceLE, Int.reduceLT, Int.reduceToNat, Int.reduceNeg, Int.reduceAdd, Int.reduceSub, Int.reduceMul, Int.reduceEq, Int.reduceNe, Nat.reduceEqDiff, Nat.reduceAdd, Nat.reduceSub, Nat.reduceMul, Nat.reduceLT, Nat.reduceLeDiff, Nat.reduceBEq, Nat.reduceBNe, Try.results77])
    | (((first | refine at_region ?_ | refine at_out ?_ | refine at_cond ?_); split) <;> first | (exfalso; omega; done) | simp (config := { maxSteps := 3000000 }) (disch := first | assumption | omega | exact VG.okg (by assumption) | (simp only [List.length_set, List.length_append, List.length_cons, List.length_nil, List.length_replicate]; omega)) only [go_sem, ↓reduceIte, Int.reduceLE, Int.reduceLT, Int.reduceToNat, Int.reduceNeg, Int.reduceAdd, Int.reduceSub, Int.reduceMul, Int.reduceEq, Int.reduceNe, Nat.reduceEqDiff, Nat.reduceAdd, Nat.reduceSub, Nat.reduceMul, Nat.reduceLT, Nat.reduceLeDiff, Nat.reduceBEq, Nat.reduceBNe, Try.results77] | skip))
  refine xw_loopR (fun (i : Int) s => s.ρ 0 = .i (.lst (fs.map encQ)) ∧ s.ρ 3 = I ((fs.take i.toNat).flatten.length : Int) ∧ s.ρ 9 = .i (.lst (fs.map encQ)) ∧ s.ρ 10 = I fs.length ∧ s.ρ 11 = I i ∧ 0 ≤ i ∧ i ≤ fs.length) (fun i => (fs.length - i).toNat) 0 ?_ ?_
  · exact ⟨rfl, rfl, rfl, rfl, rfl, by omega, by omega⟩
  rintro i ⟨ρ, m⟩ ⟨e0, e3, e9, e10, e11, g0, g1⟩
  simp only at e0 e3 e9 e10 e11 g0 g1
  have htf := take_flen fs i.toNat
  by_cases hi : i < fs.length
  · have hsn := flat_snoc g0 hi
    have htf2 := take_flen fs (i + 1).toNat
    have hgq := getQ fs i.toNat (by omega)
    have hln := lenP_qe (es := fs.getD i.toNat [])
    rw [hsn, List.length_append] at htf2
    generalize fs.getD i.toNat [] = f at hsn hgq hln htf2
    repeat' (first
      | refine xw_seq ?_
      | refine xw_block ?_
      | (refine ite_two ?_ ?_ <;> intro _ <;> first | (exfalso; omega) | skip)
      | refine ord_split (by kernel_rfl) ?_
      | (refine xw_ret ?_ <;> try simp only [sq, bl, LQ])
      | ((first | refine xw_reg ?_ | refine xw_regd ?_ | refine xw_if ?_ | refine xw_skip ?_ | refine xw_exit ?_ | refine xw_label ?_ | refine post_ret ?_ | refine post_normal ?_ | refine postE_ret ?_ | refine postE_normal ?_) <;> simp (config := { maxSteps := 3000000 }) (disch := first | assumption | omega | exact VG.okg (by assumption) | (simp only [List.length_set, List.length_append, List.length_cons, List.length_nil, List.length_replicate]; omega)) only [go_sem, ↓reduceIte, Int.reduceLE, Int.reduceLT, Int.reduceToNat, Int.reduceNeg, Int.reduceAdd, Int.reduceSub, Int.reduceMul, Int.reduceEq, Int.reduceNe, Nat.reduceEqDiff, Nat.reduceAdd, Nat.reduceSub, Nat.reduceMul, Nat.reduceLT, Nat.reduceLeDiff, Nat.reduceBEq, Nat.reduceBNe, Try.results77, e0, e3, e9, e10, e11, hgq, hln])
      | (((first | refine at_region ?_ | refine at_out ?_ | refine at_cond ?_); split) <;> first | (exfalso; omega; done) | simp (config := { maxSteps := 3000000 }) (disch := first | assumption | omega | exact VG.okg (by assumption) | (simp only [List.length_set, List.length_append, List.length_cons, List.length_nil, List.length_replicate]; omega)) only [go_sem, ↓reduceIte, Int.reduceLE, Int.reduceLT, Int.reduceToNat, Int.reduceNeg, Int.reduceAdd, Int.reduceSub, Int.reduceMul, Int.reduceEq, Int.reduceNe, Nat.reduceEqDiff, Nat.reduceAdd, Nat.reduceSub, Nat.reduceMul, Nat.reduceLT, Nat.reduceLeDiff, Nat.reduceBEq, Nat.reduceBNe, Try.results77, e0, e3, e9, e10, e11, hgq, hln] | skip))
    exact ⟨i + 1, by rw [hsn, List.length_append]; omega, rfl, by omega, by omega, by omega⟩
  rw [take_all (by omega)] at e3
  have hgw := c_growE (fs.flatten.length : Int) (by omega) (by omega)
  unfold qP qA
  by_cases ht : fs.flatten = []
  · have h0 : (fs.flatten.length : Int) = 0 := by rw [ht]; rfl
    have hgw0 : KP 141 [.i .emp, I 0] [] = some (.i .emp, [], []) := by rw [h0, if_pos rfl] at hgw; exact hgw
    rw [h0] at e3
    rw [if_pos ht, if_pos ht]
    repeat' (first
      | refine xw_seq ?_
      | refine xw_block ?_
      | (refine ite_two ?_ ?_ <;> intro _ <;> first | (exfalso; omega) | skip)
      | refine ord_split (by kernel_rfl) ?_
      | (refine xw_ret ?_ <;> try simp only [sq, bl, LQ])
      | ((first | refine xw_reg ?_ | refine xw_regd ?_ | refine xw_if ?_ | refine xw_skip ?_ | refine xw_exit ?_ | refine xw_label ?_ | refine post_ret ?_ | refine post_normal ?_ | refine postE_ret ?_ | refine postE_normal ?_) <;> simp (config := { maxSteps := 3000000 }) (disch := first | assumption | omega | exact VG.okg (by assumption) | (simp only [List.length_set, List.length_append, List.length_cons, List.length_nil, List.length_replicate]; omega)) only [go_sem, ↓reduceIte, Int.reduceLE, Int.reduceLT, Int.reduceToNat, Int.reduceNeg, Int.reduceAdd, Int.reduceSub, Int.reduceMul, Int.reduceEq, Int.reduceNe, Nat.reduceEqDiff, Nat.reduceAdd, Nat.reduceSub, Nat.reduceMul, Nat.reduceLT, Nat.reduceLeDiff, Nat.reduceBEq, Nat.reduceBNe, Try.results77, e0, e3, e9, e10, e11, hgw0])
      | (((first | refine at_region ?_ | refine at_out ?_ | refine at_cond ?_); split) <;> first | (exfalso; omega; done) | simp (config := { maxSteps := 3000000 }) (disch := first | assumption | omega | exact VG.okg (by assumption) | (simp only [List.length_set, List.length_append, List.length_cons, List.length_nil, List.length_replicate]; omega)) only [go_sem, ↓reduceIte, Int.reduceLE, Int.reduceLT, Int.reduceToNat, Int.reduceNeg, Int.reduceAdd, Int.reduceSub, Int.reduceMul, Int.reduceEq, Int.reduceNe, Nat.reduceEqDiff, Nat.reduceAdd, Nat.reduceSub, Nat.reduceMul, Nat.reduceLT, Nat.reduceLeDiff, Nat.reduceBEq, Nat.reduceBNe, Try.results77, e0, e3, e9, e10, e11, hgw0] | skip))
    refine xw_loopR (fun (i : Int) s => s.ρ 25 = .i (.lst (fs.map encQ)) ∧ s.ρ 26 = I fs.length ∧ s.ρ 27 = I i ∧ s.ρ 6 = .i .emp ∧ 0 ≤ i ∧ i ≤ fs.length) (fun i => (fs.length - i).toNat) 0 ?_ ?_
    · exact ⟨rfl, rfl, rfl, rfl, by omega, by omega⟩
    rintro i ⟨ρ, m⟩ ⟨e25, e26, e27, e6, f0, f1⟩
    simp only at e25 e26 e27 e6 f0 f1
    by_cases hi : i < fs.length
    · have hgq := getQ fs i.toNat (by omega)
      have hfe : fs.getD i.toNat [] = [] := List.flatten_eq_nil_iff.1 ht _ (getD_mem (by omega))
      rw [hfe] at hgq
      repeat' (first
        | refine xw_seq ?_
        | refine xw_block ?_
        | (refine ite_two ?_ ?_ <;> intro _ <;> first | (exfalso; omega) | skip)
        | refine ord_split (by kernel_rfl) ?_
        | (refine xw_ret ?_ <;> try simp only [sq, bl, LQ])
        | ((first | refine xw_reg ?_ | refine xw_regd ?_ | refine xw_if ?_ | refine xw_skip ?_ | refine xw_exit ?_ | refine xw_label ?_ | refine post_ret ?_ | refine post_normal ?_ | refine postE_ret ?_ | refine postE_normal ?_) <;> simp (config := { maxSteps := 3000000 }) (disch := first | assumption | omega | exact VG.okg (by assumption) | (simp only [List.length_set, List.length_append, List.length_cons, List.length_nil, List.length_replicate]; omega)) only [go_sem, ↓reduceIte, Int.reduceLE, Int.reduceLT, Int.reduceToNat, Int.reduceNeg, Int.reduceAdd, Int.reduceSub, Int.reduceMul, Int.reduceEq, Int.reduceNe, Nat.reduceEqDiff, Nat.reduceAdd, Nat.reduceSub, Nat.reduceMul, Nat.reduceLT, Nat.reduceLeDiff, Nat.reduceBEq, Nat.reduceBNe, Try.results77, e25, e26, e27, e6, hgq, qe_nil])
        | (((first | refine at_region ?_ | refine at_out ?_ | refine at_cond ?_); split) <;> first | (exfalso; omega; done) | simp (config := { maxSteps := 3000000 }) (disch := first | assumption | omega | exact VG.okg (by assumption) | (simp only [List.length_set, List.length_append, List.length_cons, List.length_nil, List.length_replicate]; omega)) only [go_sem, ↓reduceIte, Int.reduceLE, Int.reduceLT, Int.reduceToNat, Int.reduceNeg, Int.reduceAdd, Int.reduceSub, Int.reduceMul, Int.reduceEq, Int.reduceNe, Nat.reduceEqDiff, Nat.reduceAdd, Nat.reduceSub, Nat.reduceMul, Nat.reduceLT, Nat.reduceLeDiff, Nat.reduceBEq, Nat.reduceBNe, Try.results77, e25, e26, e27, e6, hgq, qe_nil] | skip))
      exact ⟨by omega, by omega, by omega⟩
    · repeat' (first
        | refine xw_seq ?_
        | refine xw_block ?_
        | (refine ite_two ?_ ?_ <;> intro _ <;> first | (exfalso; omega) | skip)
        | refine ord_split (by kernel_rfl) ?_
        | (refine xw_ret ?_ <;> try simp only [sq, bl, LQ])
        | ((first | refine xw_reg ?_ | refine xw_regd ?_ | refine xw_if ?_ | refine xw_skip ?_ | refine xw_exit ?_ | refine xw_label ?_ | refine post_ret ?_ | refine post_normal ?_ | refine postE_ret ?_ | refine postE_normal ?_) <;> simp (config := { maxSteps := 3000000 }) (disch := first | assumption | omega | exact VG.okg (by assumption) | (simp only [List.length_set, List.length_append, List.length_cons, List.length_nil, List.length_replicate]; omega)) only [go_sem, ↓reduceIte, Int.reduceLE, Int.reduceLT, Int.reduceToNat, Int.reduceNeg, Int.reduceAdd, Int.reduceSub, Int.reduceMul, Int.reduceEq, Int.reduceNe, Nat.reduceEqDiff, Nat.reduceAdd, Nat.reduceSub, Nat.reduceMul, Nat.reduceLT, Nat.reduceLeDiff, Nat.reduceBEq, Nat.reduceBNe, Try.results77, e25, e26, e27, e6])
        | (((first | refine at_region ?_ | refine at_out ?_ | refine at_cond ?_); split) <;> first | (exfalso; omega; done) | simp (config := { maxSteps := 3000000 }) (disch := first | assumption | omega | exact VG.okg (by assumption) | (simp only [List.length_set, List.length_append, List.length_cons, List.length_nil, List.length_replicate]; omega)) only [go_sem, ↓reduceIte, Int.reduceLE, Int.reduceLT, Int.reduceToNat, Int.reduceNeg, Int.reduceAdd, Int.reduceSub, Int.reduceMul, Int.reduceEq, Int.reduceNe, Nat.reduceEqDiff, Nat.reduceAdd, Nat.reduceSub, Nat.reduceMul, Nat.reduceLT, Nat.reduceLeDiff, Nat.reduceBEq, Nat.reduceBNe, Try.results77, e25, e26, e27, e6] | skip))
  have htl : 0 < fs.flatten.length := List.length_pos_iff.2 ht
  rw [if_neg (by omega), Int.toNat_natCast] at hgw
  rw [if_neg ht, if_neg ht]
  repeat' (first
    | refine xw_seq ?_
    | refine xw_block ?_
    | (refine ite_two ?_ ?_ <;> intro _ <;> first | (exfalso; omega) | skip)
    | refine ord_split (by kernel_rfl) ?_
    | (refine xw_ret ?_ <;> try simp only [sq, bl, LQ])
    | ((first | refine xw_reg ?_ | refine xw_regd ?_ | refine xw_if ?_ | refine xw_skip ?_ | refine xw_exit ?_ | refine xw_label ?_ | refine post_ret ?_ | refine post_normal ?_ | refine postE_ret ?_ | refine postE_normal ?_) <;> simp (config := { maxSteps := 3000000 }) (disch := first | assumption | omega | exact VG.okg (by assumption) | (simp only [List.length_set, List.length_append, List.length_cons, List.length_nil, List.length_replicate]; omega)) only [go_sem, ↓reduceIte, Int.reduceLE, Int.reduceLT, Int.reduceToNat, Int.reduceNeg, Int.reduceAdd, Int.reduceSub, Int.reduceMul, Int.reduceEq, Int.reduceNe, Nat.reduceEqDiff, Nat.reduceAdd, Nat.reduceSub, Nat.reduceMul, Nat.reduceLT, Nat.reduceLeDiff, Nat.reduceBEq, Nat.reduceBNe, Try.results77, e0, e3, e9, e10, e11, hgw])
    | (((first | refine at_region ?_ | refine at_out ?_ | refine at_cond ?_); split) <;> first | (exfalso; omega; done) | simp (config := { maxSteps := 3000000 }) (disch := first | assumption | omega | exact VG.okg (by assumption) | (simp only [List.length_set, List.length_append, List.length_cons, List.length_nil, List.length_replicate]; omega)) only [go_sem, ↓reduceIte, Int.reduceLE, Int.reduceLT, Int.reduceToNat, Int.reduceNeg, Int.reduceAdd, Int.reduceSub, Int.reduceMul, Int.reduceEq, Int.reduceNe, Nat.reduceEqDiff, Nat.reduceAdd, Nat.reduceSub, Nat.reduceMul, Nat.reduceLT, Nat.reduceLeDiff, Nat.reduceBEq, Nat.reduceBNe, Try.results77, e0, e3, e9, e10, e11, hgw] | skip))
  refine xw_loopR (fun (u : Int × Nat) s => s.ρ 25 = .i (.lst (fs.map encQ)) ∧ s.ρ 26 = I fs.length ∧ s.ρ 27 = I u.1 ∧ s.ρ 6 = .ref 3192 u.2 0 (fs.take u.1.toNat).flatten.length ∧ s.m 3192 = some (.arr u.2 2 (((fs.take u.1.toNat).flatten ++ zE (fs.flatten.length - (fs.take u.1.toNat).flatten.length)).map encE)) ∧ 0 ≤ u.1 ∧ u.1 ≤ fs.length) (fun u => (fs.length - u.1).toNat) (0, nv (m 3192)) ?_ ?_
  · exact ⟨rfl, rfl, rfl, rfl, rfl, by simp, by simp⟩
  rintro ⟨i, v⟩ ⟨ρ, m⟩ ⟨e25, e26, e27, e6, m6, f0, f1⟩
  simp only at e25 e26 e27 e6 m6 f0 f1
  have htf := take_flen fs i.toNat
  by_cases hi : i < fs.length
  rotate_left
  · rw [take_all (by omega)] at e6 m6
    rw [Nat.sub_self] at m6
    repeat' (first
      | refine xw_seq ?_
      | refine xw_block ?_
      | (refine ite_two ?_ ?_ <;> intro _ <;> first | (exfalso; omega) | skip)
      | refine ord_split (by kernel_rfl) ?_
      | (refine xw_ret ?_ <;> try simp only [sq, bl, LQ])
      | ((first | refine xw_reg ?_ | refine xw_regd ?_ | refine xw_if ?_ | refine xw_skip ?_ | refine xw_exit ?_ | refine xw_label ?_ | refine post_ret ?_ | refine post_normal ?_ | refine postE_ret ?_ | refine postE_normal ?_) <;> simp (config := { maxSteps := 3000000 }) (disch := first | assumption | omega | exact VG.okg (by assumption) | (simp only [List.length_set, List.length_append, List.length_cons, List.length_nil, List.length_replicate]; omega)) only [go_sem, ↓reduceIte, Int.reduceLE, Int.reduceLT, Int.reduceToNat, Int.reduceNeg, Int.reduceAdd, Int.reduceSub, Int.reduceMul, Int.reduceEq, Int.reduceNe, Nat.reduceEqDiff, Nat.reduceAdd, Nat.reduceSub, Nat.reduceMul, Nat.reduceLT, Nat.reduceLeDiff, Nat.reduceBEq, Nat.reduceBNe, Try.results77, e25, e26, e27, e6, m6])
      | (((first | refine at_region ?_ | refine at_out ?_ | refine at_cond ?_); split) <;> first | (exfalso; omega; done) | simp (config := { maxSteps := 3000000 }) (disch := first | assumption | omega | exact VG.okg (by assumption) | (simp only [List.length_set, List.length_append, List.length_cons, List.length_nil, List.length_replicate]; omega)) only [go_sem, ↓reduceIte, Int.reduceLE, Int.reduceLT, Int.reduceToNat, Int.reduceNeg, Int.reduceAdd, Int.reduceSub, Int.reduceMul, Int.reduceEq, Int.reduceNe, Nat.reduceEqDiff, Nat.reduceAdd, Nat.reduceSub, Nat.reduceMul, Nat.reduceLT, Nat.reduceLeDiff, Nat.reduceBEq, Nat.reduceBNe, Try.results77, e25, e26, e27, e6, m6] | skip))
    simp [zE]
  have hsn := flat_snoc f0 hi
  have htf2 := take_flen fs (i + 1).toNat
  have hgq := getQ fs i.toNat (by omega)
  rw [hsn, List.length_append] at htf2
  generalize fs.getD i.toNat [] = f at hsn hgq htf2
  generalize hd : (fs.take i.toNat).flatten = d at *
  generalize htt : fs.flatten.length = tot at *
  by_cases hfull : d.length = tot
  · have hf0 : f = [] := List.length_eq_zero_iff.1 (by omega)
    subst hf0
    have hb : (d.length == d.length + (tot - d.length)) = true := by rw [beq_iff_eq]; omega
    repeat' (first
      | refine xw_seq ?_
      | refine xw_block ?_
      | (refine ite_two ?_ ?_ <;> intro _ <;> first | (exfalso; omega) | skip)
      | refine ord_split (by kernel_rfl) ?_
      | (refine xw_ret ?_ <;> try simp only [sq, bl, LQ])
      | ((first | refine xw_reg ?_ | refine xw_regd ?_ | refine xw_if ?_ | refine xw_skip ?_ | refine xw_exit ?_ | refine xw_label ?_ | refine post_ret ?_ | refine post_normal ?_ | refine postE_ret ?_ | refine postE_normal ?_) <;> simp (config := { maxSteps := 3000000 }) (disch := first | assumption | omega | exact VG.okg (by assumption) | (simp only [List.length_set, List.length_append, List.length_cons, List.length_nil, List.length_replicate]; omega)) only [go_sem, ↓reduceIte, Int.reduceLE, Int.reduceLT, Int.reduceToNat, Int.reduceNeg, Int.reduceAdd, Int.reduceSub, Int.reduceMul, Int.reduceEq, Int.reduceNe, Nat.reduceEqDiff, Nat.reduceAdd, Nat.reduceSub, Nat.reduceMul, Nat.reduceLT, Nat.reduceLeDiff, Nat.reduceBEq, Nat.reduceBNe, Try.results77, e25, e26, e27, e6, m6, hgq, hb])
      | (((first | refine at_region ?_ | refine at_out ?_ | refine at_cond ?_); split) <;> first | (exfalso; omega; done) | simp (config := { maxSteps := 3000000 }) (disch := first | assumption | omega | exact VG.okg (by assumption) | (simp only [List.length_set, List.length_append, List.length_cons, List.length_nil, List.length_replicate]; omega)) only [go_sem, ↓reduceIte, Int.reduceLE, Int.reduceLT, Int.reduceToNat, Int.reduceNeg, Int.reduceAdd, Int.reduceSub, Int.reduceMul, Int.reduceEq, Int.reduceNe, Nat.reduceEqDiff, Nat.reduceAdd, Nat.reduceSub, Nat.reduceMul, Nat.reduceLT, Nat.reduceLeDiff, Nat.reduceBEq, Nat.reduceBNe, Try.results77, e25, e26, e27, e6, m6, hgq, hb] | skip))
    rw [List.append_nil] at hsn
    exact ⟨by rw [hsn], by rw [hsn], by omega, by omega, by omega⟩
  · have hb : (d.length == d.length + (tot - d.length)) = false := by rw [beq_eq_false_iff_ne]; omega
    repeat' (first
      | refine xw_seq ?_
      | refine xw_block ?_
      | (refine ite_two ?_ ?_ <;> intro _ <;> first | (exfalso; omega) | skip)
      | refine ord_split (by kernel_rfl) ?_
      | (refine xw_ret ?_ <;> try simp only [sq, bl, LQ])
      | ((first | refine xw_reg ?_ | refine xw_regd ?_ | refine xw_if ?_ | refine xw_skip ?_ | refine xw_exit ?_ | refine xw_label ?_ | refine post_ret ?_ | refine post_normal ?_ | refine postE_ret ?_ | refine postE_normal ?_) <;> simp (config := { maxSteps := 3000000 }) (disch := first | assumption | omega | exact VG.okg (by assumption) | (simp only [List.length_set, List.length_append, List.length_cons, List.length_nil, List.length_replicate]; omega)) only [go_sem, ↓reduceIte, Int.reduceLE, Int.reduceLT, Int.reduceToNat, Int.reduceNeg, Int.reduceAdd, Int.reduceSub, Int.reduceMul, Int.reduceEq, Int.reduceNe, Nat.reduceEqDiff, Nat.reduceAdd, Nat.reduceSub, Nat.reduceMul, Nat.reduceLT, Nat.reduceLeDiff, Nat.reduceBEq, Nat.reduceBNe, Try.results77, e25, e26, e27, e6, m6, hgq, hb])
      | (((first | refine at_region ?_ | refine at_out ?_ | refine at_cond ?_); split) <;> first | (exfalso; omega; done) | simp (config := { maxSteps := 3000000 }) (disch := first | assumption | omega | exact VG.okg (by assumption) | (simp only [List.length_set, List.length_append, List.length_cons, List.length_nil, List.length_replicate]; omega)) only [go_sem, ↓reduceIte, Int.reduceLE, Int.reduceLT, Int.reduceToNat, Int.reduceNeg, Int.reduceAdd, Int.reduceSub, Int.reduceMul, Int.reduceEq, Int.reduceNe, Nat.reduceEqDiff, Nat.reduceAdd, Nat.reduceSub, Nat.reduceMul, Nat.reduceLT, Nat.reduceLeDiff, Nat.reduceBEq, Nat.reduceBNe, Try.results77, e25, e26, e27, e6, m6, hgq, hb] | skip))
    refine ⟨by rw [hsn, List.length_append], ?_, by omega, by omega, by omega⟩
    rw [hsn, List.take_left, drop_done, List.length_append, Nat.sub_sub]
end Go.Proofs.Ytbaholclcfpknaa.X


