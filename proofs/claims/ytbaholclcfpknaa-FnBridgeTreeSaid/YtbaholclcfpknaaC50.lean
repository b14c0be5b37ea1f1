/- What functions compute: the tree of bridges. -/
import Derived.Test.YtbaholclcfpknaaC19
import Derived.Test.YtbaholclcfpknaaC20
set_option linter.unusedSimpArgs false
set_option linter.unusedVariables false
set_option maxHeartbeats 8000000
set_option maxRecDepth 100000
namespace Go.Proofs.Ytbaholclcfpknaa.X
open Go Go.Proofs

/-! Edges in order. -/
def sortEs (xs : List (Int × Int)) : List (Int × Int) := xs.mergeSort leE
theorem sortF_encE (xs : List (Int × Int)) : sortF (xs.map encE) = (sortEs xs).map encE := by
  unfold sortF sortEs
  rw [List.map_mergeSort]
  intro a _ b _
  rfl
theorem sortEs_length (xs : List (Int × Int)) : (sortEs xs).length = xs.length := List.length_mergeSort _
theorem mem_sortEs {xs : List (Int × Int)} {e : Int × Int} : e ∈ sortEs xs ↔ e ∈ xs := List.mem_mergeSort
@[go_sem] theorem c_sortEs (xs : List (Int × Int)) (n : Nat) (h : n = xs.length) (hl : xs.length ≤ 4000000) : KP 65 [.ref 1000 0 0 n, .fn 66 [] []] [.arr 0 2 (xs.map encE)] = some (.tup [], [.arr 0 2 ((sortEs xs).map encE)], []) := by
  refine KK_prim rfl ?_
  have : (xs.map encE).all isEd = true := by simp [encE, isEd]
  simp only [sortFP, List.length_map, h, hl, this, and_self, if_true, sortF_encE]
@[go_sem] theorem c_sortEs0 : KP 65 [.i .emp, .fn 66 [] []] [] = some (.tup [], [], []) := by
  refine KK_prim rfl ?_
  simp only [sortFP, if_true]
theorem leE_of {a b : Int × Int} (h : leE a b = true) (hn : a ≠ b) : lessE a b = true := by
  rw [lessE_iff]
  unfold leE at h
  rw [decide_eq_true_eq] at h
  have : ¬ (a.1 = b.1 ∧ a.2 = b.2) := fun e => hn (Prod.ext e.1 e.2)
  omega
theorem sortEs_ord {xs : List (Int × Int)} (h : xs.Nodup) : Ord (sortEs xs) := by
  have h1 : (sortEs xs).Pairwise fun a b => leE a b = true := List.pairwise_mergeSort (fun a b c h1 h2 => by unfold leE at *; rw [decide_eq_true_eq] at *; omega) (fun a b => by unfold leE; rw [Bool.or_eq_true, decide_eq_true_eq, decide_eq_true_eq]; omega) xs
  have h2 : (sortEs xs).Nodup := (List.mergeSort_perm xs leE).nodup_iff.2 h
  unfold Ord
  exact (h1.and h2).imp fun h => leE_of h.1 h.2
theorem lessE_irrefl {a : Int × Int} : ¬ lessE a a = true := by rw [lessE_iff]; omega
theorem ord_ext : ∀ {l r : List (Int × Int)}, Ord l → Ord r → (∀ x, x ∈ l ↔ x ∈ r) → l = r
  | [], [], _, _, _ => rfl
  | [], y :: r, _, _, h => by have := (h y).2 (by simp); simp at this
  | x :: l, [], _, _, h => by have := (h x).1 (by simp); simp at this
  | x :: l, y :: r, hl, hr, h => by
    unfold Ord at hl hr
    rw [List.pairwise_cons] at hl hr
    have hxy : x = y := by
      rcases List.mem_cons.1 ((h x).1 (by simp)) with e | e
      · exact e
      · rcases List.mem_cons.1 ((h y).2 (by simp)) with e' | e'
        · exact e'.symm
        · exact absurd (lessE_trans (hl.1 y e') (hr.1 x e)) lessE_irrefl
    subst hxy
    rw [ord_ext (l := l) (r := r) hl.2 hr.2 fun z => ?_]
    constructor
    · intro hz
      rcases List.mem_cons.1 ((h z).1 (by simp [hz])) with e | e
      · exact absurd (hl.1 z hz) (e ▸ lessE_irrefl)
      · exact e
    · intro hz
      rcases List.mem_cons.1 ((h z).2 (by simp [hz])) with e | e
      · exact absurd (hr.1 z hz) (e ▸ lessE_irrefl)
      · exact e
theorem ord_sort {es : List (Int × Int)} (h : Ord es) : sortEs es = es := ord_ext (sortEs_ord h.nodup) h fun _ => mem_sortEs

/-! The tree of bridges. -/
noncomputable def treeS (es : List (Int × Int)) : List (Int × Int) := sortEs (treeL es)
noncomputable def treeP (es : List (Int × Int)) (bs : List (Int × Int)) : List (Int × Int) := bs.foldl (fun acc e => putE (treeE es e) acc) []
theorem treeP_snoc {es bs : List (Int × Int)} {i : Int} (h0 : 0 ≤ i) (h1 : i < bs.length) : treeP es (bs.take (i + 1).toNat) = putE (treeE es (bs.getD i.toNat (0, 0))) (treeP es (bs.take i.toNat)) := by
  unfold treeP
  rw [take_int (0, 0) h0 h1, List.foldl_append]; rfl
theorem foldP_mem {es : List (Int × Int)} {f : Int × Int} : ∀ {bs acc : List (Int × Int)}, f ∈ bs.foldl (fun acc e => putE (treeE es e) acc) acc ↔ f ∈ acc ∨ f ∈ bs.map (treeE es)
  | [], acc => by simp
  | b :: bs, acc => by
    rw [List.foldl_cons, foldP_mem, mem_putE, List.map_cons, List.mem_cons]
    constructor
    · rintro ((h | h) | h) <;> simp [h]
    · rintro (h | h | h) <;> simp [h]
theorem foldP_ord {es : List (Int × Int)} : ∀ {bs acc : List (Int × Int)}, Ord acc → (bs.map (treeE es)).Nodup → (∀ f ∈ acc, f ∉ bs.map (treeE es)) → Ord (bs.foldl (fun acc e => putE (treeE es e) acc) acc)
  | [], acc, h, _, _ => h
  | b :: bs, acc, h, hn, hd => by
    rw [List.map_cons, List.nodup_cons] at hn
    rw [List.foldl_cons]
    refine foldP_ord (h.put fun hm => hd _ hm (by simp)) hn.2 fun f hf => ?_
    rcases mem_putE.1 hf with rfl | hf
    · exact hn.1
    · intro hm; exact hd f hf (by rw [List.map_cons]; exact List.mem_cons_of_mem _ hm)
theorem treeP_eq {n : Int} {es : List (Int × Int)} (ho : ∀ e ∈ es, okE n e) (hn : es.Nodup) : treeP es (brgs es) = treeS es := by
  refine ord_ext (foldP_ord (by simp [Ord]) (tree_nodup ho hn) (by simp)) (sortEs_ord (tree_nodup ho hn)) fun f => ?_
  rw [treeS, mem_sortEs, treeP, foldP_mem]
  simp [treeL]
theorem treeP_len {es : List (Int × Int)} : ∀ {bs : List (Int × Int)}, (treeP es bs).length = bs.length := by
  have : ∀ bs acc : List (Int × Int), (bs.foldl (fun acc e => putE (treeE es e) acc) acc).length = acc.length + bs.length := by
    intro bs
    induction bs with
    | nil => intro acc; simp
    | cons b r ih => intro acc; rw [List.foldl_cons, ih, putE_length, List.length_cons]; omega
  intro bs
  unfold treeP
  rw [this]; simp
theorem treeS_len {es : List (Int × Int)} : (treeS es).length = (brgs es).length := by unfold treeS treeL; rw [sortEs_length, List.length_map]
theorem brgs_len {es : List (Int × Int)} : (brgs es).length ≤ es.length := List.length_filter_le _ _
theorem VG.treeS {n : Int} {es : List (Int × Int)} (h : VG n es) : VG n (X.treeS es) := by
  have ho := h.okg.ok
  refine ⟨h.1, h.2.1, ?_, fun f hf => tree_ok ho f (mem_sortEs.1 hf), sortEs_ord (tree_nodup ho h.nodup)⟩
  have := brgs_len (es := es)
  have := h.2.2.1
  rw [treeS_len]; omega
theorem lab_sl {n : Int} {es : List (Int × Int)} {x : Int} (hx : 0 ≤ x ∧ x < n) : (lab n (bare es)).getD x.toNat 0 = sl es x := lab_get (by omega)

theorem c_BridgeTree (n : Int) (es : List (Int × Int)) (hl : es.length ≤ 1000) : KP 14 [GL n es] [] =
    some (if VG n es then (.tup [.ref 2000 0 0 (treeS es).length, B true], [], [.arr 0 2 ((treeS es).map encE)]) else (.tup [.i .emp, B false], [], [])) := by
  by_cases hV : VG n es
  rotate_left
  · rw [if_neg hV]
    have hg := decide_eq_false hV
    refine xw_call (fn := Try.f14) rfl Try.func14 rfl ⟨Nat.le_of_ble_eq_true rfl, rfl, rfl⟩ ?_
    repeat' (first
      | refine xw_seq ?_
      | refine xw_block ?_
      | (refine ite_two ?_ ?_ <;> intro _ <;> first | (exfalso; omega) | skip)
      | refine ord_split (by kernel_rfl) ?_
      | (refine xw_ret ?_ <;> try simp only [sq, bl, LQ])
      | ((first | refine xw_reg ?_ | refine xw_regd ?_ | refine xw_if ?_ | refine xw_skip ?_ | refine xw_exit ?_ | refine xw_label ?_ | refine post_ret ?_ | refine post_normal ?_ | refine postE_ret ?_ | refine postE_normal ?_) <;> simp (config := { maxSteps := 3000000 }) (disch := first | assumption | omega | exact VG.okg (by assumption) | (simp only [List.length_set, List.length_append, List.length_cons, List.length_nil, List.length_replicate]; omega)) only [go_sem, ↓reduceIte, Int.reduceLE, Int.reduceLT, Int.reduceToNat, Int.reduceNeg, Int.reduceAdd, Int.reduceSub, Int.reduceMul, Int.reduceEq, Int.reduceNe, Nat.reduceEqDiff, Nat.reduceAdd, Nat.reduceSub, Nat.reduceMul, Nat.reduceLT, Nat.reduceLeDiff, Nat.reduceBEq, Nat.reduceBNe, Try.results14, hg])
      | (((first | refine at_region ?_ | refine at_out ?_ | refine at_cond ?_); split) <;> first | (exfalso; omega; done) | simp (config := { maxSteps := 3000000 }) (disch := first | assumption | omega | exact VG.okg (by assumption) | (simp only [List.length_set, List.length_append, List.length_cons, List.length_nil, List.length_replicate]; omega)) only [go_sem, ↓reduceIte, Int.reduceLE, Int.reduceLT, Int.reduceToNat, Int.reduceNeg, Int.reduceAdd, Int.reduceSub, Int.reduceMul, Int.reduceEq, Int.reduceNe, Nat.reduceEqDiff, Nat.reduceAdd, Nat.reduceSub, Nat.reduceMul, Nat.reduceLT, Nat.reduceLeDiff, Nat.reduceBEq, Nat.reduceBNe, Try.results14, hg] | skip))
  rw [if_pos hV]
  have hg := decide_eq_true hV
  have hw := c_edgesBy (clo_isBridge n es hV.okg) n es hV.okg.ok (by omega)
  have hok := hV.okg
  have hll := lab_length n (bare es)
  have hbl := brgs_len (es := es)
  refine xw_call (fn := Try.f14) rfl Try.func14 rfl ⟨Nat.le_of_ble_eq_true rfl, rfl, rfl⟩ ?_
  repeat' (first
    | refine xw_seq ?_
    | refine xw_block ?_
    | (refine ite_two ?_ ?_ <;> intro _ <;> first | (exfalso; omega) | skip)
    | refine ord_split (by kernel_rfl) ?_
    | (refine xw_ret ?_ <;> try simp only [sq, bl, LQ])
    | ((first | refine xw_reg ?_ | refine xw_regd ?_ | refine xw_if ?_ | refine xw_skip ?_ | refine xw_exit ?_ | refine xw_label ?_ | refine post_ret ?_ | refine post_normal ?_ | refine postE_ret ?_ | refine postE_normal ?_) <;> simp (config := { maxSteps := 3000000 }) (disch := first | assumption | omega | exact VG.okg (by assumption) | (simp only [List.length_set, List.length_append, List.length_cons, List.length_nil, List.length_replicate]; omega)) only [go_sem, ↓reduceIte, Int.reduceLE, Int.reduceLT, Int.reduceToNat, Int.reduceNeg, Int.reduceAdd, Int.reduceSub, Int.reduceMul, Int.reduceEq, Int.reduceNe, Nat.reduceEqDiff, Nat.reduceAdd, Nat.reduceSub, Nat.reduceMul, Nat.reduceLT, Nat.reduceLeDiff, Nat.reduceBEq, Nat.reduceBNe, Try.results14, hg, hw, delP_not, brgs_def])
    | (((first | refine at_region ?_ | refine at_out ?_ | refine at_cond ?_); split) <;> first | (exfalso; omega; done) | simp (config := { maxSteps := 3000000 }) (disch := first | assumption | omega | exact VG.okg (by assumption) | (simp only [List.length_set, List.length_append, List.length_cons, List.length_nil, List.length_replicate]; omega)) only [go_sem, ↓reduceIte, Int.reduceLE, Int.reduceLT, Int.reduceToNat, Int.reduceNeg, Int.reduceAdd, Int.reduceSub, Int.reduceMul, Int.reduceEq, Int.reduceNe, Nat.reduceEqDiff, Nat.reduceAdd, Nat.reduceSub, Nat.reduceMul, Nat.reduceLT, Nat.reduceLeDiff, Nat.reduceBEq, Nat.reduceBNe, Try.results14, hg, hw, delP_not, brgs_def] | skip))
  refine xw_loopR (fun (x : Int × Nat × List (Int × Int)) s => s.m 13 = some (.arr x.2.1 2 (x.2.2.map encE)) ∧ s.ρ 4 = .ref 13 x.2.1 0 x.2.2.length ∧ s.ρ 5 = LI (lab n (bare es)) ∧ s.ρ 19 = .i (delF (fun e => decide (Brg es e)) es) ∧ s.ρ 20 = I (brgs es).length ∧ s.ρ 21 = I x.1 ∧
    0 ≤ x.1 ∧ x.1 ≤ (brgs es).length ∧ x.2.2 = ((brgs es).take x.1.toNat).map (treeE es)) (fun x => ((brgs es).length - x.1).toNat) (0, 0, []) ?_ ?_
  · exact ⟨rfl, rfl, rfl, rfl, rfl, rfl, by simp, by simp, by simp⟩
  rintro ⟨i, w, xs⟩ ⟨ρ, m⟩ ⟨m13, h4, h5, h19, h20, h21, g0, g1, g2⟩
  simp only at m13 h4 h5 h19 h20 h21 g0 g1 g2
  by_cases hi : i < (brgs es).length
  rotate_left
  · rw [take_all (by omega)] at g2
    have hxl : xs.length ≤ 1000 := by rw [g2, List.length_map]; omega
    have htl := treeS_len (es := es)
    have hts : sortEs xs = treeS es := by rw [g2]; rfl
    have hso := c_sortEs xs _ rfl (by omega)
    rw [hts] at hso
    repeat' (first
      | refine xw_seq ?_
      | refine xw_block ?_
      | (refine ite_two ?_ ?_ <;> intro _ <;> first | (exfalso; omega) | skip)
      | refine ord_split (by kernel_rfl) ?_
      | (refine xw_ret ?_ <;> try simp only [sq, bl, LQ])
      | ((first | refine xw_reg ?_ | refine xw_regd ?_ | refine xw_if ?_ | refine xw_skip ?_ | refine xw_exit ?_ | refine xw_label ?_ | refine post_ret ?_ | refine post_normal ?_ | refine postE_ret ?_ | refine postE_normal ?_) <;> simp (config := { maxSteps := 3000000 }) (disch := first | assumption | omega | exact VG.okg (by assumption) | (simp only [List.length_set, List.length_append, List.length_cons, List.length_nil, List.length_replicate]; omega)) only [go_sem, ↓reduceIte, Int.reduceLE, Int.reduceLT, Int.reduceToNat, Int.reduceNeg, Int.reduceAdd, Int.reduceSub, Int.reduceMul, Int.reduceEq, Int.reduceNe, Nat.reduceEqDiff, Nat.reduceAdd, Nat.reduceSub, Nat.reduceMul, Nat.reduceLT, Nat.reduceLeDiff, Nat.reduceBEq, Nat.reduceBNe, Try.results14, m13, h4, h5, h19, h20, h21, hso])
      | (((first | refine at_region ?_ | refine at_out ?_ | refine at_cond ?_); split) <;> first | (exfalso; omega; done) | simp (config := { maxSteps := 3000000 }) (disch := first | assumption | omega | exact VG.okg (by assumption) | (simp only [List.length_set, List.length_append, List.length_cons, List.length_nil, List.length_replicate]; omega)) only [go_sem, ↓reduceIte, Int.reduceLE, Int.reduceLT, Int.reduceToNat, Int.reduceNeg, Int.reduceAdd, Int.reduceSub, Int.reduceMul, Int.reduceEq, Int.reduceNe, Nat.reduceEqDiff, Nat.reduceAdd, Nat.reduceSub, Nat.reduceMul, Nat.reduceLT, Nat.reduceLeDiff, Nat.reduceBEq, Nat.reduceBNe, Try.results14, m13, h4, h5, h19, h20, h21, hso] | skip))
    rw [← hts, sortEs_length]
  have hmem := getD_mem (d := (0, 0)) (show i.toNat < (brgs es).length by omega)
  have hoe := hV.okg.ok _ (mem_brgs.1 hmem).1
  have hap := brg_apart hV.okg.ok hmem
  have hge := getE (brgs es) i.toNat (by omega)
  have hsn : ((brgs es).take (i + 1).toNat).map (treeE es) = xs ++ [treeE es ((brgs es).getD i.toNat (0, 0))] := by rw [take_int (0, 0) g0 hi, List.map_append, g2]; rfl
  have hxl : (xs.length : Int) = i := by rw [g2, List.length_map, List.length_take]; omega
  generalize (brgs es).getD i.toNat (0, 0) = e at hoe hap hge hsn
  unfold okE at hoe
  have l1 := lab_sl (n := n) (es := es) (x := e.1) (by omega)
  have l2 := lab_sl (n := n) (es := es) (x := e.2) (by omega)
  have b1 := sl_bound (es := es) (x := e.1) (by omega)
  have b2 := sl_bound (es := es) (x := e.2) (by omega)
  have hed := c_EdgeOf (sl es e.1) (sl es e.2)
  have hnn := hV.2.1
  rw [if_pos (show eOk (sl es e.1) (sl es e.2) by unfold eOk; omega)] at hed
  have hte : edgeOf (sl es e.1) (sl es e.2) = treeE es e := rfl
  rw [hte] at hed
  generalize treeE es e = f at hed hsn
  have hi' : i < ((es.filter fun e => decide (Brg es e)).length : Int) := hi
  repeat' (first
    | refine xw_seq ?_
    | refine xw_block ?_
    | (refine ite_two ?_ ?_ <;> intro _ <;> first | (exfalso; omega) | skip)
    | refine ord_split (by kernel_rfl) ?_
    | (refine xw_ret ?_ <;> try simp only [sq, bl, LQ])
    | ((first | refine xw_reg ?_ | refine xw_regd ?_ | refine xw_if ?_ | refine xw_skip ?_ | refine xw_exit ?_ | refine xw_label ?_ | refine post_ret ?_ | refine post_normal ?_ | refine postE_ret ?_ | refine postE_normal ?_) <;> simp (config := { maxSteps := 3000000 }) (disch := first | assumption | omega | exact VG.okg (by assumption) | (simp only [List.length_set, List.length_append, List.length_cons, List.length_nil, List.length_replicate]; omega)) only [go_sem, ↓reduceIte, Int.reduceLE, Int.reduceLT, Int.reduceToNat, Int.reduceNeg, Int.reduceAdd, Int.reduceSub, Int.reduceMul, Int.reduceEq, Int.reduceNe, Nat.reduceEqDiff, Nat.reduceAdd, Nat.reduceSub, Nat.reduceMul, Nat.reduceLT, Nat.reduceLeDiff, Nat.reduceBEq, Nat.reduceBNe, Try.results14, m13, h4, h5, h19, h20, h21, iaR_delF g0 hi', brgs_def, hge, l1, l2, hed])
    | (((first | refine at_region ?_ | refine at_out ?_ | refine at_cond ?_); split) <;> first | (exfalso; omega; done) | simp (config := { maxSteps := 3000000 }) (disch := first | assumption | omega | exact VG.okg (by assumption) | (simp only [List.length_set, List.length_append, List.length_cons, List.length_nil, List.length_replicate]; omega)) only [go_sem, ↓reduceIte, Int.reduceLE, Int.reduceLT, Int.reduceToNat, Int.reduceNeg, Int.reduceAdd, Int.reduceSub, Int.reduceMul, Int.reduceEq, Int.reduceNe, Nat.reduceEqDiff, Nat.reduceAdd, Nat.reduceSub, Nat.reduceMul, Nat.reduceLT, Nat.reduceLeDiff, Nat.reduceBEq, Nat.reduceBNe, Try.results14, m13, h4, h5, h19, h20, h21, iaR_delF g0 hi', brgs_def, hge, l1, l2, hed] | skip))
  exact ⟨by omega, by omega, hsn.symm, by omega⟩

theorem c_sBridgeTree (n : Int) (es : List (Int × Int)) (hl : es.length ≤ 1000) : KP 15 [GL n es] [] =
    some (if VG n es then (if treeS es = [] then (.tup [.ref 2000 0 0 0, B true], [], [.arr 0 2 []]) else (.tup [LE (treeS es), B true], [], [])) else (.tup [.ref 2000 0 0 0, B false], [], [.arr 0 2 []])) := by
  by_cases hV : VG n es
  rotate_left
  · rw [if_neg hV]
    refine xw_call (fn := Try.f15) rfl Try.func15 rfl ⟨Nat.le_of_ble_eq_true rfl, rfl, rfl⟩ ?_
    repeat' (first
      | refine xw_seq ?_
      | refine xw_block ?_
      | (refine ite_two ?_ ?_ <;> intro _ <;> first | (exfalso; omega) | skip)
      | refine ord_split (by kernel_rfl) ?_
      | (refine xw_ret ?_ <;> try simp only [sq, bl, LQ])
      | ((first | refine xw_reg ?_ | refine xw_regd ?_ | refine xw_if ?_ | refine xw_skip ?_ | refine xw_exit ?_ | refine xw_label ?_ | refine post_ret ?_ | refine post_normal ?_ | refine postE_ret ?_ | refine postE_normal ?_) <;> simp (config := { maxSteps := 3000000 }) (disch := first | assumption | omega | exact VG.okg (by assumption) | (simp only [List.length_set, List.length_append, List.length_cons, List.length_nil, List.length_replicate]; omega)) only [go_sem, ↓reduceIte, Int.reduceLE, Int.reduceLT, Int.reduceToNat, Int.reduceNeg, Int.reduceAdd, Int.reduceSub, Int.reduceMul, Int.reduceEq, Int.reduceNe, Nat.reduceEqDiff, Nat.reduceAdd, Nat.reduceSub, Nat.reduceMul, Nat.reduceLT, Nat.reduceLeDiff, Nat.reduceBEq, Nat.reduceBNe, Try.results15])
      | (((first | refine at_region ?_ | refine at_out ?_ | refine at_cond ?_); split) <;> first | (exfalso; omega; done) | simp (config := { maxSteps := 3000000 }) (disch := first | assumption | omega | exact VG.okg (by assumption) | (simp only [List.length_set, List.length_append, List.length_cons, List.length_nil, List.length_replicate]; omega)) only [go_sem, ↓reduceIte, Int.reduceLE, Int.reduceLT, Int.reduceToNat, Int.reduceNeg, Int.reduceAdd, Int.reduceSub, Int.reduceMul, Int.reduceEq, Int.reduceNe, Nat.reduceEqDiff, Nat.reduceAdd, Nat.reduceSub, Nat.reduceMul, Nat.reduceLT, Nat.reduceLeDiff, Nat.reduceBEq, Nat.reduceBNe, Try.results15] | skip))
  rw [if_pos hV]
  have hok := hV.okg
  have hll := lab_length n (bare es)
  have hbl := brgs_len (es := es)
  have hb := c_l5Bare n es hV.okg
  have hbo := hV.okg.bare
  refine xw_call (fn := Try.f15) rfl Try.func15 rfl ⟨Nat.le_of_ble_eq_true rfl, rfl, rfl⟩ ?_
  repeat' (first
    | refine xw_seq ?_
    | refine xw_block ?_
    | (refine ite_two ?_ ?_ <;> intro _ <;> first | (exfalso; omega) | skip)
    | refine ord_split (by kernel_rfl) ?_
    | (refine xw_ret ?_ <;> try simp only [sq, bl, LQ])
    | ((first | refine xw_reg ?_ | refine xw_regd ?_ | refine xw_if ?_ | refine xw_skip ?_ | refine xw_exit ?_ | refine xw_label ?_ | refine post_ret ?_ | refine post_normal ?_ | refine postE_ret ?_ | refine postE_normal ?_) <;> simp (config := { maxSteps := 3000000 }) (disch := first | assumption | omega | exact VG.okg (by assumption) | (simp only [List.length_set, List.length_append, List.length_cons, List.length_nil, List.length_replicate]; omega)) only [go_sem, ↓reduceIte, Int.reduceLE, Int.reduceLT, Int.reduceToNat, Int.reduceNeg, Int.reduceAdd, Int.reduceSub, Int.reduceMul, Int.reduceEq, Int.reduceNe, Nat.reduceEqDiff, Nat.reduceAdd, Nat.reduceSub, Nat.reduceMul, Nat.reduceLT, Nat.reduceLeDiff, Nat.reduceBEq, Nat.reduceBNe, Try.results15, hb])
    | (((first | refine at_region ?_ | refine at_out ?_ | refine at_cond ?_); split) <;> first | (exfalso; omega; done) | simp (config := { maxSteps := 3000000 }) (disch := first | assumption | omega | exact VG.okg (by assumption) | (simp only [List.length_set, List.length_append, List.length_cons, List.length_nil, List.length_replicate]; omega)) only [go_sem, ↓reduceIte, Int.reduceLE, Int.reduceLT, Int.reduceToNat, Int.reduceNeg, Int.reduceAdd, Int.reduceSub, Int.reduceMul, Int.reduceEq, Int.reduceNe, Nat.reduceEqDiff, Nat.reduceAdd, Nat.reduceSub, Nat.reduceMul, Nat.reduceLT, Nat.reduceLeDiff, Nat.reduceBEq, Nat.reduceBNe, Try.results15, hb] | skip))
  refine xw_loopR (fun (i : Int) s => s.m 8 = some (.arr 0 2 []) ∧ (i = 0 ∧ s.ρ 4 = .ref 8 0 0 0 ∨ 0 < i ∧ s.ρ 4 = LE (treeP es ((brgs es).take i.toNat))) ∧ s.ρ 5 = LI (lab n (bare es)) ∧ s.ρ 6 = LE (brgs es) ∧ s.ρ 7 = I i ∧
    0 ≤ i ∧ i ≤ (brgs es).length) (fun i => ((brgs es).length - i).toNat) 0 ?_ ?_
  · exact ⟨rfl, .inl ⟨rfl, rfl⟩, rfl, rfl, rfl, by simp, by simp⟩
  rintro i ⟨ρ, m⟩ ⟨m8, h4, h5, h6, h7, g0, g1⟩
  simp only at m8 h4 h5 h6 h7 g0 g1
  have htp := treeP_eq hV.okg.ok hV.nodup
  by_cases hi : i < (brgs es).length
  rotate_left
  · rw [take_all (by omega)] at h4
    rw [htp] at h4
    have hts := treeS_len (es := es)
    rcases h4 with ⟨hz, h4⟩ | ⟨hz, h4⟩
    · have hnil : treeS es = [] := List.length_eq_zero_iff.1 (by omega)
      rw [if_pos hnil]
      repeat' (first
        | refine xw_seq ?_
        | refine xw_block ?_
        | (refine ite_two ?_ ?_ <;> intro _ <;> first | (exfalso; omega) | skip)
        | refine ord_split (by kernel_rfl) ?_
        | (refine xw_ret ?_ <;> try simp only [sq, bl, LQ])
        | ((first | refine xw_reg ?_ | refine xw_regd ?_ | refine xw_if ?_ | refine xw_skip ?_ | refine xw_exit ?_ | refine xw_label ?_ | refine post_ret ?_ | refine post_normal ?_ | refine postE_ret ?_ | refine postE_normal ?_) <;> simp (config := { maxSteps := 3000000 }) (disch := first | assumption | omega | exact VG.okg (by assumption) | (simp only [List.length_set, List.length_append, List.length_cons, List.length_nil, List.length_replicate]; omega)) only [go_sem, ↓reduceIte, Int.reduceLE, Int.reduceLT, Int.reduceToNat, Int.reduceNeg, Int.reduceAdd, Int.reduceSub, Int.reduceMul, Int.reduceEq, Int.reduceNe, Nat.reduceEqDiff, Nat.reduceAdd, Nat.reduceSub, Nat.reduceMul, Nat.reduceLT, Nat.reduceLeDiff, Nat.reduceBEq, Nat.reduceBNe, Try.results15, m8, h4, h5, h6, h7])
        | (((first | refine at_region ?_ | refine at_out ?_ | refine at_cond ?_); split) <;> first | (exfalso; omega; done) | simp (config := { maxSteps := 3000000 }) (disch := first | assumption | omega | exact VG.okg (by assumption) | (simp only [List.length_set, List.length_append, List.length_cons, List.length_nil, List.length_replicate]; omega)) only [go_sem, ↓reduceIte, Int.reduceLE, Int.reduceLT, Int.reduceToNat, Int.reduceNeg, Int.reduceAdd, Int.reduceSub, Int.reduceMul, Int.reduceEq, Int.reduceNe, Nat.reduceEqDiff, Nat.reduceAdd, Nat.reduceSub, Nat.reduceMul, Nat.reduceLT, Nat.reduceLeDiff, Nat.reduceBEq, Nat.reduceBNe, Try.results15, m8, h4, h5, h6, h7] | skip))
    · have hnil : treeS es ≠ [] := fun q => by rw [q] at hts; simp at hts; omega
      rw [if_neg hnil]
      repeat' (first
        | refine xw_seq ?_
        | refine xw_block ?_
        | (refine ite_two ?_ ?_ <;> intro _ <;> first | (exfalso; omega) | skip)
        | refine ord_split (by kernel_rfl) ?_
        | (refine xw_ret ?_ <;> try simp only [sq, bl, LQ])
        | ((first | refine xw_reg ?_ | refine xw_regd ?_ | refine xw_if ?_ | refine xw_skip ?_ | refine xw_exit ?_ | refine xw_label ?_ | refine post_ret ?_ | refine post_normal ?_ | refine postE_ret ?_ | refine postE_normal ?_) <;> simp (config := { maxSteps := 3000000 }) (disch := first | assumption | omega | exact VG.okg (by assumption) | (simp only [List.length_set, List.length_append, List.length_cons, List.length_nil, List.length_replicate]; omega)) only [go_sem, ↓reduceIte, Int.reduceLE, Int.reduceLT, Int.reduceToNat, Int.reduceNeg, Int.reduceAdd, Int.reduceSub, Int.reduceMul, Int.reduceEq, Int.reduceNe, Nat.reduceEqDiff, Nat.reduceAdd, Nat.reduceSub, Nat.reduceMul, Nat.reduceLT, Nat.reduceLeDiff, Nat.reduceBEq, Nat.reduceBNe, Try.results15, m8, h4, h5, h6, h7])
        | (((first | refine at_region ?_ | refine at_out ?_ | refine at_cond ?_); split) <;> first | (exfalso; omega; done) | simp (config := { maxSteps := 3000000 }) (disch := first | assumption | omega | exact VG.okg (by assumption) | (simp only [List.length_set, List.length_append, List.length_cons, List.length_nil, List.length_replicate]; omega)) only [go_sem, ↓reduceIte, Int.reduceLE, Int.reduceLT, Int.reduceToNat, Int.reduceNeg, Int.reduceAdd, Int.reduceSub, Int.reduceMul, Int.reduceEq, Int.reduceNe, Nat.reduceEqDiff, Nat.reduceAdd, Nat.reduceSub, Nat.reduceMul, Nat.reduceLT, Nat.reduceLeDiff, Nat.reduceBEq, Nat.reduceBNe, Try.results15, m8, h4, h5, h6, h7] | skip))
  have hmem := getD_mem (d := (0, 0)) (show i.toNat < (brgs es).length by omega)
  have hoe := hV.okg.ok _ (mem_brgs.1 hmem).1
  have hge := getE (brgs es) i.toNat (by omega)
  have hsn := treeP_snoc (es := es) g0 hi
  have htl : (treeP es ((brgs es).take i.toNat)).length ≤ 1000 := by rw [treeP_len, List.length_take]; omega
  generalize (brgs es).getD i.toNat (0, 0) = e at hoe hge hsn
  unfold okE at hoe
  have l1 := lab_sl (n := n) (es := es) (x := e.1) (by omega)
  have l2 := lab_sl (n := n) (es := es) (x := e.2) (by omega)
  have hed := c_l1Edge (sl es e.1) (sl es e.2)
  have hte : edgeOf (sl es e.1) (sl es e.2) = treeE es e := rfl
  rw [hte] at hed
  have hpu := c_l1Put (treeP es ((brgs es).take i.toNat)) (treeE es e).1 (treeE es e).2 (by omega)
  have hff : ((treeE es e).1, (treeE es e).2) = treeE es e := rfl
  rw [hff, ← hsn] at hpu
  generalize treeE es e = f at hed hpu
  rcases h4 with ⟨hz, h4⟩ | ⟨hz, h4⟩
  · have hnil : treeP es ((brgs es).take i.toNat) = [] := by rw [hz]; rfl
    rw [hnil] at hpu
    have hpu' : KP 71 [.i (.lst []), PE f.1 f.2] [] = some (.ref 2000 0 0 (treeP es ((brgs es).take (i + 1).toNat)).length, [], [.arr 0 2 ((treeP es ((brgs es).take (i + 1).toNat)).map encE)]) := hpu
    repeat' (first
      | refine xw_seq ?_
      | refine xw_block ?_
      | (refine ite_two ?_ ?_ <;> intro _ <;> first | (exfalso; omega) | skip)
      | refine ord_split (by kernel_rfl) ?_
      | (refine xw_ret ?_ <;> try simp only [sq, bl, LQ])
      | ((first | refine xw_reg ?_ | refine xw_regd ?_ | refine xw_if ?_ | refine xw_skip ?_ | refine xw_exit ?_ | refine xw_label ?_ | refine post_ret ?_ | refine post_normal ?_ | refine postE_ret ?_ | refine postE_normal ?_) <;> simp (config := { maxSteps := 3000000 }) (disch := first | assumption | omega | exact VG.okg (by assumption) | (simp only [List.length_set, List.length_append, List.length_cons, List.length_nil, List.length_replicate]; omega)) only [go_sem, ↓reduceIte, Int.reduceLE, Int.reduceLT, Int.reduceToNat, Int.reduceNeg, Int.reduceAdd, Int.reduceSub, Int.reduceMul, Int.reduceEq, Int.reduceNe, Nat.reduceEqDiff, Nat.reduceAdd, Nat.reduceSub, Nat.reduceMul, Nat.reduceLT, Nat.reduceLeDiff, Nat.reduceBEq, Nat.reduceBNe, Try.results15, m8, h4, h5, h6, h7, hge, l1, l2, hed, hpu'])
      | (((first | refine at_region ?_ | refine at_out ?_ | refine at_cond ?_); split) <;> first | (exfalso; omega; done) | simp (config := { maxSteps := 3000000 }) (disch := first | assumption | omega | exact VG.okg (by assumption) | (simp only [List.length_set, List.length_append, List.length_cons, List.length_nil, List.length_replicate]; omega)) only [go_sem, ↓reduceIte, Int.reduceLE, Int.reduceLT, Int.reduceToNat, Int.reduceNeg, Int.reduceAdd, Int.reduceSub, Int.reduceMul, Int.reduceEq, Int.reduceNe, Nat.reduceEqDiff, Nat.reduceAdd, Nat.reduceSub, Nat.reduceMul, Nat.reduceLT, Nat.reduceLeDiff, Nat.reduceBEq, Nat.reduceBNe, Try.results15, m8, h4, h5, h6, h7, hge, l1, l2, hed, hpu'] | skip))
    exact ⟨i + 1, .inr ⟨by omega, rfl⟩, rfl, by omega, by omega, by omega⟩
  · repeat' (first
      | refine xw_seq ?_
      | refine xw_block ?_
      | (refine ite_two ?_ ?_ <;> intro _ <;> first | (exfalso; omega) | skip)
      | refine ord_split (by kernel_rfl) ?_
      | (refine xw_ret ?_ <;> try simp only [sq, bl, LQ])
      | ((first | refine xw_reg ?_ | refine xw_regd ?_ | refine xw_if ?_ | refine xw_skip ?_ | refine xw_exit ?_ | refine xw_label ?_ | refine post_ret ?_ | refine post_normal ?_ | refine postE_ret ?_ | refine postE_normal ?_) <;> simp (config := { maxSteps := 3000000 }) (disch := first | assumption | omega | exact VG.okg (by assumption) | (simp only [List.length_set, List.length_append, List.length_cons, List.length_nil, List.length_replicate]; omega)) only [go_sem, ↓reduceIte, Int.reduceLE, Int.reduceLT, Int.reduceToNat, Int.reduceNeg, Int.reduceAdd, Int.reduceSub, Int.reduceMul, Int.reduceEq, Int.reduceNe, Nat.reduceEqDiff, Nat.reduceAdd, Nat.reduceSub, Nat.reduceMul, Nat.reduceLT, Nat.reduceLeDiff, Nat.reduceBEq, Nat.reduceBNe, Try.results15, m8, h4, h5, h6, h7, hge, l1, l2, hed, hpu])
      | (((first | refine at_region ?_ | refine at_out ?_ | refine at_cond ?_); split) <;> first | (exfalso; omega; done) | simp (config := { maxSteps := 3000000 }) (disch := first | assumption | omega | exact VG.okg (by assumption) | (simp only [List.length_set, List.length_append, List.length_cons, List.length_nil, List.length_replicate]; omega)) only [go_sem, ↓reduceIte, Int.reduceLE, Int.reduceLT, Int.reduceToNat, Int.reduceNeg, Int.reduceAdd, Int.reduceSub, Int.reduceMul, Int.reduceEq, Int.reduceNe, Nat.reduceEqDiff, Nat.reduceAdd, Nat.reduceSub, Nat.reduceMul, Nat.reduceLT, Nat.reduceLeDiff, Nat.reduceBEq, Nat.reduceBNe, Try.results15, m8, h4, h5, h6, h7, hge, l1, l2, hed, hpu] | skip))
    exact ⟨i + 1, .inr ⟨by omega, rfl⟩, rfl, by omega, by omega, by omega⟩
end Go.Proofs.Ytbaholclcfpknaa.X

