/- What functions answer, and the plain laws behind it. -/
import Derived.Test.YtdjdgnabcecdlaaGreatDoorKAC
/- What functions compute: neighbors node by node, cut nodes. -/
set_option linter.unusedSimpArgs false
set_option linter.unusedVariables false
set_option maxHeartbeats 2000000
namespace Go.Proofs.YtdjdgnabcecdlaaGreatDoor.X
open Go Go.Proofs
/-- A function value that tells something of a number. -/
structure CloI (c : IV) (dom : Int → Prop) (p : Int → Bool) : Prop where
  frz : ∀ n, X.frz n (.i c) = .ret c
  flat : c.flat = true
  call : ∀ me d x, dom x → dynP cfg (KK Tryz.prog cfg) me (some d) (.i c) [I x] = .ret (B (p x), [])
def fidxI (p : Int → Bool) (xs : List Int) : Int := if xs.findIdx p < xs.length then (xs.findIdx p : Int) else -1
theorem fidxI_at {p : Int → Bool} {xs : List Int} {i : Int} (h0 : 0 ≤ i) (h : i < xs.length) (hp : p (xs.getD i.toNat 0) = true) (hn : ∀ e ∈ xs.take i.toNat, p e = false) : fidxI p xs = i := by
  have hi : i.toNat < xs.length := by omega
  have : xs.findIdx p = i.toNat := by
    rw [List.findIdx_eq hi]
    refine ⟨by simpa [hi] using hp, fun j hj => hn _ ?_⟩
    rw [List.mem_take_iff_getElem]
    exact ⟨j, by omega, rfl⟩
  unfold fidxI
  rw [this, if_pos hi]; omega
theorem fidxI_none {p : Int → Bool} {xs : List Int} (hn : ∀ e ∈ xs, p e = false) : fidxI p xs = -1 := by
  have : xs.findIdx p = xs.length := List.findIdx_eq_length.2 hn
  unfold fidxI
  rw [this, if_neg (by omega)]
theorem fidxI_any {p : Int → Bool} {xs : List Int} : decide (0 ≤ fidxI p xs) = xs.any p := by
  cases h : xs.any p with
  | true =>
    obtain ⟨x, hx, hp⟩ := List.any_eq_true.1 h
    have : xs.findIdx p < xs.length := List.findIdx_lt_length_of_exists ⟨x, hx, hp⟩
    unfold fidxI
    rw [if_pos this]; simp
  | false =>
    rw [fidxI_none fun e he => by simpa using List.any_eq_false.1 h e he]; rfl
theorem c_indexFuncI {c : IV} {dom : Int → Prop} {p : Int → Bool} (hc : CloI c dom p) (xs : List Int) (hd : ∀ x ∈ xs, dom x) (hl : xs.length ≤ 1048576) : KP 193 [LI xs, .i c] [] = some (I (fidxI p xs), [], []) := by
  obtain ⟨hc1, hc2, hc3⟩ := hc
  refine xw_call (fn := Tryz.f193) rfl Tryz.func193 rfl ⟨Nat.le_of_ble_eq_true rfl, rfl, rfl⟩ ?_
  repeat' (first
    | refine xw_seq ?_
    | refine xw_block ?_
    | (refine ite_two ?_ ?_ <;> intro _ <;> first | (exfalso; omega) | skip)
    | refine ord_split (by kernel_rfl) ?_
    | (refine xw_ret ?_ <;> try simp only [sq, bl, LQ])
    | ((first | refine xw_reg ?_ | refine xw_regd ?_ | refine xw_if ?_ | refine xw_skip ?_ | refine xw_exit ?_ | refine xw_label ?_ | refine post_ret ?_ | refine post_normal ?_ | refine postE_ret ?_ | refine postE_normal ?_ | (((first | refine at_region ?_ | refine at_out ?_ | refine at_cond ?_); split) <;> first | (exfalso; omega; done) | skip)) <;> try simp (config := { maxSteps := 3000000 }) (disch := first | assumption | omega | exact VG.okg (by assumption) | (simp only [List.length_set, List.length_append, List.length_cons, List.length_nil, List.length_replicate]; omega)) only [go_sem, ↓reduceIte, Int.reduceLE, Int.reduceLT, Int.reduceToNat, Int.reduceNeg, Int.reduceAdd, Int.reduceSub, Int.reduceMul, Int.reduceEq, Int.reduceNe, Nat.reduceEqDiff, Nat.reduceAdd, Nat.reduceSub, Nat.reduceMul, Nat.reduceLT, Nat.reduceLeDiff, Nat.reduceBEq, Nat.reduceBNe, UInt8.reduceToNat, Tryz.results193]))
  refine xw_loopR (fun (i : Int) s => s.ρ 0 = LI xs ∧ s.ρ 1 = .i c ∧ s.ρ 7 = I xs.length ∧ s.ρ 8 = I i ∧ 0 ≤ i ∧ i ≤ xs.length ∧ ∀ e ∈ xs.take i.toNat, p e = false) (fun i => (xs.length - i).toNat) 0 (by simp [upd]) ?_
  rintro i ⟨ρ, m⟩ ⟨h0, h1, h7, h8, hi0, hi, hp⟩
  simp only at h0 h1 h7 h8
  by_cases hj : i < xs.length
  · have hm : dom (xs.getD i.toNat 0) := hd _ (getD_mem (by omega))
    repeat' (first
      | refine xw_seq ?_
      | refine xw_block ?_
      | (refine ite_two ?_ ?_ <;> intro _ <;> first | (exfalso; omega) | skip)
      | refine ord_split (by kernel_rfl) ?_
      | (refine xw_ret ?_ <;> try simp only [sq, bl, LQ])
      | ((first | refine xw_reg ?_ | refine xw_regd ?_ | refine xw_if ?_ | refine xw_skip ?_ | refine xw_exit ?_ | refine xw_label ?_ | refine post_ret ?_ | refine post_normal ?_ | refine postE_ret ?_ | refine postE_normal ?_ | (((first | refine at_region ?_ | refine at_out ?_ | refine at_cond ?_); split) <;> first | (exfalso; omega; done) | skip)) <;> try simp (config := { maxSteps := 3000000 }) (disch := first | assumption | omega | exact VG.okg (by assumption) | (simp only [List.length_set, List.length_append, List.length_cons, List.length_nil, List.length_replicate]; omega)) only [go_sem, ↓reduceIte, Int.reduceLE, Int.reduceLT, Int.reduceToNat, Int.reduceNeg, Int.reduceAdd, Int.reduceSub, Int.reduceMul, Int.reduceEq, Int.reduceNe, Nat.reduceEqDiff, Nat.reduceAdd, Nat.reduceSub, Nat.reduceMul, Nat.reduceLT, Nat.reduceLeDiff, Nat.reduceBEq, Nat.reduceBNe, UInt8.reduceToNat, Tryz.results193, h0, h1, h7, h8, hc3, hc1]))
    · exact (fidxI_at hi0 ‹_› ‹_› hp).symm
    · refine ⟨by omega, by omega, ?_, by omega⟩
      rw [take_int 0 hi0 ‹_›]
      grind
  · repeat' (first
      | refine xw_seq ?_
      | refine xw_block ?_
      | (refine ite_two ?_ ?_ <;> intro _ <;> first | (exfalso; omega) | skip)
      | refine ord_split (by kernel_rfl) ?_
      | (refine xw_ret ?_ <;> try simp only [sq, bl, LQ])
      | ((first | refine xw_reg ?_ | refine xw_regd ?_ | refine xw_if ?_ | refine xw_skip ?_ | refine xw_exit ?_ | refine xw_label ?_ | refine post_ret ?_ | refine post_normal ?_ | refine postE_ret ?_ | refine postE_normal ?_ | (((first | refine at_region ?_ | refine at_out ?_ | refine at_cond ?_); split) <;> first | (exfalso; omega; done) | skip)) <;> try simp (config := { maxSteps := 3000000 }) (disch := first | assumption | omega | exact VG.okg (by assumption) | (simp only [List.length_set, List.length_append, List.length_cons, List.length_nil, List.length_replicate]; omega)) only [go_sem, ↓reduceIte, Int.reduceLE, Int.reduceLT, Int.reduceToNat, Int.reduceNeg, Int.reduceAdd, Int.reduceSub, Int.reduceMul, Int.reduceEq, Int.reduceNe, Nat.reduceEqDiff, Nat.reduceAdd, Nat.reduceSub, Nat.reduceMul, Nat.reduceLT, Nat.reduceLeDiff, Nat.reduceBEq, Nat.reduceBNe, UInt8.reduceToNat, Tryz.results193, h0, h1, h7, h8, hc3, hc1]))
    rw [fidxI_none (by rwa [take_all (by omega)] at hp)]
theorem c_containsFuncI {c : IV} {dom : Int → Prop} {p : Int → Bool} (hc : CloI c dom p) (xs : List Int) (hd : ∀ x ∈ xs, dom x) (hl : xs.length ≤ 1048576) : KP 163 [LI xs, .i c] [] = some (B (xs.any p), [], []) := by
  have hx := c_indexFuncI hc xs hd hl
  obtain ⟨hc1, hc2, hc3⟩ := hc
  refine xw_call (fn := Tryz.f163) rfl Tryz.func163 rfl ⟨Nat.le_of_ble_eq_true rfl, rfl, rfl⟩ ?_
  repeat' (first
    | refine xw_seq ?_
    | refine xw_block ?_
    | (refine ite_two ?_ ?_ <;> intro _ <;> first | (exfalso; omega) | skip)
    | refine ord_split (by kernel_rfl) ?_
    | (refine xw_ret ?_ <;> try simp only [sq, bl, LQ])
    | ((first | refine xw_reg ?_ | refine xw_regd ?_ | refine xw_if ?_ | refine xw_skip ?_ | refine xw_exit ?_ | refine xw_label ?_ | refine post_ret ?_ | refine post_normal ?_ | refine postE_ret ?_ | refine postE_normal ?_ | (((first | refine at_region ?_ | refine at_out ?_ | refine at_cond ?_); split) <;> first | (exfalso; omega; done) | skip)) <;> try simp (config := { maxSteps := 3000000 }) (disch := first | assumption | omega | exact VG.okg (by assumption) | (simp only [List.length_set, List.length_append, List.length_cons, List.length_nil, List.length_replicate]; omega)) only [go_sem, ↓reduceIte, Int.reduceLE, Int.reduceLT, Int.reduceToNat, Int.reduceNeg, Int.reduceAdd, Int.reduceSub, Int.reduceMul, Int.reduceEq, Int.reduceNe, Nat.reduceEqDiff, Nat.reduceAdd, Nat.reduceSub, Nat.reduceMul, Nat.reduceLT, Nat.reduceLeDiff, Nat.reduceBEq, Nat.reduceBNe, UInt8.reduceToNat, Tryz.results163, hc1, hc2, hx]))
  exact fidxI_any
/-- A cut node: not all of its neighbors are connected without it. -/
def CutN (es : List (Int × Int)) (v : Int) : Prop := ∃ x ∈ nbS v es, ¬ Conn (alone v es) ((nbS v es).getD 0 0) x
noncomputable instance decCutN (es : List (Int × Int)) (v : Int) : Decidable (CutN es v) := Classical.propDecidable _
theorem OKG.alone {n : Int} {es : List (Int × Int)} (h : OKG n es) (v : Int) : OKG n (alone v es) :=
  ⟨h.n0, h.n1, Nat.le_trans (List.length_filter_le _ _) h.len, fun e he => h.ok e (List.mem_filter.1 he).1⟩
theorem VG.nodup {n : Int} {es : List (Int × Int)} (h : VG n es) : es.Nodup := Ord.nodup h.2.2.2.2
end Go.Proofs.YtdjdgnabcecdlaaGreatDoor.X

/- What functions compute: edges, cutting one. -/
set_option linter.unusedSimpArgs false
set_option linter.unusedVariables false
set_option maxHeartbeats 2000000
namespace Go.Proofs.YtdjdgnabcecdlaaGreatDoor.X
open Go Go.Proofs
@[go_sem] theorem c_isNode (x : Int) : KP 210 [I x] [] = some (B (decide (0 ≤ x ∧ x < 16)), [], []) := by
  refine xw_call (fn := Tryz.f210) rfl Tryz.func210 rfl ⟨Nat.le_of_ble_eq_true rfl, rfl, rfl⟩ ?_
  repeat' (first
    | refine xw_seq ?_
    | refine xw_block ?_
    | (refine ite_two ?_ ?_ <;> intro _ <;> first | (exfalso; omega) | skip)
    | refine ord_split (by kernel_rfl) ?_
    | (refine xw_ret ?_ <;> try simp only [sq, bl, LQ])
    | ((first | refine xw_reg ?_ | refine xw_regd ?_ | refine xw_if ?_ | refine xw_skip ?_ | refine xw_exit ?_ | refine xw_label ?_ | refine post_ret ?_ | refine post_normal ?_ | refine postE_ret ?_ | refine postE_normal ?_ | (((first | refine at_region ?_ | refine at_out ?_ | refine at_cond ?_); split) <;> first | (exfalso; omega; done) | skip)) <;> try simp (config := { maxSteps := 3000000 }) (disch := first | assumption | omega | exact VG.okg (by assumption) | (simp only [List.length_set, List.length_append, List.length_cons, List.length_nil, List.length_replicate]; omega)) only [go_sem, ↓reduceIte, Int.reduceLE, Int.reduceLT, Int.reduceToNat, Int.reduceNeg, Int.reduceAdd, Int.reduceSub, Int.reduceMul, Int.reduceEq, Int.reduceNe, Nat.reduceEqDiff, Nat.reduceAdd, Nat.reduceSub, Nat.reduceMul, Nat.reduceLT, Nat.reduceLeDiff, Nat.reduceBEq, Nat.reduceBNe, UInt8.reduceToNat, Tryz.results210]))
  all_goals grind
/-- Two nodes that an edge can join. -/
def eOk (x y : Int) : Prop := 0 ≤ x ∧ x < 16 ∧ 0 ≤ y ∧ y < 16 ∧ x ≠ y
instance (x y : Int) : Decidable (eOk x y) := by unfold eOk; infer_instance
@[go_sem] theorem c_EdgeOf (x y : Int) : KP 183 [I x, I y] [] = some (if eOk x y then .tup [PE (edgeOf x y).1 (edgeOf x y).2, B true] else .tup [PE 0 0, B false], [], []) := by
  by_cases h : eOk x y
  · rw [if_pos h]
    have h' := h
    unfold eOk at h'
    have e1 : (edgeOf x y).1 = min x y := by unfold edgeOf; split <;> (simp only; omega)
    have e2 : (edgeOf x y).2 = max x y := by unfold edgeOf; split <;> (simp only; omega)
    rw [e1, e2]
    refine xw_call (fn := Tryz.f183) rfl Tryz.func183 rfl ⟨Nat.le_of_ble_eq_true rfl, rfl, rfl⟩ ?_
    repeat' (first
      | refine xw_seq ?_
      | refine xw_block ?_
      | (refine ite_two ?_ ?_ <;> intro _ <;> first | (exfalso; omega) | skip)
      | refine ord_split (by kernel_rfl) ?_
      | (refine xw_ret ?_ <;> try simp only [sq, bl, LQ])
      | ((first | refine xw_reg ?_ | refine xw_regd ?_ | refine xw_if ?_ | refine xw_skip ?_ | refine xw_exit ?_ | refine xw_label ?_ | refine post_ret ?_ | refine post_normal ?_ | refine postE_ret ?_ | refine postE_normal ?_ | (((first | refine at_region ?_ | refine at_out ?_ | refine at_cond ?_); split) <;> first | (exfalso; omega; done) | skip)) <;> try simp (config := { maxSteps := 3000000 }) (disch := first | assumption | omega | exact VG.okg (by assumption) | (simp only [List.length_set, List.length_append, List.length_cons, List.length_nil, List.length_replicate]; omega)) only [go_sem, ↓reduceIte, Int.reduceLE, Int.reduceLT, Int.reduceToNat, Int.reduceNeg, Int.reduceAdd, Int.reduceSub, Int.reduceMul, Int.reduceEq, Int.reduceNe, Nat.reduceEqDiff, Nat.reduceAdd, Nat.reduceSub, Nat.reduceMul, Nat.reduceLT, Nat.reduceLeDiff, Nat.reduceBEq, Nat.reduceBNe, UInt8.reduceToNat, Tryz.results183]))
    all_goals grind
  · rw [if_neg h]
    unfold eOk at h
    refine xw_call (fn := Tryz.f183) rfl Tryz.func183 rfl ⟨Nat.le_of_ble_eq_true rfl, rfl, rfl⟩ ?_
    repeat' (first
      | refine xw_seq ?_
      | refine xw_block ?_
      | (refine ite_two ?_ ?_ <;> intro _ <;> first | (exfalso; omega) | skip)
      | refine ord_split (by kernel_rfl) ?_
      | (refine xw_ret ?_ <;> try simp only [sq, bl, LQ])
      | ((first | refine xw_reg ?_ | refine xw_regd ?_ | refine xw_if ?_ | refine xw_skip ?_ | refine xw_exit ?_ | refine xw_label ?_ | refine post_ret ?_ | refine post_normal ?_ | refine postE_ret ?_ | refine postE_normal ?_ | (((first | refine at_region ?_ | refine at_out ?_ | refine at_cond ?_); split) <;> first | (exfalso; omega; done) | skip)) <;> try simp (config := { maxSteps := 3000000 }) (disch := first | assumption | omega | exact VG.okg (by assumption) | (simp only [List.length_set, List.length_append, List.length_cons, List.length_nil, List.length_replicate]; omega)) only [go_sem, ↓reduceIte, Int.reduceLE, Int.reduceLT, Int.reduceToNat, Int.reduceNeg, Int.reduceAdd, Int.reduceSub, Int.reduceMul, Int.reduceEq, Int.reduceNe, Nat.reduceEqDiff, Nat.reduceAdd, Nat.reduceSub, Nat.reduceMul, Nat.reduceLT, Nat.reduceLeDiff, Nat.reduceBEq, Nat.reduceBNe, UInt8.reduceToNat, Tryz.results183]))
    all_goals grind
/-- Edges without one. -/
def cutE (e0 : Int × Int) (es : List (Int × Int)) : List (Int × Int) := es.filter fun e => decide (e ≠ e0)
theorem cut_del (a b : Int) (es : List (Int × Int)) : (es.filter fun e => !decide (e.1 = a ∧ e.2 = b)) = cutE (a, b) es := by
  unfold cutE
  congr 1
  funext e
  by_cases h : e = (a, b)
  · subst h; simp
  · have : ¬ (e.1 = a ∧ e.2 = b) := fun h' => h (Prod.ext h'.1 h'.2)
    simp [h, this]
theorem cutE_len (e0 : Int × Int) (es : List (Int × Int)) : (cutE e0 es).length ≤ es.length := List.length_filter_le _ _
theorem clo_cut (a b : Int) : Clo (.fn 152 [] [.eptr [.v (.int .i64 a), .v (.int .i64 b)] 0]) (fun _ => True) (fun e => decide (e.1 = a ∧ e.2 = b)) := by
  have h : ∀ x y : Int, KP 152 [PE x y, .i (.eptr [.v (.int .i64 a), .v (.int .i64 b)] 0)] [] = some (B (decide (x = a ∧ y = b)), [], []) := by
    intro x y
    refine xw_call (fn := Tryz.f152) rfl Tryz.func152 rfl ⟨Nat.le_of_ble_eq_true rfl, rfl, rfl⟩ ?_
    repeat' (first
      | refine xw_seq ?_
      | refine xw_block ?_
      | (refine ite_two ?_ ?_ <;> intro _ <;> first | (exfalso; omega) | skip)
      | refine ord_split (by kernel_rfl) ?_
      | (refine xw_ret ?_ <;> try simp only [sq, bl, LQ])
      | ((first | refine xw_reg ?_ | refine xw_regd ?_ | refine xw_if ?_ | refine xw_skip ?_ | refine xw_exit ?_ | refine xw_label ?_ | refine post_ret ?_ | refine post_normal ?_ | refine postE_ret ?_ | refine postE_normal ?_ | (((first | refine at_region ?_ | refine at_out ?_ | refine at_cond ?_); split) <;> first | (exfalso; omega; done) | skip)) <;> try simp (config := { maxSteps := 3000000 }) (disch := first | assumption | omega | exact VG.okg (by assumption) | (simp only [List.length_set, List.length_append, List.length_cons, List.length_nil, List.length_replicate]; omega)) only [go_sem, ↓reduceIte, Int.reduceLE, Int.reduceLT, Int.reduceToNat, Int.reduceNeg, Int.reduceAdd, Int.reduceSub, Int.reduceMul, Int.reduceEq, Int.reduceNe, Nat.reduceEqDiff, Nat.reduceAdd, Nat.reduceSub, Nat.reduceMul, Nat.reduceLT, Nat.reduceLeDiff, Nat.reduceBEq, Nat.reduceBNe, UInt8.reduceToNat, Tryz.results152]))
  refine ⟨fun n => by cases n <;> rfl, rfl, fun me d x y _ => ?_⟩
  simp only [go_sem, ↓reduceIte, Int.reduceLE, Int.reduceLT, Int.reduceToNat, Int.reduceNeg, Int.reduceAdd, Int.reduceSub, Int.reduceMul, Int.reduceEq, Int.reduceNe, Nat.reduceEqDiff, Nat.reduceAdd, Nat.reduceSub, Nat.reduceMul, Nat.reduceLT, Nat.reduceLeDiff, Nat.reduceBEq, Nat.reduceBNe, UInt8.reduceToNat, h, ite_self]
@[go_sem] theorem c_cut (n a b : Int) (es : List (Int × Int)) (hl : es.length ≤ 1048576) : KP 90 [GL n es, PE a b] [] = some (.agg [I n, .i (delE (fun e => decide (e.1 = a ∧ e.2 = b)) es)], [], []) := by
  have hw := c_without (clo_cut a b) n es (fun _ _ => trivial) hl
  refine xw_call (fn := Tryz.f90) rfl Tryz.func90 rfl ⟨Nat.le_of_ble_eq_true rfl, rfl, rfl⟩ ?_
  repeat' (first
    | refine xw_seq ?_
    | refine xw_block ?_
    | (refine ite_two ?_ ?_ <;> intro _ <;> first | (exfalso; omega) | skip)
    | refine ord_split (by kernel_rfl) ?_
    | (refine xw_ret ?_ <;> try simp only [sq, bl, LQ])
    | ((first | refine xw_reg ?_ | refine xw_regd ?_ | refine xw_if ?_ | refine xw_skip ?_ | refine xw_exit ?_ | refine xw_label ?_ | refine post_ret ?_ | refine post_normal ?_ | refine postE_ret ?_ | refine postE_normal ?_ | (((first | refine at_region ?_ | refine at_out ?_ | refine at_cond ?_); split) <;> first | (exfalso; omega; done) | skip)) <;> try simp (config := { maxSteps := 3000000 }) (disch := first | assumption | omega | exact VG.okg (by assumption) | (simp only [List.length_set, List.length_append, List.length_cons, List.length_nil, List.length_replicate]; omega)) only [go_sem, ↓reduceIte, Int.reduceLE, Int.reduceLT, Int.reduceToNat, Int.reduceNeg, Int.reduceAdd, Int.reduceSub, Int.reduceMul, Int.reduceEq, Int.reduceNe, Nat.reduceEqDiff, Nat.reduceAdd, Nat.reduceSub, Nat.reduceMul, Nat.reduceLT, Nat.reduceLeDiff, Nat.reduceBEq, Nat.reduceBNe, UInt8.reduceToNat, Tryz.results90, hw]))
@[go_sem] theorem c_CutEdge (n a b : Int) (es : List (Int × Int)) (hl : es.length ≤ 1048576) : KP 28 [GL n es, PE a b] [] =
    some (if VG n es ∧ (a, b) ∈ es then .tup [.agg [I n, .i (delE (fun e => decide (e.1 = a ∧ e.2 = b)) es)], B true] else .tup [.agg [I 0, .i .emp], B false], [], []) := by
  refine xw_call (fn := Tryz.f28) rfl Tryz.func28 rfl ⟨Nat.le_of_ble_eq_true rfl, rfl, rfl⟩ ?_
  repeat' (first
    | refine xw_seq ?_
    | refine xw_block ?_
    | (refine ite_two ?_ ?_ <;> intro _ <;> first | (exfalso; omega) | skip)
    | refine ord_split (by kernel_rfl) ?_
    | (refine xw_ret ?_ <;> try simp only [sq, bl, LQ])
    | ((first | refine xw_reg ?_ | refine xw_regd ?_ | refine xw_if ?_ | refine xw_skip ?_ | refine xw_exit ?_ | refine xw_label ?_ | refine post_ret ?_ | refine post_normal ?_ | refine postE_ret ?_ | refine postE_normal ?_ | (((first | refine at_region ?_ | refine at_out ?_ | refine at_cond ?_); split) <;> first | (exfalso; omega; done) | skip)) <;> try simp (config := { maxSteps := 3000000 }) (disch := first | assumption | omega | exact VG.okg (by assumption) | (simp only [List.length_set, List.length_append, List.length_cons, List.length_nil, List.length_replicate]; omega)) only [go_sem, ↓reduceIte, Int.reduceLE, Int.reduceLT, Int.reduceToNat, Int.reduceNeg, Int.reduceAdd, Int.reduceSub, Int.reduceMul, Int.reduceEq, Int.reduceNe, Nat.reduceEqDiff, Nat.reduceAdd, Nat.reduceSub, Nat.reduceMul, Nat.reduceLT, Nat.reduceLeDiff, Nat.reduceBEq, Nat.reduceBNe, UInt8.reduceToNat, Tryz.results28]))
@[go_sem] theorem c_l1Without (a b : Int) (es : List (Int × Int)) (hl : es.length ≤ 1048576) : KP 91 [LE es, PE a b] [] = some (.ref 2000 0 0 (cutE (a, b) es).length, [], [.arr 0 2 ((cutE (a, b) es).map encE)]) := by
  refine xw_call (fn := Tryz.f91) rfl Tryz.func91 rfl ⟨Nat.le_of_ble_eq_true rfl, rfl, rfl⟩ ?_
  repeat' (first
    | refine xw_seq ?_
    | refine xw_block ?_
    | (refine ite_two ?_ ?_ <;> intro _ <;> first | (exfalso; omega) | skip)
    | refine ord_split (by kernel_rfl) ?_
    | (refine xw_ret ?_ <;> try simp only [sq, bl, LQ])
    | ((first | refine xw_reg ?_ | refine xw_regd ?_ | refine xw_if ?_ | refine xw_skip ?_ | refine xw_exit ?_ | refine xw_label ?_ | refine post_ret ?_ | refine post_normal ?_ | refine postE_ret ?_ | refine postE_normal ?_ | (((first | refine at_region ?_ | refine at_out ?_ | refine at_cond ?_); split) <;> first | (exfalso; omega; done) | skip)) <;> try simp (config := { maxSteps := 3000000 }) (disch := first | assumption | omega | exact VG.okg (by assumption) | (simp only [List.length_set, List.length_append, List.length_cons, List.length_nil, List.length_replicate]; omega)) only [go_sem, ↓reduceIte, Int.reduceLE, Int.reduceLT, Int.reduceToNat, Int.reduceNeg, Int.reduceAdd, Int.reduceSub, Int.reduceMul, Int.reduceEq, Int.reduceNe, Nat.reduceEqDiff, Nat.reduceAdd, Nat.reduceSub, Nat.reduceMul, Nat.reduceLT, Nat.reduceLeDiff, Nat.reduceBEq, Nat.reduceBNe, UInt8.reduceToNat, Tryz.results91]))
  refine xw_loopR (fun (x : Int × Nat × List (Int × Int)) s => s.m 7 = some (.arr x.2.1 2 (x.2.2.map encE)) ∧ s.ρ 5 = .ref 7 x.2.1 0 x.2.2.length ∧ s.ρ 6 = I x.1 ∧ s.ρ 0 = LE es ∧ s.ρ 3 = .ptr 3 0 0 0 ∧ s.m 3 = some (.box 0 [I a, I b]) ∧
    0 ≤ x.1 ∧ x.1 ≤ es.length ∧ (x.2.2.length : Int) ≤ x.1 ∧ x.2.2 = cutE (a, b) (es.take x.1.toNat)) (fun x => (es.length - x.1).toNat) (0, 0, []) (by simp [upd, cutE]) ?_
  rintro ⟨i, w, xs⟩ ⟨ρ, m⟩ ⟨m7, h5, h6, h0, h3, m3, g0, g1, g2, g3⟩
  simp only at m7 h5 h6 h0 h3 m3 g0 g1 g2 g3
  repeat' (first
    | refine xw_seq ?_
    | refine xw_block ?_
    | (refine ite_two ?_ ?_ <;> intro _ <;> first | (exfalso; omega) | skip)
    | refine ord_split (by kernel_rfl) ?_
    | (refine xw_ret ?_ <;> try simp only [sq, bl, LQ])
    | ((first | refine xw_reg ?_ | refine xw_regd ?_ | refine xw_if ?_ | refine xw_skip ?_ | refine xw_exit ?_ | refine xw_label ?_ | refine post_ret ?_ | refine post_normal ?_ | refine postE_ret ?_ | refine postE_normal ?_ | (((first | refine at_region ?_ | refine at_out ?_ | refine at_cond ?_); split) <;> first | (exfalso; omega; done) | skip)) <;> try simp (config := { maxSteps := 3000000 }) (disch := first | assumption | omega | exact VG.okg (by assumption) | (simp only [List.length_set, List.length_append, List.length_cons, List.length_nil, List.length_replicate]; omega)) only [go_sem, ↓reduceIte, Int.reduceLE, Int.reduceLT, Int.reduceToNat, Int.reduceNeg, Int.reduceAdd, Int.reduceSub, Int.reduceMul, Int.reduceEq, Int.reduceNe, Nat.reduceEqDiff, Nat.reduceAdd, Nat.reduceSub, Nat.reduceMul, Nat.reduceLT, Nat.reduceLeDiff, Nat.reduceBEq, Nat.reduceBNe, UInt8.reduceToNat, Tryz.results91, m7, h5, h6, h0, h3, m3]))
  all_goals first
    | (refine ⟨by omega, by omega, by omega, ?_, by omega⟩
       rw [take_int (0, 0) g0 (by assumption), cutE, List.filter_append]
       rw [cutE] at g3
       rw [← g3]
       generalize es.getD i.toNat (0, 0) = e at *
       have : e = (a, b) ↔ e.1 = a ∧ e.2 = b := Prod.ext_iff
       grind)
    | (rw [take_all (by omega)] at g3
       rw [← g3]
       exact ⟨rfl, rfl⟩)
@[go_sem] theorem c_sCutEdge (n a b : Int) (es : List (Int × Int)) (hl : es.length ≤ 1048576) : KP 29 [GL n es, PE a b] [] =
    some (if VG n es ∧ (a, b) ∈ es then .tup [GL n (cutE (a, b) es), B true] else .tup [.agg [I 0, .i .emp], B false], [], []) := by
  have hf := @findE_pos es (a, b)
  refine xw_call (fn := Tryz.f29) rfl Tryz.func29 rfl ⟨Nat.le_of_ble_eq_true rfl, rfl, rfl⟩ ?_
  repeat' (first
    | refine xw_seq ?_
    | refine xw_block ?_
    | (refine ite_two ?_ ?_ <;> intro _ <;> first | (exfalso; omega) | skip)
    | refine ord_split (by kernel_rfl) ?_
    | (refine xw_ret ?_ <;> try simp only [sq, bl, LQ])
    | ((first | refine xw_reg ?_ | refine xw_regd ?_ | refine xw_if ?_ | refine xw_skip ?_ | refine xw_exit ?_ | refine xw_label ?_ | refine post_ret ?_ | refine post_normal ?_ | refine postE_ret ?_ | refine postE_normal ?_ | (((first | refine at_region ?_ | refine at_out ?_ | refine at_cond ?_); split) <;> first | (exfalso; omega; done) | skip)) <;> try simp (config := { maxSteps := 3000000 }) (disch := first | assumption | omega | exact VG.okg (by assumption) | (simp only [List.length_set, List.length_append, List.length_cons, List.length_nil, List.length_replicate]; omega)) only [go_sem, ↓reduceIte, Int.reduceLE, Int.reduceLT, Int.reduceToNat, Int.reduceNeg, Int.reduceAdd, Int.reduceSub, Int.reduceMul, Int.reduceEq, Int.reduceNe, Nat.reduceEqDiff, Nat.reduceAdd, Nat.reduceSub, Nat.reduceMul, Nat.reduceLT, Nat.reduceLeDiff, Nat.reduceBEq, Nat.reduceBNe, UInt8.reduceToNat, Tryz.results29]))
  all_goals grind
end Go.Proofs.YtdjdgnabcecdlaaGreatDoor.X
