/- What functions answer, and the plain laws behind it. -/
import Derived.Test.YtdjdgnabcecdlaaGreatDoorKAE
/- What functions compute: neighbors node by node, cut nodes. -/
set_option linter.unusedSimpArgs false
set_option linter.unusedVariables false
set_option maxHeartbeats 2000000
namespace Go.Proofs.YtdjdgnabcecdlaaGreatDoor.X
open Go Go.Proofs
theorem c_l1Next (n v : Int) (es : List (Int × Int)) (h : OKG n es) (hn : es.Nodup) : KP 158 [GL n es, I v] [] = some (.ref 2000 0 0 (nbS v es).length, [], [.arr 0 1 ((nbS v es).map encI)]) := by
  obtain ⟨n0, n1, hl, ho⟩ := h
  rw [← next_eq ho hn v]
  refine xw_call (fn := Tryz.f158) rfl Tryz.func158 rfl ⟨Nat.le_of_ble_eq_true rfl, rfl, rfl⟩ ?_
  repeat' (first
    | refine xw_seq ?_
    | refine xw_block ?_
    | (refine ite_two ?_ ?_ <;> intro _ <;> first | (exfalso; omega) | skip)
    | refine ord_split (by kernel_rfl) ?_
    | (refine xw_ret ?_ <;> try simp only [sq, bl, LQ])
    | ((first | refine xw_reg ?_ | refine xw_regd ?_ | refine xw_if ?_ | refine xw_skip ?_ | refine xw_exit ?_ | refine xw_label ?_ | refine post_ret ?_ | refine post_normal ?_ | refine postE_ret ?_ | refine postE_normal ?_ | (((first | refine at_region ?_ | refine at_out ?_ | refine at_cond ?_); split) <;> first | (exfalso; omega; done) | skip)) <;> try simp (config := { maxSteps := 3000000 }) (disch := first | assumption | omega | exact VG.okg (by assumption) | (simp only [List.length_set, List.length_append, List.length_cons, List.length_nil, List.length_replicate]; omega)) only [go_sem, ↓reduceIte, Int.reduceLE, Int.reduceLT, Int.reduceToNat, Int.reduceNeg, Int.reduceAdd, Int.reduceSub, Int.reduceMul, Int.reduceEq, Int.reduceNe, Nat.reduceEqDiff, Nat.reduceAdd, Nat.reduceSub, Nat.reduceMul, Nat.reduceLT, Nat.reduceLeDiff, Nat.reduceBEq, Nat.reduceBNe, UInt8.reduceToNat, Tryz.results158]))
  refine xw_loopR (fun (x : Int × Nat × List Int) s => s.m 7 = some (.arr x.2.1 1 (x.2.2.map encI)) ∧ s.ρ 5 = .ref 7 x.2.1 0 x.2.2.length ∧ s.ρ 6 = I x.1 ∧ s.ρ 1 = I v ∧ s.ρ 2 = .ptr 2 0 0 0 ∧ s.m 2 = some (.box 0 [I n, LE es]) ∧
    0 ≤ x.1 ∧ x.1 ≤ n ∧ (x.2.2.length : Int) ≤ x.1 ∧ x.2.2 = (iota x.1).filter fun y => decide (y ≠ v ∧ edgeOf y v ∈ es)) (fun x => (n - x.1).toNat) (0, 0, []) (by simp [upd, iota, n0]) ?_
  rintro ⟨i, w, xs⟩ ⟨ρ, m⟩ ⟨m7, h5, h6, h1, h2, m2, g0, g1, g2, g3⟩
  simp only at m7 h5 h6 h1 h2 m2 g0 g1 g2 g3
  have hf := @findE_pos es (edgeOf i v)
  repeat' (first
    | refine xw_seq ?_
    | refine xw_block ?_
    | (refine ite_two ?_ ?_ <;> intro _ <;> first | (exfalso; omega) | skip)
    | refine ord_split (by kernel_rfl) ?_
    | (refine xw_ret ?_ <;> try simp only [sq, bl, LQ])
    | ((first | refine xw_reg ?_ | refine xw_regd ?_ | refine xw_if ?_ | refine xw_skip ?_ | refine xw_exit ?_ | refine xw_label ?_ | refine post_ret ?_ | refine post_normal ?_ | refine postE_ret ?_ | refine postE_normal ?_ | (((first | refine at_region ?_ | refine at_out ?_ | refine at_cond ?_); split) <;> first | (exfalso; omega; done) | skip)) <;> try simp (config := { maxSteps := 3000000 }) (disch := first | assumption | omega | exact VG.okg (by assumption) | (simp only [List.length_set, List.length_append, List.length_cons, List.length_nil, List.length_replicate]; omega)) only [go_sem, ↓reduceIte, Int.reduceLE, Int.reduceLT, Int.reduceToNat, Int.reduceNeg, Int.reduceAdd, Int.reduceSub, Int.reduceMul, Int.reduceEq, Int.reduceNe, Nat.reduceEqDiff, Nat.reduceAdd, Nat.reduceSub, Nat.reduceMul, Nat.reduceLT, Nat.reduceLeDiff, Nat.reduceBEq, Nat.reduceBNe, UInt8.reduceToNat, Tryz.results158, m7, h5, h6, h1, h2, m2]))
  all_goals first
    | (refine ⟨by omega, by omega, by omega, ?_, by omega⟩; rw [iota_snoc g0, List.filter_append, ← g3]; grind)
    | (have : i = n := by omega
       subst this
       rw [← g3]
       exact ⟨rfl, rfl⟩)
/-- A function value that tells something of a number. -/
structure CloI (c : IV) (dom : Int → Prop) (p : Int → Bool) : Prop where
  frz : ∀ n, X.frz n (.i c) = .ret c
  flat : c.flat = true
  call : ∀ me d x, dom x → dynP cfg (KK Tryz.prog cfg) me (some d) (.i c) [I x] = .ret (B (p x), [])
def fidxI (p : Int → Bool) (xs : List Int) : Int := if xs.findIdx p < xs.length then (xs.findIdx p : Int) else -1
theorem fidxI_at {p : Int → Bool} {xs : List Int} {i : Int} (h0 : 0 ≤ i) (h : i < xs.length) (hp : p (xs.getD i.toNat 0) = true) (hn : ∀ e ∈ xs.take i.toNat, p e = false) : fidxI p xs = i := by
  have hi : i.toNat < xs.length := by omega
  have : xs.findIdx p = i.toNat := by
    rw [List.findIdx_eq hi]
    refine ⟨by simpa [hi] using hp, fun j hj => hn _ ?_⟩
    rw [List.mem_take_iff_getElem]
    exact ⟨j, by omega, rfl⟩
  unfold fidxI
  rw [this, if_pos hi]; omega
theorem fidxI_none {p : Int → Bool} {xs : List Int} (hn : ∀ e ∈ xs, p e = false) : fidxI p xs = -1 := by
  have : xs.findIdx p = xs.length := List.findIdx_eq_length.2 hn
  unfold fidxI
  rw [this, if_neg (by omega)]
theorem fidxI_any {p : Int → Bool} {xs : List Int} : decide (0 ≤ fidxI p xs) = xs.any p := by
  cases h : xs.any p with
  | true =>
    obtain ⟨x, hx, hp⟩ := List.any_eq_true.1 h
    have : xs.findIdx p < xs.length := List.findIdx_lt_length_of_exists ⟨x, hx, hp⟩
    unfold fidxI
    rw [if_pos this]; simp
  | false =>
    rw [fidxI_none fun e he => by simpa using List.any_eq_false.1 h e he]; rfl
theorem c_indexFuncI {c : IV} {dom : Int → Prop} {p : Int → Bool} (hc : CloI c dom p) (xs : List Int) (hd : ∀ x ∈ xs, dom x) (hl : xs.length ≤ 1048576) : KP 193 [LI xs, .i c] [] = some (I (fidxI p xs), [], []) := by
  obtain ⟨hc1, hc2, hc3⟩ := hc
  refine xw_call (fn := Tryz.f193) rfl Tryz.func193 rfl ⟨Nat.le_of_ble_eq_true rfl, rfl, rfl⟩ ?_
  repeat' (first
    | refine xw_seq ?_
    | refine xw_block ?_
    | (refine ite_two ?_ ?_ <;> intro _ <;> first | (exfalso; omega) | skip)
    | refine ord_split (by kernel_rfl) ?_
    | (refine xw_ret ?_ <;> try simp only [sq, bl, LQ])
    | ((first | refine xw_reg ?_ | refine xw_regd ?_ | refine xw_if ?_ | refine xw_skip ?_ | refine xw_exit ?_ | refine xw_label ?_ | refine post_ret ?_ | refine post_normal ?_ | refine postE_ret ?_ | refine postE_normal ?_ | (((first | refine at_region ?_ | refine at_out ?_ | refine at_cond ?_); split) <;> first | (exfalso; omega; done) | skip)) <;> try simp (config := { maxSteps := 3000000 }) (disch := first | assumption | omega | exact VG.okg (by assumption) | (simp only [List.length_set, List.length_append, List.length_cons, List.length_nil, List.length_replicate]; omega)) only [go_sem, ↓reduceIte, Int.reduceLE, Int.reduceLT, Int.reduceToNat, Int.reduceNeg, Int.reduceAdd, Int.reduceSub, Int.reduceMul, Int.reduceEq, Int.reduceNe, Nat.reduceEqDiff, Nat.reduceAdd, Nat.reduceSub, Nat.reduceMul, Nat.reduceLT, Nat.reduceLeDiff, Nat.reduceBEq, Nat.reduceBNe, UInt8.reduceToNat, Tryz.results193]))
  refine xw_loopR (fun (i : Int) s => s.ρ 0 = LI xs ∧ s.ρ 1 = .i c ∧ s.ρ 7 = I xs.length ∧ s.ρ 8 = I i ∧ 0 ≤ i ∧ i ≤ xs.length ∧ ∀ e ∈ xs.take i.toNat, p e = false) (fun i => (xs.length - i).toNat) 0 (by simp [upd]) ?_
  rintro i ⟨ρ, m⟩ ⟨h0, h1, h7, h8, hi0, hi, hp⟩
  simp only at h0 h1 h7 h8
  by_cases hj : i < xs.length
  · have hm : dom (xs.getD i.toNat 0) := hd _ (getD_mem (by omega))
    repeat' (first
      | refine xw_seq ?_
      | refine xw_block ?_
      | (refine ite_two ?_ ?_ <;> intro _ <;> first | (exfalso; omega) | skip)
      | refine ord_split (by kernel_rfl) ?_
      | (refine xw_ret ?_ <;> try simp only [sq, bl, LQ])
      | ((first | refine xw_reg ?_ | refine xw_regd ?_ | refine xw_if ?_ | refine xw_skip ?_ | refine xw_exit ?_ | refine xw_label ?_ | refine post_ret ?_ | refine post_normal ?_ | refine postE_ret ?_ | refine postE_normal ?_ | (((first | refine at_region ?_ | refine at_out ?_ | refine at_cond ?_); split) <;> first | (exfalso; omega; done) | skip)) <;> try simp (config := { maxSteps := 3000000 }) (disch := first | assumption | omega | exact VG.okg (by assumption) | (simp only [List.length_set, List.length_append, List.length_cons, List.length_nil, List.length_replicate]; omega)) only [go_sem, ↓reduceIte, Int.reduceLE, Int.reduceLT, Int.reduceToNat, Int.reduceNeg, Int.reduceAdd, Int.reduceSub, Int.reduceMul, Int.reduceEq, Int.reduceNe, Nat.reduceEqDiff, Nat.reduceAdd, Nat.reduceSub, Nat.reduceMul, Nat.reduceLT, Nat.reduceLeDiff, Nat.reduceBEq, Nat.reduceBNe, UInt8.reduceToNat, Tryz.results193, h0, h1, h7, h8, hc3, hc1]))
    · exact (fidxI_at hi0 ‹_› ‹_› hp).symm
    · refine ⟨by omega, by omega, ?_, by omega⟩
      rw [take_int 0 hi0 ‹_›]
      grind
  · repeat' (first
      | refine xw_seq ?_
      | refine xw_block ?_
      | (refine ite_two ?_ ?_ <;> intro _ <;> first | (exfalso; omega) | skip)
      | refine ord_split (by kernel_rfl) ?_
      | (refine xw_ret ?_ <;> try simp only [sq, bl, LQ])
      | ((first | refine xw_reg ?_ | refine xw_regd ?_ | refine xw_if ?_ | refine xw_skip ?_ | refine xw_exit ?_ | refine xw_label ?_ | refine post_ret ?_ | refine post_normal ?_ | refine postE_ret ?_ | refine postE_normal ?_ | (((first | refine at_region ?_ | refine at_out ?_ | refine at_cond ?_); split) <;> first | (exfalso; omega; done) | skip)) <;> try simp (config := { maxSteps := 3000000 }) (disch := first | assumption | omega | exact VG.okg (by assumption) | (simp only [List.length_set, List.length_append, List.length_cons, List.length_nil, List.length_replicate]; omega)) only [go_sem, ↓reduceIte, Int.reduceLE, Int.reduceLT, Int.reduceToNat, Int.reduceNeg, Int.reduceAdd, Int.reduceSub, Int.reduceMul, Int.reduceEq, Int.reduceNe, Nat.reduceEqDiff, Nat.reduceAdd, Nat.reduceSub, Nat.reduceMul, Nat.reduceLT, Nat.reduceLeDiff, Nat.reduceBEq, Nat.reduceBNe, UInt8.reduceToNat, Tryz.results193, h0, h1, h7, h8, hc3, hc1]))
    rw [fidxI_none (by rwa [take_all (by omega)] at hp)]
theorem c_containsFuncI {c : IV} {dom : Int → Prop} {p : Int → Bool} (hc : CloI c dom p) (xs : List Int) (hd : ∀ x ∈ xs, dom x) (hl : xs.length ≤ 1048576) : KP 163 [LI xs, .i c] [] = some (B (xs.any p), [], []) := by
  have hx := c_indexFuncI hc xs hd hl
  obtain ⟨hc1, hc2, hc3⟩ := hc
  refine xw_call (fn := Tryz.f163) rfl Tryz.func163 rfl ⟨Nat.le_of_ble_eq_true rfl, rfl, rfl⟩ ?_
  repeat' (first
    | refine xw_seq ?_
    | refine xw_block ?_
    | (refine ite_two ?_ ?_ <;> intro _ <;> first | (exfalso; omega) | skip)
    | refine ord_split (by kernel_rfl) ?_
    | (refine xw_ret ?_ <;> try simp only [sq, bl, LQ])
    | ((first | refine xw_reg ?_ | refine xw_regd ?_ | refine xw_if ?_ | refine xw_skip ?_ | refine xw_exit ?_ | refine xw_label ?_ | refine post_ret ?_ | refine post_normal ?_ | refine postE_ret ?_ | refine postE_normal ?_ | (((first | refine at_region ?_ | refine at_out ?_ | refine at_cond ?_); split) <;> first | (exfalso; omega; done) | skip)) <;> try simp (config := { maxSteps := 3000000 }) (disch := first | assumption | omega | exact VG.okg (by assumption) | (simp only [List.length_set, List.length_append, List.length_cons, List.length_nil, List.length_replicate]; omega)) only [go_sem, ↓reduceIte, Int.reduceLE, Int.reduceLT, Int.reduceToNat, Int.reduceNeg, Int.reduceAdd, Int.reduceSub, Int.reduceMul, Int.reduceEq, Int.reduceNe, Nat.reduceEqDiff, Nat.reduceAdd, Nat.reduceSub, Nat.reduceMul, Nat.reduceLT, Nat.reduceLeDiff, Nat.reduceBEq, Nat.reduceBNe, UInt8.reduceToNat, Tryz.results163, hc1, hc2, hx]))
  exact fidxI_any
/-- A cut node: not all of its neighbors are connected without it. -/
def CutN (es : List (Int × Int)) (v : Int) : Prop := ∃ x ∈ nbS v es, ¬ Conn (alone v es) ((nbS v es).getD 0 0) x
noncomputable instance decCutN (es : List (Int × Int)) (v : Int) : Decidable (CutN es v) := Classical.propDecidable _
theorem OKG.alone {n : Int} {es : List (Int × Int)} (h : OKG n es) (v : Int) : OKG n (alone v es) :=
  ⟨h.n0, h.n1, Nat.le_trans (List.length_filter_le _ _) h.len, fun e he => h.ok e (List.mem_filter.1 he).1⟩
theorem clo_isCutNode (P Q : List Int) (hP : P.length ≤ 1048576) (hQ : Q.length ≤ 1048576) (h0 : ∀ x ∈ Q, 0 ≤ x ∧ x < P.length) : CloI (.fn 164 [] [.eptr [.lst (P.map encI)] 0, .eptr [.lst (Q.map encI)] 0]) (· ∈ Q) (fun x => !decide (P.getD x.toNat 0 = P.getD (Q.getD 0 0).toNat 0)) := by
  have h : ∀ x : Int, x ∈ Q → KP 164 [I x, .i (.eptr [.lst (P.map encI)] 0), .i (.eptr [.lst (Q.map encI)] 0)] [] = some (B (!decide (P.getD x.toNat 0 = P.getD (Q.getD 0 0).toNat 0)), [], []) := by
    intro x hx
    have h1 := h0 x hx
    have hQ0 : 0 < Q.length := List.length_pos_of_mem hx
    have h2 := h0 _ (getD_mem (d := 0) hQ0)
    refine xw_call (fn := Tryz.f164) rfl Tryz.func164 rfl ⟨Nat.le_of_ble_eq_true rfl, rfl, rfl⟩ ?_
    repeat' (first
      | refine xw_seq ?_
      | refine xw_block ?_
      | (refine ite_two ?_ ?_ <;> intro _ <;> first | (exfalso; omega) | skip)
      | refine ord_split (by kernel_rfl) ?_
      | (refine xw_ret ?_ <;> try simp only [sq, bl, LQ])
      | ((first | refine xw_reg ?_ | refine xw_regd ?_ | refine xw_if ?_ | refine xw_skip ?_ | refine xw_exit ?_ | refine xw_label ?_ | refine post_ret ?_ | refine post_normal ?_ | refine postE_ret ?_ | refine postE_normal ?_ | (((first | refine at_region ?_ | refine at_out ?_ | refine at_cond ?_); split) <;> first | (exfalso; omega; done) | skip)) <;> try simp (config := { maxSteps := 3000000 }) (disch := first | assumption | omega | exact VG.okg (by assumption) | (simp only [List.length_set, List.length_append, List.length_cons, List.length_nil, List.length_replicate]; omega)) only [go_sem, ↓reduceIte, Int.reduceLE, Int.reduceLT, Int.reduceToNat, Int.reduceNeg, Int.reduceAdd, Int.reduceSub, Int.reduceMul, Int.reduceEq, Int.reduceNe, Nat.reduceEqDiff, Nat.reduceAdd, Nat.reduceSub, Nat.reduceMul, Nat.reduceLT, Nat.reduceLeDiff, Nat.reduceBEq, Nat.reduceBNe, UInt8.reduceToNat, Tryz.results164]))
  refine ⟨fun n => by cases n <;> rfl, rfl, fun me d x hx => ?_⟩
  have hx' := h x hx
  simp only [go_sem, ↓reduceIte, Int.reduceLE, Int.reduceLT, Int.reduceToNat, Int.reduceNeg, Int.reduceAdd, Int.reduceSub, Int.reduceMul, Int.reduceEq, Int.reduceNe, Nat.reduceEqDiff, Nat.reduceAdd, Nat.reduceSub, Nat.reduceMul, Nat.reduceLT, Nat.reduceLeDiff, Nat.reduceBEq, Nat.reduceBNe, UInt8.reduceToNat, hx', ite_self]
theorem c_isCutNode (n v : Int) (es : List (Int × Int)) (h : VG n es) (hv : 0 ≤ v ∧ v < n) : KP 118 [GL n es, I v] [] = some (B (decide (CutN es v)), [], []) := by
  have hal : (alone v es).length ≤ 40 := Nat.le_trans (List.length_filter_le _ _) h.okg.len
  have hl := h.okg.len
  have hlab := lab_length n (alone v es)
  have hnb : (nbS v es).length ≤ 1048576 := by have := alone_length v es; omega
  have hok := h.okg.alone v
  have hcut := c_cutNode n v es (by omega)
  have hpar := c_parts n (alone v es) hok
  have hnei := c_neighbors n v es (by omega)
  have hnb2 : ∀ x ∈ nbS v es, 0 ≤ x ∧ x < (lab n (alone v es)).length := fun x hx => by
    have := ((mem_nbS h.okg.ok).1 hx).ok h.okg.ok
    omega
  have hcf := c_containsFuncI (clo_isCutNode (lab n (alone v es)) (nbS v es) (by have := h.2.1; omega) hnb hnb2) (nbS v es) (fun _ h => h) hnb
  refine xw_call (fn := Tryz.f118) rfl Tryz.func118 rfl ⟨Nat.le_of_ble_eq_true rfl, rfl, rfl⟩ ?_
  repeat' (first
    | refine xw_seq ?_
    | refine xw_block ?_
    | (refine ite_two ?_ ?_ <;> intro _ <;> first | (exfalso; omega) | skip)
    | refine ord_split (by kernel_rfl) ?_
    | (refine xw_ret ?_ <;> try simp only [sq, bl, LQ])
    | ((first | refine xw_reg ?_ | refine xw_regd ?_ | refine xw_if ?_ | refine xw_skip ?_ | refine xw_exit ?_ | refine xw_label ?_ | refine post_ret ?_ | refine post_normal ?_ | refine postE_ret ?_ | refine postE_normal ?_ | (((first | refine at_region ?_ | refine at_out ?_ | refine at_cond ?_); split) <;> first | (exfalso; omega; done) | skip)) <;> try simp (config := { maxSteps := 3000000 }) (disch := first | assumption | omega | exact VG.okg (by assumption) | (simp only [List.length_set, List.length_append, List.length_cons, List.length_nil, List.length_replicate]; omega)) only [go_sem, ↓reduceIte, Int.reduceLE, Int.reduceLT, Int.reduceToNat, Int.reduceNeg, Int.reduceAdd, Int.reduceSub, Int.reduceMul, Int.reduceEq, Int.reduceNe, Nat.reduceEqDiff, Nat.reduceAdd, Nat.reduceSub, Nat.reduceMul, Nat.reduceLT, Nat.reduceLeDiff, Nat.reduceBEq, Nat.reduceBNe, UInt8.reduceToNat, Tryz.results118, hcut, hpar, hnei, alone_del, hcf]))
  rw [Bool.eq_iff_iff, List.any_eq_true, decide_eq_true_eq]
  unfold CutN
  refine exists_congr fun x => and_congr_right fun hx => ?_
  have h1 := hnb2 x hx
  have h2 := hnb2 _ (getD_mem (d := 0) (List.length_pos_of_mem hx))
  rw [hlab] at h1 h2
  rw [Bool.not_eq_true', decide_eq_false_iff_not, lab_iff (by omega) (by omega)]
  exact not_congr ⟨Conn.symm, Conn.symm⟩
theorem VG.nodup {n : Int} {es : List (Int × Int)} (h : VG n es) : es.Nodup := Ord.nodup h.2.2.2.2
theorem c_l4Cut (n v : Int) (es : List (Int × Int)) (h : VG n es) (hv : 0 ≤ v ∧ v < n) : KP 120 [GL n es, I v] [] = some (B (decide (CutN es v)), [], []) := by
  have hl := h.okg.len
  have hok := h.okg.alone v
  have hal := hok.len
  have hnb : (nbS v es).length ≤ 1048576 := by have := alone_length v es; omega
  have hnx := c_l1Next n v es h.okg h.nodup
  have hnb2 : ∀ x ∈ nbS v es, 0 ≤ x ∧ x < n := fun x hx => by
    have := ((mem_nbS h.okg.ok).1 hx).ok h.okg.ok
    omega
  refine xw_call (fn := Tryz.f120) rfl Tryz.func120 rfl ⟨Nat.le_of_ble_eq_true rfl, rfl, rfl⟩ ?_
  repeat' (first
    | refine xw_seq ?_
    | refine xw_block ?_
    | (refine ite_two ?_ ?_ <;> intro _ <;> first | (exfalso; omega) | skip)
    | refine ord_split (by kernel_rfl) ?_
    | (refine xw_ret ?_ <;> try simp only [sq, bl, LQ])
    | ((first | refine xw_reg ?_ | refine xw_regd ?_ | refine xw_if ?_ | refine xw_skip ?_ | refine xw_exit ?_ | refine xw_label ?_ | refine post_ret ?_ | refine post_normal ?_ | refine postE_ret ?_ | refine postE_normal ?_ | (((first | refine at_region ?_ | refine at_out ?_ | refine at_cond ?_); split) <;> first | (exfalso; omega; done) | skip)) <;> try simp (config := { maxSteps := 3000000 }) (disch := first | assumption | omega | exact VG.okg (by assumption) | (simp only [List.length_set, List.length_append, List.length_cons, List.length_nil, List.length_replicate]; omega)) only [go_sem, ↓reduceIte, Int.reduceLE, Int.reduceLT, Int.reduceToNat, Int.reduceNeg, Int.reduceAdd, Int.reduceSub, Int.reduceMul, Int.reduceEq, Int.reduceNe, Nat.reduceEqDiff, Nat.reduceAdd, Nat.reduceSub, Nat.reduceMul, Nat.reduceLT, Nat.reduceLeDiff, Nat.reduceBEq, Nat.reduceBNe, UInt8.reduceToNat, Tryz.results120, hnx]))
  refine xw_loopR (fun (i : Int) s => s.ρ 5 = LI (nbS v es) ∧ s.ρ 6 = .ptr 6 0 0 0 ∧ s.m 6 = some (.box 0 [I n, LE (alone v es)]) ∧ s.ρ 7 = I i ∧ 1 ≤ i ∧ ∀ e ∈ (nbS v es).take i.toNat, Conn (alone v es) ((nbS v es).getD 0 0) e) (fun i => ((nbS v es).length - i).toNat) 1 (by
    refine ⟨rfl, rfl, rfl, rfl, by omega, ?_⟩
    cases hq : nbS v es with
    | nil => simp
    | cons q r => simp; exact .refl _) ?_
  rintro i ⟨ρ, m⟩ ⟨h5, h6, m6, h7, g0, g1⟩
  simp only at h5 h6 m6 h7
  by_cases hj : i < (nbS v es).length
  · have h1 := hnb2 _ (getD_mem (d := 0) (show 0 < (nbS v es).length by omega))
    have h2 := hnb2 _ (getD_mem (d := 0) (show i.toNat < (nbS v es).length by omega))
    repeat' (first
      | refine xw_seq ?_
      | refine xw_block ?_
      | (refine ite_two ?_ ?_ <;> intro _ <;> first | (exfalso; omega) | skip)
      | refine ord_split (by kernel_rfl) ?_
      | (refine xw_ret ?_ <;> try simp only [sq, bl, LQ])
      | ((first | refine xw_reg ?_ | refine xw_regd ?_ | refine xw_if ?_ | refine xw_skip ?_ | refine xw_exit ?_ | refine xw_label ?_ | refine post_ret ?_ | refine post_normal ?_ | refine postE_ret ?_ | refine postE_normal ?_ | (((first | refine at_region ?_ | refine at_out ?_ | refine at_cond ?_); split) <;> first | (exfalso; omega; done) | skip)) <;> try simp (config := { maxSteps := 3000000 }) (disch := first | assumption | omega | exact VG.okg (by assumption) | (simp only [List.length_set, List.length_append, List.length_cons, List.length_nil, List.length_replicate]; omega)) only [go_sem, ↓reduceIte, Int.reduceLE, Int.reduceLT, Int.reduceToNat, Int.reduceNeg, Int.reduceAdd, Int.reduceSub, Int.reduceMul, Int.reduceEq, Int.reduceNe, Nat.reduceEqDiff, Nat.reduceAdd, Nat.reduceSub, Nat.reduceMul, Nat.reduceLT, Nat.reduceLeDiff, Nat.reduceBEq, Nat.reduceBNe, UInt8.reduceToNat, Tryz.results120, h5, h6, m6, h7]))
    · refine ⟨by omega, ?_, by omega⟩
      rw [take_int 0 (by omega) hj]
      intro e he
      rcases List.mem_append.1 he with he | he
      · exact g1 e he
      · rw [List.mem_singleton.1 he]; assumption
    · have : CutN es v := ⟨_, getD_mem (d := 0) (show i.toNat < (nbS v es).length by omega), by assumption⟩
      simp [this]
  · repeat' (first
      | refine xw_seq ?_
      | refine xw_block ?_
      | (refine ite_two ?_ ?_ <;> intro _ <;> first | (exfalso; omega) | skip)
      | refine ord_split (by kernel_rfl) ?_
      | (refine xw_ret ?_ <;> try simp only [sq, bl, LQ])
      | ((first | refine xw_reg ?_ | refine xw_regd ?_ | refine xw_if ?_ | refine xw_skip ?_ | refine xw_exit ?_ | refine xw_label ?_ | refine post_ret ?_ | refine post_normal ?_ | refine postE_ret ?_ | refine postE_normal ?_ | (((first | refine at_region ?_ | refine at_out ?_ | refine at_cond ?_); split) <;> first | (exfalso; omega; done) | skip)) <;> try simp (config := { maxSteps := 3000000 }) (disch := first | assumption | omega | exact VG.okg (by assumption) | (simp only [List.length_set, List.length_append, List.length_cons, List.length_nil, List.length_replicate]; omega)) only [go_sem, ↓reduceIte, Int.reduceLE, Int.reduceLT, Int.reduceToNat, Int.reduceNeg, Int.reduceAdd, Int.reduceSub, Int.reduceMul, Int.reduceEq, Int.reduceNe, Nat.reduceEqDiff, Nat.reduceAdd, Nat.reduceSub, Nat.reduceMul, Nat.reduceLT, Nat.reduceLeDiff, Nat.reduceBEq, Nat.reduceBNe, UInt8.reduceToNat, Tryz.results120, h5, h6, m6, h7]))
    rw [take_all (by omega)] at g1
    have : ¬ CutN es v := fun ⟨x, hx, hc⟩ => hc (g1 x hx)
    simp [this]
end Go.Proofs.YtdjdgnabcecdlaaGreatDoor.X

/- What functions compute: edges, cutting one. -/
set_option linter.unusedSimpArgs false
set_option linter.unusedVariables false
set_option maxHeartbeats 2000000
namespace Go.Proofs.YtdjdgnabcecdlaaGreatDoor.X
open Go Go.Proofs
/-- Two nodes that an edge can join. -/
def eOk (x y : Int) : Prop := 0 ≤ x ∧ x < 16 ∧ 0 ≤ y ∧ y < 16 ∧ x ≠ y
instance (x y : Int) : Decidable (eOk x y) := by unfold eOk; infer_instance
/-- Edges without one. -/
def cutE (e0 : Int × Int) (es : List (Int × Int)) : List (Int × Int) := es.filter fun e => decide (e ≠ e0)
theorem cut_del (a b : Int) (es : List (Int × Int)) : (es.filter fun e => !decide (e.1 = a ∧ e.2 = b)) = cutE (a, b) es := by
  unfold cutE
  congr 1
  funext e
  by_cases h : e = (a, b)
  · subst h; simp
  · have : ¬ (e.1 = a ∧ e.2 = b) := fun h' => h (Prod.ext h'.1 h'.2)
    simp [h, this]
theorem cutE_len (e0 : Int × Int) (es : List (Int × Int)) : (cutE e0 es).length ≤ es.length := List.length_filter_le _ _
theorem clo_cut (a b : Int) : Clo (.fn 152 [] [.eptr [.v (.int .i64 a), .v (.int .i64 b)] 0]) (fun _ => True) (fun e => decide (e.1 = a ∧ e.2 = b)) := by
  have h : ∀ x y : Int, KP 152 [PE x y, .i (.eptr [.v (.int .i64 a), .v (.int .i64 b)] 0)] [] = some (B (decide (x = a ∧ y = b)), [], []) := by
    intro x y
    refine xw_call (fn := Tryz.f152) rfl Tryz.func152 rfl ⟨Nat.le_of_ble_eq_true rfl, rfl, rfl⟩ ?_
    repeat' (first
      | refine xw_seq ?_
      | refine xw_block ?_
      | (refine ite_two ?_ ?_ <;> intro _ <;> first | (exfalso; omega) | skip)
      | refine ord_split (by kernel_rfl) ?_
      | (refine xw_ret ?_ <;> try simp only [sq, bl, LQ])
      | ((first | refine xw_reg ?_ | refine xw_regd ?_ | refine xw_if ?_ | refine xw_skip ?_ | refine xw_exit ?_ | refine xw_label ?_ | refine post_ret ?_ | refine post_normal ?_ | refine postE_ret ?_ | refine postE_normal ?_ | (((first | refine at_region ?_ | refine at_out ?_ | refine at_cond ?_); split) <;> first | (exfalso; omega; done) | skip)) <;> try simp (config := { maxSteps := 3000000 }) (disch := first | assumption | omega | exact VG.okg (by assumption) | (simp only [List.length_set, List.length_append, List.length_cons, List.length_nil, List.length_replicate]; omega)) only [go_sem, ↓reduceIte, Int.reduceLE, Int.reduceLT, Int.reduceToNat, Int.reduceNeg, Int.reduceAdd, Int.reduceSub, Int.reduceMul, Int.reduceEq, Int.reduceNe, Nat.reduceEqDiff, Nat.reduceAdd, Nat.reduceSub, Nat.reduceMul, Nat.reduceLT, Nat.reduceLeDiff, Nat.reduceBEq, Nat.reduceBNe, UInt8.reduceToNat, Tryz.results152]))
  refine ⟨fun n => by cases n <;> rfl, rfl, fun me d x y _ => ?_⟩
  simp only [go_sem, ↓reduceIte, Int.reduceLE, Int.reduceLT, Int.reduceToNat, Int.reduceNeg, Int.reduceAdd, Int.reduceSub, Int.reduceMul, Int.reduceEq, Int.reduceNe, Nat.reduceEqDiff, Nat.reduceAdd, Nat.reduceSub, Nat.reduceMul, Nat.reduceLT, Nat.reduceLeDiff, Nat.reduceBEq, Nat.reduceBNe, UInt8.reduceToNat, h, ite_self]
@[go_sem] theorem c_cut (n a b : Int) (es : List (Int × Int)) (hl : es.length ≤ 1048576) : KP 90 [GL n es, PE a b] [] = some (.agg [I n, .i (delE (fun e => decide (e.1 = a ∧ e.2 = b)) es)], [], []) := by
  have hw := c_without (clo_cut a b) n es (fun _ _ => trivial) hl
  refine xw_call (fn := Tryz.f90) rfl Tryz.func90 rfl ⟨Nat.le_of_ble_eq_true rfl, rfl, rfl⟩ ?_
  repeat' (first
    | refine xw_seq ?_
    | refine xw_block ?_
    | (refine ite_two ?_ ?_ <;> intro _ <;> first | (exfalso; omega) | skip)
    | refine ord_split (by kernel_rfl) ?_
    | (refine xw_ret ?_ <;> try simp only [sq, bl, LQ])
    | ((first | refine xw_reg ?_ | refine xw_regd ?_ | refine xw_if ?_ | refine xw_skip ?_ | refine xw_exit ?_ | refine xw_label ?_ | refine post_ret ?_ | refine post_normal ?_ | refine postE_ret ?_ | refine postE_normal ?_ | (((first | refine at_region ?_ | refine at_out ?_ | refine at_cond ?_); split) <;> first | (exfalso; omega; done) | skip)) <;> try simp (config := { maxSteps := 3000000 }) (disch := first | assumption | omega | exact VG.okg (by assumption) | (simp only [List.length_set, List.length_append, List.length_cons, List.length_nil, List.length_replicate]; omega)) only [go_sem, ↓reduceIte, Int.reduceLE, Int.reduceLT, Int.reduceToNat, Int.reduceNeg, Int.reduceAdd, Int.reduceSub, Int.reduceMul, Int.reduceEq, Int.reduceNe, Nat.reduceEqDiff, Nat.reduceAdd, Nat.reduceSub, Nat.reduceMul, Nat.reduceLT, Nat.reduceLeDiff, Nat.reduceBEq, Nat.reduceBNe, UInt8.reduceToNat, Tryz.results90, hw]))
@[go_sem] theorem c_l1Without (a b : Int) (es : List (Int × Int)) (hl : es.length ≤ 1048576) : KP 91 [LE es, PE a b] [] = some (.ref 2000 0 0 (cutE (a, b) es).length, [], [.arr 0 2 ((cutE (a, b) es).map encE)]) := by
  refine xw_call (fn := Tryz.f91) rfl Tryz.func91 rfl ⟨Nat.le_of_ble_eq_true rfl, rfl, rfl⟩ ?_
  repeat' (first
    | refine xw_seq ?_
    | refine xw_block ?_
    | (refine ite_two ?_ ?_ <;> intro _ <;> first | (exfalso; omega) | skip)
    | refine ord_split (by kernel_rfl) ?_
    | (refine xw_ret ?_ <;> try simp only [sq, bl, LQ])
    | ((first | refine xw_reg ?_ | refine xw_regd ?_ | refine xw_if ?_ | refine xw_skip ?_ | refine xw_exit ?_ | refine xw_label ?_ | refine post_ret ?_ | refine post_normal ?_ | refine postE_ret ?_ | refine postE_normal ?_ | (((first | refine at_region ?_ | refine at_out ?_ | refine at_cond ?_); split) <;> first | (exfalso; omega; done) | skip)) <;> try simp (config := { maxSteps := 3000000 }) (disch := first | assumption | omega | exact VG.okg (by assumption) | (simp only [List.length_set, List.length_append, List.length_cons, List.length_nil, List.length_replicate]; omega)) only [go_sem, ↓reduceIte, Int.reduceLE, Int.reduceLT, Int.reduceToNat, Int.reduceNeg, Int.reduceAdd, Int.reduceSub, Int.reduceMul, Int.reduceEq, Int.reduceNe, Nat.reduceEqDiff, Nat.reduceAdd, Nat.reduceSub, Nat.reduceMul, Nat.reduceLT, Nat.reduceLeDiff, Nat.reduceBEq, Nat.reduceBNe, UInt8.reduceToNat, Tryz.results91]))
  refine xw_loopR (fun (x : Int × Nat × List (Int × Int)) s => s.m 7 = some (.arr x.2.1 2 (x.2.2.map encE)) ∧ s.ρ 5 = .ref 7 x.2.1 0 x.2.2.length ∧ s.ρ 6 = I x.1 ∧ s.ρ 0 = LE es ∧ s.ρ 3 = .ptr 3 0 0 0 ∧ s.m 3 = some (.box 0 [I a, I b]) ∧
    0 ≤ x.1 ∧ x.1 ≤ es.length ∧ (x.2.2.length : Int) ≤ x.1 ∧ x.2.2 = cutE (a, b) (es.take x.1.toNat)) (fun x => (es.length - x.1).toNat) (0, 0, []) (by simp [upd, cutE]) ?_
  rintro ⟨i, w, xs⟩ ⟨ρ, m⟩ ⟨m7, h5, h6, h0, h3, m3, g0, g1, g2, g3⟩
  simp only at m7 h5 h6 h0 h3 m3 g0 g1 g2 g3
  repeat' (first
    | refine xw_seq ?_
    | refine xw_block ?_
    | (refine ite_two ?_ ?_ <;> intro _ <;> first | (exfalso; omega) | skip)
    | refine ord_split (by kernel_rfl) ?_
    | (refine xw_ret ?_ <;> try simp only [sq, bl, LQ])
    | ((first | refine xw_reg ?_ | refine xw_regd ?_ | refine xw_if ?_ | refine xw_skip ?_ | refine xw_exit ?_ | refine xw_label ?_ | refine post_ret ?_ | refine post_normal ?_ | refine postE_ret ?_ | refine postE_normal ?_ | (((first | refine at_region ?_ | refine at_out ?_ | refine at_cond ?_); split) <;> first | (exfalso; omega; done) | skip)) <;> try simp (config := { maxSteps := 3000000 }) (disch := first | assumption | omega | exact VG.okg (by assumption) | (simp only [List.length_set, List.length_append, List.length_cons, List.length_nil, List.length_replicate]; omega)) only [go_sem, ↓reduceIte, Int.reduceLE, Int.reduceLT, Int.reduceToNat, Int.reduceNeg, Int.reduceAdd, Int.reduceSub, Int.reduceMul, Int.reduceEq, Int.reduceNe, Nat.reduceEqDiff, Nat.reduceAdd, Nat.reduceSub, Nat.reduceMul, Nat.reduceLT, Nat.reduceLeDiff, Nat.reduceBEq, Nat.reduceBNe, UInt8.reduceToNat, Tryz.results91, m7, h5, h6, h0, h3, m3]))
  all_goals first
    | (refine ⟨by omega, by omega, by omega, ?_, by omega⟩
       rw [take_int (0, 0) g0 (by assumption), cutE, List.filter_append]
       rw [cutE] at g3
       rw [← g3]
       generalize es.getD i.toNat (0, 0) = e at *
       have : e = (a, b) ↔ e.1 = a ∧ e.2 = b := Prod.ext_iff
       grind)
    | (rw [take_all (by omega)] at g3
       rw [← g3]
       exact ⟨rfl, rfl⟩)
end Go.Proofs.YtdjdgnabcecdlaaGreatDoor.X

/- Distances by a search in breadth: plain law. -/
set_option linter.unusedVariables false
namespace Go.Proofs.YtdjdgnabcecdlaaGreatDoor.X
open Go
/-- The value at a node. -/
abbrev gI (l : List Int) (x : Int) : Int := l.getD x.toNat 0
theorem gI_set {l : List Int} {x y v : Int} (hx : 0 ≤ x) (hy : 0 ≤ y) (h : y < l.length) : gI (l.set x.toNat v) y = if x = y then v else gI l y := by
  unfold gI
  rw [getD_set (by omega)]
  by_cases e : x = y
  · subst e; simp
  · rw [if_neg (by omega), if_neg e]
/-- How many nodes are not found yet. -/
def und (out : List Int) : Nat := (out.filter fun d => decide (d < 0)).length
/-- A search in breadth from a node: what is found, what is to be looked at. -/
structure Bfs (n : Int) (es : List (Int × Int)) (t : Int) (out q : List Int) : Prop where
  len : out.length = n.toNat
  t0 : 0 ≤ t ∧ t < n
  src : gI out t = 0
  low : ∀ x, 0 ≤ x → x < n → -1 ≤ gI out x
  reach : ∀ x, 0 ≤ x → x < n → 0 ≤ gI out x → Rk es t (gI out x).toNat x
  que : ∀ x ∈ q, 0 ≤ x ∧ x < n ∧ 0 ≤ gI out x
  sorted : q.Pairwise fun a b => gI out a ≤ gI out b
  near : ∀ a ∈ q, ∀ x, 0 ≤ x → x < n → gI out x ≤ gI out a + 1
  top : ∀ x, 0 ≤ x → x < n → gI out x + und out ≤ n - 1
/-- All but some nodes have been looked at. -/
def Done (n : Int) (es : List (Int × Int)) (out : List Int) (ex : Int → Prop) : Prop := ∀ x, 0 ≤ x → x < n → 0 ≤ gI out x → ¬ ex x → ∀ y, Adj es x y → 0 ≤ gI out y ∧ gI out y ≤ gI out x + 1
/-- While the neighbors of a node are looked at. -/
structure BfsAt (n : Int) (es : List (Int × Int)) (t a : Int) (i : Nat) (out q : List Int) : Prop where
  bfs : Bfs n es t out q
  a0 : 0 ≤ a ∧ a < n ∧ 0 ≤ gI out a
  hq : ∀ y ∈ q, gI out a ≤ gI out y
  hn : ∀ y, 0 ≤ y → y < n → gI out y ≤ gI out a + 1
  done : Done n es out (fun x => x ∈ q ∨ x = a)
  seen : ∀ y ∈ (nbS a es).take i, 0 ≤ gI out y ∧ gI out y ≤ gI out a + 1
theorem BfsAt.skip {n : Int} {es : List (Int × Int)} {t a : Int} {i : Nat} {out q : List Int} (ho : ∀ e ∈ es, okE n e) (h : BfsAt n es t a i out q) (hi : i < (nbS a es).length) (hx : 0 ≤ gI out ((nbS a es).getD i 0)) : BfsAt n es t a (i + 1) out q := by
  have hadj := (mem_nbS ho).1 (getD_mem (d := 0) hi)
  have hok := hadj.ok ho
  refine ⟨h.bfs, h.a0, h.hq, h.hn, h.done, fun y hy => ?_⟩
  have htk : (nbS a es).take (i + 1) = (nbS a es).take i ++ [(nbS a es).getD i 0] := by rw [List.take_add_one]; simp [hi]
  rw [htk] at hy
  rcases List.mem_append.1 hy with hy | hy
  · exact h.seen y hy
  · rw [List.mem_singleton.1 hy]; exact ⟨hx, h.hn _ (by omega) (by omega)⟩
open Classical in
/-- The distance from a node, or -1. -/
noncomputable def dst (n : Int) (es : List (Int × Int)) (t x : Int) : Int := if Conn es t x then (((List.range (n.toNat + 1)).find? fun k => decide (Rk es t k x)).getD 0 : Nat) else -1
open Classical in
theorem dst_eq {n : Int} {es : List (Int × Int)} {t x : Int} {k : Nat} (hk : Rk es t k x) (hm : ∀ j, Rk es t j x → k ≤ j) (ho : ∀ e ∈ es, okE n e) (hn : 0 ≤ n) : dst n es t x = k := by
  unfold dst
  rw [if_pos hk.conn]
  have ho' : ∀ e ∈ es, okE ((n.toNat : Nat) : Int) e := fun e he => by have := ho e he; unfold okE at this ⊢; omega
  have hle := hm _ (Rk.all ho' hk.conn)
  have : (List.range (n.toNat + 1)).find? (fun k => decide (Rk es t k x)) = some k := by
    rw [List.find?_range_eq_some]
    refine ⟨by simpa using hk, List.mem_range.2 (by omega), fun j hj => ?_⟩
    have : ¬ Rk es t j x := fun h => by have := hm j h; omega
    simp [this]
  rw [this]; rfl
open Classical in
noncomputable def dstL (n : Int) (es : List (Int × Int)) (t : Int) : List Int := (iota n).map fun x => dst n es t x
theorem dstL_get {n : Int} {es : List (Int × Int)} {t x : Int} (h0 : 0 ≤ x) (h1 : x < n) : gI (dstL n es t) x = dst n es t x := by
  unfold gI dstL iota
  have : x.toNat < n.toNat := by omega
  simp [this, Int.toNat_of_nonneg h0]
theorem dstL_length {n : Int} {es : List (Int × Int)} {t : Int} : (dstL n es t).length = n.toNat := by simp [dstL, iota]
theorem list_gI {l r : List Int} {n : Int} (hl : l.length = n.toNat) (hr : r.length = n.toNat) (h : ∀ x, 0 ≤ x → x < n → gI l x = gI r x) : l = r := by
  refine List.ext_getElem (by omega) fun i h1 h2 => ?_
  have := h (i : Int) (by omega) (by omega)
  unfold gI at this
  simpa [h1, h2] using this
/-- When nothing is left to be looked at, the distances are found. -/
theorem Bfs.end {n : Int} {es : List (Int × Int)} {t : Int} {out : List Int} (ho : ∀ e ∈ es, okE n e) (h : Bfs n es t out []) (hd : Done n es out (· ∈ ([] : List Int))) : out = dstL n es t := by
  have key : ∀ (k : Nat) (x : Int), Rk es t k x → 0 ≤ x ∧ x < n ∧ 0 ≤ gI out x ∧ gI out x ≤ k := by
    intro k
    induction k with
    | zero => intro x hx; cases hx; exact ⟨h.t0.1, h.t0.2, by rw [h.src]; omega, by rw [h.src]; omega⟩
    | succ k ih =>
      intro x hx
      rcases hx with hx | ⟨z, hz, ha⟩
      · have := ih x hx; omega
      · have h1 := ih z hz
        have h2 := hd z h1.1 h1.2.1 h1.2.2.1 (by simp) x ha
        have h3 := ha.ok ho
        omega
  refine list_gI h.len dstL_length fun x h0 h1 => ?_
  rw [dstL_get h0 h1]
  by_cases hx : 0 ≤ gI out x
  · have hr := h.reach x h0 h1 hx
    rw [dst_eq hr (fun j hj => by have := (key j x hj).2.2.2; omega) ho (by have := h.t0; omega)]
    omega
  · have hlow := h.low x h0 h1
    have : ¬ Conn es t x := fun hc => by
      have ho' : ∀ e ∈ es, okE ((n.toNat : Nat) : Int) e := fun e he => by have := ho e he; unfold okE at this ⊢; omega
      have := (key _ x (Rk.all ho' hc)).2.2.1
      omega
    unfold dst
    rw [if_neg this]; omega
def nxtN (es : List (Int × Int)) (far : List Int) (x : Int) : Int := ((nbS x es).find? fun y => decide (gI far y = gI far x - 1)).getD x
def gpath (es : List (Int × Int)) (far : List Int) : Nat → Int → List Int
  | 0, x => [x]
  | k + 1, x => x :: gpath es far k (nxtN es far x)
noncomputable def pathL (n : Int) (es : List (Int × Int)) (x y : Int) : List Int := gpath es (dstL n es y) (dst n es y x).toNat x
end Go.Proofs.YtdjdgnabcecdlaaGreatDoor.X

/- What functions compute: distances and paths. -/
set_option linter.unusedSimpArgs false
set_option linter.unusedVariables false
set_option maxHeartbeats 2000000
namespace Go.Proofs.YtdjdgnabcecdlaaGreatDoor.X
open Go Go.Proofs
end Go.Proofs.YtdjdgnabcecdlaaGreatDoor.X

/- What functions compute: distances as the reference has them; paths. -/
set_option linter.unusedSimpArgs false
set_option linter.unusedVariables false
set_option maxHeartbeats 2000000
namespace Go.Proofs.YtdjdgnabcecdlaaGreatDoor.X
open Go Go.Proofs
end Go.Proofs.YtdjdgnabcecdlaaGreatDoor.X
