/- What functions answer, and the plain laws behind it. -/
import Derived.Test.YtdjdgnabcecdlaaGreatDoorKAJ
import Derived.Test.YtdjdgnabcecdlaaGreatDoorKAM
import Derived.Test.YtdjdgnabcecdlaaGreatDoorM10
import Derived.Test.YtdjdgnabcecdlaaGreatDoorC22
/- What functions compute: lines of lists. -/
set_option linter.unusedSimpArgs false
set_option linter.unusedVariables false
set_option maxHeartbeats 8000000
set_option maxRecDepth 100000
namespace Go.Proofs.YtdjdgnabcecdlaaGreatDoor.X
open Go Go.Proofs
/-- Lines of lists. -/
def linesT (D : List UInt8) (ps : List (List Int)) : List UInt8 := ps.flatMap fun p => D ++ numsT p ++ [10]
theorem linesT_snoc (D : List UInt8) (ps : List (List Int)) (p : List Int) : linesT D (ps ++ [p]) = linesT D ps ++ (D ++ numsT p ++ [10]) := by simp [linesT]
theorem linesT_len (D : List UInt8) (k : Nat) : ∀ ps : List (List Int), (∀ p ∈ ps, p.length ≤ k) → (linesT D ps).length ≤ ps.length * (D.length + 3 * k + 1)
  | [], _ => by simp [linesT]
  | p :: ps, h => by
    have h1 := linesT_len D k ps (fun q hq => h q (by simp [hq]))
    have h2 := numsT_len p
    have h3 := h p (by simp)
    have e : linesT D (p :: ps) = D ++ numsT p ++ [10] ++ linesT D ps := by simp [linesT]
    rw [e, List.length_append, List.length_append, List.length_append, List.length_cons, List.length_cons, Nat.add_mul ps.length 1, Nat.one_mul]
    simp only [List.length_nil]
    omega
theorem c_listsText (D : List UInt8) (ps : List (List Int)) (hs : ∀ p ∈ ps, smallL p) (hk : ∀ p ∈ ps, p.length ≤ 100) (hD : D.length ≤ 100) (hl : ps.length ≤ 1000) : KP 176 [S D, LL ps] [] = some (S (linesT D ps), [], []) := by
  refine xw_call (fn := Tryz.f176) rfl Tryz.func176 rfl ⟨Nat.le_of_ble_eq_true rfl, rfl, rfl⟩ ?_
  repeat' (first
    | refine xw_seq ?_
    | refine xw_block ?_
    | (refine ite_two ?_ ?_ <;> intro _ <;> first | (exfalso; omega) | skip)
    | refine ord_split (by kernel_rfl) ?_
    | (refine xw_ret ?_ <;> try simp only [sq, bl, LQ])
    | ((first | refine xw_reg ?_ | refine xw_regd ?_ | refine xw_if ?_ | refine xw_skip ?_ | refine xw_exit ?_ | refine xw_label ?_ | refine post_ret ?_ | refine post_normal ?_ | refine postE_ret ?_ | refine postE_normal ?_ | (((first | refine at_region ?_ | refine at_out ?_ | refine at_cond ?_); split) <;> first | (exfalso; omega; done) | skip)) <;> try simp (config := { maxSteps := 3000000 }) (disch := first | assumption | omega | exact VG.okg (by assumption) | (simp only [List.length_set, List.length_append, List.length_cons, List.length_nil, List.length_replicate]; omega)) only [go_sem, ↓reduceIte, Int.reduceLE, Int.reduceLT, Int.reduceToNat, Int.reduceNeg, Int.reduceAdd, Int.reduceSub, Int.reduceMul, Int.reduceEq, Int.reduceNe, Nat.reduceEqDiff, Nat.reduceAdd, Nat.reduceSub, Nat.reduceMul, Nat.reduceLT, Nat.reduceLeDiff, Nat.reduceBEq, Nat.reduceBNe, UInt8.reduceToNat, Tryz.results176]))
  refine xw_loopR (fun (i : Int) s => s.ρ 8 = LL ps ∧ s.ρ 9 = I ps.length ∧ s.ρ 0 = S D ∧ s.ρ 5 = S (linesT D (ps.take i.toNat)) ∧ s.ρ 10 = I i ∧ 0 ≤ i ∧ i ≤ ps.length) (fun i => (ps.length - i).toNat) 0 ?_ ?_
  · refine ⟨rfl, ?_, rfl, ?_, rfl, by omega, by omega⟩
    · simp [upd]
    · simp [upd, linesT]
  rintro i ⟨ρ, m⟩ ⟨h8, h9, h0, h5, h10, g0, g1⟩
  simp only at h8 h9 h0 h5 h10 g0 g1
  have hnl := linesT_len D 100 (ps.take i.toNat) (fun p hp => hk p (List.mem_of_mem_take hp))
  rw [List.length_take] at hnl
  have hnl2 : (linesT D (ps.take i.toNat)).length ≤ 1000 * 401 := Nat.le_trans hnl (Nat.mul_le_mul (by omega) (by omega))
  by_cases hi : i < ps.length
  rotate_left
  · rw [take_all (by omega)] at h5
    repeat' (first
      | refine xw_seq ?_
      | refine xw_block ?_
      | (refine ite_two ?_ ?_ <;> intro _ <;> first | (exfalso; omega) | skip)
      | refine ord_split (by kernel_rfl) ?_
      | (refine xw_ret ?_ <;> try simp only [sq, bl, LQ])
      | ((first | refine xw_reg ?_ | refine xw_regd ?_ | refine xw_if ?_ | refine xw_skip ?_ | refine xw_exit ?_ | refine xw_label ?_ | refine post_ret ?_ | refine post_normal ?_ | refine postE_ret ?_ | refine postE_normal ?_ | (((first | refine at_region ?_ | refine at_out ?_ | refine at_cond ?_); split) <;> first | (exfalso; omega; done) | skip)) <;> try simp (config := { maxSteps := 3000000 }) (disch := first | assumption | omega | exact VG.okg (by assumption) | (simp only [List.length_set, List.length_append, List.length_cons, List.length_nil, List.length_replicate]; omega)) only [go_sem, ↓reduceIte, Int.reduceLE, Int.reduceLT, Int.reduceToNat, Int.reduceNeg, Int.reduceAdd, Int.reduceSub, Int.reduceMul, Int.reduceEq, Int.reduceNe, Nat.reduceEqDiff, Nat.reduceAdd, Nat.reduceSub, Nat.reduceMul, Nat.reduceLT, Nat.reduceLeDiff, Nat.reduceBEq, Nat.reduceBNe, UInt8.reduceToNat, Tryz.results176, h8, h9, h0, h5, h10]))
  have hm := getD_mem (d := []) (show i.toNat < ps.length by omega)
  have hgi : (ps.map encL)[i.toNat]? = some [.lst ((ps.getD i.toNat []).map encI)] := by
    have : i.toNat < ps.length := by omega
    simp [encL, this]
  have hnx : linesT D (ps.take (i + 1).toNat) = linesT D (ps.take i.toNat) ++ (D ++ numsT (ps.getD i.toNat []) ++ [10]) := by
    rw [take_int [] g0 hi, linesT_snoc]
  generalize linesT D (ps.take i.toNat) = T at *
  generalize ps.getD i.toNat [] = p at hgi hm hnx
  have hnt := c_numbersText D p (hs p hm) (by omega) (by have := hk p hm; omega)
  have l1 := numsT_len p
  have l2 := hk p hm
  generalize hQ : D ++ numsT p ++ [10] = Q at *
  have hQl : Q.length ≤ 1000 := by rw [← hQ]; simp only [List.length_append, List.length_cons, List.length_nil]; omega
  repeat' (first
    | refine xw_seq ?_
    | refine xw_block ?_
    | (refine ite_two ?_ ?_ <;> intro _ <;> first | (exfalso; omega) | skip)
    | refine ord_split (by kernel_rfl) ?_
    | (refine xw_ret ?_ <;> try simp only [sq, bl, LQ])
    | ((first | refine xw_reg ?_ | refine xw_regd ?_ | refine xw_if ?_ | refine xw_skip ?_ | refine xw_exit ?_ | refine xw_label ?_ | refine post_ret ?_ | refine post_normal ?_ | refine postE_ret ?_ | refine postE_normal ?_ | (((first | refine at_region ?_ | refine at_out ?_ | refine at_cond ?_); split) <;> first | (exfalso; omega; done) | skip)) <;> try simp (config := { maxSteps := 3000000 }) (disch := first | assumption | omega | exact VG.okg (by assumption) | (simp only [List.length_set, List.length_append, List.length_cons, List.length_nil, List.length_replicate]; omega)) only [go_sem, ↓reduceIte, Int.reduceLE, Int.reduceLT, Int.reduceToNat, Int.reduceNeg, Int.reduceAdd, Int.reduceSub, Int.reduceMul, Int.reduceEq, Int.reduceNe, Nat.reduceEqDiff, Nat.reduceAdd, Nat.reduceSub, Nat.reduceMul, Nat.reduceLT, Nat.reduceLeDiff, Nat.reduceBEq, Nat.reduceBNe, UInt8.reduceToNat, Tryz.results176, h8, h9, h0, h5, h10, hgi, hnt]))
  exact ⟨i + 1, by rw [hnx], rfl, by omega, by omega, by omega⟩
end Go.Proofs.YtdjdgnabcecdlaaGreatDoor.X

/- Paths without common edges: plain law. -/
set_option linter.unusedVariables false
namespace Go.Proofs.YtdjdgnabcecdlaaGreatDoor.X
open Go
/-- Units without one, and without those along a row of nodes. -/
def dropF (F : Un) (a b : Int) : Un := fun c d => if c = a ∧ d = b then false else F c d
def dropP (F : Un) : List Int → Un
  | a :: b :: r => dropP (dropF F a b) (b :: r)
  | _ => F
theorem dropF_le {F : Un} {a b c d : Int} (h : dropF F a b c d = true) : F c d = true := by
  unfold dropF at h; split at h
  · cases h
  · exact h
theorem dropP_le : ∀ {p : List Int} {F : Un} {c d : Int}, dropP F p c d = true → F c d = true
  | [], F, c, d, h => h
  | [a], F, c, d, h => h
  | a :: b :: r, F, c, d, h => dropF_le (dropP_le (p := b :: r) h)
theorem dropP_off : ∀ {p : List Int} {F : Un} {c d : Int}, F c d = false → dropP F p c d = false
  | p, F, c, d, h => by
    cases k : dropP F p c d with
    | false => rfl
    | true => rw [dropP_le k] at h; cases h
theorem dropP_snoc {a b : Int} : ∀ {l : List Int} {F : Un}, dropP F (l ++ [a, b]) = dropF (dropP F (l ++ [a])) a b
  | [], F => rfl
  | [c], F => rfl
  | c :: d :: l, F => by
    have := dropP_snoc (a := a) (b := b) (l := d :: l) (F := dropF F c d)
    simpa [dropP] using this
theorem dropP_take {F : Un} {p : List Int} {i : Nat} (h0 : 0 < i) (h1 : i < p.length) : dropP F (p.take (i + 1)) = dropF (dropP F (p.take i)) (p.getD (i - 1) 0) (p.getD i 0) := by
  obtain ⟨k, rfl⟩ : ∃ k, i = k + 1 := ⟨i - 1, by omega⟩
  have e1 : p.take (k + 1) = p.take k ++ [p.getD k 0] := by rw [List.take_add_one]; simp [show k < p.length by omega]
  have e2 : p.take (k + 1 + 1) = p.take k ++ [p.getD k 0, p.getD (k + 1) 0] := by
    rw [List.take_add_one, e1]; simp [h1]
  rw [e1, e2, dropP_snoc]; rfl
theorem OKF.sub {es : List (Int × Int)} {F G : Un} (h : OKF es F) (hs : ∀ a b, G a b = true → F a b = true) : OKF es G :=
  ⟨fun a b k => h.adj a b (hs a b k), fun a b k => by
    cases q : G b a with
    | false => rfl
    | true => have := h.one a b (hs a b k); rw [hs b a q] at this; cases this⟩
theorem dropF_stepF {F : Un} {a b : Int} (h : F a b = true) : dropF F a b = stepF F b a := by
  funext c d
  unfold dropF stepF
  rw [if_pos h]
theorem val_drop {n : Int} {es : List (Int × Int)} {S : Int → Bool} (ho : ∀ e ∈ es, okE n e) (hn : es.Nodup) : ∀ {p : List Int} {F : Un}, 0 < p.length → p.Nodup → OKF es F → Steps (fun a b => F a b = true) p →
    val S (dropP F p) es = val S F es + (b2i (S (p.getD (p.length - 1) 0)) - b2i (S (p.getD 0 0)))
  | [], F, h, _, _, _ => by simp at h
  | [a], F, _, _, _, _ => by simp [dropP]
  | a :: b :: r, F, _, hp, hF, hs => by
    rw [List.nodup_cons] at hp
    have hs' : Steps (fun c d => dropF F a b c d = true) (b :: r) := hs.2.mono fun c d hc hd h => by
      unfold dropF
      rw [if_neg (fun k : c = a ∧ d = b => hp.1 (by rw [← k.1]; exact hc))]; exact h
    rw [dropP, val_drop ho hn (p := b :: r) (by simp) hp.2 (hF.sub fun _ _ => dropF_le) hs', dropF_stepF hs.1, val_step ho hn (hF.adj a b hs.1).symm (hF.one a b hs.1), getD_cons_last]
    simp only [List.getD_cons_zero]
    omega
theorem val_neg {es : List (Int × Int)} {S : Int → Bool} {F : Un} (h : ∀ a b, Adj es a b → S a = true → S b = false → F a b = false) : val S F es ≤ 0 := by
  have := sum_le (f := contrib S F) (g := fun _ => 0) (es := es) fun e he => by
    have h1 := h e.1 e.2 (Or.inl he)
    have h2 := h e.2 e.1 (Or.inr he)
    unfold contrib b2i
    cases a1 : S e.1 <;> cases a2 : S e.2 <;> simp_all <;> split <;> omega
  have e0 : (es.map fun _ : Int × Int => (0 : Int)).sum = 0 := by
    clear this h
    induction es with
    | nil => rfl
    | cons e es ih => simpa using ih
  unfold val
  omega
/-- The units that paths have left. -/
def dpF (n : Int) (es : List (Int × Int)) (x y : Int) : Nat → Un
  | 0 => flU n es x y
  | k + 1 => dropP (dpF n es x y k) (wayL n (bfs n es (dpF n es x y k) x).1 x y)
def dpP (n : Int) (es : List (Int × Int)) (x y : Int) (k : Nat) : List Int := wayL n (bfs n es (dpF n es x y k) x).1 x y
section
variable {n : Int} {es : List (Int × Int)} {x y : Int}
theorem dp_way0 (ho : ∀ e ∈ es, okE n e) (hx : 0 ≤ x ∧ x < n) {F : Un} {k : Int} (hy : 0 ≤ y ∧ y < n) (hk : 0 < k) (hv : ∀ S : Int → Bool, S x = true → S y = false → val S F es = k) : y ∈ (bfs n es F x).2 := by
  refine Classical.byContradiction fun hno => ?_
  have hB := bfs_inv (goes := F) ho hx
  have hxm : x ∈ (bfs n es F x).2 := by
    have := getD_mem (d := 0) hB.pos
    rw [hB.hd] at this; exact this
  have h1 := hv (fun v => decide (v ∈ (bfs n es F x).2)) (by simpa using hxm) (by simpa using hno)
  have h2 := val_neg (es := es) (S := fun v => decide (v ∈ (bfs n es F x).2)) (F := F) fun a b hab ha hb => by
    simp only [decide_eq_true_eq, decide_eq_false_iff_not] at ha hb
    cases q : F a b with
    | false => rfl
    | true => exact absurd (bfs_closed ho hx ha hab q) hb
  omega
theorem dp_inv (ho : ∀ e ∈ es, okE n e) (hn : es.Nodup) (hx : 0 ≤ x ∧ x < n) (hy : 0 ≤ y ∧ y < n) (hxy : x ≠ y) : ∀ k, k ≤ flN n es x y → OKF es (dpF n es x y k) ∧ ∀ S : Int → Bool, S x = true → S y = false → val S (dpF n es x y k) es = (flN n es x y : Int) - k
  | 0, _ => by
    obtain ⟨h1, h2⟩ := flS_inv ho hn hx _ (flN_spec ho hn hx hxy).2.1
    exact ⟨h1, fun S a b => by rw [dpF, flU, h2 S a b]; omega⟩
  | k + 1, hk => by
    obtain ⟨h1, h2⟩ := dp_inv ho hn hx hy hxy k (by omega)
    have hm := dp_way0 (k := (flN n es x y : Int) - k) ho hx hy (by omega) h2
    have hw := bfs_way ho hx hm
    have hst : Steps (fun a b => dpF n es x y k a b = true) (wayL n (bfs n es (dpF n es x y k) x).1 x y) := Steps.of fun i hi => (hw.st i hi).2
    refine ⟨h1.sub fun _ _ => dropP_le, fun S hSx hSy => ?_⟩
    rw [dpF, val_drop ho hn hw.pos hw.nd h1 hst, h2 S hSx hSy, hw.hd, hw.la, hSx, hSy]
    simp only [b2i, if_true, Bool.false_eq_true, if_false]
    omega
theorem dp_mem (ho : ∀ e ∈ es, okE n e) (hn : es.Nodup) (hx : 0 ≤ x ∧ x < n) (hy : 0 ≤ y ∧ y < n) (hxy : x ≠ y) {k : Nat} (hk : k < flN n es x y) : y ∈ (bfs n es (dpF n es x y k) x).2 :=
  dp_way0 (k := (flN n es x y : Int) - k) ho hx hy (by omega) (dp_inv ho hn hx hy hxy k (by omega)).2
theorem dp_way (ho : ∀ e ∈ es, okE n e) (hn : es.Nodup) (hx : 0 ≤ x ∧ x < n) (hy : 0 ≤ y ∧ y < n) (hxy : x ≠ y) {k : Nat} (hk : k < flN n es x y) : Way es (dpF n es x y k) x y (dpP n es x y k) :=
  bfs_way ho hx (dp_mem ho hn hx hy hxy hk)
/-- The edges that do not lead out of a set. -/
def keepS (S : Int → Bool) (es : List (Int × Int)) : List (Int × Int) := es.filter fun e => S e.1 == S e.2
end
end Go.Proofs.YtdjdgnabcecdlaaGreatDoor.X

/- What functions compute: flows. -/
set_option linter.unusedSimpArgs false
set_option linter.unusedVariables false
set_option maxHeartbeats 8000000
namespace Go.Proofs.YtdjdgnabcecdlaaGreatDoor.X
open Go Go.Proofs
theorem c_flow (n x y : Int) (es : List (Int × Int)) (hV : VG n es) (hx : 0 ≤ x ∧ x < n) (hy : 0 ≤ y ∧ y < n) (hxy : x ≠ y) :
    ∃ us, UR us (flU n es x y) ∧ KP 62 [GL n es, I x, I y] [] = some (.tup [.agg (us.map bP), I (flN n es x y)], [], []) := by
  have ho := hV.okg.ok
  have hn16 := hV.2.1
  have hnd := hV.nodup
  have hle := hV.okg.len
  suffices h : ∃ res, (∃ us, UR us (flU n es x y) ∧ res = (PV.tup [.agg (us.map bP), I (flN n es x y)], ([] : List Arr), ([] : List Arr))) ∧ KP 62 [GL n es, I x, I y] [] = some res by
    obtain ⟨res, ⟨us, h1, rfl⟩, h2⟩ := h
    exact ⟨us, h1, h2⟩
  refine xw_callE (fn := Tryz.f62) rfl Tryz.func62 rfl ⟨Nat.le_of_ble_eq_true rfl, rfl, rfl⟩ ?_
  repeat' (first
    | refine xw_seq ?_
    | refine xw_block ?_
    | (refine ite_two ?_ ?_ <;> intro _ <;> first | (exfalso; omega) | skip)
    | refine ord_split (by kernel_rfl) ?_
    | (refine xw_ret ?_ <;> try simp only [sq, bl, LQ])
    | ((first | refine xw_reg ?_ | refine xw_regd ?_ | refine xw_if ?_ | refine xw_skip ?_ | refine xw_exit ?_ | refine xw_label ?_ | refine post_ret ?_ | refine post_normal ?_ | refine postE_ret ?_ | refine postE_normal ?_ | (((first | refine at_region ?_ | refine at_out ?_ | refine at_cond ?_); split) <;> first | (exfalso; omega; done) | skip)) <;> try simp (config := { maxSteps := 3000000 }) (disch := first | assumption | omega | exact VG.okg (by assumption) | (simp only [List.length_set, List.length_append, List.length_cons, List.length_nil, List.length_replicate]; omega)) only [go_sem, ↓reduceIte, Int.reduceLE, Int.reduceLT, Int.reduceToNat, Int.reduceNeg, Int.reduceAdd, Int.reduceSub, Int.reduceMul, Int.reduceEq, Int.reduceNe, Nat.reduceEqDiff, Nat.reduceAdd, Nat.reduceSub, Nat.reduceMul, Nat.reduceLT, Nat.reduceLeDiff, Nat.reduceBEq, Nat.reduceBNe, UInt8.reduceToNat, Tryz.results62]))
  refine xw_loopR (fun (u : Nat × List Bool) s => s.m 8 = some (.box 0 (u.2.map bP)) ∧ s.ρ 8 = .ptr 8 0 0 0 ∧ s.ρ 9 = I (u.1 : Int) ∧ s.ρ 1 = I x ∧ s.ρ 2 = I y ∧ s.ρ 3 = .ptr 3 0 0 0 ∧ s.m 3 = some (.box 0 [I n, LE es]) ∧ s.ρ 6 = .ptr 6 0 0 0 ∧ s.m 6 = some (.box 0 ((fB 256).map bP)) ∧
    UR u.2 (flS n es x y u.1) ∧ ∀ j, j < u.1 → more n es x y j) (fun u => 50 - u.1) (0, fB 256) ?_ ?_
  · refine ⟨by simp [upd], by simp [upd], by simp [upd], by simp [upd], by simp [upd], by simp [upd], by simp [upd], by simp [upd], by simp [upd], UR.none, fun j h => by simp at h⟩
  rintro ⟨k, us⟩ ⟨ρ, m⟩ ⟨m8, h8, h9, h1, h2, h3, m3, h6, m6, g0, g1⟩
  simp only at m8 h8 h9 h1 h2 h3 m3 h6 m6 g0 g1
  have hk40 : k ≤ 40 := by
    have := more_stops ho hnd hx hxy g1
    have := alone_length x es
    omega
  have hr := c_reach (clo_flow us _ g0) n x es hV hx fun v h0 h1 => ⟨h0, by omega⟩
  have hB := bfs_inv (goes := goesF (flS n es x y k)) ho hx
  have hlen := hB.len
  have hul := g0.1
  obtain ⟨c1, c2, c3⟩ := clo_flow us _ g0
  by_cases hm : more n es x y k
  rotate_left
  · have hk := flN_eq ho hnd hx hxy g1 hm
    have hfy : (bfs n es (goesF (flS n es x y k)) x).1.getD y.toNat 0 < 0 := by
      have := (hB.mem y hy.1 hy.2).1
      exact Int.not_le.1 fun h => hm (this h)
    have hw := c_way_none (bfs n es (goesF (flS n es x y k)) x).1 x y ⟨hy.1, by omega⟩ hfy (by omega)
    repeat' (first
      | refine xw_seq ?_
      | refine xw_block ?_
      | (refine ite_two ?_ ?_ <;> intro _ <;> first | (exfalso; omega) | skip)
      | refine ord_split (by kernel_rfl) ?_
      | (refine xw_ret ?_ <;> try simp only [sq, bl, LQ])
      | ((first | refine xw_reg ?_ | refine xw_regd ?_ | refine xw_if ?_ | refine xw_skip ?_ | refine xw_exit ?_ | refine xw_label ?_ | refine post_ret ?_ | refine post_normal ?_ | refine postE_ret ?_ | refine postE_normal ?_ | (((first | refine at_region ?_ | refine at_out ?_ | refine at_cond ?_); split) <;> first | (exfalso; omega; done) | skip)) <;> try simp (config := { maxSteps := 3000000 }) (disch := first | assumption | omega | exact VG.okg (by assumption) | (simp only [List.length_set, List.length_append, List.length_cons, List.length_nil, List.length_replicate]; omega)) only [go_sem, ↓reduceIte, Int.reduceLE, Int.reduceLT, Int.reduceToNat, Int.reduceNeg, Int.reduceAdd, Int.reduceSub, Int.reduceMul, Int.reduceEq, Int.reduceNe, Nat.reduceEqDiff, Nat.reduceAdd, Nat.reduceSub, Nat.reduceMul, Nat.reduceLT, Nat.reduceLeDiff, Nat.reduceBEq, Nat.reduceBNe, UInt8.reduceToNat, Tryz.results62, m8, h8, h9, h1, h2, h3, m3, h6, m6, hr, hw, c1, c2, hul]))
    subst hk
    exact ⟨us, g0, rfl⟩
  have hw := c_way (fr := (bfs n es (goesF (flS n es x y k)) x).1) (ord := (bfs n es (goesF (flS n es x y k)) x).2) hB hn16 hm
  have hway := bfs_way ho hx hm
  have hS : flS n es x y (k + 1) = augF (flS n es x y k) (wayL n (bfs n es (goesF (flS n es x y k)) x).1 x y) := rfl
  generalize wayL n (bfs n es (goesF (flS n es x y k)) x).1 x y = p at hw hway hS
  have hin : ∀ i, i < p.length → 0 ≤ p.getD i 0 ∧ p.getD i 0 < n := fun i hi => by
    by_cases h0 : i + 1 < p.length
    · have := (hway.st i h0).1.ok ho; omega
    · have e : i = p.length - 1 := by omega
      rw [e, hway.la]; exact hy
  have hpl : p.length ≤ 16 := by
    have := len_le_of_sub (l := p) (m := iota n) hway.nd fun v hv => by
      obtain ⟨i, hi, he⟩ := List.mem_iff_getElem.1 hv
      have := hin i hi
      simp only [List.getD, List.getElem?_eq_getElem hi, Option.getD_some, he] at this
      exact mem_iota.2 this
    rw [iota_length] at this
    omega
  have hpp := hway.pos
  repeat' (first
    | refine xw_seq ?_
    | refine xw_block ?_
    | (refine ite_two ?_ ?_ <;> intro _ <;> first | (exfalso; omega) | skip)
    | refine ord_split (by kernel_rfl) ?_
    | (refine xw_ret ?_ <;> try simp only [sq, bl, LQ])
    | ((first | refine xw_reg ?_ | refine xw_regd ?_ | refine xw_if ?_ | refine xw_skip ?_ | refine xw_exit ?_ | refine xw_label ?_ | refine post_ret ?_ | refine post_normal ?_ | refine postE_ret ?_ | refine postE_normal ?_ | (((first | refine at_region ?_ | refine at_out ?_ | refine at_cond ?_); split) <;> first | (exfalso; omega; done) | skip)) <;> try simp (config := { maxSteps := 3000000 }) (disch := first | assumption | omega | exact VG.okg (by assumption) | (simp only [List.length_set, List.length_append, List.length_cons, List.length_nil, List.length_replicate]; omega)) only [go_sem, ↓reduceIte, Int.reduceLE, Int.reduceLT, Int.reduceToNat, Int.reduceNeg, Int.reduceAdd, Int.reduceSub, Int.reduceMul, Int.reduceEq, Int.reduceNe, Nat.reduceEqDiff, Nat.reduceAdd, Nat.reduceSub, Nat.reduceMul, Nat.reduceLT, Nat.reduceLeDiff, Nat.reduceBEq, Nat.reduceBNe, UInt8.reduceToNat, Tryz.results62, m8, h8, h9, h1, h2, h3, m3, h6, m6, hr, hw, c1, c2, hul]))
  refine xw_loopR (fun (v : Int × List Bool) s => s.m 8 = some (.box 0 (v.2.map bP)) ∧ s.ρ 8 = .ptr 8 0 0 0 ∧ s.ρ 9 = I ((k : Int) + 1) ∧ s.ρ 1 = I x ∧ s.ρ 2 = I y ∧ s.ρ 3 = .ptr 3 0 0 0 ∧ s.m 3 = some (.box 0 [I n, LE es]) ∧ s.ρ 6 = .ptr 6 0 0 0 ∧ s.m 6 = some (.box 0 ((fB 256).map bP)) ∧
    s.ρ 12 = LI p ∧ s.ρ 14 = I v.1 ∧ 1 ≤ v.1 ∧ v.1 ≤ p.length ∧ UR v.2 (augF (flS n es x y k) (p.take v.1.toNat))) (fun v => (p.length - v.1).toNat) (1, us) ?_ ?_
  · have e1 : augF (flS n es x y k) (p.take 1) = flS n es x y k := by
      cases p with
      | nil => rfl
      | cons a r => rfl
    refine ⟨by simp [upd, m8], by simp [upd, h8], by simp [upd], by simp [upd, h1], by simp [upd, h2], by simp [upd, h3], by simp [upd, m3], by simp [upd, h6], by simp [upd, m6], by simp [upd], by simp [upd], by simp, by simp only; omega, ?_⟩
    show UR us (augF (flS n es x y k) (p.take 1))
    rw [e1]; exact g0
  rintro ⟨i, vs⟩ ⟨ρ, m⟩ ⟨m8, h8, h9, h1, h2, h3, m3, h6, m6, h12, h14, f0, f1, f2⟩
  simp only at m8 h8 h9 h1 h2 h3 m3 h6 m6 h12 h14 f0 f1 f2
  have hvl := f2.1
  by_cases hi : i < p.length
  rotate_left
  · rw [take_all (by omega), ← hS] at f2
    repeat' (first
      | refine xw_seq ?_
      | refine xw_block ?_
      | (refine ite_two ?_ ?_ <;> intro _ <;> first | (exfalso; omega) | skip)
      | refine ord_split (by kernel_rfl) ?_
      | (refine xw_ret ?_ <;> try simp only [sq, bl, LQ])
      | ((first | refine xw_reg ?_ | refine xw_regd ?_ | refine xw_if ?_ | refine xw_skip ?_ | refine xw_exit ?_ | refine xw_label ?_ | refine post_ret ?_ | refine post_normal ?_ | refine postE_ret ?_ | refine postE_normal ?_ | (((first | refine at_region ?_ | refine at_out ?_ | refine at_cond ?_); split) <;> first | (exfalso; omega; done) | skip)) <;> try simp (config := { maxSteps := 3000000 }) (disch := first | assumption | omega | exact VG.okg (by assumption) | (simp only [List.length_set, List.length_append, List.length_cons, List.length_nil, List.length_replicate]; omega)) only [go_sem, ↓reduceIte, Int.reduceLE, Int.reduceLT, Int.reduceToNat, Int.reduceNeg, Int.reduceAdd, Int.reduceSub, Int.reduceMul, Int.reduceEq, Int.reduceNe, Nat.reduceEqDiff, Nat.reduceAdd, Nat.reduceSub, Nat.reduceMul, Nat.reduceLT, Nat.reduceLeDiff, Nat.reduceBEq, Nat.reduceBNe, UInt8.reduceToNat, Tryz.results62, m8, h8, h9, h1, h2, h3, m3, h6, m6, h12, h14, hvl]))
    refine ⟨k + 1, vs, rfl, rfl, f2, fun j hj => ?_, by omega⟩
    by_cases hjk : j = k
    · subst hjk; exact hm
    · exact g1 j (by omega)
  have ha := hin (i - 1).toNat (by omega)
  have hb := hin i.toNat (by omega)
  have hat := augF_take (F := flS n es x y k) (p := p) (i := i.toNat) (by omega) (by omega)
  rw [show i.toNat + 1 = (i + 1).toNat by omega, show i.toNat - 1 = (i - 1).toNat by omega] at hat
  have hst := f2.step (a := p.getD (i - 1).toNat 0) (b := p.getD i.toNat 0) ⟨ha.1, by omega⟩ ⟨hb.1, by omega⟩
  rw [← hat] at hst
  have hrd := f2.2 (p.getD i.toNat 0) (p.getD (i - 1).toNat 0) hb.1 (by omega) ha.1 (by omega)
  generalize hae : p.getD (i - 1).toNat 0 = a at ha hat hst hrd
  generalize hbe : p.getD i.toNat 0 = b at hb hat hst hrd
  by_cases hF : augF (flS n es x y k) (p.take i.toNat) b a = true
  · rw [if_pos hF] at hst
    rw [hF] at hrd
    repeat' (first
      | refine xw_seq ?_
      | refine xw_block ?_
      | (refine ite_two ?_ ?_ <;> intro _ <;> first | (exfalso; omega) | skip)
      | refine ord_split (by kernel_rfl) ?_
      | (refine xw_ret ?_ <;> try simp only [sq, bl, LQ])
      | ((first | refine xw_reg ?_ | refine xw_regd ?_ | refine xw_if ?_ | refine xw_skip ?_ | refine xw_exit ?_ | refine xw_label ?_ | refine post_ret ?_ | refine post_normal ?_ | refine postE_ret ?_ | refine postE_normal ?_ | (((first | refine at_region ?_ | refine at_out ?_ | refine at_cond ?_); split) <;> first | (exfalso; omega; done) | skip)) <;> try simp (config := { maxSteps := 3000000 }) (disch := first | assumption | omega | exact VG.okg (by assumption) | (simp only [List.length_set, List.length_append, List.length_cons, List.length_nil, List.length_replicate]; omega)) only [go_sem, ↓reduceIte, Int.reduceLE, Int.reduceLT, Int.reduceToNat, Int.reduceNeg, Int.reduceAdd, Int.reduceSub, Int.reduceMul, Int.reduceEq, Int.reduceNe, Nat.reduceEqDiff, Nat.reduceAdd, Nat.reduceSub, Nat.reduceMul, Nat.reduceLT, Nat.reduceLeDiff, Nat.reduceBEq, Nat.reduceBNe, UInt8.reduceToNat, Tryz.results62, m8, h8, h9, h1, h2, h3, m3, h6, m6, h12, h14, hvl, Nat.mul_one, hae, hbe, hrd]))
    refine ⟨i + 1, _, ?_, rfl, by omega, by omega, hst, by omega⟩
    rw [List.append_assoc]
    exact congrArg (Arr.box 0) (bP_put vs _ _ (by omega))
  · rw [if_neg hF] at hst
    rw [Bool.not_eq_true] at hF
    rw [hF] at hrd
    repeat' (first
      | refine xw_seq ?_
      | refine xw_block ?_
      | (refine ite_two ?_ ?_ <;> intro _ <;> first | (exfalso; omega) | skip)
      | refine ord_split (by kernel_rfl) ?_
      | (refine xw_ret ?_ <;> try simp only [sq, bl, LQ])
      | ((first | refine xw_reg ?_ | refine xw_regd ?_ | refine xw_if ?_ | refine xw_skip ?_ | refine xw_exit ?_ | refine xw_label ?_ | refine post_ret ?_ | refine post_normal ?_ | refine postE_ret ?_ | refine postE_normal ?_ | (((first | refine at_region ?_ | refine at_out ?_ | refine at_cond ?_); split) <;> first | (exfalso; omega; done) | skip)) <;> try simp (config := { maxSteps := 3000000 }) (disch := first | assumption | omega | exact VG.okg (by assumption) | (simp only [List.length_set, List.length_append, List.length_cons, List.length_nil, List.length_replicate]; omega)) only [go_sem, ↓reduceIte, Int.reduceLE, Int.reduceLT, Int.reduceToNat, Int.reduceNeg, Int.reduceAdd, Int.reduceSub, Int.reduceMul, Int.reduceEq, Int.reduceNe, Nat.reduceEqDiff, Nat.reduceAdd, Nat.reduceSub, Nat.reduceMul, Nat.reduceLT, Nat.reduceLeDiff, Nat.reduceBEq, Nat.reduceBNe, UInt8.reduceToNat, Tryz.results62, m8, h8, h9, h1, h2, h3, m3, h6, m6, h12, h14, hvl, Nat.mul_one, hae, hbe, hrd]))
    refine ⟨i + 1, _, ?_, rfl, by omega, by omega, hst, by omega⟩
    rw [List.append_assoc]
    exact congrArg (Arr.box 0) (bP_put vs _ _ (by omega))
end Go.Proofs.YtdjdgnabcecdlaaGreatDoor.X

/- Flows and cuts: plain law. -/
set_option linter.unusedVariables false
namespace Go.Proofs.YtdjdgnabcecdlaaGreatDoor.X
open Go
section
variable {n : Int} {es : List (Int × Int)} {x y : Int}
theorem cutsz_not {S : Int → Bool} : cutsz (fun v => !S v) es = cutsz S es := by
  unfold cutsz
  congr 1
  refine List.filter_congr fun e _ => ?_
  show ((!S e.1) != (!S e.2)) = (S e.1 != S e.2)
  cases S e.1 <;> cases S e.2 <;> rfl
theorem flow_symm_le (ho : ∀ e ∈ es, okE n e) (hn : es.Nodup) (hx : 0 ≤ x ∧ x < n) (hy : 0 ≤ y ∧ y < n) (hxy : x ≠ y) : flN n es x y ≤ flN n es y x := by
  rw [← flow_cut ho hn hy (fun e => hxy e.symm), ← cutsz_not]
  refine flow_le ho hn hx hxy ?_ ?_
  · simpa using side_y ho hn hy (fun e => hxy e.symm)
  · simpa using side_x ho hy
theorem flow_symm (ho : ∀ e ∈ es, okE n e) (hn : es.Nodup) (hx : 0 ≤ x ∧ x < n) (hy : 0 ≤ y ∧ y < n) (hxy : x ≠ y) : flN n es x y = flN n es y x :=
  Nat.le_antisymm (flow_symm_le ho hn hx hy hxy) (flow_symm_le ho hn hy hx fun e => hxy e.symm)
theorem flow_deg (ho : ∀ e ∈ es, okE n e) (hn : es.Nodup) (hx : 0 ≤ x ∧ x < n) (hy : 0 ≤ y ∧ y < n) (hxy : x ≠ y) : flN n es x y ≤ (nbS x es).length ∧ flN n es x y ≤ (nbS y es).length := by
  refine ⟨(flN_spec ho hn hx hxy).2.2, ?_⟩
  rw [flow_symm ho hn hx hy hxy]
  exact (flN_spec ho hn hy fun e => hxy e.symm).2.2
open Classical in
open Classical in
open Classical in
open Classical in
end
/-- The least number of ways from the first node. -/
def wk (n : Int) (es : List (Int × Int)) : Nat → Nat
  | 0 => 40
  | k + 1 => min (wk n es k) (flN n es 0 ((k : Nat) + 1 : Int))
/-- The weakest cut. -/
def weak (n : Int) (es : List (Int × Int)) : Nat := wk n es (n - 1).toNat
end Go.Proofs.YtdjdgnabcecdlaaGreatDoor.X
