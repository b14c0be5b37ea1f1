/- What functions answer, and the plain laws behind it. -/
import Derived.Test.YtdjdgnabcecdlaaGreatDoorKAL
import Derived.Test.YtdjdgnabcecdlaaGreatDoorM23
import Derived.Test.YtdjdgnabcecdlaaGreatDoorKAG
/- What functions compute: the line of the forest. -/
set_option linter.unusedSimpArgs false
set_option linter.unusedVariables false
set_option maxHeartbeats 8000000
set_option maxRecDepth 100000
namespace Go.Proofs.YtdjdgnabcecdlaaGreatDoor.X
open Go Go.Proofs
theorem c_LevelForest0 (n : Int) (ts : List Tl) (hL : LV n ts) : KP 177 [LvP n ts, I 0] [] = some (.tup [.i (qe (abT ts 0 true)), B true], [], []) := by
  have hV := hL.vg
  have hel := hV.2.2.1
  have l1 := esT_len' ts
  have hlv := c_LevelsValid n ts hV
  rw [decide_eq_true hL] at hlv
  have hab := c_above n 0 true ts (by omega)
  unfold qP qA at hab
  unfold qe
  by_cases hz : abT ts 0 true = []
  · rw [if_pos hz, if_pos hz] at hab
    rw [if_pos hz]
    refine xw_call (fn := Tryz.f177) rfl Tryz.func177 rfl ⟨Nat.le_of_ble_eq_true rfl, rfl, rfl⟩ ?_
    repeat' (first
      | refine xw_seq ?_
      | refine xw_block ?_
      | (refine ite_two ?_ ?_ <;> intro _ <;> first | (exfalso; omega) | skip)
      | refine ord_split (by kernel_rfl) ?_
      | (refine xw_ret ?_ <;> try simp only [sq, bl, LQ])
      | ((first | refine xw_reg ?_ | refine xw_regd ?_ | refine xw_if ?_ | refine xw_skip ?_ | refine xw_exit ?_ | refine xw_label ?_ | refine post_ret ?_ | refine post_normal ?_ | refine postE_ret ?_ | refine postE_normal ?_ | (((first | refine at_region ?_ | refine at_out ?_ | refine at_cond ?_); split) <;> first | (exfalso; omega; done) | skip)) <;> try simp (config := { maxSteps := 3000000 }) (disch := first | assumption | omega | exact VG.okg (by assumption) | (simp only [List.length_set, List.length_append, List.length_cons, List.length_nil, List.length_replicate]; omega)) only [go_sem, ↓reduceIte, Int.reduceLE, Int.reduceLT, Int.reduceToNat, Int.reduceNeg, Int.reduceAdd, Int.reduceSub, Int.reduceMul, Int.reduceEq, Int.reduceNe, Nat.reduceEqDiff, Nat.reduceAdd, Nat.reduceSub, Nat.reduceMul, Nat.reduceLT, Nat.reduceLeDiff, Nat.reduceBEq, Nat.reduceBNe, UInt8.reduceToNat, Tryz.results177, hlv, hab]))
  · rw [if_neg hz, if_neg hz] at hab
    rw [if_neg hz]
    refine xw_call (fn := Tryz.f177) rfl Tryz.func177 rfl ⟨Nat.le_of_ble_eq_true rfl, rfl, rfl⟩ ?_
    repeat' (first
      | refine xw_seq ?_
      | refine xw_block ?_
      | (refine ite_two ?_ ?_ <;> intro _ <;> first | (exfalso; omega) | skip)
      | refine ord_split (by kernel_rfl) ?_
      | (refine xw_ret ?_ <;> try simp only [sq, bl, LQ])
      | ((first | refine xw_reg ?_ | refine xw_regd ?_ | refine xw_if ?_ | refine xw_skip ?_ | refine xw_exit ?_ | refine xw_label ?_ | refine post_ret ?_ | refine post_normal ?_ | refine postE_ret ?_ | refine postE_normal ?_ | (((first | refine at_region ?_ | refine at_out ?_ | refine at_cond ?_); split) <;> first | (exfalso; omega; done) | skip)) <;> try simp (config := { maxSteps := 3000000 }) (disch := first | assumption | omega | exact VG.okg (by assumption) | (simp only [List.length_set, List.length_append, List.length_cons, List.length_nil, List.length_replicate]; omega)) only [go_sem, ↓reduceIte, Int.reduceLE, Int.reduceLT, Int.reduceToNat, Int.reduceNeg, Int.reduceAdd, Int.reduceSub, Int.reduceMul, Int.reduceEq, Int.reduceNe, Nat.reduceEqDiff, Nat.reduceAdd, Nat.reduceSub, Nat.reduceMul, Nat.reduceLT, Nat.reduceLeDiff, Nat.reduceBEq, Nat.reduceBNe, UInt8.reduceToNat, Tryz.results177, hlv, hab]))
theorem c_wl_forest (n : Int) (x y z : IV) (ts : List Tl) (h3 : LV3 x y z ts) (hL : LV n ts) :
    KP 137 [.ptr 1000 0 0 0, S [102, 111, 114, 101, 115, 116]] [.box 0 [I n, .i x, .i y, .i z]] =
      some (S ([102, 111, 114, 101, 115, 116] ++ edsT (abT ts 0 true) ++ [10]), [.box 0 [I n, .i x, .i y, .i z]], []) := by
  have hfx := h3.fx
  have hlx := h3.lx
  have hfy := h3.fy
  have hly := h3.ly
  have hfz := h3.fz
  have hlz := h3.lz
  have hV := hL.vg
  have hel := hV.2.2.1
  have l1 := esT_len' ts
  have hal := abT_len ts 0 true
  have hc := c_LevelForest0 n ts hL
  have hse : smallE (abT ts 0 true) := fun e he => hV.small.1 e (abT_sub_es e he)
  have hnt := c_edgesText [102, 111, 114, 101, 115, 116] (abT ts 0 true) hse (by simp) (by omega)
  have hle := edsT_len (abT ts 0 true)
  generalize abT ts 0 true = F at *
  generalize hR : ([102, 111, 114, 101, 115, 116] : List UInt8) ++ edsT F = R at *
  have hRl : R.length ≤ 1000 := by rw [← hR]; simp only [List.length_append, List.length_cons, List.length_nil]; omega
  refine xw_call (fn := Tryz.f137) rfl Tryz.func137 rfl ⟨Nat.le_of_ble_eq_true rfl, rfl, rfl⟩ ?_
  repeat' (first
    | refine xw_seq ?_
    | refine xw_block ?_
    | (refine ite_two ?_ ?_ <;> intro _ <;> first | (exfalso; omega) | skip)
    | refine ord_split (by kernel_rfl) ?_
    | (refine xw_ret ?_ <;> try simp only [sq, bl, LQ])
    | ((first | refine xw_reg ?_ | refine xw_regd ?_ | refine xw_if ?_ | refine xw_skip ?_ | refine xw_exit ?_ | refine xw_label ?_ | refine post_ret ?_ | refine post_normal ?_ | refine postE_ret ?_ | refine postE_normal ?_ | (((first | refine at_region ?_ | refine at_out ?_ | refine at_cond ?_); split) <;> first | (exfalso; omega; done) | skip)) <;> try simp (config := { maxSteps := 3000000 }) (disch := first | assumption | omega | exact VG.okg (by assumption) | (simp only [List.length_set, List.length_append, List.length_cons, List.length_nil, List.length_replicate]; omega)) only [go_sem, ↓reduceIte, Int.reduceLE, Int.reduceLT, Int.reduceToNat, Int.reduceNeg, Int.reduceAdd, Int.reduceSub, Int.reduceMul, Int.reduceEq, Int.reduceNe, Nat.reduceEqDiff, Nat.reduceAdd, Nat.reduceSub, Nat.reduceMul, Nat.reduceLT, Nat.reduceLeDiff, Nat.reduceBEq, Nat.reduceBNe, UInt8.reduceToNat, Tryz.results137, hfx, hlx, hfy, hly, hfz, hlz, hc, hnt]))
end Go.Proofs.YtdjdgnabcecdlaaGreatDoor.X

/- Trees with a root, their tours: plain law. -/
set_option linter.unusedVariables false
namespace Go.Proofs.YtdjdgnabcecdlaaGreatDoor.X
open Go
theorem dst_bound {n : Int} {es : List (Int × Int)} {t x : Int} (ho : ∀ e ∈ es, okE n e) (h0 : 0 ≤ n) (hc : Conn es t x) (hx : inN n x) : dst n es t x < n := by
  have ht : inN n t := by
    rcases hc.ok ho with e | ⟨a, b, -, -⟩
    · rw [e]; exact hx
    · exact ⟨a, b⟩
  have hd := (dst_spec ho hc (n := n)).1
  have hl : (pathL n es x t).length = (dst n es t x).toNat + 1 := pathL_len
  have hn : ((pathL n es x t).map (dst n es t)).Nodup := by
    rw [List.nodup_iff_pairwise_ne, List.pairwise_iff_getElem]
    intro i j hi hj hij
    rw [List.length_map] at hi hj
    have a1 := (pathL_at ho h0 hc.symm hi).2.1
    have a2 := (pathL_at ho h0 hc.symm hj).2.1
    simp only [List.getD, List.getElem?_eq_getElem hi, List.getElem?_eq_getElem hj, Option.getD_some] at a1 a2
    rw [List.getElem_map, List.getElem_map, a1, a2]
    omega
  have := len_le_of_sub (l := pathL n es x t) (m := iota n) ((List.pairwise_map.1 hn).imp fun h e => h (by rw [e])) fun v hv => by
    obtain ⟨i, hi, rfl⟩ := List.mem_iff_getElem.1 hv
    have a1 := (pathL_at ho h0 hc.symm hi).1
    simp only [List.getD, List.getElem?_eq_getElem hi, Option.getD_some] at a1
    rcases a1.ok ho with e | ⟨-, -, a, b⟩
    · rw [← e]; exact mem_iota.2 ht
    · exact mem_iota.2 ⟨a, b⟩
  have hio : (iota n).length = n.toNat := by simp [iota]
  rw [hio, hl] at this
  omega
theorem adj_alone {v x y : Int} {es : List (Int × Int)} (h : Adj es x y) (hx : x ≠ v) (hy : y ≠ v) : Adj (alone v es) x y := by
  unfold alone
  rcases h with h | h
  · exact .inl (List.mem_filter.2 ⟨h, by simp [hx, hy]⟩)
  · exact .inr (List.mem_filter.2 ⟨h, by simp [hx, hy]⟩)
/-- Two neighbors of a node are not connected without it. -/
theorem tree_apart {n : Int} {es : List (Int × Int)} (ho : ∀ e ∈ es, okE n e) (ht : Tree n es) {x y z : Int} (hy : Adj es x y) (hz : Adj es x z) (hne : y ≠ z) : ¬ Conn (alone x es) y z := by
  intro hc
  have he := (adj_edge ho).1 hy
  have hb := tree_brg ho ht he.2
  have hzy : Adj (cutE (edgeOf x y) es) x z := by
    refine Classical.byContradiction fun hn => ?_
    have hyo := hy.ok ho
    have hzo := hz.ok ho
    have e1 : (edgeOf x y = (x, y)) ∨ (edgeOf x y = (y, x)) := edgeOf_ends
    rcases adj_cut ho hz hn with ⟨a, b⟩ | ⟨a, b⟩ <;> rcases e1 with e | e <;> rw [e] at a b <;> simp only at a b <;> omega
  have hca : Conn (cutE (edgeOf x y) es) y z := hc.mono (alone_cut (by rcases edgeOf_ends (x := x) (y := y) with e | e <;> rw [e] <;> simp))
  have hxy : Conn (cutE (edgeOf x y) es) x y := (Conn.of hzy).trans hca.symm
  refine hb ?_
  rcases edgeOf_ends (x := x) (y := y) with e | e
  · rw [e] at hxy ⊢; exact hxy
  · rw [e] at hxy ⊢; exact hxy.symm
/-- From a node that is no farther one comes to the root without it. -/
theorem near_alone {n : Int} {es : List (Int × Int)} (ho : ∀ e ∈ es, okE n e) (h0 : 0 ≤ n) {r x : Int} : ∀ (k : Nat) {y : Int}, Conn es r y → dst n es r y = k → y ≠ x → dst n es r y ≤ dst n es r x → Conn (alone x es) y r
  | 0, y, hc, hk, hne, hle => by
    have : y = r := dst_zero ho hc (by omega)
    subst this; exact .refl _
  | k + 1, y, hc, hk, hne, hle => by
    obtain ⟨z, ha, hz⟩ := dst_near ho h0 hc (by omega)
    have hcz := hc.step ha
    have hzx : z ≠ x := fun e => by subst e; omega
    exact (Conn.of (adj_alone ha hne hzx)).trans (near_alone ho h0 k hcz (by omega) hzx (by omega))
/-- Of the neighbors of a node one at most is no farther. -/
theorem tree_up {n : Int} {es : List (Int × Int)} (ho : ∀ e ∈ es, okE n e) (h0 : 0 ≤ n) (ht : Tree n es) {r x y z : Int} (hc : Conn es r x) (hy : Adj es x y) (hz : Adj es x z) (h1 : dst n es r y ≤ dst n es r x) (h2 : dst n es r z ≤ dst n es r x) : y = z := by
  refine Classical.byContradiction fun hne => tree_apart ho ht hy hz hne ?_
  have d1 := (dst_spec (n := n) ho (hc.step hy)).1
  have d2 := (dst_spec (n := n) ho (hc.step hz)).1
  have a1 := near_alone ho h0 (dst n es r y).toNat (hc.step hy) (by omega) (fun e => (hy.ok ho).2.2.2.2 e.symm) h1
  have a2 := near_alone ho h0 (dst n es r z).toNat (hc.step hz) (by omega) (fun e => (hz.ok ho).2.2.2.2 e.symm) h2
  exact a1.trans a2.symm
/-- A neighbor is a step nearer or a step farther. -/
theorem tree_step {n : Int} {es : List (Int × Int)} (ho : ∀ e ∈ es, okE n e) (h0 : 0 ≤ n) (ht : Tree n es) {r x y : Int} (hc : Conn es r x) (hy : Adj es x y) : dst n es r y = dst n es r x - 1 ∨ dst n es r y = dst n es r x + 1 := by
  have a := dst_adj (n := n) ho hc hy
  have b := dst_adj (n := n) ho (hc.step hy) hy.symm
  have hne := (hy.ok ho).2.2.2.2
  by_cases e : dst n es r y = dst n es r x
  · exfalso
    by_cases hz : dst n es r x = 0
    · have h1 := dst_zero ho hc hz
      have h2 := dst_zero ho (hc.step hy) (by omega)
      exact hne (h1.trans h2.symm)
    · obtain ⟨p, hp, hd⟩ := dst_near ho h0 hc hz
      have := tree_up ho h0 ht hc hy hp (by omega) (by omega)
      subst this; omega
  · omega
theorem conn_alone_of {fs : List (Int × Int)} {y z p : Int} (h : Conn fs y z) (hn : ¬ Conn fs y p) : Conn (alone p fs) y z := by
  induction h with
  | refl => exact .refl _
  | @step u v a b ih =>
    exact (ih).trans (.of (adj_alone b (fun e => hn (e ▸ a)) fun e => hn (e ▸ a.step b)))
theorem conn_first {fs : List (Int × Int)} {x z : Int} (h : Conn fs x z) : z = x ∨ ∃ y, Adj fs x y ∧ Conn (alone x fs) y z := by
  induction h with
  | refl => exact .inl rfl
  | @step u v a b ih =>
    by_cases hv : v = x
    · exact .inl hv
    · rcases ih with rfl | ⟨y, h1, h2⟩
      · exact .inr ⟨v, b, .refl _⟩
      · by_cases hu : u = x
        · subst hu; exact .inr ⟨v, b, .refl _⟩
        · exact .inr ⟨y, h1, h2.trans (.of (adj_alone b hu hv))⟩
theorem conn_of_alone {v : Int} {fs : List (Int × Int)} {x y : Int} (h : Conn (alone v fs) x y) : Conn fs x y := h.mono alone_sub
theorem conn_alone_ne {v : Int} {fs : List (Int × Int)} {x y : Int} (h : Conn (alone v fs) x y) (hx : x ≠ v) : y ≠ v := fun e => hx (by
  have := h.symm
  rw [e] at this
  exact alone_conn this)
def kidsL (es : List (Int × Int)) (x p : Int) : List Int := (nbS x es).filter fun y => decide (y ≠ p)
def tourL (es : List (Int × Int)) : Nat → Int → Int → List Int
  | 0, x, _ => [x]
  | f + 1, x, p => x :: (kidsL es x p).flatMap fun y => tourL es f y x ++ [x]
/-- The nodes below a node, and the edges. -/
def subN (es : List (Int × Int)) : Nat → Int → Int → List Int
  | 0, x, _ => [x]
  | f + 1, x, p => x :: (kidsL es x p).flatMap fun y => subN es f y x
def subE (es : List (Int × Int)) : Nat → Int → Int → List (Int × Int)
  | 0, _, _ => []
  | f + 1, x, p => (kidsL es x p).flatMap fun y => edgeOf x y :: subE es f y x
/-- A place in a tree with a root: a node, and the one above it. -/
structure At (n : Int) (es : List (Int × Int)) (r x p : Int) : Prop where
  cn : Conn es r x
  inx : inN n x
  up : (x = r ∧ p = -1) ∨ (Adj es x p ∧ dst n es r p = dst n es r x - 1)
theorem mem_kids {n : Int} {es : List (Int × Int)} (ho : ∀ e ∈ es, okE n e) {x p y : Int} : y ∈ kidsL es x p ↔ Adj es x y ∧ y ≠ p := by
  unfold kidsL
  rw [List.mem_filter, mem_nbS ho, decide_eq_true_eq]
theorem At.kid {n : Int} {es : List (Int × Int)} (ho : ∀ e ∈ es, okE n e) (h0 : 0 ≤ n) (ht : Tree n es) {r x p y : Int} (h : At n es r x p) (hy : y ∈ kidsL es x p) : At n es r y x ∧ dst n es r y = dst n es r x + 1 := by
  obtain ⟨ha, hp⟩ := (mem_kids ho).1 hy
  have hd : dst n es r y = dst n es r x + 1 := by
    rcases tree_step ho h0 ht h.cn ha with e | e
    · exfalso
      rcases h.up with ⟨rfl, -⟩ | ⟨hq, hqd⟩
      · have := (dst_spec (n := n) ho (h.cn.step ha)).1
        rw [dst_self ho h0] at e; omega
      · exact hp (tree_up ho h0 ht h.cn ha hq (by omega) (by omega))
    · exact e
  have hok := ha.ok ho
  exact ⟨⟨h.cn.step ha, ⟨hok.2.2.1, hok.2.2.2.1⟩, .inr ⟨ha.symm, by omega⟩⟩, hd⟩
theorem kids_nodup {n : Int} {es : List (Int × Int)} (ho : ∀ e ∈ es, okE n e) (hn : es.Nodup) {x p : Int} : (kidsL es x p).Nodup := by
  refine List.Nodup.sublist List.filter_sublist ?_
  exact (sorted_nbS ho hn x).imp fun h => by omega
/-- Below a node lies what is connected with it without the one above. -/
theorem mem_sub {n : Int} {es : List (Int × Int)} (ho : ∀ e ∈ es, okE n e) (h0 : 0 ≤ n) (ht : Tree n es) {r : Int} : ∀ (f : Nat) {x p z : Int}, At n es r x p → n - dst n es r x ≤ f → (z ∈ subN es f x p ↔ Conn (alone p es) x z)
  | 0, x, p, z, h, hf => by
    exfalso
    have hd := dst_bound ho h0 h.cn h.inx
    omega
  | f + 1, x, p, z, h, hf => by
    rw [subN, List.mem_cons, List.mem_flatMap]
    have hxp : x ≠ p := by
      rcases h.up with ⟨rfl, rfl⟩ | ⟨ha, -⟩
      · have := h.inx.1; omega
      · exact (ha.ok ho).2.2.2.2
    constructor
    · rintro (rfl | ⟨y, hy, hz⟩)
      · exact .refl _
      · obtain ⟨hk, hd⟩ := h.kid ho h0 ht hy
        obtain ⟨ha, hyp⟩ := (mem_kids ho).1 hy
        have hcz := (mem_sub ho h0 ht f hk (by omega)).1 hz
        have hnp : ¬ Conn (alone x es) y p := fun hc => by
          rcases h.up with ⟨rfl, rfl⟩ | ⟨hp, -⟩
          · have := (conn_of_alone hc).ok ho
            rcases this with e | ⟨-, -, e, -⟩
            · exact hyp e
            · omega
          · exact tree_apart ho ht ha hp hyp hc
        have h1 := conn_alone_of hcz hnp
        have h2 : Conn (alone p es) y z := h1.mono fun e he => by
          have e1 := List.mem_filter.1 he
          have e2 := List.mem_filter.1 e1.1
          exact List.mem_filter.2 ⟨e2.1, e1.2⟩
        exact (Conn.of (adj_alone ha hxp hyp)).trans h2
    · intro hc
      rcases conn_first hc with rfl | ⟨y, hy, hz⟩
      · exact .inl rfl
      · right
        obtain ⟨h1, h2, h3⟩ := alone_adj hy
        have hyk : y ∈ kidsL es x p := (mem_kids ho).2 ⟨h3, h2⟩
        obtain ⟨hk, hd⟩ := h.kid ho h0 ht hyk
        refine ⟨y, hyk, (mem_sub ho h0 ht f hk (by omega)).2 (hz.mono fun e he => ?_)⟩
        have e1 := List.mem_filter.1 he
        have e2 := List.mem_filter.1 e1.1
        exact List.mem_filter.2 ⟨e2.1, e1.2⟩
theorem nodup_flatMap {α β : Type} {f : α → List β} : ∀ {l : List α}, l.Nodup → (∀ x ∈ l, (f x).Nodup) → (∀ x ∈ l, ∀ y ∈ l, x ≠ y → ∀ b, b ∈ f x → b ∉ f y) → (l.flatMap f).Nodup
  | [], _, _, _ => by simp
  | a :: l, hn, h1, h2 => by
    rw [List.nodup_cons] at hn
    rw [List.flatMap_cons, List.nodup_append]
    refine ⟨h1 a (by simp), nodup_flatMap hn.2 (fun x hx => h1 x (List.mem_cons_of_mem _ hx)) (fun x hx y hy => h2 x (List.mem_cons_of_mem _ hx) y (List.mem_cons_of_mem _ hy)), fun b hb c hc e => ?_⟩
    subst e
    obtain ⟨y, hy, hby⟩ := List.mem_flatMap.1 hc
    exact h2 a (by simp) y (List.mem_cons_of_mem _ hy) (fun e => hn.1 (e ▸ hy)) b hb hby
theorem sub_nodup {n : Int} {es : List (Int × Int)} (ho : ∀ e ∈ es, okE n e) (hn : es.Nodup) (h0 : 0 ≤ n) (ht : Tree n es) {r : Int} : ∀ (f : Nat) {x p : Int}, At n es r x p → n - dst n es r x ≤ f → (subN es f x p).Nodup
  | 0, x, p, h, hf => by simp [subN]
  | f + 1, x, p, h, hf => by
    rw [subN, List.nodup_cons, List.mem_flatMap]
    refine ⟨?_, nodup_flatMap (kids_nodup ho hn) (fun y hy => ?_) fun y hy z hz hyz b hb hc => ?_⟩
    · rintro ⟨y, hy, hx⟩
      obtain ⟨hk, hd⟩ := h.kid ho h0 ht hy
      have hc := (mem_sub ho h0 ht f hk (by omega)).1 hx
      have ha := ((mem_kids ho).1 hy).1
      exact (conn_alone_ne hc fun e => (ha.ok ho).2.2.2.2 e.symm) rfl
    · obtain ⟨hk, hd⟩ := h.kid ho h0 ht hy
      exact sub_nodup ho hn h0 ht f hk (by omega)
    · obtain ⟨hk, hd⟩ := h.kid ho h0 ht hy
      obtain ⟨hk2, hd2⟩ := h.kid ho h0 ht hz
      have c1 := (mem_sub ho h0 ht f hk (by omega)).1 hb
      have c2 := (mem_sub ho h0 ht f hk2 (by omega)).1 hc
      exact tree_apart ho ht ((mem_kids ho).1 hy).1 ((mem_kids ho).1 hz).1 hyz (c1.trans c2.symm)
theorem mem_tour {es : List (Int × Int)} : ∀ (f : Nat) {x p z : Int}, z ∈ tourL es f x p ↔ z ∈ subN es f x p
  | 0, x, p, z => Iff.rfl
  | f + 1, x, p, z => by
    rw [tourL, subN, List.mem_cons, List.mem_cons, List.mem_flatMap, List.mem_flatMap]
    constructor
    · rintro (h | ⟨y, hy, h⟩)
      · exact .inl h
      · rcases List.mem_append.1 h with h | h
        · exact .inr ⟨y, hy, (mem_tour f).1 h⟩
        · exact .inl (List.mem_singleton.1 h)
    · rintro (h | ⟨y, hy, h⟩)
      · exact .inl h
      · exact .inr ⟨y, hy, List.mem_append.2 (.inl ((mem_tour f).2 h))⟩
theorem tour_len {es : List (Int × Int)} : ∀ (f : Nat) {x p : Int}, (tourL es f x p).length + 1 = 2 * (subN es f x p).length
  | 0, x, p => rfl
  | f + 1, x, p => by
    rw [tourL, subN, List.length_cons, List.length_cons]
    have key : ∀ l : List Int, (l.flatMap fun y => tourL es f y x ++ [x]).length = 2 * (l.flatMap fun y => subN es f y x).length := by
      intro l
      induction l with
      | nil => rfl
      | cons a l ih =>
        have := tour_len f (x := a) (p := x) (es := es)
        rw [List.flatMap_cons, List.flatMap_cons, List.length_append, List.length_append, ih, List.length_append]
        simp only [List.length_cons, List.length_nil]
        omega
    rw [key]; omega
theorem subE_len {es : List (Int × Int)} : ∀ (f : Nat) {x p : Int}, (subE es f x p).length + 1 = (subN es f x p).length
  | 0, x, p => rfl
  | f + 1, x, p => by
    rw [subE, subN, List.length_cons]
    have key : ∀ l : List Int, (l.flatMap fun y => edgeOf x y :: subE es f y x).length = (l.flatMap fun y => subN es f y x).length := by
      intro l
      induction l with
      | nil => rfl
      | cons a l ih =>
        have := subE_len f (x := a) (p := x) (es := es)
        rw [List.flatMap_cons, List.flatMap_cons, List.length_append, List.length_append, ih, List.length_cons, this]
    rw [key]
theorem subE_ends {es : List (Int × Int)} : ∀ (f : Nat) {x p : Int} {e : Int × Int}, e ∈ subE es f x p → e.1 ∈ subN es f x p ∧ e.2 ∈ subN es f x p
  | 0, x, p, e, h => by simp [subE] at h
  | f + 1, x, p, e, h => by
    rw [subE, List.mem_flatMap] at h
    obtain ⟨y, hy, h⟩ := h
    rw [subN]
    have hself : y ∈ subN es f y x := by cases f <;> simp [subN]
    have hin : ∀ z, z ∈ subN es f y x → z ∈ x :: (kidsL es x p).flatMap fun y => subN es f y x := fun z hz => List.mem_cons_of_mem _ (List.mem_flatMap.2 ⟨y, hy, hz⟩)
    rcases List.mem_cons.1 h with rfl | h
    · rcases edgeOf_ends (x := x) (y := y) with e | e <;> rw [e]
      · exact ⟨by simp, hin _ hself⟩
      · exact ⟨hin _ hself, by simp⟩
    · obtain ⟨h1, h2⟩ := subE_ends f h
      exact ⟨hin _ h1, hin _ h2⟩
theorem subE_sub {n : Int} {es : List (Int × Int)} (ho : ∀ e ∈ es, okE n e) : ∀ (f : Nat) {x p : Int} {e : Int × Int}, e ∈ subE es f x p → e ∈ es
  | 0, x, p, e, h => by simp [subE] at h
  | f + 1, x, p, e, h => by
    rw [subE, List.mem_flatMap] at h
    obtain ⟨y, hy, h⟩ := h
    rcases List.mem_cons.1 h with rfl | h
    · exact ((adj_edge ho).1 ((mem_kids ho).1 hy).1).2
    · exact subE_sub ho f h
theorem subE_nodup {n : Int} {es : List (Int × Int)} (ho : ∀ e ∈ es, okE n e) (hn : es.Nodup) (h0 : 0 ≤ n) (ht : Tree n es) {r : Int} : ∀ (f : Nat) {x p : Int}, At n es r x p → n - dst n es r x ≤ f → (subE es f x p).Nodup
  | 0, x, p, h, hf => by simp [subE]
  | f + 1, x, p, h, hf => by
    have hnx : ∀ y ∈ kidsL es x p, x ∉ subN es f y x := fun y hy hx => by
      obtain ⟨hk, hd⟩ := h.kid ho h0 ht hy
      have hc := (mem_sub ho h0 ht f hk (by omega)).1 hx
      exact (conn_alone_ne hc fun e => (((mem_kids ho).1 hy).1.ok ho).2.2.2.2 e.symm) rfl
    have hdis : ∀ y ∈ kidsL es x p, ∀ z ∈ kidsL es x p, y ≠ z → ∀ b, b ∈ subN es f y x → b ∉ subN es f z x := fun y hy z hz hyz b hb hc => by
      obtain ⟨hk, hd⟩ := h.kid ho h0 ht hy
      obtain ⟨hk2, hd2⟩ := h.kid ho h0 ht hz
      have c1 := (mem_sub ho h0 ht f hk (by omega)).1 hb
      have c2 := (mem_sub ho h0 ht f hk2 (by omega)).1 hc
      exact tree_apart ho ht ((mem_kids ho).1 hy).1 ((mem_kids ho).1 hz).1 hyz (c1.trans c2.symm)
    have hex : ∀ {y : Int}, (edgeOf x y).1 = x ∨ (edgeOf x y).2 = x := fun {y} => by rcases edgeOf_ends (x := x) (y := y) with e | e <;> rw [e] <;> simp
    rw [subE]
    refine nodup_flatMap (kids_nodup ho hn) (fun y hy => ?_) fun y hy z hz hyz b hb hc => ?_
    · obtain ⟨hk, hd⟩ := h.kid ho h0 ht hy
      rw [List.nodup_cons]
      refine ⟨fun hm => ?_, subE_nodup ho hn h0 ht f hk (by omega)⟩
      obtain ⟨h1, h2⟩ := subE_ends f hm
      rcases hex (y := y) with e | e
      · rw [e] at h1; exact hnx y hy h1
      · rw [e] at h2; exact hnx y hy h2
    · rcases List.mem_cons.1 hb with rfl | hb
      · rcases List.mem_cons.1 hc with he | hc
        · rcases edgeOf_ends (x := x) (y := y) with e1 | e1 <;> rcases edgeOf_ends (x := x) (y := z) with e2 | e2 <;> rw [e1, e2] at he <;> simp only [Prod.mk.injEq] at he
          · exact hyz he.2
          · exact (((mem_kids ho).1 hy).1.ok ho).2.2.2.2 he.2.symm
          · exact (((mem_kids ho).1 hy).1.ok ho).2.2.2.2 he.1.symm
          · exact hyz he.1
        · obtain ⟨h1, h2⟩ := subE_ends f hc
          rcases hex (y := y) with e | e
          · rw [e] at h1; exact hnx z hz h1
          · rw [e] at h2; exact hnx z hz h2
      · obtain ⟨h1, h2⟩ := subE_ends f hb
        rcases List.mem_cons.1 hc with rfl | hc
        · rcases hex (y := z) with e | e
          · rw [e] at h1; exact hnx y hy h1
          · rw [e] at h2; exact hnx y hy h2
        · obtain ⟨h3, h4⟩ := subE_ends f hc
          exact hdis y hy z hz hyz _ h1 h3
def stepsL : List Int → List (Int × Int)
  | x :: y :: r => edgeOf x y :: stepsL (y :: r)
  | _ => []
theorem steps_app : ∀ {l r : List Int} {x : Int}, stepsL (l ++ x :: r) = stepsL (l ++ [x]) ++ stepsL (x :: r)
  | [], r, x => rfl
  | [a], r, x => rfl
  | a :: b :: l, r, x => by
    have := steps_app (l := b :: l) (r := r) (x := x)
    simp only [List.cons_append] at this ⊢
    rw [stepsL, this, stepsL]
    rfl
theorem tour_head {es : List (Int × Int)} (f : Nat) {x p : Int} : ∃ r, tourL es f x p = x :: r := by cases f <;> exact ⟨_, rfl⟩
theorem tour_last {es : List (Int × Int)} : ∀ (f : Nat) {x p : Int}, ∃ r, tourL es f x p = r ++ [x]
  | 0, x, p => ⟨[], rfl⟩
  | f + 1, x, p => by
    rw [tourL]
    rcases List.eq_nil_or_concat (kidsL es x p) with h | ⟨l, y, h⟩
    · rw [h]; exact ⟨[], rfl⟩
    · rw [h, List.concat_eq_append, List.flatMap_append]
      refine ⟨x :: (l.flatMap (fun y => tourL es f y x ++ [x]) ++ tourL es f y x), ?_⟩
      simp
/-- A tour goes along each edge twice. -/
theorem tour_steps {es : List (Int × Int)} : ∀ (f : Nat) {x p : Int}, (stepsL (tourL es f x p)).Perm (subE es f x p ++ subE es f x p)
  | 0, x, p => .refl _
  | f + 1, x, p => by
    rw [tourL, subE]
    have eO : ∀ y : Int, x ≠ y → edgeOf y x = edgeOf x y := fun y h => by
      unfold edgeOf
      by_cases c : x < y
      · rw [if_pos c, if_neg (by omega)]
      · rw [if_neg c, if_pos (by omega)]
    have eO' : ∀ y : Int, edgeOf y x = edgeOf x y := fun y => by
      by_cases h : x = y
      · rw [h]
      · exact eO y h
    generalize kidsL es x p = l
    induction l with
    | nil => exact .refl _
    | cons y l ih =>
      obtain ⟨q, hq⟩ := tour_head (es := es) f (x := y) (p := x)
      obtain ⟨u, hu⟩ := tour_last (es := es) f (x := y) (p := x)
      have e1 : stepsL (x :: (y :: l).flatMap fun y => tourL es f y x ++ [x]) = edgeOf x y :: (stepsL (tourL es f y x) ++ edgeOf x y :: stepsL (x :: l.flatMap fun y => tourL es f y x ++ [x])) := by
        rw [List.flatMap_cons]
        have h1 : x :: (tourL es f y x ++ [x] ++ l.flatMap fun y => tourL es f y x ++ [x]) = x :: y :: (q ++ [x] ++ l.flatMap fun y => tourL es f y x ++ [x]) := by rw [hq]; rfl
        rw [h1, stepsL]
        congr 1
        have h2 : y :: (q ++ [x] ++ l.flatMap fun y => tourL es f y x ++ [x]) = u ++ y :: (x :: l.flatMap fun y => tourL es f y x ++ [x]) := by
          have : (y :: q) ++ ([x] ++ l.flatMap fun y => tourL es f y x ++ [x]) = (u ++ [y]) ++ ([x] ++ l.flatMap fun y => tourL es f y x ++ [x]) := by rw [← hq, hu]
          simpa using this
        rw [h2, steps_app, ← hu, stepsL, eO']
      rw [e1, List.flatMap_cons]
      have iy := tour_steps f (x := y) (p := x) (es := es)
      generalize hA : subE es f y x = A at *
      generalize hB : (l.flatMap fun y => edgeOf x y :: subE es f y x) = B at *
      generalize stepsL (tourL es f y x) = S at *
      generalize stepsL (x :: l.flatMap fun y => tourL es f y x ++ [x]) = T at *
      have p1 : (S ++ edgeOf x y :: T).Perm ((A ++ A) ++ edgeOf x y :: (B ++ B)) := iy.append (ih.cons _)
      have p2 : ((A ++ A) ++ edgeOf x y :: (B ++ B)).Perm (A ++ B ++ (edgeOf x y :: A ++ B)) := by
        refine (List.perm_iff_count.2 fun e => ?_)
        simp only [List.count_append, List.count_cons, List.cons_append]
        omega
      refine ((p1.trans p2).cons (edgeOf x y)).trans ?_
      simp only [List.cons_append, List.append_assoc]
      exact .refl _
end Go.Proofs.YtdjdgnabcecdlaaGreatDoor.X
