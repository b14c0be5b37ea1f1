/- What functions compute: whether a graph with levels is valid. -/
import Derived.Test.YtdjdgnabcecdlaaGreatDoorKAI
set_option linter.unusedSimpArgs false
set_option linter.unusedVariables false
set_option maxHeartbeats 8000000
set_option maxRecDepth 100000
namespace Go.Proofs.YtdjdgnabcecdlaaGreatDoor.X
open Go Go.Proofs
theorem lab_map (n : Int) (es : List (Int × Int)) : lab n es = (iota n).map (lbl es) := by
  unfold lab iota lbl
  rw [List.map_map]
  exact List.map_congr_left fun x _ => by simp
/-- How many labels are a number. -/
def cntsL (n : Int) (ls : List Int) : List Int := (iota n).map fun x => ((ls.filter fun y => decide (y = x)).length : Int)
theorem cntsL_len (n : Int) (ls : List Int) : (cntsL n ls).length = n.toNat := by simp [cntsL, iota_length]
theorem iota_get {n x : Int} (hx : inN n x) : (iota n).getD x.toNat 0 = x := by
  obtain ⟨h0, h1⟩ := hx
  have : x.toNat < n.toNat := by omega
  simp [iota, List.getD, this]; omega
theorem cntsL_get {n x : Int} (ls : List Int) (hx : inN n x) : gI (cntsL n ls) x = ((ls.filter fun y => decide (y = x)).length : Int) := by
  unfold cntsL gI
  have h1 : x.toNat < (iota n).length := by rw [iota_length]; obtain ⟨a, b⟩ := hx; omega
  have h2 := iota_get hx
  simp only [List.getD_eq_getElem?_getD, List.getElem?_map, List.getElem?_eq_getElem h1, Option.map_some, Option.getD_some] at h2 ⊢
  rw [h2]
theorem cntsL_nil (n : Int) : cntsL n [] = zI n.toNat := by
  unfold cntsL zI iota
  rw [List.map_map]
  refine List.ext_getElem (by simp) fun i h1 h2 => by simp
theorem cntsL_snoc {n x : Int} {ls : List Int} (hx : inN n x) : cntsL n (ls ++ [x]) = (cntsL n ls).set x.toNat (gI (cntsL n ls) x + 1) := by
  refine list_gI (n := n) (cntsL_len _ _) (by rw [List.length_set]; exact cntsL_len _ _) fun y h0 h1 => ?_
  rw [gI_set hx.1 h0 (by rw [cntsL_len]; omega), cntsL_get _ ⟨h0, h1⟩, cntsL_get _ ⟨h0, h1⟩, cntsL_get _ hx, List.filter_append, List.length_append]
  by_cases e : x = y
  · subst e; rw [if_pos rfl]; simp
  · rw [if_neg e]; simp [e]
theorem cnts_lbl {n : Int} {es : List (Int × Int)} {x : Int} (hx : inN n x) : gI (cntsL n (lab n es)) (lbl es x) = szC n es x := by
  obtain ⟨h1, h2, -⟩ := lbl_spec (es := es) hx
  rw [cntsL_get _ h1, lab_map, List.filter_map, List.length_map]
  unfold szC
  congr 2
  refine List.filter_congr fun y hy => ?_
  have hy' : inN n y := mem_iota.1 hy
  show decide (lbl es y = lbl es x) = decide (Conn es x y)
  rw [decide_eq_decide, lbl_iff hy' hx]
  exact ⟨Conn.symm, Conn.symm⟩
theorem cnts_pos {n : Int} {es : List (Int × Int)} {v : Int} (hv : inN n v) (h : 0 < gI (cntsL n (lab n es)) v) : ∃ x, inN n x ∧ lbl es x = v := by
  rw [cntsL_get _ hv, lab_map] at h
  obtain ⟨y, hy⟩ := List.exists_mem_of_length_pos (l := ((iota n).map (lbl es)).filter fun y => decide (y = v)) (by omega)
  obtain ⟨h1, h2⟩ := List.mem_filter.1 hy
  obtain ⟨x, hx, rfl⟩ := List.mem_map.1 h1
  exact ⟨x, mem_iota.1 hx, of_decide_eq_true h2⟩
/-- What is valid at a level. -/
def szOk (n k : Int) (es : List (Int × Int)) : Prop := ∀ x, inN n x → 1 < szC n es x → szC n es x ≤ n / 2 ^ k.toNat
theorem szOk_any {n k : Int} {es : List (Int × Int)} : (cntsL n (lab n es)).any (fun x => decide (1 < x) && decide (n / 2 ^ k.toNat < x)) = true ↔ ¬ szOk n k es := by
  rw [List.any_eq_true]
  constructor
  · rintro ⟨c, hc, hp⟩ hs
    rw [Bool.and_eq_true, decide_eq_true_eq, decide_eq_true_eq] at hp
    obtain ⟨i, hi, he⟩ := List.mem_iff_getElem.1 hc
    rw [cntsL_len] at hi
    have hv : inN n (i : Int) := by unfold inN; omega
    have hg : gI (cntsL n (lab n es)) i = c := by simp [gI, List.getD, cntsL_len, hi, he]
    obtain ⟨x, hx, hl⟩ := cnts_pos hv (by rw [hg]; omega)
    have := cnts_lbl (es := es) hx
    rw [hl, hg] at this
    have := hs x hx (by omega)
    omega
  · intro hs
    refine Classical.byContradiction fun hn => hs fun x hx h1 => ?_
    refine Int.not_lt.1 fun h2 => hn ⟨szC n es x, ?_, by rw [Bool.and_eq_true, decide_eq_true_eq, decide_eq_true_eq]; exact ⟨h1, h2⟩⟩
    rw [← cnts_lbl hx]
    obtain ⟨⟨a, b⟩, -, -⟩ := lbl_spec (es := es) hx
    exact getD_mem (by rw [cntsL_len]; omega)
def lvAt (n : Int) (ts : List Tl) (k : Int) : Prop := Tree n (abT ts k true) ∧ lab n (abT ts k true) = lab n (abT ts k false) ∧ szOk n k (abT ts k false)
theorem lab_eq_iff {n : Int} {ts : List Tl} {k : Int} (hV : VG n (esT ts)) : lab n (abT ts k true) = lab n (abT ts k false) ↔ ∀ x y, Conn (abT ts k false) x y → Conn (abT ts k true) x y := by
  constructor
  · intro h x y hxy
    have ho : ∀ e ∈ abT ts k false, okE n e := fun e he => hV.2.2.2.1 e (abT_sub_es e he)
    rcases hxy.ok ho with rfl | ⟨a, b, c, d⟩
    · exact .refl _
    · rw [← lab_iff (n := n) ⟨a, b⟩ ⟨c, d⟩, h, lab_iff ⟨a, b⟩ ⟨c, d⟩]; exact hxy
  · intro h
    exact lab_congr fun x y => ⟨fun q => q.mono abT_tree, h x y⟩
theorem LV_iff {n : Int} {ts : List Tl} (hV : VG n (esT ts)) : LV n ts ↔ (∀ t ∈ ts, 0 ≤ t.2.1 ∧ t.2.1 ≤ 4) ∧ ∀ k : Int, 0 ≤ k → k < 5 → lvAt n ts k := by
  constructor
  · intro h
    exact ⟨h.lv, fun k k0 k1 => ⟨h.ac k k0 (by omega), (lab_eq_iff hV).2 (h.cn k k0 (by omega)), h.sz k k0 (by omega)⟩⟩
  · rintro ⟨h1, h2⟩
    exact ⟨hV, h1, fun k k0 k1 => (h2 k k0 (by omega)).1, fun k k0 k1 => (lab_eq_iff hV).1 (h2 k k0 (by omega)).2.1, fun k k0 k1 => (h2 k k0 (by omega)).2.2⟩
theorem c_equalI (xs ys : List Int) (hl : xs.length ≤ 1048576) : KP 238 [LI xs, LI ys] [] = some (B (decide (xs = ys)), [], []) := by
  refine xw_call (fn := Tryz.f238) rfl Tryz.func238 rfl ⟨Nat.le_of_ble_eq_true rfl, rfl, rfl⟩ ?_
  by_cases hle : xs.length = ys.length
  rotate_left
  · have hne : xs ≠ ys := fun h => hle (by rw [h])
    repeat' (first
      | refine xw_seq ?_
      | refine xw_block ?_
      | (refine ite_two ?_ ?_ <;> intro _ <;> first | (exfalso; omega) | skip)
      | refine ord_split (by kernel_rfl) ?_
      | (refine xw_ret ?_ <;> try simp only [sq, bl, LQ])
      | ((first | refine xw_reg ?_ | refine xw_regd ?_ | refine xw_if ?_ | refine xw_skip ?_ | refine xw_exit ?_ | refine xw_label ?_ | refine post_ret ?_ | refine post_normal ?_ | refine postE_ret ?_ | refine postE_normal ?_ | (((first | refine at_region ?_ | refine at_out ?_ | refine at_cond ?_); split) <;> first | (exfalso; omega; done) | skip)) <;> try simp (config := { maxSteps := 3000000 }) (disch := first | assumption | omega | exact VG.okg (by assumption) | (simp only [List.length_set, List.length_append, List.length_cons, List.length_nil, List.length_replicate]; omega)) only [go_sem, ↓reduceIte, Int.reduceLE, Int.reduceLT, Int.reduceToNat, Int.reduceNeg, Int.reduceAdd, Int.reduceSub, Int.reduceMul, Int.reduceEq, Int.reduceNe, Nat.reduceEqDiff, Nat.reduceAdd, Nat.reduceSub, Nat.reduceMul, Nat.reduceLT, Nat.reduceLeDiff, Nat.reduceBEq, Nat.reduceBNe, UInt8.reduceToNat, Tryz.results238]))
    simp [hne]
  repeat' (first
    | refine xw_seq ?_
    | refine xw_block ?_
    | (refine ite_two ?_ ?_ <;> intro _ <;> first | (exfalso; omega) | skip)
    | refine ord_split (by kernel_rfl) ?_
    | (refine xw_ret ?_ <;> try simp only [sq, bl, LQ])
    | ((first | refine xw_reg ?_ | refine xw_regd ?_ | refine xw_if ?_ | refine xw_skip ?_ | refine xw_exit ?_ | refine xw_label ?_ | refine post_ret ?_ | refine post_normal ?_ | refine postE_ret ?_ | refine postE_normal ?_ | (((first | refine at_region ?_ | refine at_out ?_ | refine at_cond ?_); split) <;> first | (exfalso; omega; done) | skip)) <;> try simp (config := { maxSteps := 3000000 }) (disch := first | assumption | omega | exact VG.okg (by assumption) | (simp only [List.length_set, List.length_append, List.length_cons, List.length_nil, List.length_replicate]; omega)) only [go_sem, ↓reduceIte, Int.reduceLE, Int.reduceLT, Int.reduceToNat, Int.reduceNeg, Int.reduceAdd, Int.reduceSub, Int.reduceMul, Int.reduceEq, Int.reduceNe, Nat.reduceEqDiff, Nat.reduceAdd, Nat.reduceSub, Nat.reduceMul, Nat.reduceLT, Nat.reduceLeDiff, Nat.reduceBEq, Nat.reduceBNe, UInt8.reduceToNat, Tryz.results238]))
  refine xw_loopR (fun (i : Int) s => s.ρ 0 = LI xs ∧ s.ρ 1 = LI ys ∧ s.ρ 12 = I xs.length ∧ s.ρ 13 = I i ∧ 0 ≤ i ∧ i ≤ xs.length ∧ xs.take i.toNat = ys.take i.toNat) (fun i => (xs.length - i).toNat) 0 ⟨rfl, rfl, rfl, rfl, by simp, by simp, by simp⟩ ?_
  rintro i ⟨ρ, m⟩ ⟨h0, h1, h12, h13, g0, g1, g2⟩
  simp only at h0 h1 h12 h13
  by_cases hi : i < xs.length
  · by_cases hq : xs.getD i.toNat 0 = ys.getD i.toNat 0
    · repeat' (first
        | refine xw_seq ?_
        | refine xw_block ?_
        | (refine ite_two ?_ ?_ <;> intro _ <;> first | (exfalso; omega) | skip)
        | refine ord_split (by kernel_rfl) ?_
        | (refine xw_ret ?_ <;> try simp only [sq, bl, LQ])
        | ((first | refine xw_reg ?_ | refine xw_regd ?_ | refine xw_if ?_ | refine xw_skip ?_ | refine xw_exit ?_ | refine xw_label ?_ | refine post_ret ?_ | refine post_normal ?_ | refine postE_ret ?_ | refine postE_normal ?_ | (((first | refine at_region ?_ | refine at_out ?_ | refine at_cond ?_); split) <;> first | (exfalso; omega; done) | skip)) <;> try simp (config := { maxSteps := 3000000 }) (disch := first | assumption | omega | exact VG.okg (by assumption) | (simp only [List.length_set, List.length_append, List.length_cons, List.length_nil, List.length_replicate]; omega)) only [go_sem, ↓reduceIte, Int.reduceLE, Int.reduceLT, Int.reduceToNat, Int.reduceNeg, Int.reduceAdd, Int.reduceSub, Int.reduceMul, Int.reduceEq, Int.reduceNe, Nat.reduceEqDiff, Nat.reduceAdd, Nat.reduceSub, Nat.reduceMul, Nat.reduceLT, Nat.reduceLeDiff, Nat.reduceBEq, Nat.reduceBNe, UInt8.reduceToNat, Tryz.results238, h0, h1, h12, h13, hq]))
      refine ⟨by omega, by omega, ?_, by omega⟩
      rw [take_int 0 g0 (by omega), take_int 0 g0 (by omega), g2, hq]
    · have hne : xs ≠ ys := fun h => hq (by rw [h])
      repeat' (first
        | refine xw_seq ?_
        | refine xw_block ?_
        | (refine ite_two ?_ ?_ <;> intro _ <;> first | (exfalso; omega) | skip)
        | refine ord_split (by kernel_rfl) ?_
        | (refine xw_ret ?_ <;> try simp only [sq, bl, LQ])
        | ((first | refine xw_reg ?_ | refine xw_regd ?_ | refine xw_if ?_ | refine xw_skip ?_ | refine xw_exit ?_ | refine xw_label ?_ | refine post_ret ?_ | refine post_normal ?_ | refine postE_ret ?_ | refine postE_normal ?_ | (((first | refine at_region ?_ | refine at_out ?_ | refine at_cond ?_); split) <;> first | (exfalso; omega; done) | skip)) <;> try simp (config := { maxSteps := 3000000 }) (disch := first | assumption | omega | exact VG.okg (by assumption) | (simp only [List.length_set, List.length_append, List.length_cons, List.length_nil, List.length_replicate]; omega)) only [go_sem, ↓reduceIte, Int.reduceLE, Int.reduceLT, Int.reduceToNat, Int.reduceNeg, Int.reduceAdd, Int.reduceSub, Int.reduceMul, Int.reduceEq, Int.reduceNe, Nat.reduceEqDiff, Nat.reduceAdd, Nat.reduceSub, Nat.reduceMul, Nat.reduceLT, Nat.reduceLeDiff, Nat.reduceBEq, Nat.reduceBNe, UInt8.reduceToNat, Tryz.results238, h0, h1, h12, h13, hq]))
      rw [decide_eq_false hne]
  · rw [take_all (by omega), take_all (by omega)] at g2
    repeat' (first
      | refine xw_seq ?_
      | refine xw_block ?_
      | (refine ite_two ?_ ?_ <;> intro _ <;> first | (exfalso; omega) | skip)
      | refine ord_split (by kernel_rfl) ?_
      | (refine xw_ret ?_ <;> try simp only [sq, bl, LQ])
      | ((first | refine xw_reg ?_ | refine xw_regd ?_ | refine xw_if ?_ | refine xw_skip ?_ | refine xw_exit ?_ | refine xw_label ?_ | refine post_ret ?_ | refine post_normal ?_ | refine postE_ret ?_ | refine postE_normal ?_ | (((first | refine at_region ?_ | refine at_out ?_ | refine at_cond ?_); split) <;> first | (exfalso; omega; done) | skip)) <;> try simp (config := { maxSteps := 3000000 }) (disch := first | assumption | omega | exact VG.okg (by assumption) | (simp only [List.length_set, List.length_append, List.length_cons, List.length_nil, List.length_replicate]; omega)) only [go_sem, ↓reduceIte, Int.reduceLE, Int.reduceLT, Int.reduceToNat, Int.reduceNeg, Int.reduceAdd, Int.reduceSub, Int.reduceMul, Int.reduceEq, Int.reduceNe, Nat.reduceEqDiff, Nat.reduceAdd, Nat.reduceSub, Nat.reduceMul, Nat.reduceLT, Nat.reduceLeDiff, Nat.reduceBEq, Nat.reduceBNe, UInt8.reduceToNat, Tryz.results238, h0, h1, h12, h13]))
    rw [decide_eq_true g2]
theorem clo_LV1 : CloI (.fn 237 [] []) (fun _ => True) (fun x => decide (x < 0) || decide (4 < x)) := by
  have k : ∀ x : Int, KP 237 [I x] [] = some (B (decide (x < 0) || decide (4 < x)), [], []) := by
    intro x
    refine xw_call (fn := Tryz.f237) rfl Tryz.func237 rfl ⟨Nat.le_of_ble_eq_true rfl, rfl, rfl⟩ ?_
    by_cases h : x < 0
    · repeat' (first
        | refine xw_seq ?_
        | refine xw_block ?_
        | (refine ite_two ?_ ?_ <;> intro _ <;> first | (exfalso; omega) | skip)
        | refine ord_split (by kernel_rfl) ?_
        | (refine xw_ret ?_ <;> try simp only [sq, bl, LQ])
        | ((first | refine xw_reg ?_ | refine xw_regd ?_ | refine xw_if ?_ | refine xw_skip ?_ | refine xw_exit ?_ | refine xw_label ?_ | refine post_ret ?_ | refine post_normal ?_ | refine postE_ret ?_ | refine postE_normal ?_ | (((first | refine at_region ?_ | refine at_out ?_ | refine at_cond ?_); split) <;> first | (exfalso; omega; done) | skip)) <;> try simp (config := { maxSteps := 3000000 }) (disch := first | assumption | omega | exact VG.okg (by assumption) | (simp only [List.length_set, List.length_append, List.length_cons, List.length_nil, List.length_replicate]; omega)) only [go_sem, ↓reduceIte, Int.reduceLE, Int.reduceLT, Int.reduceToNat, Int.reduceNeg, Int.reduceAdd, Int.reduceSub, Int.reduceMul, Int.reduceEq, Int.reduceNe, Nat.reduceEqDiff, Nat.reduceAdd, Nat.reduceSub, Nat.reduceMul, Nat.reduceLT, Nat.reduceLeDiff, Nat.reduceBEq, Nat.reduceBNe, UInt8.reduceToNat, Tryz.results237, h]))
    · repeat' (first
        | refine xw_seq ?_
        | refine xw_block ?_
        | (refine ite_two ?_ ?_ <;> intro _ <;> first | (exfalso; omega) | skip)
        | refine ord_split (by kernel_rfl) ?_
        | (refine xw_ret ?_ <;> try simp only [sq, bl, LQ])
        | ((first | refine xw_reg ?_ | refine xw_regd ?_ | refine xw_if ?_ | refine xw_skip ?_ | refine xw_exit ?_ | refine xw_label ?_ | refine post_ret ?_ | refine post_normal ?_ | refine postE_ret ?_ | refine postE_normal ?_ | (((first | refine at_region ?_ | refine at_out ?_ | refine at_cond ?_); split) <;> first | (exfalso; omega; done) | skip)) <;> try simp (config := { maxSteps := 3000000 }) (disch := first | assumption | omega | exact VG.okg (by assumption) | (simp only [List.length_set, List.length_append, List.length_cons, List.length_nil, List.length_replicate]; omega)) only [go_sem, ↓reduceIte, Int.reduceLE, Int.reduceLT, Int.reduceToNat, Int.reduceNeg, Int.reduceAdd, Int.reduceSub, Int.reduceMul, Int.reduceEq, Int.reduceNe, Nat.reduceEqDiff, Nat.reduceAdd, Nat.reduceSub, Nat.reduceMul, Nat.reduceLT, Nat.reduceLeDiff, Nat.reduceBEq, Nat.reduceBNe, UInt8.reduceToNat, Tryz.results237, h]))
  refine ⟨fun n => by cases n <;> rfl, rfl, fun me d x hx => ?_⟩
  have hx' := k x
  simp only [go_sem, ↓reduceIte, Int.reduceLE, Int.reduceLT, Int.reduceToNat, Int.reduceNeg, Int.reduceAdd, Int.reduceSub, Int.reduceMul, Int.reduceEq, Int.reduceNe, Nat.reduceEqDiff, Nat.reduceAdd, Nat.reduceSub, Nat.reduceMul, Nat.reduceLT, Nat.reduceLeDiff, Nat.reduceBEq, Nat.reduceBNe, UInt8.reduceToNat, hx', ite_self]
theorem binV_shrI {P : Program} {t : TypeId} {a k : Int} (h0 : 0 ≤ k) (h1 : k < 5) : binV P .shr t (.i (.v (.int .i64 a))) (.i (.v (.int .i64 k))) = some (.int .i64 (a / 2 ^ k.toNat)) := by
  obtain rfl | rfl | rfl | rfl | rfl : k = 0 ∨ k = 1 ∨ k = 2 ∨ k = 3 ∨ k = 4 := by omega
  all_goals
    simp [binV, binOp, Op.shift, semPure]
    first
    | rfl
    | (have e1 : a.fdiv (2 ^ min 1 IntKind.i64.bits) = a / 2 := Int.fdiv_eq_ediv_of_nonneg a (by decide)
       rw [e1]; rfl)
    | (have e1 : a.fdiv (2 ^ min 2 IntKind.i64.bits) = a / 4 := Int.fdiv_eq_ediv_of_nonneg a (by decide)
       rw [e1]; rfl)
    | (have e1 : a.fdiv (2 ^ min 3 IntKind.i64.bits) = a / 8 := Int.fdiv_eq_ediv_of_nonneg a (by decide)
       rw [e1]; rfl)
    | (have e1 : a.fdiv (2 ^ min 4 IntKind.i64.bits) = a / 16 := Int.fdiv_eq_ediv_of_nonneg a (by decide)
       rw [e1]; rfl)
theorem clo_LV2 (n k : Int) (ts : List Tl) (h0 : 0 ≤ k) (h1 : k < 5) : CloI (.fn 239 [] [.eptr [.v (.int .i64 n), .lst ((esT ts).map encE), .lst ((lvT ts).map encI), .lst ((trT ts).map encT)] 0, .eptr [.v (.int .i64 k)] 0]) (fun _ => True) (fun x => decide (1 < x) && decide (n / 2 ^ k.toNat < x)) := by
  have k : ∀ x : Int, KP 239 [I x, .i (.eptr [.v (.int .i64 n), .lst ((esT ts).map encE), .lst ((lvT ts).map encI), .lst ((trT ts).map encT)] 0), .i (.eptr [.v (.int .i64 k)] 0)] [] = some (B (decide (1 < x) && decide (n / 2 ^ k.toNat < x)), [], []) := by
    intro x
    have hs := fun (P : Program) (t : TypeId) => binV_shrI (P := P) (t := t) (a := n) h0 h1
    refine xw_call (fn := Tryz.f239) rfl Tryz.func239 rfl ⟨Nat.le_of_ble_eq_true rfl, rfl, rfl⟩ ?_
    by_cases h : 1 < x
    · repeat' (first
        | refine xw_seq ?_
        | refine xw_block ?_
        | (refine ite_two ?_ ?_ <;> intro _ <;> first | (exfalso; omega) | skip)
        | refine ord_split (by kernel_rfl) ?_
        | (refine xw_ret ?_ <;> try simp only [sq, bl, LQ])
        | ((first | refine xw_reg ?_ | refine xw_regd ?_ | refine xw_if ?_ | refine xw_skip ?_ | refine xw_exit ?_ | refine xw_label ?_ | refine post_ret ?_ | refine post_normal ?_ | refine postE_ret ?_ | refine postE_normal ?_ | (((first | refine at_region ?_ | refine at_out ?_ | refine at_cond ?_); split) <;> first | (exfalso; omega; done) | skip)) <;> try simp (config := { maxSteps := 3000000 }) (disch := first | assumption | omega | exact VG.okg (by assumption) | (simp only [List.length_set, List.length_append, List.length_cons, List.length_nil, List.length_replicate]; omega)) only [go_sem, ↓reduceIte, Int.reduceLE, Int.reduceLT, Int.reduceToNat, Int.reduceNeg, Int.reduceAdd, Int.reduceSub, Int.reduceMul, Int.reduceEq, Int.reduceNe, Nat.reduceEqDiff, Nat.reduceAdd, Nat.reduceSub, Nat.reduceMul, Nat.reduceLT, Nat.reduceLeDiff, Nat.reduceBEq, Nat.reduceBNe, UInt8.reduceToNat, Tryz.results239, h, hs]))
    · repeat' (first
        | refine xw_seq ?_
        | refine xw_block ?_
        | (refine ite_two ?_ ?_ <;> intro _ <;> first | (exfalso; omega) | skip)
        | refine ord_split (by kernel_rfl) ?_
        | (refine xw_ret ?_ <;> try simp only [sq, bl, LQ])
        | ((first | refine xw_reg ?_ | refine xw_regd ?_ | refine xw_if ?_ | refine xw_skip ?_ | refine xw_exit ?_ | refine xw_label ?_ | refine post_ret ?_ | refine post_normal ?_ | refine postE_ret ?_ | refine postE_normal ?_ | (((first | refine at_region ?_ | refine at_out ?_ | refine at_cond ?_); split) <;> first | (exfalso; omega; done) | skip)) <;> try simp (config := { maxSteps := 3000000 }) (disch := first | assumption | omega | exact VG.okg (by assumption) | (simp only [List.length_set, List.length_append, List.length_cons, List.length_nil, List.length_replicate]; omega)) only [go_sem, ↓reduceIte, Int.reduceLE, Int.reduceLT, Int.reduceToNat, Int.reduceNeg, Int.reduceAdd, Int.reduceSub, Int.reduceMul, Int.reduceEq, Int.reduceNe, Nat.reduceEqDiff, Nat.reduceAdd, Nat.reduceSub, Nat.reduceMul, Nat.reduceLT, Nat.reduceLeDiff, Nat.reduceBEq, Nat.reduceBNe, UInt8.reduceToNat, Tryz.results239, h, hs]))
  refine ⟨fun n => by cases n <;> rfl, rfl, fun me d x hx => ?_⟩
  have hx' := k x
  simp only [go_sem, ↓reduceIte, Int.reduceLE, Int.reduceLT, Int.reduceToNat, Int.reduceNeg, Int.reduceAdd, Int.reduceSub, Int.reduceMul, Int.reduceEq, Int.reduceNe, Nat.reduceEqDiff, Nat.reduceAdd, Nat.reduceSub, Nat.reduceMul, Nat.reduceLT, Nat.reduceLeDiff, Nat.reduceBEq, Nat.reduceBNe, UInt8.reduceToNat, hx', ite_self]
end Go.Proofs.YtdjdgnabcecdlaaGreatDoor.X
