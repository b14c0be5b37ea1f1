/- What functions answer, and the plain laws behind it. -/
import Derived.Test.YtdjdgnabcecdlaaGreatDoorKAJ
import Derived.Test.YtdjdgnabcecdlaaGreatDoorKAG
/- Graphs are loaded: the edges are put one after another, in order. The plain law. -/
set_option linter.unusedSimpArgs false
set_option linter.unusedVariables false
set_option maxHeartbeats 8000000
set_option maxRecDepth 100000
namespace Go.Proofs.YtdjdgnabcecdlaaGreatDoor.X
open Go Go.Proofs
/-- What comes of the edges. -/
noncomputable def ldT (es : List (Int × Int)) : List Tl := es.foldl (fun ts e => plL ts e) []
theorem ldT_snoc (xs : List (Int × Int)) (e : Int × Int) : ldT (xs ++ [e]) = plL (ldT xs) e := by simp [ldT, List.foldl_append]
theorem putE_end {e : Int × Int} : ∀ {es : List (Int × Int)}, (∀ x ∈ es, lessE e x = false) → putE e es = es ++ [e]
  | [], _ => rfl
  | x :: r, h => by
    have h1 := h x (by simp)
    rw [putE, if_neg (by simp [h1]), putE_end fun y hy => h y (by simp [hy])]; rfl
theorem putT_end {e : Int × Int} {b : Bool} : ∀ {ts : List Tl}, (∀ x ∈ esT ts, lessE e x = false) → putT e b ts = ts ++ [(e, 0, b)]
  | [], _ => rfl
  | t :: r, h => by
    have h1 := h t.1 (by simp [esT])
    rw [putT, if_neg (by simp [h1]), putT_end fun y hy => h y (by simp only [esT, List.map_cons, List.mem_cons]; exact .inr hy)]; rfl
theorem ord_end {xs : List (Int × Int)} {e : Int × Int} (h : Ord (xs ++ [e])) : ∀ x ∈ xs, lessE e x = false := fun x hx => by
  simp only [Ord, List.pairwise_append, List.mem_singleton] at h
  have h1 := h.2.2 x hx e rfl
  cases h2 : lessE e x with
  | false => rfl
  | true =>
    rw [lessE_iff] at h1 h2
    omega
structure LD (n : Int) (es : List (Int × Int)) : Prop where
  es' : esT (ldT es) = es
  lv : LV n (ldT es)
  z : ∀ t ∈ ldT es, t.2.1 = 0
  fo : abT (ldT es) 0 true = forestL es
theorem LD.put {n : Int} {xs : List (Int × Int)} {e : Int × Int} (h : LD n xs) (hV : VG n (xs ++ [e])) : PlOK n (ldT xs) e := by
  have hd := ord_end hV.2.2.2.2
  refine ⟨h.lv, ?_, ?_, ?_⟩
  · rw [h.es']; exact hV.sub (List.sublist_append_left _ _)
  · rw [h.es']
    have := hV.2.2.2.2.nodup
    rw [List.nodup_append] at this
    exact fun hm => this.2.2 e hm e (by simp) rfl
  · rw [h.es', putE_end hd]; exact hV
theorem ld_spec {n : Int} : ∀ (k : Nat) (es : List (Int × Int)), es.length = k → VG n es → LD n es
  | 0, es, hk, hV => by
    obtain rfl := List.length_eq_zero_iff.1 hk
    exact ⟨rfl, LV.nil hV.1 hV.2.1, fun t ht => by simp [ldT] at ht, rfl⟩
  | k + 1, es, hk, hV => by
    obtain ⟨xs, e, rfl⟩ : ∃ xs e, es = xs ++ [e] := ⟨es.dropLast, es.getLast (by intro h; rw [h] at hk; simp at hk), (List.dropLast_concat_getLast _).symm⟩
    have hVx : VG n xs := hV.sub (List.sublist_append_left _ _)
    have h := ld_spec k xs (by simpa using hk) hVx
    have hP := h.put hV
    have hd := ord_end hV.2.2.2.2
    have ho := hVx.2.2.2.1
    have hpt : plL (ldT xs) e = ldT xs ++ [(e, 0, !decide (Conn (esT (ldT xs)) e.1 e.2))] := putT_end (by rw [h.es']; exact hd)
    refine ⟨?_, ?_, ?_, ?_⟩
    · rw [ldT_snoc]
      have := putT_es e (!decide (Conn (esT (ldT xs)) e.1 e.2)) (ldT xs)
      rw [this, h.es', putE_end hd]
    · rw [ldT_snoc]; exact h.lv.putT hP.2
    · rw [ldT_snoc, hpt]
      intro t ht
      rcases List.mem_append.1 ht with ht | ht
      · exact h.z t ht
      · rw [List.mem_singleton.1 ht]
    · rw [ldT_snoc, hpt, abT_app, h.fo, h.es']
      have hf : forestL (xs ++ [e]) = fstep (forestL xs) e := by simp [forestL, List.foldl_append]
      rw [hf, fstep]
      by_cases hc : Conn xs e.1 e.2
      · rw [if_pos ((forest_conn ho).2 hc)]
        simp [abT, abP, hc]
      · rw [if_neg (fun q => hc ((forest_conn ho).1 q))]
        simp [abT, abP, hc]
theorem ld {n : Int} {es : List (Int × Int)} (hV : VG n es) : LD n es := ld_spec _ es rfl hV
end Go.Proofs.YtdjdgnabcecdlaaGreatDoor.X

/- What functions compute: a graph is loaded by a line. -/
set_option linter.unusedSimpArgs false
set_option linter.unusedVariables false
set_option maxHeartbeats 8000000
set_option maxRecDepth 100000
namespace Go.Proofs.YtdjdgnabcecdlaaGreatDoor.X
open Go Go.Proofs
/-- A list as it stands in a graph with levels: nothing, or a list. -/
structure LV3 (x y z : IV) (ts : List Tl) : Prop where
  fx : ∀ n, frz n (.i x) = .ret (.lst ((esT ts).map encE))
  fy : ∀ n, frz n (.i y) = .ret (.lst ((lvT ts).map encI))
  fz : ∀ n, frz n (.i z) = .ret (.lst ((trT ts).map encT))
  lx : x.flat = true
  ly : y.flat = true
  lz : z.flat = true
theorem LV3.emp : LV3 .emp .emp .emp [] := ⟨fun n => by cases n <;> rfl, fun n => by cases n <;> rfl, fun n => by cases n <;> rfl, rfl, rfl, rfl⟩
theorem LV3.lst (ts : List Tl) : LV3 (.lst ((esT ts).map encE)) (.lst ((lvT ts).map encI)) (.lst ((trT ts).map encT)) ts := ⟨fun n => by cases n <;> rfl, fun n => by cases n <;> rfl, fun n => by cases n <;> rfl, rfl, rfl, rfl⟩
/-- .. of the edges in order. -/
def exI (k : Nat) (ts : List Tl) : IV := if k = 0 then .emp else .lst ((esT ts).map encE)
def eyI (k : Nat) (ts : List Tl) : IV := if k = 0 then .emp else .lst ((lvT ts).map encI)
def ezI (k : Nat) (ts : List Tl) : IV := if k = 0 then .emp else .lst ((trT ts).map encT)
theorem exyz {k : Nat} {ts : List Tl} (h : k = 0 → ts = []) : LV3 (exI k ts) (eyI k ts) (ezI k ts) ts := by
  unfold exI eyI ezI
  by_cases hk : k = 0
  · rw [if_pos hk, if_pos hk, if_pos hk, h hk]; exact LV3.emp
  · rw [if_neg hk, if_neg hk, if_neg hk]; exact LV3.lst ts
theorem c_ParseGraphL (n : Int) (es : List (Int × Int)) (hV : VG n es) : ∃ r own, KP 180 [S (fmtG n es)] [] = some (r, [], own) ∧ imm 2 own r = some (.tup [.agg [I n, .i (qe es)], B true]) := by
  refine ⟨_, _, c_ParseGraph n es hV, ?_⟩
  unfold qP qA qe
  split
  · rfl
  · have : List.take es.length (es.map encE) = es.map encE := List.take_of_length_le (by simp)
    simp [imm, imm1, mapO, this]
theorem c_NewLevels1 (n : Int) (h : 1 ≤ n ∧ n ≤ 16) : KP 70 [I n] [] = some (.tup [.agg [I n, .i .emp, .i .emp, .i .emp], B true], [], []) := by
  obtain ⟨h1, h2⟩ := h
  refine xw_call (fn := Tryz.f70) rfl Tryz.func70 rfl ⟨Nat.le_of_ble_eq_true rfl, rfl, rfl⟩ ?_
  repeat' (first
    | refine xw_seq ?_
    | refine xw_block ?_
    | (refine ite_two ?_ ?_ <;> intro _ <;> first | (exfalso; omega) | skip)
    | refine ord_split (by kernel_rfl) ?_
    | (refine xw_ret ?_ <;> try simp only [sq, bl, LQ])
    | ((first | refine xw_reg ?_ | refine xw_regd ?_ | refine xw_if ?_ | refine xw_skip ?_ | refine xw_exit ?_ | refine xw_label ?_ | refine post_ret ?_ | refine post_normal ?_ | refine postE_ret ?_ | refine postE_normal ?_ | (((first | refine at_region ?_ | refine at_out ?_ | refine at_cond ?_); split) <;> first | (exfalso; omega; done) | skip)) <;> try simp (config := { maxSteps := 3000000 }) (disch := first | assumption | omega | exact VG.okg (by assumption) | (simp only [List.length_set, List.length_append, List.length_cons, List.length_nil, List.length_replicate]; omega)) only [go_sem, ↓reduceIte, Int.reduceLE, Int.reduceLT, Int.reduceToNat, Int.reduceNeg, Int.reduceAdd, Int.reduceSub, Int.reduceMul, Int.reduceEq, Int.reduceNe, Nat.reduceEqDiff, Nat.reduceAdd, Nat.reduceSub, Nat.reduceMul, Nat.reduceLT, Nat.reduceLeDiff, Nat.reduceBEq, Nat.reduceBNe, UInt8.reduceToNat, Tryz.results70]))
theorem c_graphLine (n : Int) (es : List (Int × Int)) (hV : VG n es) (n0 : Int) (x y z : IV) (ts0 : List Tl) (h3 : LV3 x y z ts0) :
    KP 138 [.ptr 1000 0 0 0, S (fmtG n es)] [.box 0 [I n0, .i x, .i y, .i z]] = some (S [111, 107, 10], [.box 0 [I n, .i (exI es.length (ldT es)), .i (eyI es.length (ldT es)), .i (ezI es.length (ldT es))]], []) := by
  obtain ⟨hs, m0, m1⟩ := hV.small
  have hel := hV.2.2.1
  obtain ⟨rp, op, hpg, hpi⟩ := c_ParseGraphL n es hV
  have hnl := c_NewLevels1 n ⟨hV.1, hV.2.1⟩
  have hlx := h3.lx
  have hly := h3.ly
  have hlz := h3.lz
  have hqe := lenP_qe (es := es)
  have hqf := flat_qe (es := es)
  have hia := (EQ.qe es).ia
  refine xw_call (fn := Tryz.f138) rfl Tryz.func138 rfl ⟨Nat.le_of_ble_eq_true rfl, rfl, rfl⟩ ?_
  repeat' (first
    | refine xw_seq ?_
    | refine xw_block ?_
    | (refine ite_two ?_ ?_ <;> intro _ <;> first | (exfalso; omega) | skip)
    | refine ord_split (by kernel_rfl) ?_
    | (refine xw_ret ?_ <;> try simp only [sq, bl, LQ])
    | ((first | refine xw_reg ?_ | refine xw_regd ?_ | refine xw_if ?_ | refine xw_skip ?_ | refine xw_exit ?_ | refine xw_label ?_ | refine post_ret ?_ | refine post_normal ?_ | refine postE_ret ?_ | refine postE_normal ?_ | (((first | refine at_region ?_ | refine at_out ?_ | refine at_cond ?_); split) <;> first | (exfalso; omega; done) | skip)) <;> try simp (config := { maxSteps := 3000000 }) (disch := first | assumption | omega | exact VG.okg (by assumption) | (simp only [List.length_set, List.length_append, List.length_cons, List.length_nil, List.length_replicate]; omega)) only [go_sem, ↓reduceIte, Int.reduceLE, Int.reduceLT, Int.reduceToNat, Int.reduceNeg, Int.reduceAdd, Int.reduceSub, Int.reduceMul, Int.reduceEq, Int.reduceNe, Nat.reduceEqDiff, Nat.reduceAdd, Nat.reduceSub, Nat.reduceMul, Nat.reduceLT, Nat.reduceLeDiff, Nat.reduceBEq, Nat.reduceBNe, UInt8.reduceToNat, Tryz.results138, hpg, hpi, hnl, hlx, hly, hlz, hqe, hqf]))
  refine xw_loopR (fun (i : Int) s => s.ρ 0 = .ptr 1000 0 0 0 ∧ s.m 1000 = some (.box 0 [I n0, .i x, .i y, .i z]) ∧ s.ρ 5 = .ptr 5 0 0 0 ∧ s.m 5 = some (.box 0 [I n, .i (qe es)]) ∧ s.ρ 7 = .ptr 7 0 0 0 ∧
    s.m 7 = some (.box 0 [I n, .i (exI i.toNat (ldT (es.take i.toNat))), .i (eyI i.toNat (ldT (es.take i.toNat))), .i (ezI i.toNat (ldT (es.take i.toNat)))]) ∧ s.ρ 25 = .i (qe es) ∧ s.ρ 26 = I es.length ∧ s.ρ 27 = I i ∧ 0 ≤ i ∧ i ≤ es.length) (fun i => (es.length - i).toNat) 0 ?_ ?_
  · refine ⟨?_, ?_, ?_, ?_, ?_, ?_, ?_, ?_, ?_, by omega, by omega⟩
    all_goals first | rfl | (simp [upd]; done)
  rintro i ⟨ρ, m⟩ ⟨e0, m1000, e5, m5, e7, m7, e25, e26, e27, g0, g1⟩
  simp only at e0 m1000 e5 m5 e7 m7 e25 e26 e27 g0 g1
  have hL := exyz (k := i.toNat) (ts := ldT (es.take i.toNat)) (fun h => by rw [h]; rfl)
  have hfx := hL.fx
  have hfy := hL.fy
  have hfz := hL.fz
  have hx' := hL.lx
  have hy' := hL.ly
  have hz' := hL.lz
  by_cases hi : i < es.length
  rotate_left
  · have hlen : i.toNat = es.length := by omega
    rw [take_all (by omega), hlen] at m7 hx' hy' hz'
    repeat' (first
      | refine xw_seq ?_
      | refine xw_block ?_
      | (refine ite_two ?_ ?_ <;> intro _ <;> first | (exfalso; omega) | skip)
      | refine ord_split (by kernel_rfl) ?_
      | (refine xw_ret ?_ <;> try simp only [sq, bl, LQ])
      | ((first | refine xw_reg ?_ | refine xw_regd ?_ | refine xw_if ?_ | refine xw_skip ?_ | refine xw_exit ?_ | refine xw_label ?_ | refine post_ret ?_ | refine post_normal ?_ | refine postE_ret ?_ | refine postE_normal ?_ | (((first | refine at_region ?_ | refine at_out ?_ | refine at_cond ?_); split) <;> first | (exfalso; omega; done) | skip)) <;> try simp (config := { maxSteps := 3000000 }) (disch := first | assumption | omega | exact VG.okg (by assumption) | (simp only [List.length_set, List.length_append, List.length_cons, List.length_nil, List.length_replicate]; omega)) only [go_sem, ↓reduceIte, Int.reduceLE, Int.reduceLT, Int.reduceToNat, Int.reduceNeg, Int.reduceAdd, Int.reduceSub, Int.reduceMul, Int.reduceEq, Int.reduceNe, Nat.reduceEqDiff, Nat.reduceAdd, Nat.reduceSub, Nat.reduceMul, Nat.reduceLT, Nat.reduceLeDiff, Nat.reduceBEq, Nat.reduceBNe, UInt8.reduceToNat, Tryz.results138, e0, m1000, e5, m5, e7, m7, e25, e26, e27, hlx, hly, hlz, hx', hy', hz']))
  have hgi := getE es i.toNat (by omega)
  have htk := take_int (l := es) (0, 0) g0 hi
  have hld : LD n (es.take i.toNat) := ld (hV.sub (List.take_sublist _ _))
  have hld1 : VG n (es.take (i + 1).toNat) := hV.sub (List.take_sublist _ _)
  have hia' := fun el => hia el i g0 hi
  generalize es.getD i.toNat (0, 0) = e at hgi htk
  obtain ⟨a, b⟩ := e
  simp only at hgi
  rw [htk] at hld1
  have hP := hld.put hld1
  obtain ⟨r, own, hpl, him⟩ := c_PutLevel n a b (ldT (es.take i.toNat)) hP
  have hnx : ldT (es.take (i + 1).toNat) = plL (ldT (es.take i.toNat)) (a, b) := by rw [htk, ldT_snoc]
  have h1 : ¬ (i + 1).toNat = 0 := by omega
  have hX : exI (i + 1).toNat (ldT (es.take (i + 1).toNat)) = .lst ((esT (plL (ldT (es.take i.toNat)) (a, b))).map encE) := by rw [exI, if_neg h1, hnx]
  have hY : eyI (i + 1).toNat (ldT (es.take (i + 1).toNat)) = .lst ((lvT (plL (ldT (es.take i.toNat)) (a, b))).map encI) := by rw [eyI, if_neg h1, hnx]
  have hZ : ezI (i + 1).toNat (ldT (es.take (i + 1).toNat)) = .lst ((trT (plL (ldT (es.take i.toNat)) (a, b))).map encT) := by rw [ezI, if_neg h1, hnx]
  generalize plL (ldT (es.take i.toNat)) (a, b) = us at *
  generalize ldT (es.take i.toNat) = ts at *
  generalize exI i.toNat ts = X0 at *
  generalize eyI i.toNat ts = Y0 at *
  generalize ezI i.toNat ts = Z0 at *
  repeat' (first
    | refine xw_seq ?_
    | refine xw_block ?_
    | (refine ite_two ?_ ?_ <;> intro _ <;> first | (exfalso; omega) | skip)
    | refine ord_split (by kernel_rfl) ?_
    | (refine xw_ret ?_ <;> try simp only [sq, bl, LQ])
    | ((first | refine xw_reg ?_ | refine xw_regd ?_ | refine xw_if ?_ | refine xw_skip ?_ | refine xw_exit ?_ | refine xw_label ?_ | refine post_ret ?_ | refine post_normal ?_ | refine postE_ret ?_ | refine postE_normal ?_ | (((first | refine at_region ?_ | refine at_out ?_ | refine at_cond ?_); split) <;> first | (exfalso; omega; done) | skip)) <;> try simp (config := { maxSteps := 3000000 }) (disch := first | assumption | omega | exact VG.okg (by assumption) | (simp only [List.length_set, List.length_append, List.length_cons, List.length_nil, List.length_replicate]; omega)) only [go_sem, ↓reduceIte, Int.reduceLE, Int.reduceLT, Int.reduceToNat, Int.reduceNeg, Int.reduceAdd, Int.reduceSub, Int.reduceMul, Int.reduceEq, Int.reduceNe, Nat.reduceEqDiff, Nat.reduceAdd, Nat.reduceSub, Nat.reduceMul, Nat.reduceLT, Nat.reduceLeDiff, Nat.reduceBEq, Nat.reduceBNe, UInt8.reduceToNat, Tryz.results138, e0, m1000, e5, m5, e7, m7, e25, e26, e27, hx', hy', hz', hfx, hfy, hfz, hgi, hia', hpl, him]))
  exact ⟨i + 1, by rw [hX, hY, hZ], rfl, by omega, by omega, by omega⟩
end Go.Proofs.YtdjdgnabcecdlaaGreatDoor.X

/- What functions compute: lines of a word alone. -/
set_option linter.unusedSimpArgs false
set_option linter.unusedVariables false
set_option maxHeartbeats 8000000
set_option maxRecDepth 100000
namespace Go.Proofs.YtdjdgnabcecdlaaGreatDoor.X
open Go Go.Proofs
theorem c_wl_show (n : Int) (x y z : IV) (ts : List Tl) (h3 : LV3 x y z ts) (hV : VG n (esT ts)) :
    KP 137 [.ptr 1000 0 0 0, S [115, 104, 111, 119]] [.box 0 [I n, .i x, .i y, .i z]] = some (S (fmtG n (esT ts) ++ [10]), [.box 0 [I n, .i x, .i y, .i z]], []) := by
  have hfx := h3.fx
  have hlx := h3.lx
  have hel := hV.2.2.1
  have hfg := c_FormatGraph n (esT ts) (by omega)
  rw [if_pos hV] at hfg
  have hlen := fmtG_len n (esT ts)
  generalize fmtG n (esT ts) = T at *
  refine xw_call (fn := Tryz.f137) rfl Tryz.func137 rfl ⟨Nat.le_of_ble_eq_true rfl, rfl, rfl⟩ ?_
  repeat' (first
    | refine xw_seq ?_
    | refine xw_block ?_
    | (refine ite_two ?_ ?_ <;> intro _ <;> first | (exfalso; omega) | skip)
    | refine ord_split (by kernel_rfl) ?_
    | (refine xw_ret ?_ <;> try simp only [sq, bl, LQ])
    | ((first | refine xw_reg ?_ | refine xw_regd ?_ | refine xw_if ?_ | refine xw_skip ?_ | refine xw_exit ?_ | refine xw_label ?_ | refine post_ret ?_ | refine post_normal ?_ | refine postE_ret ?_ | refine postE_normal ?_ | (((first | refine at_region ?_ | refine at_out ?_ | refine at_cond ?_); split) <;> first | (exfalso; omega; done) | skip)) <;> try simp (config := { maxSteps := 3000000 }) (disch := first | assumption | omega | exact VG.okg (by assumption) | (simp only [List.length_set, List.length_append, List.length_cons, List.length_nil, List.length_replicate]; omega)) only [go_sem, ↓reduceIte, Int.reduceLE, Int.reduceLT, Int.reduceToNat, Int.reduceNeg, Int.reduceAdd, Int.reduceSub, Int.reduceMul, Int.reduceEq, Int.reduceNe, Nat.reduceEqDiff, Nat.reduceAdd, Nat.reduceSub, Nat.reduceMul, Nat.reduceLT, Nat.reduceLeDiff, Nat.reduceBEq, Nat.reduceBNe, UInt8.reduceToNat, Tryz.results137, hfx, hlx, hfg]))
end Go.Proofs.YtdjdgnabcecdlaaGreatDoor.X
