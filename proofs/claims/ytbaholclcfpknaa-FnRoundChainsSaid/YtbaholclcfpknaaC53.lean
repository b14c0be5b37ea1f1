/- What functions compute: the reference's chains; chains that are round. -/
import Derived.Test.YtbaholclcfpknaaC52
import Derived.Test.YtbaholclcfpknaaC20
set_option linter.unusedSimpArgs false
set_option linter.unusedVariables false
set_option maxHeartbeats 8000000
set_option maxRecDepth 100000
namespace Go.Proofs.Ytbaholclcfpknaa.X
open Go Go.Proofs

theorem chF_len {n : Int} {es : List (Int × Int)} {S : Sr} (ho : ∀ e ∈ es, okE n e) (D : Dfs n es S) {bs : List (Int × Int)} (hg : ∀ b ∈ bs, Bk n es S b) : (chFold n S.par bs).1.length = n.toNat ∧ (chFold n S.par bs).2.length = bs.length := by
  have h1 := (CI.take ho D hg bs.length (Nat.le_refl _)).ln
  have h2 := chFold_out (n := n) (par := S.par) (bs := bs) bs.length (Nat.le_refl _)
  rw [List.take_length] at h1 h2
  exact ⟨h1, by rw [h2]; simp⟩
theorem bkOf_bkN {es : List (Int × Int)} {S : Sr} {u : Int} : bkOf es S u = (bkN es S u).map fun w => (u, w) := rfl

theorem c_l9Chains (n : Int) (es : List (Int × Int)) (hV : VG n es) : KP 157 [GL n es] [] = some (.ref 2000 0 0 (chainsL n es).length, [], [.arr 0 1 ((chainsL n es).map encL)]) := by
  have hs := c_l4Run n es hV
  obtain ⟨hl1, hl2⟩ := seek_lens hV
  have hbd := seek_bd hV
  have hord := seek_ord hV
  have ho := hV.okg.ok
  have hn1 := hV.1
  have hn16 := hV.2.1
  have hel := hV.2.2.1
  have D := seek_dfs ho hV.nodup (n := n) (by omega)
  have hbk : ∀ b ∈ backsL n es (seek n es), Bk n es (seek n es) b := fun b hb => (anc_bk hV hb).1
  have hch : chainsL n es = (chFold n (seek n es).par (backsL n es (seek n es))).2 := rfl
  rw [hch]
  have hor := c_l9Order n (seek n es) hn1 hn16 hl1 hbd
  have holn := ord_len n (seek n es).num
  have hbl := fun u hu => c_l9Back n es (seek n es) hV hl1 hl2 u hu
  have hbks : backsL n es (seek n es) = (ordL n (seek n es).num).flatMap (bkOf es (seek n es)) := rfl
  rw [hbks] at hbk ⊢
  generalize seek n es = S at *
  generalize hor2 : ordL n S.num = od at *
  have hodt : od.take n.toNat = od := List.take_of_length_le (by omega)
  refine xw_call (fn := Try.f157) rfl Try.func157 rfl ⟨Nat.le_of_ble_eq_true rfl, rfl, rfl⟩ ?_
  repeat' (first
    | refine xw_seq ?_
    | refine xw_block ?_
    | (refine ite_two ?_ ?_ <;> intro _ <;> first | (exfalso; omega) | skip)
    | refine ord_split (by kernel_rfl) ?_
    | (refine xw_ret ?_ <;> try simp only [sq, bl, LQ])
    | ((first | refine xw_reg ?_ | refine xw_regd ?_ | refine xw_if ?_ | refine xw_skip ?_ | refine xw_exit ?_ | refine xw_label ?_ | refine post_ret ?_ | refine post_normal ?_ | refine postE_ret ?_ | refine postE_normal ?_) <;> simp (config := { maxSteps := 3000000 }) (disch := first | assumption | omega | exact VG.okg (by assumption) | (simp only [List.length_set, List.length_append, List.length_cons, List.length_nil, List.length_replicate]; omega)) only [go_sem, ↓reduceIte, Int.reduceLE, Int.reduceLT, Int.reduceToNat, Int.reduceNeg, Int.reduceAdd, Int.reduceSub, Int.reduceMul, Int.reduceEq, Int.reduceNe, Nat.reduceEqDiff, Nat.reduceAdd, Nat.reduceSub, Nat.reduceMul, Nat.reduceLT, Nat.reduceLeDiff, Nat.reduceBEq, Nat.reduceBNe, Try.results157, hs, hor, hodt])
    | (((first | refine at_region ?_ | refine at_out ?_ | refine at_cond ?_); split) <;> first | (exfalso; omega; done) | simp (config := { maxSteps := 3000000 }) (disch := first | assumption | omega | exact VG.okg (by assumption) | (simp only [List.length_set, List.length_append, List.length_cons, List.length_nil, List.length_replicate]; omega)) only [go_sem, ↓reduceIte, Int.reduceLE, Int.reduceLT, Int.reduceToNat, Int.reduceNeg, Int.reduceAdd, Int.reduceSub, Int.reduceMul, Int.reduceEq, Int.reduceNe, Nat.reduceEqDiff, Nat.reduceAdd, Nat.reduceSub, Nat.reduceMul, Nat.reduceLT, Nat.reduceLeDiff, Nat.reduceBEq, Nat.reduceBNe, Try.results157, hs, hor, hodt] | skip))
  refine xw_loopR (fun (x : Int × Nat × List Bool × List (List Int)) s => s.m 1 = some (.box 0 [I n, LE es]) ∧ s.ρ 1 = .ptr 1 0 0 0 ∧ s.m 4 = some (.box 0 [LI S.num, LI S.par, LI S.low]) ∧ s.ρ 4 = .ptr 4 0 0 0 ∧ s.m 12 = some (.arr x.2.1 1 (x.2.2.2.map encL)) ∧ s.ρ 3 = .ref 12 x.2.1 0 x.2.2.2.length ∧ s.m 17 = some (.arr 0 1 (x.2.2.1.map encT)) ∧ s.ρ 5 = .ref 17 0 0 n.toNat ∧ s.ρ 6 = LI od ∧ s.ρ 7 = I x.1 ∧
    (x.2.2.1, x.2.2.2) = chFold n S.par ((od.take x.1.toNat).flatMap (bkOf es S)) ∧ (x.2.2.2.length : Int) ≤ 40 * x.1 ∧ 0 ≤ x.1 ∧ x.1 ≤ n) (fun x => (n - x.1).toNat) (0, 0, fB n.toNat, []) ?_ ?_
  · exact ⟨rfl, rfl, rfl, rfl, rfl, rfl, by simp [upd, hl1], by simp [upd, hl1], rfl, rfl, rfl, by simp, by simp, by simp only; omega⟩
  rintro ⟨i, v, mk, outs⟩ ⟨ρ, m⟩ ⟨m1, e1, m4, e4, m12, e3, m17, e5, e6, e7, hf, hol, g0, g1⟩
  simp only at m1 e1 m4 e4 m12 e3 m17 e5 e6 e7 hf hol g0 g1
  have hpre : ∀ b ∈ (od.take i.toNat).flatMap (bkOf es S), Bk n es S b := fun b hb => by
    obtain ⟨u, hu, hb⟩ := List.mem_flatMap.1 hb
    exact hbk b (List.mem_flatMap.2 ⟨u, List.mem_of_mem_take hu, hb⟩)
  by_cases hi : i < n
  rotate_left
  · have hoe : (chFold n S.par (od.flatMap (bkOf es S))).2 = outs := by rw [take_all (by omega)] at hf; rw [← hf]
    rw [hoe]
    repeat' (first
      | refine xw_seq ?_
      | refine xw_block ?_
      | (refine ite_two ?_ ?_ <;> intro _ <;> first | (exfalso; omega) | skip)
      | refine ord_split (by kernel_rfl) ?_
      | (refine xw_ret ?_ <;> try simp only [sq, bl, LQ])
      | ((first | refine xw_reg ?_ | refine xw_regd ?_ | refine xw_if ?_ | refine xw_skip ?_ | refine xw_exit ?_ | refine xw_label ?_ | refine post_ret ?_ | refine post_normal ?_ | refine postE_ret ?_ | refine postE_normal ?_) <;> simp (config := { maxSteps := 3000000 }) (disch := first | assumption | omega | exact VG.okg (by assumption) | (simp only [List.length_set, List.length_append, List.length_cons, List.length_nil, List.length_replicate]; omega)) only [go_sem, ↓reduceIte, Int.reduceLE, Int.reduceLT, Int.reduceToNat, Int.reduceNeg, Int.reduceAdd, Int.reduceSub, Int.reduceMul, Int.reduceEq, Int.reduceNe, Nat.reduceEqDiff, Nat.reduceAdd, Nat.reduceSub, Nat.reduceMul, Nat.reduceLT, Nat.reduceLeDiff, Nat.reduceBEq, Nat.reduceBNe, Try.results157, m1, e1, m4, e4, m12, e3, m17, e5, e6, e7])
      | (((first | refine at_region ?_ | refine at_out ?_ | refine at_cond ?_); split) <;> first | (exfalso; omega; done) | simp (config := { maxSteps := 3000000 }) (disch := first | assumption | omega | exact VG.okg (by assumption) | (simp only [List.length_set, List.length_append, List.length_cons, List.length_nil, List.length_replicate]; omega)) only [go_sem, ↓reduceIte, Int.reduceLE, Int.reduceLT, Int.reduceToNat, Int.reduceNeg, Int.reduceAdd, Int.reduceSub, Int.reduceMul, Int.reduceEq, Int.reduceNe, Nat.reduceEqDiff, Nat.reduceAdd, Nat.reduceSub, Nat.reduceMul, Nat.reduceLT, Nat.reduceLeDiff, Nat.reduceBEq, Nat.reduceBNe, Try.results157, m1, e1, m4, e4, m12, e3, m17, e5, e6, e7] | skip))
  have hum := getD_mem (d := 0) (show i.toNat < od.length by omega)
  have hu := hord _ hum
  have htk := take_int (l := od) (i := i) 0 g0 (by omega)
  have hgo := getI od i.toNat (by omega)
  generalize od.getD i.toNat 0 = u at hu htk hgo hum
  have hb1 := hbl u hu
  have hbl1 := bkOf_len es S u
  rw [bkOf_bkN, List.length_map] at hbl1
  have hinb : ∀ w ∈ bkN es S u, Bk n es S (u, w) := fun w hw => hbk (u, w) (List.mem_flatMap.2 ⟨u, hum, by rw [bkOf_bkN]; exact List.mem_map.2 ⟨w, hw, rfl⟩⟩)
  obtain ⟨u0, u1⟩ := id hu
  repeat' (first
    | refine xw_seq ?_
    | refine xw_block ?_
    | (refine ite_two ?_ ?_ <;> intro _ <;> first | (exfalso; omega) | skip)
    | refine ord_split (by kernel_rfl) ?_
    | (refine xw_ret ?_ <;> try simp only [sq, bl, LQ])
    | ((first | refine xw_reg ?_ | refine xw_regd ?_ | refine xw_if ?_ | refine xw_skip ?_ | refine xw_exit ?_ | refine xw_label ?_ | refine post_ret ?_ | refine post_normal ?_ | refine postE_ret ?_ | refine postE_normal ?_) <;> simp (config := { maxSteps := 3000000 }) (disch := first | assumption | omega | exact VG.okg (by assumption) | (simp only [List.length_set, List.length_append, List.length_cons, List.length_nil, List.length_replicate]; omega)) only [go_sem, ↓reduceIte, Int.reduceLE, Int.reduceLT, Int.reduceToNat, Int.reduceNeg, Int.reduceAdd, Int.reduceSub, Int.reduceMul, Int.reduceEq, Int.reduceNe, Nat.reduceEqDiff, Nat.reduceAdd, Nat.reduceSub, Nat.reduceMul, Nat.reduceLT, Nat.reduceLeDiff, Nat.reduceBEq, Nat.reduceBNe, Try.results157, m1, e1, m4, e4, m12, e3, m17, e5, e6, e7, hgo, hb1])
    | (((first | refine at_region ?_ | refine at_out ?_ | refine at_cond ?_); split) <;> first | (exfalso; omega; done) | simp (config := { maxSteps := 3000000 }) (disch := first | assumption | omega | exact VG.okg (by assumption) | (simp only [List.length_set, List.length_append, List.length_cons, List.length_nil, List.length_replicate]; omega)) only [go_sem, ↓reduceIte, Int.reduceLE, Int.reduceLT, Int.reduceToNat, Int.reduceNeg, Int.reduceAdd, Int.reduceSub, Int.reduceMul, Int.reduceEq, Int.reduceNe, Nat.reduceEqDiff, Nat.reduceAdd, Nat.reduceSub, Nat.reduceMul, Nat.reduceLT, Nat.reduceLeDiff, Nat.reduceBEq, Nat.reduceBNe, Try.results157, m1, e1, m4, e4, m12, e3, m17, e5, e6, e7, hgo, hb1] | skip))
  refine xw_loopR (fun (x : Int × Nat × List Bool × List (List Int)) s => s.m 1 = some (.box 0 [I n, LE es]) ∧ s.ρ 1 = .ptr 1 0 0 0 ∧ s.m 4 = some (.box 0 [LI S.num, LI S.par, LI S.low]) ∧ s.ρ 4 = .ptr 4 0 0 0 ∧ s.m 12 = some (.arr x.2.1 1 (x.2.2.2.map encL)) ∧ s.ρ 3 = .ref 12 x.2.1 0 x.2.2.2.length ∧ s.m 17 = some (.arr 0 1 (x.2.2.1.map encT)) ∧ s.ρ 5 = .ref 17 0 0 n.toNat ∧ s.ρ 6 = LI od ∧ s.ρ 7 = I i ∧
    s.ρ 8 = LI (bkN es S u) ∧ s.ρ 9 = I x.1 ∧ (x.2.2.1, x.2.2.2) = chFold n S.par ((od.take i.toNat).flatMap (bkOf es S) ++ ((bkN es S u).take x.1.toNat).map fun w => (u, w)) ∧ (x.2.2.2.length : Int) ≤ 40 * i + x.1 ∧ 0 ≤ x.1 ∧ x.1 ≤ (bkN es S u).length) (fun x => ((bkN es S u).length - x.1).toNat) (0, v, mk, outs) ?_ ?_
  · exact ⟨m1, e1, m4, e4, m12, e3, m17, e5, e6, e7, rfl, rfl, by simpa using hf, by simp only; omega, by simp, by simp⟩
  rintro ⟨k, v, mk, outs⟩ ⟨ρ, m⟩ ⟨m1, e1, m4, e4, m12, e3, m17, e5, e6, e7, e8, e9, hf, hol, f0, f1⟩
  simp only at m1 e1 m4 e4 m12 e3 m17 e5 e6 e7 e8 e9 hf hol f0 f1
  have hpre2 : ∀ b ∈ (od.take i.toNat).flatMap (bkOf es S) ++ ((bkN es S u).take k.toNat).map (fun w => (u, w)), Bk n es S b := fun b hb => by
    rcases List.mem_append.1 hb with hb | hb
    · exact hpre b hb
    · obtain ⟨w, hw, rfl⟩ := List.mem_map.1 hb
      exact hinb w (List.mem_of_mem_take hw)
  have hmk := (chF_len ho D hpre2).1
  rw [← hf] at hmk
  simp only at hmk
  by_cases hk : k < (bkN es S u).length
  rotate_left
  · repeat' (first
      | refine xw_seq ?_
      | refine xw_block ?_
      | (refine ite_two ?_ ?_ <;> intro _ <;> first | (exfalso; omega) | skip)
      | refine ord_split (by kernel_rfl) ?_
      | (refine xw_ret ?_ <;> try simp only [sq, bl, LQ])
      | ((first | refine xw_reg ?_ | refine xw_regd ?_ | refine xw_if ?_ | refine xw_skip ?_ | refine xw_exit ?_ | refine xw_label ?_ | refine post_ret ?_ | refine post_normal ?_ | refine postE_ret ?_ | refine postE_normal ?_) <;> simp (config := { maxSteps := 3000000 }) (disch := first | assumption | omega | exact VG.okg (by assumption) | (simp only [List.length_set, List.length_append, List.length_cons, List.length_nil, List.length_replicate]; omega)) only [go_sem, ↓reduceIte, Int.reduceLE, Int.reduceLT, Int.reduceToNat, Int.reduceNeg, Int.reduceAdd, Int.reduceSub, Int.reduceMul, Int.reduceEq, Int.reduceNe, Nat.reduceEqDiff, Nat.reduceAdd, Nat.reduceSub, Nat.reduceMul, Nat.reduceLT, Nat.reduceLeDiff, Nat.reduceBEq, Nat.reduceBNe, Try.results157, m1, e1, m4, e4, m12, e3, m17, e5, e6, e7, e8, e9])
      | (((first | refine at_region ?_ | refine at_out ?_ | refine at_cond ?_); split) <;> first | (exfalso; omega; done) | simp (config := { maxSteps := 3000000 }) (disch := first | assumption | omega | exact VG.okg (by assumption) | (simp only [List.length_set, List.length_append, List.length_cons, List.length_nil, List.length_replicate]; omega)) only [go_sem, ↓reduceIte, Int.reduceLE, Int.reduceLT, Int.reduceToNat, Int.reduceNeg, Int.reduceAdd, Int.reduceSub, Int.reduceMul, Int.reduceEq, Int.reduceNe, Nat.reduceEqDiff, Nat.reduceAdd, Nat.reduceSub, Nat.reduceMul, Nat.reduceLT, Nat.reduceLeDiff, Nat.reduceBEq, Nat.reduceBNe, Try.results157, m1, e1, m4, e4, m12, e3, m17, e5, e6, e7, e8, e9] | skip))
    refine ⟨i + 1, mk, outs, rfl, rfl, rfl, rfl, ?_, by omega, by omega, by omega, by omega⟩
    rw [htk, List.flatMap_append, hf, take_all (l := bkN es S u) (n := k.toNat) (by omega)]
    simp [bkOf_bkN]
  have hwm := getD_mem (d := 0) (show k.toNat < (bkN es S u).length by omega)
  have hB := hinb _ hwm
  have hge := getI (bkN es S u) k.toNat (by omega)
  have hsn : chFold n S.par ((od.take i.toNat).flatMap (bkOf es S) ++ ((bkN es S u).take (k + 1).toNat).map fun w => (u, w)) = ((chOne n S.par mk (u, (bkN es S u).getD k.toNat 0)).1, outs ++ [(chOne n S.par mk (u, (bkN es S u).getD k.toNat 0)).2]) := by
    rw [take_int 0 f0 hk, List.map_append, ← List.append_assoc]
    show chFold n S.par (_ ++ [_]) = _
    rw [chFold_snoc, ← hf]; rfl
  generalize (bkN es S u).getD k.toNat 0 = b1 at hB hge hsn
  have hA := hB.anc D
  obtain ⟨d0, d1⟩ := hB.z
  simp only at d0 d1 hA
  have hun := unm_le (mk.set u.toNat true)
  rw [List.length_set, hmk] at hun
  have hgb : gB (mk.set u.toNat true) u = true := by rw [gB_set hmk hu hu, if_pos rfl]
  repeat' (first
    | refine xw_seq ?_
    | refine xw_block ?_
    | (refine ite_two ?_ ?_ <;> intro _ <;> first | (exfalso; omega) | skip)
    | refine ord_split (by kernel_rfl) ?_
    | (refine xw_ret ?_ <;> try simp only [sq, bl, LQ])
    | ((first | refine xw_reg ?_ | refine xw_regd ?_ | refine xw_if ?_ | refine xw_skip ?_ | refine xw_exit ?_ | refine xw_label ?_ | refine post_ret ?_ | refine post_normal ?_ | refine postE_ret ?_ | refine postE_normal ?_) <;> simp (config := { maxSteps := 3000000 }) (disch := first | assumption | omega | exact VG.okg (by assumption) | (simp only [List.length_set, List.length_append, List.length_cons, List.length_nil, List.length_replicate]; omega)) only [go_sem, ↓reduceIte, Int.reduceLE, Int.reduceLT, Int.reduceToNat, Int.reduceNeg, Int.reduceAdd, Int.reduceSub, Int.reduceMul, Int.reduceEq, Int.reduceNe, Nat.reduceEqDiff, Nat.reduceAdd, Nat.reduceSub, Nat.reduceMul, Nat.reduceLT, Nat.reduceLeDiff, Nat.reduceBEq, Nat.reduceBNe, Try.results157, m1, e1, m4, e4, m12, e3, m17, e5, e6, e7, e8, e9, hgo, hge, getT, setT])
    | (((first | refine at_region ?_ | refine at_out ?_ | refine at_cond ?_); split) <;> first | (exfalso; omega; done) | simp (config := { maxSteps := 3000000 }) (disch := first | assumption | omega | exact VG.okg (by assumption) | (simp only [List.length_set, List.length_append, List.length_cons, List.length_nil, List.length_replicate]; omega)) only [go_sem, ↓reduceIte, Int.reduceLE, Int.reduceLT, Int.reduceToNat, Int.reduceNeg, Int.reduceAdd, Int.reduceSub, Int.reduceMul, Int.reduceEq, Int.reduceNe, Nat.reduceEqDiff, Nat.reduceAdd, Nat.reduceSub, Nat.reduceMul, Nat.reduceLT, Nat.reduceLeDiff, Nat.reduceBEq, Nat.reduceBNe, Try.results157, m1, e1, m4, e4, m12, e3, m17, e5, e6, e7, e8, e9, hgo, hge, getT, setT] | skip))
  refine xw_loopR (fun (x : Nat × Nat × List Bool × Int × List Int) s => s.m 1 = some (.box 0 [I n, LE es]) ∧ s.ρ 1 = .ptr 1 0 0 0 ∧ s.m 4 = some (.box 0 [LI S.num, LI S.par, LI S.low]) ∧ s.ρ 4 = .ptr 4 0 0 0 ∧ s.m 12 = some (.arr v 1 (outs.map encL)) ∧ s.ρ 3 = .ref 12 v 0 outs.length ∧ s.m 17 = some (.arr 0 1 (x.2.2.1.map encT)) ∧ s.ρ 5 = .ref 17 0 0 n.toNat ∧ s.ρ 6 = LI od ∧ s.ρ 7 = I i ∧ s.ρ 8 = LI (bkN es S u) ∧ s.ρ 9 = I k ∧
    s.m 53 = some (.arr x.2.1 1 (x.2.2.2.2.map encI)) ∧ s.ρ 10 = .ref 53 x.2.1 0 x.2.2.2.2.length ∧ s.ρ 11 = I x.2.2.2.1 ∧ x.2.2.1.length = n.toNat ∧ inR n x.2.2.2.1 ∧ Anc n S.par u x.2.2.2.1 ∧ gB x.2.2.1 u = true ∧ unm x.2.2.1 ≤ x.1 ∧ x.2.2.2.2.length + x.1 ≤ n.toNat + 2 ∧
    chW S.par x.1 x.2.2.1 x.2.2.2.1 x.2.2.2.2 = chOne n S.par mk (u, b1)) (fun x => x.1) (n.toNat, nv (m 53), mk.set u.toNat true, b1, [u, b1]) ?_ ?_
  · exact ⟨m1, e1, m4, e4, m12, e3, rfl, e5, e6, e7, e8, e9, rfl, rfl, rfl, by simpa using hmk, ⟨d0, d1⟩, hA, hgb, hun, by simp; omega, rfl⟩
  rintro ⟨f, w, mk', l, acc⟩ ⟨ρ, m⟩ ⟨m1, e1, m4, e4, m12, e3, m17, e5, e6, e7, e8, e9, m53, e10, e11, k1, k2, k3, k4, k5, k6, k7⟩
  simp only at m1 e1 m4 e4 m12 e3 m17 e5 e6 e7 e8 e9 m53 e10 e11 k1 k2 k3 k4 k5 k6 k7
  obtain ⟨l0, l1⟩ := id k2
  by_cases hm : gB mk' l = true
  · have hm' : mk'.getD l.toNat false = true := hm
    rw [chW_stop hm] at k7
    rw [← k7] at hsn
    simp only at hsn
    repeat' (first
      | refine xw_seq ?_
      | refine xw_block ?_
      | (refine ite_two ?_ ?_ <;> intro _ <;> first | (exfalso; omega) | skip)
      | refine ord_split (by kernel_rfl) ?_
      | (refine xw_ret ?_ <;> try simp only [sq, bl, LQ])
      | ((first | refine xw_reg ?_ | refine xw_regd ?_ | refine xw_if ?_ | refine xw_skip ?_ | refine xw_exit ?_ | refine xw_label ?_ | refine post_ret ?_ | refine post_normal ?_ | refine postE_ret ?_ | refine postE_normal ?_) <;> simp (config := { maxSteps := 3000000 }) (disch := first | assumption | omega | exact VG.okg (by assumption) | (simp only [List.length_set, List.length_append, List.length_cons, List.length_nil, List.length_replicate]; omega)) only [go_sem, ↓reduceIte, Int.reduceLE, Int.reduceLT, Int.reduceToNat, Int.reduceNeg, Int.reduceAdd, Int.reduceSub, Int.reduceMul, Int.reduceEq, Int.reduceNe, Nat.reduceEqDiff, Nat.reduceAdd, Nat.reduceSub, Nat.reduceMul, Nat.reduceLT, Nat.reduceLeDiff, Nat.reduceBEq, Nat.reduceBNe, Try.results157, m1, e1, m4, e4, m12, e3, m17, e5, e6, e7, e8, e9, m53, e10, e11, getT, hm', appL])
      | (((first | refine at_region ?_ | refine at_out ?_ | refine at_cond ?_); split) <;> first | (exfalso; omega; done) | simp (config := { maxSteps := 3000000 }) (disch := first | assumption | omega | exact VG.okg (by assumption) | (simp only [List.length_set, List.length_append, List.length_cons, List.length_nil, List.length_replicate]; omega)) only [go_sem, ↓reduceIte, Int.reduceLE, Int.reduceLT, Int.reduceToNat, Int.reduceNeg, Int.reduceAdd, Int.reduceSub, Int.reduceMul, Int.reduceEq, Int.reduceNe, Nat.reduceEqDiff, Nat.reduceAdd, Nat.reduceSub, Nat.reduceMul, Nat.reduceLT, Nat.reduceLeDiff, Nat.reduceBEq, Nat.reduceBNe, Try.results157, m1, e1, m4, e4, m12, e3, m17, e5, e6, e7, e8, e9, m53, e10, e11, getT, hm', appL] | skip))
    exact ⟨k + 1, mk', outs ++ [acc], rfl, by simp, rfl, rfl, hsn.symm, by rw [List.length_append, List.length_singleton]; omega, by omega, by omega, by omega⟩
  have hmf : gB mk' l = false := by simpa using hm
  have hm' : mk'.getD l.toNat false = false := hmf
  have hne : u ≠ l := fun e => hm (e ▸ k4)
  obtain ⟨hp, ha'⟩ := D.above k3 hne
  have hun := unm_set (mk := mk') (i := l.toNat) (by omega) (by simpa [gB] using hmf)
  rw [chW_go hmf (by omega)] at k7
  have hgp : S.par.getD l.toNat 0 = gI S.par l := rfl
  have hk4 : gB (mk'.set l.toNat true) u = true := by rw [gB_set k1 k2 hu, if_neg (Ne.symm hne)]; exact k4
  generalize gI S.par l = p at hp ha' k7 hgp
  repeat' (first
    | refine xw_seq ?_
    | refine xw_block ?_
    | (refine ite_two ?_ ?_ <;> intro _ <;> first | (exfalso; omega) | skip)
    | refine ord_split (by kernel_rfl) ?_
    | (refine xw_ret ?_ <;> try simp only [sq, bl, LQ])
    | ((first | refine xw_reg ?_ | refine xw_regd ?_ | refine xw_if ?_ | refine xw_skip ?_ | refine xw_exit ?_ | refine xw_label ?_ | refine post_ret ?_ | refine post_normal ?_ | refine postE_ret ?_ | refine postE_normal ?_) <;> simp (config := { maxSteps := 3000000 }) (disch := first | assumption | omega | exact VG.okg (by assumption) | (simp only [List.length_set, List.length_append, List.length_cons, List.length_nil, List.length_replicate]; omega)) only [go_sem, ↓reduceIte, Int.reduceLE, Int.reduceLT, Int.reduceToNat, Int.reduceNeg, Int.reduceAdd, Int.reduceSub, Int.reduceMul, Int.reduceEq, Int.reduceNe, Nat.reduceEqDiff, Nat.reduceAdd, Nat.reduceSub, Nat.reduceMul, Nat.reduceLT, Nat.reduceLeDiff, Nat.reduceBEq, Nat.reduceBNe, Try.results157, m1, e1, m4, e4, m12, e3, m17, e5, e6, e7, e8, e9, m53, e10, e11, getT, setT, hm', hgp, hl2])
    | (((first | refine at_region ?_ | refine at_out ?_ | refine at_cond ?_); split) <;> first | (exfalso; omega; done) | simp (config := { maxSteps := 3000000 }) (disch := first | assumption | omega | exact VG.okg (by assumption) | (simp only [List.length_set, List.length_append, List.length_cons, List.length_nil, List.length_replicate]; omega)) only [go_sem, ↓reduceIte, Int.reduceLE, Int.reduceLT, Int.reduceToNat, Int.reduceNeg, Int.reduceAdd, Int.reduceSub, Int.reduceMul, Int.reduceEq, Int.reduceNe, Nat.reduceEqDiff, Nat.reduceAdd, Nat.reduceSub, Nat.reduceMul, Nat.reduceLT, Nat.reduceLeDiff, Nat.reduceBEq, Nat.reduceBNe, Try.results157, m1, e1, m4, e4, m12, e3, m17, e5, e6, e7, e8, e9, m53, e10, e11, getT, setT, hm', hgp, hl2] | skip))
  exact ⟨f - 1, w + 1, mk'.set l.toNat true, rfl, rfl, rfl, by simpa using k1, hp, ha', hk4, by omega, by omega, k7, by omega⟩

theorem c_sChainsOf (n : Int) (es : List (Int × Int)) (hl : es.length ≤ 1000) : KP 97 [GL n es] [] = some (if VG n es then (LL (chainsL n es), [], []) else (.ref 2000 0 0 0, [], [.arr 0 1 []])) := by
  by_cases hV : VG n es
  · rw [if_pos hV]
    have h := c_l9Chains n es hV
    refine xw_call (fn := Try.f97) rfl Try.func97 rfl ⟨Nat.le_of_ble_eq_true rfl, rfl, rfl⟩ ?_
    repeat' (first
      | refine xw_seq ?_
      | refine xw_block ?_
      | (refine ite_two ?_ ?_ <;> intro _ <;> first | (exfalso; omega) | skip)
      | refine ord_split (by kernel_rfl) ?_
      | (refine xw_ret ?_ <;> try simp only [sq, bl, LQ])
      | ((first | refine xw_reg ?_ | refine xw_regd ?_ | refine xw_if ?_ | refine xw_skip ?_ | refine xw_exit ?_ | refine xw_label ?_ | refine post_ret ?_ | refine post_normal ?_ | refine postE_ret ?_ | refine postE_normal ?_) <;> simp (config := { maxSteps := 3000000 }) (disch := first | assumption | omega | exact VG.okg (by assumption) | (simp only [List.length_set, List.length_append, List.length_cons, List.length_nil, List.length_replicate]; omega)) only [go_sem, ↓reduceIte, Int.reduceLE, Int.reduceLT, Int.reduceToNat, Int.reduceNeg, Int.reduceAdd, Int.reduceSub, Int.reduceMul, Int.reduceEq, Int.reduceNe, Nat.reduceEqDiff, Nat.reduceAdd, Nat.reduceSub, Nat.reduceMul, Nat.reduceLT, Nat.reduceLeDiff, Nat.reduceBEq, Nat.reduceBNe, Try.results97, h])
      | (((first | refine at_region ?_ | refine at_out ?_ | refine at_cond ?_); split) <;> first | (exfalso; omega; done) | simp (config := { maxSteps := 3000000 }) (disch := first | assumption | omega | exact VG.okg (by assumption) | (simp only [List.length_set, List.length_append, List.length_cons, List.length_nil, List.length_replicate]; omega)) only [go_sem, ↓reduceIte, Int.reduceLE, Int.reduceLT, Int.reduceToNat, Int.reduceNeg, Int.reduceAdd, Int.reduceSub, Int.reduceMul, Int.reduceEq, Int.reduceNe, Nat.reduceEqDiff, Nat.reduceAdd, Nat.reduceSub, Nat.reduceMul, Nat.reduceLT, Nat.reduceLeDiff, Nat.reduceBEq, Nat.reduceBNe, Try.results97, h] | skip))
  · rw [if_neg hV]
    refine xw_call (fn := Try.f97) rfl Try.func97 rfl ⟨Nat.le_of_ble_eq_true rfl, rfl, rfl⟩ ?_
    repeat' (first
      | refine xw_seq ?_
      | refine xw_block ?_
      | (refine ite_two ?_ ?_ <;> intro _ <;> first | (exfalso; omega) | skip)
      | refine ord_split (by kernel_rfl) ?_
      | (refine xw_ret ?_ <;> try simp only [sq, bl, LQ])
      | ((first | refine xw_reg ?_ | refine xw_regd ?_ | refine xw_if ?_ | refine xw_skip ?_ | refine xw_exit ?_ | refine xw_label ?_ | refine post_ret ?_ | refine post_normal ?_ | refine postE_ret ?_ | refine postE_normal ?_) <;> simp (config := { maxSteps := 3000000 }) (disch := first | assumption | omega | exact VG.okg (by assumption) | (simp only [List.length_set, List.length_append, List.length_cons, List.length_nil, List.length_replicate]; omega)) only [go_sem, ↓reduceIte, Int.reduceLE, Int.reduceLT, Int.reduceToNat, Int.reduceNeg, Int.reduceAdd, Int.reduceSub, Int.reduceMul, Int.reduceEq, Int.reduceNe, Nat.reduceEqDiff, Nat.reduceAdd, Nat.reduceSub, Nat.reduceMul, Nat.reduceLT, Nat.reduceLeDiff, Nat.reduceBEq, Nat.reduceBNe, Try.results97])
      | (((first | refine at_region ?_ | refine at_out ?_ | refine at_cond ?_); split) <;> first | (exfalso; omega; done) | simp (config := { maxSteps := 3000000 }) (disch := first | assumption | omega | exact VG.okg (by assumption) | (simp only [List.length_set, List.length_append, List.length_cons, List.length_nil, List.length_replicate]; omega)) only [go_sem, ↓reduceIte, Int.reduceLE, Int.reduceLT, Int.reduceToNat, Int.reduceNeg, Int.reduceAdd, Int.reduceSub, Int.reduceMul, Int.reduceEq, Int.reduceNe, Nat.reduceEqDiff, Nat.reduceAdd, Nat.reduceSub, Nat.reduceMul, Nat.reduceLT, Nat.reduceLeDiff, Nat.reduceBEq, Nat.reduceBNe, Try.results97] | skip))

/-- The numbers of chains that are round. -/
noncomputable def rdL (n : Int) (es : List (Int × Int)) : List Int := if VG n es then roundsL n es (chainsL n es).length else []
theorem rd_snoc {n i : Int} {es : List (Int × Int)} (h : 0 ≤ i) : roundsL n es (i + 1) = roundsL n es i ++ if ((chainsL n es).getD i.toNat []).getD 0 0 = ((chainsL n es).getD i.toNat []).getD (((chainsL n es).getD i.toNat []).length - 1) 0 then [i] else [] := by
  unfold roundsL
  rw [iota_snoc h, List.filter_append]
  congr 1
  split
  · rename_i c; rw [List.filter_cons, if_pos (decide_eq_true c)]; rfl
  · rename_i c; rw [List.filter_cons, if_neg (by rw [decide_eq_true_eq]; exact c)]; rfl
theorem rounds_len_le {n i : Int} {es : List (Int × Int)} (h : 0 ≤ i) : ((roundsL n es i).length : Int) ≤ i := by
  have h1 : (roundsL n es i).length ≤ (iota i).length := List.length_filter_le _ _
  rw [iota_length] at h1; omega
theorem chains_le {n : Int} {es : List (Int × Int)} (hV : VG n es) : (chainsL n es).length ≤ 640 := by rw [chains_len]; exact backs_len' hV

theorem c_RoundChains (n : Int) (es : List (Int × Int)) (hl : es.length ≤ 1000) : KP 41 [GL n es] [] = some (.ref 2000 0 0 (rdL n es).length, [], [.arr 0 1 ((rdL n es).map encI)]) := by
  have hc := c_ChainsOf n es hl
  unfold rdL
  by_cases hV : VG n es
  rotate_left
  · rw [if_neg hV] at hc ⊢
    refine xw_call (fn := Try.f41) rfl Try.func41 rfl ⟨Nat.le_of_ble_eq_true rfl, rfl, rfl⟩ ?_
    repeat' (first
      | refine xw_seq ?_
      | refine xw_block ?_
      | (refine ite_two ?_ ?_ <;> intro _ <;> first | (exfalso; omega) | skip)
      | refine ord_split (by kernel_rfl) ?_
      | (refine xw_ret ?_ <;> try simp only [sq, bl, LQ])
      | ((first | refine xw_reg ?_ | refine xw_regd ?_ | refine xw_if ?_ | refine xw_skip ?_ | refine xw_exit ?_ | refine xw_label ?_ | refine post_ret ?_ | refine post_normal ?_ | refine postE_ret ?_ | refine postE_normal ?_) <;> simp (config := { maxSteps := 3000000 }) (disch := first | assumption | omega | exact VG.okg (by assumption) | (simp only [List.length_set, List.length_append, List.length_cons, List.length_nil, List.length_replicate]; omega)) only [go_sem, ↓reduceIte, Int.reduceLE, Int.reduceLT, Int.reduceToNat, Int.reduceNeg, Int.reduceAdd, Int.reduceSub, Int.reduceMul, Int.reduceEq, Int.reduceNe, Nat.reduceEqDiff, Nat.reduceAdd, Nat.reduceSub, Nat.reduceMul, Nat.reduceLT, Nat.reduceLeDiff, Nat.reduceBEq, Nat.reduceBNe, Try.results41, hc])
      | (((first | refine at_region ?_ | refine at_out ?_ | refine at_cond ?_); split) <;> first | (exfalso; omega; done) | simp (config := { maxSteps := 3000000 }) (disch := first | assumption | omega | exact VG.okg (by assumption) | (simp only [List.length_set, List.length_append, List.length_cons, List.length_nil, List.length_replicate]; omega)) only [go_sem, ↓reduceIte, Int.reduceLE, Int.reduceLT, Int.reduceToNat, Int.reduceNeg, Int.reduceAdd, Int.reduceSub, Int.reduceMul, Int.reduceEq, Int.reduceNe, Nat.reduceEqDiff, Nat.reduceAdd, Nat.reduceSub, Nat.reduceMul, Nat.reduceLT, Nat.reduceLeDiff, Nat.reduceBEq, Nat.reduceBNe, Try.results41, hc] | skip))
    refine xw_loopR (fun (_ : Unit) s => s.m 6 = some (.arr 0 1 []) ∧ s.ρ 3 = .ref 6 0 0 0 ∧ s.ρ 9 = I 0 ∧ s.ρ 10 = I 0) (fun _ => 0) () ⟨rfl, rfl, rfl, rfl⟩ ?_
    rintro _ ⟨ρ, m⟩ ⟨m6, e3, e9, e10⟩
    simp only at m6 e3 e9 e10
    repeat' (first
      | refine xw_seq ?_
      | refine xw_block ?_
      | (refine ite_two ?_ ?_ <;> intro _ <;> first | (exfalso; omega) | skip)
      | refine ord_split (by kernel_rfl) ?_
      | (refine xw_ret ?_ <;> try simp only [sq, bl, LQ])
      | ((first | refine xw_reg ?_ | refine xw_regd ?_ | refine xw_if ?_ | refine xw_skip ?_ | refine xw_exit ?_ | refine xw_label ?_ | refine post_ret ?_ | refine post_normal ?_ | refine postE_ret ?_ | refine postE_normal ?_) <;> simp (config := { maxSteps := 3000000 }) (disch := first | assumption | omega | exact VG.okg (by assumption) | (simp only [List.length_set, List.length_append, List.length_cons, List.length_nil, List.length_replicate]; omega)) only [go_sem, ↓reduceIte, Int.reduceLE, Int.reduceLT, Int.reduceToNat, Int.reduceNeg, Int.reduceAdd, Int.reduceSub, Int.reduceMul, Int.reduceEq, Int.reduceNe, Nat.reduceEqDiff, Nat.reduceAdd, Nat.reduceSub, Nat.reduceMul, Nat.reduceLT, Nat.reduceLeDiff, Nat.reduceBEq, Nat.reduceBNe, Try.results41, m6, e3, e9, e10])
      | (((first | refine at_region ?_ | refine at_out ?_ | refine at_cond ?_); split) <;> first | (exfalso; omega; done) | simp (config := { maxSteps := 3000000 }) (disch := first | assumption | omega | exact VG.okg (by assumption) | (simp only [List.length_set, List.length_append, List.length_cons, List.length_nil, List.length_replicate]; omega)) only [go_sem, ↓reduceIte, Int.reduceLE, Int.reduceLT, Int.reduceToNat, Int.reduceNeg, Int.reduceAdd, Int.reduceSub, Int.reduceMul, Int.reduceEq, Int.reduceNe, Nat.reduceEqDiff, Nat.reduceAdd, Nat.reduceSub, Nat.reduceMul, Nat.reduceLT, Nat.reduceLeDiff, Nat.reduceBEq, Nat.reduceBNe, Try.results41, m6, e3, e9, e10] | skip))
  rw [if_pos hV] at hc ⊢
  have hcl := chains_le hV
  have hhd := fun i (hi : i < (chainsL n es).length) => chains_head hV.okg.ok hV.nodup (n := n) (by have := hV.1; omega) (i := i) (by rw [← chains_len]; exact hi)
  have hn16 := hV.2.1
  have hsnc := fun i h => rd_snoc (n := n) (es := es) (i := i) h
  have hrle := fun i h => rounds_len_le (n := n) (es := es) (i := i) h
  generalize hchq : chainsL n es = cs at hc hcl hhd hsnc ⊢
  refine xw_call (fn := Try.f41) rfl Try.func41 rfl ⟨Nat.le_of_ble_eq_true rfl, rfl, rfl⟩ ?_
  repeat' (first
    | refine xw_seq ?_
    | refine xw_block ?_
    | (refine ite_two ?_ ?_ <;> intro _ <;> first | (exfalso; omega) | skip)
    | refine ord_split (by kernel_rfl) ?_
    | (refine xw_ret ?_ <;> try simp only [sq, bl, LQ])
    | ((first | refine xw_reg ?_ | refine xw_regd ?_ | refine xw_if ?_ | refine xw_skip ?_ | refine xw_exit ?_ | refine xw_label ?_ | refine post_ret ?_ | refine post_normal ?_ | refine postE_ret ?_ | refine postE_normal ?_) <;> simp (config := { maxSteps := 3000000 }) (disch := first | assumption | omega | exact VG.okg (by assumption) | (simp only [List.length_set, List.length_append, List.length_cons, List.length_nil, List.length_replicate]; omega)) only [go_sem, ↓reduceIte, Int.reduceLE, Int.reduceLT, Int.reduceToNat, Int.reduceNeg, Int.reduceAdd, Int.reduceSub, Int.reduceMul, Int.reduceEq, Int.reduceNe, Nat.reduceEqDiff, Nat.reduceAdd, Nat.reduceSub, Nat.reduceMul, Nat.reduceLT, Nat.reduceLeDiff, Nat.reduceBEq, Nat.reduceBNe, Try.results41, hc])
    | (((first | refine at_region ?_ | refine at_out ?_ | refine at_cond ?_); split) <;> first | (exfalso; omega; done) | simp (config := { maxSteps := 3000000 }) (disch := first | assumption | omega | exact VG.okg (by assumption) | (simp only [List.length_set, List.length_append, List.length_cons, List.length_nil, List.length_replicate]; omega)) only [go_sem, ↓reduceIte, Int.reduceLE, Int.reduceLT, Int.reduceToNat, Int.reduceNeg, Int.reduceAdd, Int.reduceSub, Int.reduceMul, Int.reduceEq, Int.reduceNe, Nat.reduceEqDiff, Nat.reduceAdd, Nat.reduceSub, Nat.reduceMul, Nat.reduceLT, Nat.reduceLeDiff, Nat.reduceBEq, Nat.reduceBNe, Try.results41, hc] | skip))
  refine xw_loopR (fun (x : Int × Nat) s => s.m 6 = some (.arr x.2 1 ((roundsL n es x.1).map encI)) ∧ s.ρ 3 = .ref 6 x.2 0 (roundsL n es x.1).length ∧ s.ρ 8 = LL cs ∧ s.ρ 9 = I cs.length ∧ s.ρ 10 = I x.1 ∧ 0 ≤ x.1 ∧ x.1 ≤ cs.length) (fun x => (cs.length - x.1).toNat) (0, 0) ?_ ?_
  · exact ⟨rfl, rfl, rfl, rfl, rfl, by simp, by simp⟩
  rintro ⟨i, v⟩ ⟨ρ, m⟩ ⟨m6, e3, e8, e9, e10, g0, g1⟩
  simp only at m6 e3 e8 e9 e10 g0 g1
  have hri := hrle i g0
  have hsi := hsnc i g0
  by_cases hi : i < cs.length
  rotate_left
  · have hie : (cs.length : Int) = i := by omega
    rw [hie]
    repeat' (first
      | refine xw_seq ?_
      | refine xw_block ?_
      | (refine ite_two ?_ ?_ <;> intro _ <;> first | (exfalso; omega) | skip)
      | refine ord_split (by kernel_rfl) ?_
      | (refine xw_ret ?_ <;> try simp only [sq, bl, LQ])
      | ((first | refine xw_reg ?_ | refine xw_regd ?_ | refine xw_if ?_ | refine xw_skip ?_ | refine xw_exit ?_ | refine xw_label ?_ | refine post_ret ?_ | refine post_normal ?_ | refine postE_ret ?_ | refine postE_normal ?_) <;> simp (config := { maxSteps := 3000000 }) (disch := first | assumption | omega | exact VG.okg (by assumption) | (simp only [List.length_set, List.length_append, List.length_cons, List.length_nil, List.length_replicate]; omega)) only [go_sem, ↓reduceIte, Int.reduceLE, Int.reduceLT, Int.reduceToNat, Int.reduceNeg, Int.reduceAdd, Int.reduceSub, Int.reduceMul, Int.reduceEq, Int.reduceNe, Nat.reduceEqDiff, Nat.reduceAdd, Nat.reduceSub, Nat.reduceMul, Nat.reduceLT, Nat.reduceLeDiff, Nat.reduceBEq, Nat.reduceBNe, Try.results41, m6, e3, e8, e9, e10])
      | (((first | refine at_region ?_ | refine at_out ?_ | refine at_cond ?_); split) <;> first | (exfalso; omega; done) | simp (config := { maxSteps := 3000000 }) (disch := first | assumption | omega | exact VG.okg (by assumption) | (simp only [List.length_set, List.length_append, List.length_cons, List.length_nil, List.length_replicate]; omega)) only [go_sem, ↓reduceIte, Int.reduceLE, Int.reduceLT, Int.reduceToNat, Int.reduceNeg, Int.reduceAdd, Int.reduceSub, Int.reduceMul, Int.reduceEq, Int.reduceNe, Nat.reduceEqDiff, Nat.reduceAdd, Nat.reduceSub, Nat.reduceMul, Nat.reduceLT, Nat.reduceLeDiff, Nat.reduceBEq, Nat.reduceBNe, Try.results41, m6, e3, e8, e9, e10] | skip))
  obtain ⟨-, -, hp1, hp2⟩ := hhd i.toNat (by omega)
  have hgl := getLs cs i.toNat (by omega)
  generalize cs.getD i.toNat [] = c at hp1 hp2 hgl hsi
  have hc0 := getI c 0 hp1
  have hc1 := getI c (c.length - 1) (by omega)
  have hz : ((c.length : Int) - 1).toNat = c.length - 1 := by omega
  generalize hr : roundsL n es i = r at m6 e3 hri hsi
  by_cases hrd : c.getD 0 0 = c.getD (c.length - 1) 0
  · rw [if_pos hrd] at hsi
    repeat' (first
      | refine xw_seq ?_
      | refine xw_block ?_
      | (refine ite_two ?_ ?_ <;> intro _ <;> first | (exfalso; omega) | skip)
      | refine ord_split (by kernel_rfl) ?_
      | (refine xw_ret ?_ <;> try simp only [sq, bl, LQ])
      | ((first | refine xw_reg ?_ | refine xw_regd ?_ | refine xw_if ?_ | refine xw_skip ?_ | refine xw_exit ?_ | refine xw_label ?_ | refine post_ret ?_ | refine post_normal ?_ | refine postE_ret ?_ | refine postE_normal ?_) <;> simp (config := { maxSteps := 3000000 }) (disch := first | assumption | omega | exact VG.okg (by assumption) | (simp only [List.length_set, List.length_append, List.length_cons, List.length_nil, List.length_replicate]; omega)) only [go_sem, ↓reduceIte, Int.reduceLE, Int.reduceLT, Int.reduceToNat, Int.reduceNeg, Int.reduceAdd, Int.reduceSub, Int.reduceMul, Int.reduceEq, Int.reduceNe, Nat.reduceEqDiff, Nat.reduceAdd, Nat.reduceSub, Nat.reduceMul, Nat.reduceLT, Nat.reduceLeDiff, Nat.reduceBEq, Nat.reduceBNe, Try.results41, m6, e3, e8, e9, e10, hgl, hc0, hc1, hz, hrd])
      | (((first | refine at_region ?_ | refine at_out ?_ | refine at_cond ?_); split) <;> first | (exfalso; omega; done) | simp (config := { maxSteps := 3000000 }) (disch := first | assumption | omega | exact VG.okg (by assumption) | (simp only [List.length_set, List.length_append, List.length_cons, List.length_nil, List.length_replicate]; omega)) only [go_sem, ↓reduceIte, Int.reduceLE, Int.reduceLT, Int.reduceToNat, Int.reduceNeg, Int.reduceAdd, Int.reduceSub, Int.reduceMul, Int.reduceEq, Int.reduceNe, Nat.reduceEqDiff, Nat.reduceAdd, Nat.reduceSub, Nat.reduceMul, Nat.reduceLT, Nat.reduceLeDiff, Nat.reduceBEq, Nat.reduceBNe, Try.results41, m6, e3, e8, e9, e10, hgl, hc0, hc1, hz, hrd] | skip))
    exact ⟨i + 1, hsi.symm, by rw [hsi]; simp, rfl, by omega, by omega, by omega⟩
  · rw [if_neg hrd, List.append_nil] at hsi
    repeat' (first
      | refine xw_seq ?_
      | refine xw_block ?_
      | (refine ite_two ?_ ?_ <;> intro _ <;> first | (exfalso; omega) | skip)
      | refine ord_split (by kernel_rfl) ?_
      | (refine xw_ret ?_ <;> try simp only [sq, bl, LQ])
      | ((first | refine xw_reg ?_ | refine xw_regd ?_ | refine xw_if ?_ | refine xw_skip ?_ | refine xw_exit ?_ | refine xw_label ?_ | refine post_ret ?_ | refine post_normal ?_ | refine postE_ret ?_ | refine postE_normal ?_) <;> simp (config := { maxSteps := 3000000 }) (disch := first | assumption | omega | exact VG.okg (by assumption) | (simp only [List.length_set, List.length_append, List.length_cons, List.length_nil, List.length_replicate]; omega)) only [go_sem, ↓reduceIte, Int.reduceLE, Int.reduceLT, Int.reduceToNat, Int.reduceNeg, Int.reduceAdd, Int.reduceSub, Int.reduceMul, Int.reduceEq, Int.reduceNe, Nat.reduceEqDiff, Nat.reduceAdd, Nat.reduceSub, Nat.reduceMul, Nat.reduceLT, Nat.reduceLeDiff, Nat.reduceBEq, Nat.reduceBNe, Try.results41, m6, e3, e8, e9, e10, hgl, hc0, hc1, hz, hrd])
      | (((first | refine at_region ?_ | refine at_out ?_ | refine at_cond ?_); split) <;> first | (exfalso; omega; done) | simp (config := { maxSteps := 3000000 }) (disch := first | assumption | omega | exact VG.okg (by assumption) | (simp only [List.length_set, List.length_append, List.length_cons, List.length_nil, List.length_replicate]; omega)) only [go_sem, ↓reduceIte, Int.reduceLE, Int.reduceLT, Int.reduceToNat, Int.reduceNeg, Int.reduceAdd, Int.reduceSub, Int.reduceMul, Int.reduceEq, Int.reduceNe, Nat.reduceEqDiff, Nat.reduceAdd, Nat.reduceSub, Nat.reduceMul, Nat.reduceLT, Nat.reduceLeDiff, Nat.reduceBEq, Nat.reduceBNe, Try.results41, m6, e3, e8, e9, e10, hgl, hc0, hc1, hz, hrd] | skip))
    exact ⟨i + 1, hsi.symm, by rw [hsi], rfl, by omega, by omega, by omega⟩

theorem c_sRoundChains (n : Int) (es : List (Int × Int)) (hl : es.length ≤ 1000) : KP 42 [GL n es] [] = some (.ref 2000 0 0 (rdL n es).length, [], [.arr 0 1 ((rdL n es).map encI)]) := by
  have hc := c_sChainsOf n es hl
  unfold rdL
  by_cases hV : VG n es
  rotate_left
  · rw [if_neg hV] at hc ⊢
    refine xw_call (fn := Try.f42) rfl Try.func42 rfl ⟨Nat.le_of_ble_eq_true rfl, rfl, rfl⟩ ?_
    repeat' (first
      | refine xw_seq ?_
      | refine xw_block ?_
      | (refine ite_two ?_ ?_ <;> intro _ <;> first | (exfalso; omega) | skip)
      | refine ord_split (by kernel_rfl) ?_
      | (refine xw_ret ?_ <;> try simp only [sq, bl, LQ])
      | ((first | refine xw_reg ?_ | refine xw_regd ?_ | refine xw_if ?_ | refine xw_skip ?_ | refine xw_exit ?_ | refine xw_label ?_ | refine post_ret ?_ | refine post_normal ?_ | refine postE_ret ?_ | refine postE_normal ?_) <;> simp (config := { maxSteps := 3000000 }) (disch := first | assumption | omega | exact VG.okg (by assumption) | (simp only [List.length_set, List.length_append, List.length_cons, List.length_nil, List.length_replicate]; omega)) only [go_sem, ↓reduceIte, Int.reduceLE, Int.reduceLT, Int.reduceToNat, Int.reduceNeg, Int.reduceAdd, Int.reduceSub, Int.reduceMul, Int.reduceEq, Int.reduceNe, Nat.reduceEqDiff, Nat.reduceAdd, Nat.reduceSub, Nat.reduceMul, Nat.reduceLT, Nat.reduceLeDiff, Nat.reduceBEq, Nat.reduceBNe, Try.results42, hc])
      | (((first | refine at_region ?_ | refine at_out ?_ | refine at_cond ?_); split) <;> first | (exfalso; omega; done) | simp (config := { maxSteps := 3000000 }) (disch := first | assumption | omega | exact VG.okg (by assumption) | (simp only [List.length_set, List.length_append, List.length_cons, List.length_nil, List.length_replicate]; omega)) only [go_sem, ↓reduceIte, Int.reduceLE, Int.reduceLT, Int.reduceToNat, Int.reduceNeg, Int.reduceAdd, Int.reduceSub, Int.reduceMul, Int.reduceEq, Int.reduceNe, Nat.reduceEqDiff, Nat.reduceAdd, Nat.reduceSub, Nat.reduceMul, Nat.reduceLT, Nat.reduceLeDiff, Nat.reduceBEq, Nat.reduceBNe, Try.results42, hc] | skip))
    refine xw_loopR (fun (_ : Unit) s => s.m 6 = some (.arr 0 1 []) ∧ s.ρ 3 = .ref 6 0 0 0 ∧ s.ρ 4 = .i (.lst []) ∧ s.ρ 5 = I 0) (fun _ => 0) () ⟨rfl, rfl, rfl, rfl⟩ ?_
    rintro _ ⟨ρ, m⟩ ⟨m6, e3, e4, e5⟩
    simp only at m6 e3 e4 e5
    repeat' (first
      | refine xw_seq ?_
      | refine xw_block ?_
      | (refine ite_two ?_ ?_ <;> intro _ <;> first | (exfalso; omega) | skip)
      | refine ord_split (by kernel_rfl) ?_
      | (refine xw_ret ?_ <;> try simp only [sq, bl, LQ])
      | ((first | refine xw_reg ?_ | refine xw_regd ?_ | refine xw_if ?_ | refine xw_skip ?_ | refine xw_exit ?_ | refine xw_label ?_ | refine post_ret ?_ | refine post_normal ?_ | refine postE_ret ?_ | refine postE_normal ?_) <;> simp (config := { maxSteps := 3000000 }) (disch := first | assumption | omega | exact VG.okg (by assumption) | (simp only [List.length_set, List.length_append, List.length_cons, List.length_nil, List.length_replicate]; omega)) only [go_sem, ↓reduceIte, Int.reduceLE, Int.reduceLT, Int.reduceToNat, Int.reduceNeg, Int.reduceAdd, Int.reduceSub, Int.reduceMul, Int.reduceEq, Int.reduceNe, Nat.reduceEqDiff, Nat.reduceAdd, Nat.reduceSub, Nat.reduceMul, Nat.reduceLT, Nat.reduceLeDiff, Nat.reduceBEq, Nat.reduceBNe, Try.results42, m6, e3, e4, e5])
      | (((first | refine at_region ?_ | refine at_out ?_ | refine at_cond ?_); split) <;> first | (exfalso; omega; done) | simp (config := { maxSteps := 3000000 }) (disch := first | assumption | omega | exact VG.okg (by assumption) | (simp only [List.length_set, List.length_append, List.length_cons, List.length_nil, List.length_replicate]; omega)) only [go_sem, ↓reduceIte, Int.reduceLE, Int.reduceLT, Int.reduceToNat, Int.reduceNeg, Int.reduceAdd, Int.reduceSub, Int.reduceMul, Int.reduceEq, Int.reduceNe, Nat.reduceEqDiff, Nat.reduceAdd, Nat.reduceSub, Nat.reduceMul, Nat.reduceLT, Nat.reduceLeDiff, Nat.reduceBEq, Nat.reduceBNe, Try.results42, m6, e3, e4, e5] | skip))
  rw [if_pos hV] at hc ⊢
  have hcl := chains_le hV
  have hhd := fun i (hi : i < (chainsL n es).length) => chains_head hV.okg.ok hV.nodup (n := n) (by have := hV.1; omega) (i := i) (by rw [← chains_len]; exact hi)
  have hn16 := hV.2.1
  have hsnc := fun i h => rd_snoc (n := n) (es := es) (i := i) h
  have hrle := fun i h => rounds_len_le (n := n) (es := es) (i := i) h
  generalize hchq : chainsL n es = cs at hc hcl hhd hsnc ⊢
  refine xw_call (fn := Try.f42) rfl Try.func42 rfl ⟨Nat.le_of_ble_eq_true rfl, rfl, rfl⟩ ?_
  repeat' (first
    | refine xw_seq ?_
    | refine xw_block ?_
    | (refine ite_two ?_ ?_ <;> intro _ <;> first | (exfalso; omega) | skip)
    | refine ord_split (by kernel_rfl) ?_
    | (refine xw_ret ?_ <;> try simp only [sq, bl, LQ])
    | ((first | refine xw_reg ?_ | refine xw_regd ?_ | refine xw_if ?_ | refine xw_skip ?_ | refine xw_exit ?_ | refine xw_label ?_ | refine post_ret ?_ | refine post_normal ?_ | refine postE_ret ?_ | refine postE_normal ?_) <;> simp (config := { maxSteps := 3000000 }) (disch := first | assumption | omega | exact VG.okg (by assumption) | (simp only [List.length_set, List.length_append, List.length_cons, List.length_nil, List.length_replicate]; omega)) only [go_sem, ↓reduceIte, Int.reduceLE, Int.reduceLT, Int.reduceToNat, Int.reduceNeg, Int.reduceAdd, Int.reduceSub, Int.reduceMul, Int.reduceEq, Int.reduceNe, Nat.reduceEqDiff, Nat.reduceAdd, Nat.reduceSub, Nat.reduceMul, Nat.reduceLT, Nat.reduceLeDiff, Nat.reduceBEq, Nat.reduceBNe, Try.results42, hc])
    | (((first | refine at_region ?_ | refine at_out ?_ | refine at_cond ?_); split) <;> first | (exfalso; omega; done) | simp (config := { maxSteps := 3000000 }) (disch := first | assumption | omega | exact VG.okg (by assumption) | (simp only [List.length_set, List.length_append, List.length_cons, List.length_nil, List.length_replicate]; omega)) only [go_sem, ↓reduceIte, Int.reduceLE, Int.reduceLT, Int.reduceToNat, Int.reduceNeg, Int.reduceAdd, Int.reduceSub, Int.reduceMul, Int.reduceEq, Int.reduceNe, Nat.reduceEqDiff, Nat.reduceAdd, Nat.reduceSub, Nat.reduceMul, Nat.reduceLT, Nat.reduceLeDiff, Nat.reduceBEq, Nat.reduceBNe, Try.results42, hc] | skip))
  refine xw_loopR (fun (x : Int × Nat) s => s.m 6 = some (.arr x.2 1 ((roundsL n es x.1).map encI)) ∧ s.ρ 3 = .ref 6 x.2 0 (roundsL n es x.1).length ∧ s.ρ 4 = LL cs ∧ s.ρ 5 = I x.1 ∧ 0 ≤ x.1 ∧ x.1 ≤ cs.length) (fun x => (cs.length - x.1).toNat) (0, 0) ?_ ?_
  · exact ⟨rfl, rfl, rfl, rfl, by simp, by simp⟩
  rintro ⟨i, v⟩ ⟨ρ, m⟩ ⟨m6, e3, e4, e5, g0, g1⟩
  simp only at m6 e3 e4 e5 g0 g1
  have hri := hrle i g0
  have hsi := hsnc i g0
  by_cases hi : i < cs.length
  rotate_left
  · have hie : (cs.length : Int) = i := by omega
    rw [hie]
    repeat' (first
      | refine xw_seq ?_
      | refine xw_block ?_
      | (refine ite_two ?_ ?_ <;> intro _ <;> first | (exfalso; omega) | skip)
      | refine ord_split (by kernel_rfl) ?_
      | (refine xw_ret ?_ <;> try simp only [sq, bl, LQ])
      | ((first | refine xw_reg ?_ | refine xw_regd ?_ | refine xw_if ?_ | refine xw_skip ?_ | refine xw_exit ?_ | refine xw_label ?_ | refine post_ret ?_ | refine post_normal ?_ | refine postE_ret ?_ | refine postE_normal ?_) <;> simp (config := { maxSteps := 3000000 }) (disch := first | assumption | omega | exact VG.okg (by assumption) | (simp only [List.length_set, List.length_append, List.length_cons, List.length_nil, List.length_replicate]; omega)) only [go_sem, ↓reduceIte, Int.reduceLE, Int.reduceLT, Int.reduceToNat, Int.reduceNeg, Int.reduceAdd, Int.reduceSub, Int.reduceMul, Int.reduceEq, Int.reduceNe, Nat.reduceEqDiff, Nat.reduceAdd, Nat.reduceSub, Nat.reduceMul, Nat.reduceLT, Nat.reduceLeDiff, Nat.reduceBEq, Nat.reduceBNe, Try.results42, m6, e3, e4, e5])
      | (((first | refine at_region ?_ | refine at_out ?_ | refine at_cond ?_); split) <;> first | (exfalso; omega; done) | simp (config := { maxSteps := 3000000 }) (disch := first | assumption | omega | exact VG.okg (by assumption) | (simp only [List.length_set, List.length_append, List.length_cons, List.length_nil, List.length_replicate]; omega)) only [go_sem, ↓reduceIte, Int.reduceLE, Int.reduceLT, Int.reduceToNat, Int.reduceNeg, Int.reduceAdd, Int.reduceSub, Int.reduceMul, Int.reduceEq, Int.reduceNe, Nat.reduceEqDiff, Nat.reduceAdd, Nat.reduceSub, Nat.reduceMul, Nat.reduceLT, Nat.reduceLeDiff, Nat.reduceBEq, Nat.reduceBNe, Try.results42, m6, e3, e4, e5] | skip))
  obtain ⟨-, -, hp1, hp2⟩ := hhd i.toNat (by omega)
  have hgl := getLs cs i.toNat (by omega)
  generalize cs.getD i.toNat [] = c at hp1 hp2 hgl hsi
  have hc0 := getI c 0 hp1
  have hc1 := getI c (c.length - 1) (by omega)
  have hz : ((c.length : Int) - 1).toNat = c.length - 1 := by omega
  generalize hr : roundsL n es i = r at m6 e3 hri hsi
  by_cases hrd : c.getD 0 0 = c.getD (c.length - 1) 0
  · rw [if_pos hrd] at hsi
    repeat' (first
      | refine xw_seq ?_
      | refine xw_block ?_
      | (refine ite_two ?_ ?_ <;> intro _ <;> first | (exfalso; omega) | skip)
      | refine ord_split (by kernel_rfl) ?_
      | (refine xw_ret ?_ <;> try simp only [sq, bl, LQ])
      | ((first | refine xw_reg ?_ | refine xw_regd ?_ | refine xw_if ?_ | refine xw_skip ?_ | refine xw_exit ?_ | refine xw_label ?_ | refine post_ret ?_ | refine post_normal ?_ | refine postE_ret ?_ | refine postE_normal ?_) <;> simp (config := { maxSteps := 3000000 }) (disch := first | assumption | omega | exact VG.okg (by assumption) | (simp only [List.length_set, List.length_append, List.length_cons, List.length_nil, List.length_replicate]; omega)) only [go_sem, ↓reduceIte, Int.reduceLE, Int.reduceLT, Int.reduceToNat, Int.reduceNeg, Int.reduceAdd, Int.reduceSub, Int.reduceMul, Int.reduceEq, Int.reduceNe, Nat.reduceEqDiff, Nat.reduceAdd, Nat.reduceSub, Nat.reduceMul, Nat.reduceLT, Nat.reduceLeDiff, Nat.reduceBEq, Nat.reduceBNe, Try.results42, m6, e3, e4, e5, hgl, hc0, hc1, hz, hrd])
      | (((first | refine at_region ?_ | refine at_out ?_ | refine at_cond ?_); split) <;> first | (exfalso; omega; done) | simp (config := { maxSteps := 3000000 }) (disch := first | assumption | omega | exact VG.okg (by assumption) | (simp only [List.length_set, List.length_append, List.length_cons, List.length_nil, List.length_replicate]; omega)) only [go_sem, ↓reduceIte, Int.reduceLE, Int.reduceLT, Int.reduceToNat, Int.reduceNeg, Int.reduceAdd, Int.reduceSub, Int.reduceMul, Int.reduceEq, Int.reduceNe, Nat.reduceEqDiff, Nat.reduceAdd, Nat.reduceSub, Nat.reduceMul, Nat.reduceLT, Nat.reduceLeDiff, Nat.reduceBEq, Nat.reduceBNe, Try.results42, m6, e3, e4, e5, hgl, hc0, hc1, hz, hrd] | skip))
    exact ⟨i + 1, hsi.symm, by rw [hsi]; simp, rfl, by omega, by omega, by omega⟩
  · rw [if_neg hrd, List.append_nil] at hsi
    repeat' (first
      | refine xw_seq ?_
      | refine xw_block ?_
      | (refine ite_two ?_ ?_ <;> intro _ <;> first | (exfalso; omega) | skip)
      | refine ord_split (by kernel_rfl) ?_
      | (refine xw_ret ?_ <;> try simp only [sq, bl, LQ])
      | ((first | refine xw_reg ?_ | refine xw_regd ?_ | refine xw_if ?_ | refine xw_skip ?_ | refine xw_exit ?_ | refine xw_label ?_ | refine post_ret ?_ | refine post_normal ?_ | refine postE_ret ?_ | refine postE_normal ?_) <;> simp (config := { maxSteps := 3000000 }) (disch := first | assumption | omega | exact VG.okg (by assumption) | (simp only [List.length_set, List.length_append, List.length_cons, List.length_nil, List.length_replicate]; omega)) only [go_sem, ↓reduceIte, Int.reduceLE, Int.reduceLT, Int.reduceToNat, Int.reduceNeg, Int.reduceAdd, Int.reduceSub, Int.reduceMul, Int.reduceEq, Int.reduceNe, Nat.reduceEqDiff, Nat.reduceAdd, Nat.reduceSub, Nat.reduceMul, Nat.reduceLT, Nat.reduceLeDiff, Nat.reduceBEq, Nat.reduceBNe, Try.results42, m6, e3, e4, e5, hgl, hc0, hc1, hz, hrd])
      | (((first | refine at_region ?_ | refine at_out ?_ | refine at_cond ?_); split) <;> first | (exfalso; omega; done) | simp (config := { maxSteps := 3000000 }) (disch := first | assumption | omega | exact VG.okg (by assumption) | (simp only [List.length_set, List.length_append, List.length_cons, List.length_nil, List.length_replicate]; omega)) only [go_sem, ↓reduceIte, Int.reduceLE, Int.reduceLT, Int.reduceToNat, Int.reduceNeg, Int.reduceAdd, Int.reduceSub, Int.reduceMul, Int.reduceEq, Int.reduceNe, Nat.reduceEqDiff, Nat.reduceAdd, Nat.reduceSub, Nat.reduceMul, Nat.reduceLT, Nat.reduceLeDiff, Nat.reduceBEq, Nat.reduceBNe, Try.results42, m6, e3, e4, e5, hgl, hc0, hc1, hz, hrd] | skip))
    exact ⟨i + 1, hsi.symm, by rw [hsi], rfl, by omega, by omega, by omega⟩

theorem c_DrawRoundChains (bs : List Int) (hb : ∀ b ∈ bs, 0 ≤ b ∧ b < 256) (hl : bs.length ≤ 1000000000) :
    ∃ (n : Int) (es : List (Int × Int)), 0 ≤ n ∧ n ≤ 17 ∧ es.length ≤ 40 ∧ KP 40 [LB bs] [] = some (GL n es, [], []) := by
  obtain ⟨n, es, h1, h2, h3, hd⟩ := c_DrawGraphValid bs hb hl
  refine ⟨n, es, h1, h2, h3, xw_call (fn := Try.f40) rfl Try.func40 rfl ⟨Nat.le_of_ble_eq_true rfl, rfl, rfl⟩ ?_⟩
  repeat' (first
    | refine xw_seq ?_
    | refine xw_block ?_
    | (refine ite_two ?_ ?_ <;> intro _ <;> first | (exfalso; omega) | skip)
    | refine ord_split (by kernel_rfl) ?_
    | (refine xw_ret ?_ <;> try simp only [sq, bl, LQ])
    | ((first | refine xw_reg ?_ | refine xw_regd ?_ | refine xw_if ?_ | refine xw_skip ?_ | refine xw_exit ?_ | refine xw_label ?_ | refine post_ret ?_ | refine post_normal ?_ | refine postE_ret ?_ | refine postE_normal ?_) <;> simp (config := { maxSteps := 3000000 }) (disch := first | assumption | omega | exact VG.okg (by assumption) | (simp only [List.length_set, List.length_append, List.length_cons, List.length_nil, List.length_replicate]; omega)) only [go_sem, ↓reduceIte, Int.reduceLE, Int.reduceLT, Int.reduceToNat, Int.reduceNeg, Int.reduceAdd, Int.reduceSub, Int.reduceMul, Int.reduceEq, Int.reduceNe, Nat.reduceEqDiff, Nat.reduceAdd, Nat.reduceSub, Nat.reduceMul, Nat.reduceLT, Nat.reduceLeDiff, Nat.reduceBEq, Nat.reduceBNe, Try.results40, hd])
    | (((first | refine at_region ?_ | refine at_out ?_ | refine at_cond ?_); split) <;> first | (exfalso; omega; done) | simp (config := { maxSteps := 3000000 }) (disch := first | assumption | omega | exact VG.okg (by assumption) | (simp only [List.length_set, List.length_append, List.length_cons, List.length_nil, List.length_replicate]; omega)) only [go_sem, ↓reduceIte, Int.reduceLE, Int.reduceLT, Int.reduceToNat, Int.reduceNeg, Int.reduceAdd, Int.reduceSub, Int.reduceMul, Int.reduceEq, Int.reduceNe, Nat.reduceEqDiff, Nat.reduceAdd, Nat.reduceSub, Nat.reduceMul, Nat.reduceLT, Nat.reduceLeDiff, Nat.reduceBEq, Nat.reduceBNe, Try.results40, hd] | skip))
end Go.Proofs.Ytbaholclcfpknaa.X


