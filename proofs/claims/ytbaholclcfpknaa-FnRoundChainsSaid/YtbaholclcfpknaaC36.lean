/- The step of the search in depth that goes on. -/
import Derived.Test.YtbaholclcfpknaaC32
set_option linter.unusedSimpArgs false
set_option linter.unusedVariables false
set_option maxHeartbeats 8000000
namespace Go.Proofs.Ytbaholclcfpknaa.X
open Go Go.Proofs

theorem l4_rec1 (n : Int) (es : List (Int × Int)) (v p j u : Int) (s : Sr × Int) (hn : 0 ≤ n ∧ n ≤ 17) (hj : 0 ≤ j ∧ j < (nbS v es).length) (hjl : (nbS v es).length ≤ 40) (sln : s.1.num.length = n.toNat) (slp : s.1.par.length = n.toNat) (sll : s.1.low.length = n.toNat) (hvr : 0 ≤ v ∧ v < n) (hur : 0 ≤ u ∧ u < n) (hue : (nbS v es).getD j.toNat 0 = u) (hup : u ≠ p) (h1 : s.1.num.getD u.toNat 0 = 0) (r : Sr × Int) (rln : r.1.num.length = n.toNat) (rlp : r.1.par.length = n.toNat) (rll : r.1.low.length = n.toNat) (hrec : KP 207 [GL n es, I u, I v, .agg [.ref 1000 0 0 n.toNat, .ref 1001 0 0 n.toNat, .ref 1002 0 0 n.toNat], I s.2] [arrS s.1.num, arrS s.1.par, arrS s.1.low] =
      some (.tup [.agg [.ref 1000 0 0 n.toNat, .ref 1001 0 0 n.toNat, .ref 1002 0 0 n.toNat], I r.2], [arrS r.1.num, arrS r.1.par, arrS r.1.low], [])) (hlt : r.1.low.getD u.toNat 0 < r.1.low.getD v.toNat 0) (st : St) (hst : L4F n es v p j s st) (b : Code) (hb : (Try.f207.body).bind loopOf = some b) :
    XW Try.prog cfg 207 b st (LQ (fun (_ : Unit) t => L4F n es v p (j + 1) (⟨r.1.num, r.1.par, r.1.low.set v.toNat (r.1.low.getD u.toNat 0)⟩, r.2) t) (fun _ => 0) 1 (fun _ _ => False)) := by
  obtain ⟨ρ, m⟩ := st
  obtain ⟨m1, m2, m3, h8, m8, h5, m5, h10, m10, h1', h2, h4, h12, h13⟩ := hst
  simp only at m1 m2 m3 h8 m8 h5 m5 h10 m10 h1' h2 h4 h12 h13
  simp only [Try.f207, Option.bind_some, loopOf, Option.some.injEq] at hb
  subst hb
  repeat' (first
    | refine xw_seq ?_
    | refine xw_block ?_
    | (refine ite_two ?_ ?_ <;> intro _ <;> first | (exfalso; omega) | skip)
    | refine ord_split (by kernel_rfl) ?_
    | (refine xw_ret ?_ <;> try simp only [sq, bl, LQ])
    | ((first | refine xw_reg ?_ | refine xw_regd ?_ | refine xw_if ?_ | refine xw_skip ?_ | refine xw_exit ?_ | refine xw_label ?_ | refine post_ret ?_ | refine post_normal ?_ | refine postE_ret ?_ | refine postE_normal ?_) <;> simp (config := { maxSteps := 3000000 }) (disch := first | assumption | omega | exact VG.okg (by assumption) | (simp only [List.length_set, List.length_append, List.length_cons, List.length_nil, List.length_replicate]; omega)) only [go_sem, ↓reduceIte, Int.reduceLE, Int.reduceLT, Int.reduceToNat, Int.reduceNeg, Int.reduceAdd, Int.reduceSub, Int.reduceMul, Int.reduceEq, Int.reduceNe, Nat.reduceEqDiff, Nat.reduceAdd, Nat.reduceSub, Nat.reduceMul, Nat.reduceLT, Nat.reduceLeDiff, Nat.reduceBEq, Nat.reduceBNe, Try.results207, m1, m2, m3, h8, m8, h5, m5, h10, m10, h1', h2, h4, h12, h13, hue, L4F, hrec, h1])
    | (((first | refine at_region ?_ | refine at_out ?_ | refine at_cond ?_); split) <;> first | (exfalso; omega; done) | simp (config := { maxSteps := 3000000 }) (disch := first | assumption | omega | exact VG.okg (by assumption) | (simp only [List.length_set, List.length_append, List.length_cons, List.length_nil, List.length_replicate]; omega)) only [go_sem, ↓reduceIte, Int.reduceLE, Int.reduceLT, Int.reduceToNat, Int.reduceNeg, Int.reduceAdd, Int.reduceSub, Int.reduceMul, Int.reduceEq, Int.reduceNe, Nat.reduceEqDiff, Nat.reduceAdd, Nat.reduceSub, Nat.reduceMul, Nat.reduceLT, Nat.reduceLeDiff, Nat.reduceBEq, Nat.reduceBNe, Try.results207, m1, m2, m3, h8, m8, h5, m5, h10, m10, h1', h2, h4, h12, h13, hue, L4F, hrec, h1] | skip))
  exact ⟨(), trivial⟩

theorem l4_rec2 (n : Int) (es : List (Int × Int)) (v p j u : Int) (s : Sr × Int) (hn : 0 ≤ n ∧ n ≤ 17) (hj : 0 ≤ j ∧ j < (nbS v es).length) (hjl : (nbS v es).length ≤ 40) (sln : s.1.num.length = n.toNat) (slp : s.1.par.length = n.toNat) (sll : s.1.low.length = n.toNat) (hvr : 0 ≤ v ∧ v < n) (hur : 0 ≤ u ∧ u < n) (hue : (nbS v es).getD j.toNat 0 = u) (hup : u ≠ p) (h1 : s.1.num.getD u.toNat 0 = 0) (r : Sr × Int) (rln : r.1.num.length = n.toNat) (rlp : r.1.par.length = n.toNat) (rll : r.1.low.length = n.toNat) (hrec : KP 207 [GL n es, I u, I v, .agg [.ref 1000 0 0 n.toNat, .ref 1001 0 0 n.toNat, .ref 1002 0 0 n.toNat], I s.2] [arrS s.1.num, arrS s.1.par, arrS s.1.low] =
      some (.tup [.agg [.ref 1000 0 0 n.toNat, .ref 1001 0 0 n.toNat, .ref 1002 0 0 n.toNat], I r.2], [arrS r.1.num, arrS r.1.par, arrS r.1.low], [])) (hlt : ¬ r.1.low.getD u.toNat 0 < r.1.low.getD v.toNat 0) (st : St) (hst : L4F n es v p j s st) (b : Code) (hb : (Try.f207.body).bind loopOf = some b) :
    XW Try.prog cfg 207 b st (LQ (fun (_ : Unit) t => L4F n es v p (j + 1) r t) (fun _ => 0) 1 (fun _ _ => False)) := by
  obtain ⟨ρ, m⟩ := st
  obtain ⟨m1, m2, m3, h8, m8, h5, m5, h10, m10, h1', h2, h4, h12, h13⟩ := hst
  simp only at m1 m2 m3 h8 m8 h5 m5 h10 m10 h1' h2 h4 h12 h13
  simp only [Try.f207, Option.bind_some, loopOf, Option.some.injEq] at hb
  subst hb
  repeat' (first
    | refine xw_seq ?_
    | refine xw_block ?_
    | (refine ite_two ?_ ?_ <;> intro _ <;> first | (exfalso; omega) | skip)
    | refine ord_split (by kernel_rfl) ?_
    | (refine xw_ret ?_ <;> try simp only [sq, bl, LQ])
    | ((first | refine xw_reg ?_ | refine xw_regd ?_ | refine xw_if ?_ | refine xw_skip ?_ | refine xw_exit ?_ | refine xw_label ?_ | refine post_ret ?_ | refine post_normal ?_ | refine postE_ret ?_ | refine postE_normal ?_) <;> simp (config := { maxSteps := 3000000 }) (disch := first | assumption | omega | exact VG.okg (by assumption) | (simp only [List.length_set, List.length_append, List.length_cons, List.length_nil, List.length_replicate]; omega)) only [go_sem, ↓reduceIte, Int.reduceLE, Int.reduceLT, Int.reduceToNat, Int.reduceNeg, Int.reduceAdd, Int.reduceSub, Int.reduceMul, Int.reduceEq, Int.reduceNe, Nat.reduceEqDiff, Nat.reduceAdd, Nat.reduceSub, Nat.reduceMul, Nat.reduceLT, Nat.reduceLeDiff, Nat.reduceBEq, Nat.reduceBNe, Try.results207, m1, m2, m3, h8, m8, h5, m5, h10, m10, h1', h2, h4, h12, h13, hue, L4F, hrec, h1])
    | (((first | refine at_region ?_ | refine at_out ?_ | refine at_cond ?_); split) <;> first | (exfalso; omega; done) | simp (config := { maxSteps := 3000000 }) (disch := first | assumption | omega | exact VG.okg (by assumption) | (simp only [List.length_set, List.length_append, List.length_cons, List.length_nil, List.length_replicate]; omega)) only [go_sem, ↓reduceIte, Int.reduceLE, Int.reduceLT, Int.reduceToNat, Int.reduceNeg, Int.reduceAdd, Int.reduceSub, Int.reduceMul, Int.reduceEq, Int.reduceNe, Nat.reduceEqDiff, Nat.reduceAdd, Nat.reduceSub, Nat.reduceMul, Nat.reduceLT, Nat.reduceLeDiff, Nat.reduceBEq, Nat.reduceBNe, Try.results207, m1, m2, m3, h8, m8, h5, m5, h10, m10, h1', h2, h4, h12, h13, hue, L4F, hrec, h1] | skip))
  exact ⟨(), trivial⟩

end Go.Proofs.Ytbaholclcfpknaa.X


