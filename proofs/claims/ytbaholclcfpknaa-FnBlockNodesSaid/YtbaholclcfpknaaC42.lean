/- What functions compute: draws of two edges. -/
import Derived.Test.YtbaholclcfpknaaC34
set_option linter.unusedSimpArgs false
set_option linter.unusedVariables false
set_option maxHeartbeats 8000000
namespace Go.Proofs.Ytbaholclcfpknaa.X
open Go Go.Proofs

/-- What is handed back, once the results are read. -/
def outRest (np : Nat) (rs : List PV) : Mm (PV × List Arr × List Arr) :=
  let r : PV := tupR rs
  (Mm.mapL (fun j => .get (1000 + j) fun | some A => .ret A | none => .fail) (List.range np)).bind fun ps =>
  (coll 16 ownSite (r :: ps.flatMap fun | .box _ cs => cs | _ => []) []).bind fun L =>
  (ren (lookBack np L) 3 r).bind fun r' =>
  (Mm.mapL (fun A => renArr (lookBack np L) A.ver A) ps).bind fun ps' =>
  (Mm.mapL (fun s => .get s fun | some A => renArr (lookBack np L) 0 A | none => .fail) L).bind fun own =>
  Mm.chk (decide L.Nodup && L.all ownSite) (.ret (r', ps', own))
theorem run_bind_of {α β : Type} {x : Mm α} {f : α → Mm β} {m : Mem} {a : α} {b : β} (h1 : ∃ r d, x.run m = some (r, d) ∧ r = a) (h2 : ∃ r d, (f a).run m = some (r, d) ∧ r = b) : ∃ r d, (x.bind f).run m = some (r, d) ∧ r = b := by
  obtain ⟨_, d, h1, rfl⟩ := h1
  obtain ⟨_, e, h2, rfl⟩ := h2
  exact ⟨_, d ++ e, by rw [Mm.run_bind, h1]; simp only [h2], rfl⟩
theorem post_ret3 {P : Program} {fn : Func} {np : Nat} {res : PV × List Arr × List Arr} {s : St} {a1 a2 a3 : ResultVar} (v1 v2 v3 : PV) (hr : fn.results.toList = [a1, a2, a3])
    (h1 : ∃ r d, (resP P s a1).run s.m = some (r, d) ∧ r = v1) (h2 : ∃ r d, (resP P s a2).run s.m = some (r, d) ∧ r = v2) (h3 : ∃ r d, (resP P s a3).run s.m = some (r, d) ∧ r = v3)
    (h : ∃ r rd, (outRest np [v1, v2, v3]).run s.m = some (r, rd) ∧ r = res) : Post P fn np res .ret s := by
  refine post_ret ?_
  have e : outP P fn np s = (Mm.mapL (resP P s) [a1, a2, a3]).bind (outRest np) := by rw [← hr]; rfl
  rw [e]
  refine run_bind_of ?_ h
  exact run_bind_of h1 (run_bind_of (run_bind_of h2 (run_bind_of (run_bind_of h3 (run_bind_of ⟨_, _, rfl, rfl⟩ ⟨_, _, rfl, rfl⟩)) ⟨_, _, rfl, rfl⟩)) ⟨_, _, rfl, rfl⟩)

theorem dsb_nil {bs cs : List Int} {n p : Int} {es : List (Int × Int)} (hopen : KP 94 [LB bs] [] = some (.ptr 2000 0 0 0, [], [Rd cs 0])) (n0 : 0 ≤ n) (n1 : n ≤ 17) (hel : es.length ≤ 40) (p0 : 0 ≤ p) (p1 : p ≤ 0 + 100) (hsm : KP 93 [.ptr 1000 0 0 0] [Rd cs 0] = some (GL n es, [Rd cs p], [])) (hz : es.length = 0) : KP 82 [LB bs] [] = some (.tup [GL n es, PE 0 1, PE 0 1], [], []) := by
  have hz' : (es.length : Int) = 0 := by omega
  refine xw_call (fn := Try.f82) rfl Try.func82 rfl ⟨Nat.le_of_ble_eq_true rfl, rfl, rfl⟩ ?_
  repeat' (first
    | refine xw_seq ?_
    | refine xw_block ?_
    | (refine ite_two ?_ ?_ <;> intro _ <;> first | (exfalso; omega) | skip)
    | refine ord_split (by kernel_rfl) ?_
    | (refine xw_ret ?_ <;> try simp only [sq, bl, LQ])
    | ((first | refine xw_reg ?_ | refine xw_regd ?_ | refine xw_if ?_ | refine xw_skip ?_ | refine xw_exit ?_ | refine xw_label ?_) <;> simp (config := { maxSteps := 3000000 }) (disch := first | assumption | omega | exact VG.okg (by assumption) | (simp only [List.length_set, List.length_append, List.length_cons, List.length_nil, List.length_replicate]; omega)) only [go_sem, ↓reduceIte, Int.reduceLE, Int.reduceLT, Int.reduceToNat, Int.reduceNeg, Int.reduceAdd, Int.reduceSub, Int.reduceMul, Int.reduceEq, Int.reduceNe, Nat.reduceEqDiff, Nat.reduceAdd, Nat.reduceSub, Nat.reduceMul, Nat.reduceLT, Nat.reduceLeDiff, Nat.reduceBEq, Nat.reduceBNe, Try.results82, hopen, hsm, hz'])
    | (((first | refine at_region ?_ | refine at_out ?_ | refine at_cond ?_); split) <;> first | (exfalso; omega; done) | simp (config := { maxSteps := 3000000 }) (disch := first | assumption | omega | exact VG.okg (by assumption) | (simp only [List.length_set, List.length_append, List.length_cons, List.length_nil, List.length_replicate]; omega)) only [go_sem, ↓reduceIte, Int.reduceLE, Int.reduceLT, Int.reduceToNat, Int.reduceNeg, Int.reduceAdd, Int.reduceSub, Int.reduceMul, Int.reduceEq, Int.reduceNe, Nat.reduceEqDiff, Nat.reduceAdd, Nat.reduceSub, Nat.reduceMul, Nat.reduceLT, Nat.reduceLeDiff, Nat.reduceBEq, Nat.reduceBNe, Try.results82, hopen, hsm, hz'] | skip))
  all_goals
    refine post_ret3 (GL n es) (PE 0 1) (PE 0 1) rfl ?_ ?_ ?_ ?_
    all_goals simp only [go_sem, ↓reduceIte, Int.reduceLE, Int.reduceLT, Int.reduceToNat, Int.reduceNeg, Int.reduceAdd, Int.reduceSub, Int.reduceMul, Int.reduceEq, Int.reduceNe, Nat.reduceEqDiff, Nat.reduceAdd, Nat.reduceSub, Nat.reduceMul, Nat.reduceLT, Nat.reduceLeDiff, Nat.reduceBEq, Nat.reduceBNe, resP, outRest, tupR, lookBack]

end Go.Proofs.Ytbaholclcfpknaa.X

