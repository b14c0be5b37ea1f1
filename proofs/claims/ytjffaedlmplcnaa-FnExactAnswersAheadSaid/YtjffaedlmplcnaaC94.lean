/- Lives of edges, spans of time: plain law. -/
import Derived.Test.YtjffaedlmplcnaaC86
set_option linter.unusedSimpArgs false
set_option linter.unusedVariables false
set_option maxHeartbeats 4000000
namespace Go.Proofs.Ytjffaedlmplcnaa.X
open Go Go.Proofs
def eF (ops : List Op3) (k : Nat) (e : Int × Int) : Nat := k + (ops.drop k).findIdx fun o => decide (o = (2, e))
theorem eF_endE (ops : List Op3) (i : Nat) (e : Int × Int) : endE ops i e = eF ops (i + 1) e := rfl
theorem eF_end {ops : List Op3} {k : Nat} {e : Int × Int} (h : ops.length ≤ k) : eF ops k e = k := by
  unfold eF; rw [List.drop_eq_nil_of_le h]; rfl
theorem eF_hit {ops : List Op3} {k : Nat} {e : Int × Int} (h : k < ops.length) (he : ops.getD k (0, 0, 0) = (2, e)) : eF ops k e = k := by
  have hg : ops[k] = (2, e) := by rw [← he]; simp [h]
  unfold eF
  rw [List.drop_eq_getElem_cons h, List.findIdx_cons, hg]
  simp
theorem eF_miss {ops : List Op3} {k : Nat} {e : Int × Int} (h : k < ops.length) (he : ops.getD k (0, 0, 0) ≠ (2, e)) : eF ops k e = eF ops (k + 1) e := by
  have hg : ops[k] ≠ (2, e) := by
    intro q; apply he; rw [← q]; simp [h]
  unfold eF
  rw [List.drop_eq_getElem_cons h, List.findIdx_cons]
  simp only [decide_eq_false hg, cond_false]
  omega
/-- The lives that start in front of a place. -/
def livesP (ops : List Op3) (t : Nat) : List Lf := (List.range t).flatMap fun (i : Nat) => match ops[i]? with | some (k, e) => if k = 1 then [(e, (i : Int), (endE ops i e : Int))] else [] | none => []
theorem livesP_all (ops : List Op3) : livesP ops ops.length = livesS ops := rfl
theorem livesP_snoc {ops : List Op3} {t : Nat} (h : t < ops.length) : livesP ops (t + 1) = livesP ops t ++ if (ops.getD t (0, 0, 0)).1 = 1 then [((ops.getD t (0, 0, 0)).2, (t : Int), (endE ops t (ops.getD t (0, 0, 0)).2 : Int))] else [] := by
  unfold livesP
  rw [List.range_succ, List.flatMap_append]
  congr 1
  simp [h]
theorem livesP_len (ops : List Op3) : ∀ t, (livesP ops t).length ≤ t
  | 0 => by simp [livesP]
  | t + 1 => by
    have := livesP_len ops t
    unfold livesP at *
    rw [List.range_succ, List.flatMap_append, List.length_append]
    simp only [List.flatMap_cons, List.flatMap_nil, List.append_nil]
    split
    · split
      · rw [List.length_singleton]; omega
      · rw [List.length_nil]; omega
    · rw [List.length_nil]; omega
theorem livesS_len (ops : List Op3) : (livesS ops).length ≤ ops.length := livesP_len ops ops.length
def encF (l : Lf) : List IV := [.v (.int .i64 l.1.1), .v (.int .i64 l.1.2), .v (.int .i64 l.2.1), .v (.int .i64 l.2.2)]
abbrev LF (l : List Lf) : PV := .i (.lst (l.map encF))
def dF : Lf := ((0, 0), 0, 0)
theorem getF (ls : List Lf) (i : Nat) (h : i < ls.length) : (ls.map encF)[i]? = some [.v (.int .i64 (ls.getD i dF).1.1), .v (.int .i64 (ls.getD i dF).1.2), .v (.int .i64 (ls.getD i dF).2.1), .v (.int .i64 (ls.getD i dF).2.2)] := by
  simp [encF, h]
theorem appF (ls : List Lf) (a b c d : Int) : ls.map encF ++ [[.v (.int .i64 a), .v (.int .i64 b), .v (.int .i64 c), .v (.int .i64 d)]] = (ls ++ [((a, b), c, d)]).map encF := by simp [encF]
theorem takeF {ls : List Lf} {n : Nat} : (ls.map encF).take n = (ls.take n).map encF := by simp
theorem dropF {ls : List Lf} {n : Nat} : (ls.map encF).drop n = (ls.drop n).map encF := by simp
theorem lenF_all {ls : List Lf} : (ls.map encF).all (fun e => e.length == 4) = true := by simp [encF]
theorem flatF_all {ls : List Lf} : (ls.map encF).all (fun e => e.all flatIV) = true := by simp [encF, flatIV]
theorem mapAppF {xs ys : List Lf} : xs.map encF ++ ys.map encF = (xs ++ ys).map encF := by simp
attribute [go_sem] getF appF takeF dropF lenF_all flatF_all mapAppF
def spanL : Nat → Int → Int → Int → Int → List Lf
  | 0, _, _, _, _ => []
  | f + 1, lo, hi, fr, to => if fr ≤ lo ∧ hi ≤ to then [((0, 0), lo, hi)] else if hi ≤ fr ∨ to ≤ lo then [] else spanL f lo ((lo + hi) / 2) fr to ++ spanL f ((lo + hi) / 2) hi fr to
theorem spanL_len : ∀ (f : Nat) (lo hi fr to : Int), ((spanL f lo hi fr to).length : Int) = spanN f lo hi fr to
  | 0, _, _, _, _ => rfl
  | f + 1, lo, hi, fr, to => by
    unfold spanL spanN
    split
    · rfl
    · split
      · rfl
      · rw [List.length_append, ← spanL_len f, ← spanL_len f]; omega
theorem spanL_bd {f : Nat} {lo hi fr to : Int} (h : lo < hi) (hf : (hi - lo).toNat ≤ f) : ((spanL f lo hi fr to).length : Int) ≤ hi - lo := by
  rw [spanL_len]; exact (spanN_bd h hf).2
theorem workS_cons (l : Lf) (lvs : List Lf) (lo hi : Int) : workS (l :: lvs) lo hi = spanN (hi - lo).toNat lo hi l.2.1 l.2.2 + workS lvs lo hi := by
  unfold workS; rw [List.map_cons, List.sum_cons]
theorem workS_app (a b : List Lf) (lo hi : Int) : workS (a ++ b) lo hi = workS a lo hi + workS b lo hi := by
  unfold workS; rw [List.map_append, List.sum_append]
theorem workS_part : ∀ {lvs : List Lf} {lo hi : Int}, lo + 1 < hi → (∀ l ∈ lvs, l.2.1 < l.2.2) → workS lvs lo hi = ((lvs.filter (covS lo hi)).length : Int) + (workS (lvs.filter (leftS lo hi)) lo ((lo + hi) / 2) + workS (lvs.filter (leftS lo hi)) ((lo + hi) / 2) hi)
  | [], _, _, _, _ => rfl
  | l :: lvs, lo, hi, h, hl => by
    have ih := workS_part (lvs := lvs) h fun x hx => hl x (List.mem_cons_of_mem _ hx)
    have h0 := hl l (by simp)
    obtain ⟨e, fr, to⟩ := l
    simp only at h0
    rw [workS_cons, ih]
    have hk : (hi - lo).toNat = ((hi - lo).toNat - 1) + 1 := by omega
    by_cases c : fr ≤ lo ∧ hi ≤ to
    · have h1 : covS lo hi (e, fr, to) = true := by simp [covS, c]
      have h2 : leftS lo hi (e, fr, to) = false := by simp [leftS, h1]
      rw [List.filter_cons_of_pos h1, List.filter_cons_of_neg (by simp [h2]), hk]
      simp only [spanN, if_pos c, List.length_cons]
      omega
    · have h1 : covS lo hi (e, fr, to) = false := by simpa [covS] using c
      rw [List.filter_cons_of_neg (by simp [h1])]
      by_cases d : hi ≤ fr ∨ to ≤ lo
      · have h2 : leftS lo hi (e, fr, to) = false := by
          simp only [leftS, h1, Bool.not_false, Bool.true_and, decide_eq_false_iff_not]; omega
        rw [List.filter_cons_of_neg (by simp [h2]), hk]
        simp only [spanN, if_neg c, if_pos d]
        omega
      · have h2 : leftS lo hi (e, fr, to) = true := by
          simp only [leftS, h1, Bool.not_false, Bool.true_and, decide_eq_true_eq]; omega
        rw [List.filter_cons_of_pos h2, workS_cons, workS_cons, hk]
        simp only [spanN, if_neg c, if_neg d]
        rw [spanN_fuel (f := (hi - lo).toNat - 1) (g := ((lo + hi) / 2 - lo).toNat) (lo := lo) (hi := (lo + hi) / 2) (by omega) h0 (by omega) (by omega), spanN_fuel (f := (hi - lo).toNat - 1) (g := (hi - (lo + hi) / 2).toNat) (lo := (lo + hi) / 2) (hi := hi) (by omega) h0 (by omega) (by omega)]
        omega
theorem workS_one : ∀ {lvs : List Lf} {lo hi : Int}, hi = lo + 1 → workS lvs lo hi = ((lvs.filter (covS lo hi)).length : Int)
  | [], _, _, _ => rfl
  | l :: lvs, lo, hi, h => by
    have ih := workS_one (lvs := lvs) h
    obtain ⟨e, fr, to⟩ := l
    rw [workS_cons, ih]
    have hk : (hi - lo).toNat = 0 + 1 := by omega
    rw [hk]
    by_cases c : fr ≤ lo ∧ hi ≤ to
    · have h1 : covS lo hi (e, fr, to) = true := by simp [covS, c]
      rw [List.filter_cons_of_pos h1]
      simp only [spanN, if_pos c, List.length_cons]
      omega
    · have h1 : covS lo hi (e, fr, to) = false := by simpa [covS] using c
      rw [List.filter_cons_of_neg (by simp [h1])]
      simp only [spanN, if_neg c, if_pos (show hi ≤ fr ∨ to ≤ lo by omega)]
      omega
theorem cov_left (lo hi : Int) : ∀ lvs : List Lf, (lvs.filter (covS lo hi)).length + (lvs.filter (leftS lo hi)).length ≤ lvs.length
  | [] => by simp
  | l :: lvs => by
    have ih := cov_left lo hi lvs
    by_cases h1 : covS lo hi l = true
    · have h2 : leftS lo hi l = false := by simp [leftS, h1]
      rw [List.filter_cons_of_pos h1, List.filter_cons_of_neg (by simp [h2])]
      simp only [List.length_cons]; omega
    · rw [List.filter_cons_of_neg h1]
      have := List.length_filter_le (leftS lo hi) (l :: lvs)
      by_cases h2 : leftS lo hi l = true
      · rw [List.filter_cons_of_pos h2]; simp only [List.length_cons]; omega
      · rw [List.filter_cons_of_neg h2]; simp only [List.length_cons]; omega
theorem workS_bd : ∀ {lvs : List Lf} {lo hi : Int}, lo < hi → 0 ≤ workS lvs lo hi ∧ workS lvs lo hi ≤ lvs.length * (hi - lo)
  | [], _, _, _ => by simp [workS_nil]
  | l :: lvs, lo, hi, h => by
    have ih := workS_bd (lvs := lvs) h
    have := spanN_bd (fr := l.2.1) (to := l.2.2) h (Nat.le_refl _)
    rw [workS_cons, List.length_cons]
    have e : ((lvs.length + 1 : Nat) : Int) * (hi - lo) = lvs.length * (hi - lo) + (hi - lo) := by
      rw [Int.natCast_add, Int.add_mul]; omega
    rw [e]; omega
theorem lives_ok {n : Int} {ops : List Op3} (h1 : 1 ≤ n) (h2 : n ≤ 16) (h : (runS n ops).isSome) {l : Lf} (hl : l ∈ livesS ops) : inN n l.1.1 ∧ inN n l.1.2 ∧ l.2.1 < l.2.2 := by
  have hb := lives_bd hl
  obtain ⟨⟨a, b⟩, f, g⟩ := l
  obtain ⟨i, hi, rfl, rfl⟩ := mem_livesS.1 hl
  obtain ⟨hlt, hg⟩ := List.getElem?_eq_some_iff.1 hi
  obtain ⟨es, he⟩ := Option.isSome_iff_exists.1 (runS_pre h (i + 1))
  rw [List.take_add_one, hi] at he
  simp only [Option.toList] at he
  rw [runS_snoc] at he
  cases hr : runS n (ops.take i) with
  | none => rw [hr] at he; cases he
  | some fs =>
    rw [hr, Option.bind_some] at he
    unfold opS at he
    simp only [if_true] at he
    split at he
    · rename_i hP
      have hok := hP.2.2.2.2.2.1 (a, b) ((mem_putE).2 (.inl rfl))
      simp only at hb
      obtain ⟨k0, k1, k2⟩ := (show 0 ≤ a ∧ a < b ∧ b < n from hok)
      have q1 : a < n := by omega
      have q2 : 0 ≤ b := by omega
      exact ⟨⟨k0, q1⟩, ⟨q2, k2⟩, hb.2.1⟩
    · cases he
/-- The answers by spans are those of the operations. -/
theorem ansS_anR {n : Int} {ops : List Op3} (h : (runS n ops).isSome) : ansS ops (livesS ops) [] 0 ops.length = anR n ops ops.length := by
  unfold ansS anR
  refine flatMap_eq fun i hi => ?_
  have hlt : i < ops.length := List.mem_range.1 hi
  have hz : (0 : Int).toNat + i = i := by simp
  rw [hz, List.getElem?_eq_getElem hlt]
  have hd : ops.getD i (0, 0, 0) = ops[i] := by simp [hlt]
  have hot : ops[i]? = some ops[i] := List.getElem?_eq_getElem hlt
  rw [hd]
  generalize ops[i] = o at *
  obtain ⟨kd, a, b⟩ := o
  simp only
  by_cases k3 : kd = 3
  · subst k3
    rw [if_pos rfl, if_pos rfl]
    obtain ⟨es, he⟩ := Option.isSome_iff_exists.1 (runS_pre h i)
    have hst : stL n ops i = es := by unfold stL; rw [he]; rfl
    rw [hst, List.nil_append]
    congr 1
    refine decide_eq_decide.2 (conn_congr fun e => ?_)
    rw [← alive_run h hot he e]
    simp
  · rw [if_neg k3, if_neg k3]
theorem ask_ok {n : Int} {ops : List Op3} (h : (runS n ops).isSome) {i : Nat} {a b : Int} (hi : ops[i]? = some (3, a, b)) : inN n a ∧ inN n b := by
  obtain ⟨es, he⟩ := Option.isSome_iff_exists.1 (runS_pre h (i + 1))
  rw [List.take_add_one, hi] at he
  simp only [Option.toList] at he
  rw [runS_snoc] at he
  cases hr : runS n (ops.take i) with
  | none => rw [hr] at he; cases he
  | some fs =>
    rw [hr, Option.bind_some] at he
    unfold opS at he
    simp only [show ¬ (3 : Int) = 1 by omega, show ¬ (3 : Int) = 2 by omega, if_false, if_true] at he
    split at he
    · rename_i hP
      exact ⟨⟨by omega, by omega⟩, ⟨by omega, by omega⟩⟩
    · cases he
end Go.Proofs.Ytjffaedlmplcnaa.X
