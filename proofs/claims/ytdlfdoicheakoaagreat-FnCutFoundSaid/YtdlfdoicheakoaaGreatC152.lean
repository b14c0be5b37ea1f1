/- What functions compute: graphs with levels are drawn. -/
import Derived.Test.YtdlfdoicheakoaaGreatKAO
set_option linter.unusedSimpArgs false
set_option linter.unusedVariables false
set_option maxHeartbeats 16000000
set_option maxRecDepth 100000
namespace Go.Proofs.YtdlfdoicheakoaaGreat.X
open Go Go.Proofs
/-- A list that is a value in closed form. -/
structure FV (x : IV) (l : List (List IV)) : Prop where
  f : ∀ n, frz n (.i x) = .ret (.lst l)
  fl : x.flat = true
theorem FV.emp : FV .emp [] := ⟨fun n => by cases n <;> rfl, rfl⟩
theorem FV.lstE (l : List (Int × Int)) : FV (.lst (l.map encE)) (l.map encE) := ⟨fun n => by cases n <;> rfl, by simp [IV.flat]⟩
theorem FV.lstI (l : List Int) : FV (.lst (l.map encI)) (l.map encI) := ⟨fun n => by cases n <;> rfl, by simp [IV.flat]⟩
theorem FV.lstT (l : List Bool) : FV (.lst (l.map encT)) (l.map encT) := ⟨fun n => by cases n <;> rfl, by simp [IV.flat]⟩
/-- What is drawn. -/
def DrR (n : Int) (r : PV × List Arr × List Arr) : Prop := ∃ (es : List (Int × Int)) (lv : List Int) (tr : List Bool) (x y z : IV), VG n es ∧ tr.length = es.length ∧ (lv.length = es.length ∨ lv.length + 1 = es.length) ∧ (∀ v ∈ lv, -1 ≤ v ∧ v ≤ 5) ∧
  FV x (es.map encE) ∧ FV y (lv.map encI) ∧ FV z (tr.map encT) ∧ r.2.1 = [] ∧ imm 2 r.2.2 r.1 = some (.agg [I n, .i x, .i y, .i z])
theorem DrR.of {n : Int} {es : List (Int × Int)} {lv : List Int} {tr : List Bool} {N j : Nat} (hV : VG n es) (hN : es.length = N) (ht : tr.length = N) (hl : lv.length = N) (hj : j = N ∨ j + 1 = N) (hv : ∀ v ∈ lv, -1 ≤ v ∧ v ≤ 5) :
    DrR n (.agg [I n, .ref 2000 0 0 N, .ref 2001 0 0 j, .ref 2002 0 0 N], [], [.arr 0 2 (es.map encE), .arr 0 1 (lv.map encI), .arr 0 1 (tr.map encT)]) := by
  refine ⟨es, lv.take j, tr, _, _, _, hV, by omega, ?_, fun v h => hv v (List.mem_of_mem_take h), FV.lstE _, FV.lstI _, FV.lstT _, rfl, ?_⟩
  · rw [List.length_take]; omega
  · have h1 : (es.map encE).take N = es.map encE := List.take_of_length_le (by simp [hN])
    have h2 : (tr.map encT).take N = tr.map encT := List.take_of_length_le (by simp [ht])
    simp [imm, imm1, mapO, h1, h2]
theorem DrR.emp {n : Int} (h1 : 1 ≤ n) (h2 : n ≤ 16) : DrR n (.agg [I n, .i .emp, .i .emp, .i .emp], [], []) :=
  ⟨[], [], [], .emp, .emp, .emp, (LV.nil h1 h2).vg, rfl, .inl rfl, by simp, FV.emp, FV.emp, FV.emp, rfl, rfl⟩
theorem DrR.one {n : Int} (h1 : 1 ≤ n) (h2 : n ≤ 16) : DrR n (.agg [I n, .ref 2000 0 0 0, .i .emp, .i .emp], [], [.arr 0 2 []]) :=
  ⟨[], [], [], .lst [], .emp, .emp, (LV.nil h1 h2).vg, rfl, .inl rfl, by simp, FV.lstE [], FV.emp, FV.emp, rfl, rfl⟩
theorem lv_in {n : Int} {ts : List Tl} (h : LV n ts) : ∀ v ∈ lvT ts, -1 ≤ v ∧ v ≤ 5 := fun v hv => by
  obtain ⟨t, ht, rfl⟩ := List.mem_map.1 hv
  have := h.lv t ht
  omega
theorem set_in {l : List Int} {k : Nat} {x : Int} (h : ∀ v ∈ l, -1 ≤ v ∧ v ≤ 5) (hx : -1 ≤ x ∧ x ≤ 5) : ∀ v ∈ l.set k x, -1 ≤ v ∧ v ≤ 5 := fun v hv => by
  rcases List.mem_or_eq_of_mem_set hv with h1 | h1
  · exact h v h1
  · rw [h1]; exact hx
/-- What follows the first loop. -/
def tailOf : Code → Option Code
  | .seq a b => match loopOf a with
    | some _ => (match tailOf a with
      | some x => some (.seq x b)
      | none => some b)
    | none => tailOf b
  | _ => none
theorem dr_exit0 {σ : Type} {R : σ → St → Prop} {μ : σ → Nat} {k0 : Nat} {n : Int} {cs : List Int} {p i : Int} (hn1 : 1 ≤ n) (hn2 : n ≤ 16) (st : St) (hB : DrB cs p i st) (hA : Dr0 n st) (b tl : Code) (hb : (Tryz.f10.body).bind loopOf = some b) (ht : (Tryz.f10.body).bind tailOf = some tl) :
    XW Tryz.prog cfg 10 b st (LQ R μ k0 (bl 0 (sq Tryz.prog cfg 10 tl (PostE Tryz.prog Tryz.f10 0 (DrR n))))) := by
  obtain ⟨ρ, m⟩ := st
  obtain ⟨e2, m2, e3, mR, e4, e5⟩ := hB
  simp only [Dr0] at e2 m2 e3 mR e4 e5 hA
  simp only [Tryz.f10, Option.bind_some, loopOf, Option.some.injEq] at hb
  simp only [Tryz.f10, Option.bind_some, tailOf, loopOf, Option.some.injEq] at ht
  subst hb
  subst ht
  have Fz:=fz8 Tryz.results10 e2 m2 e3 mR e4 e5 hA
  repeat'(first|exact trivial|refine go1 ?_|(refine go2 ?_ ?_<;>intro _<;>try(exfalso;omega))|(refine go4 ?_;split<;>((try(exfalso;omega));try refine go3 ?_)))
  all_goals exact DrR.emp hn1 hn2
theorem dr_exit1 {σ : Type} {R : σ → St → Prop} {μ : σ → Nat} {k0 : Nat} {n : Int} {cs : List Int} {p i : Int} {v0 : Nat} (hn1 : 1 ≤ n) (hn2 : n ≤ 16) (st : St) (hB : DrB cs p i st) (hA : Dr1 n v0 st) (b tl : Code) (hb : (Tryz.f10.body).bind loopOf = some b) (ht : (Tryz.f10.body).bind tailOf = some tl) :
    XW Tryz.prog cfg 10 b st (LQ R μ k0 (bl 0 (sq Tryz.prog cfg 10 tl (PostE Tryz.prog Tryz.f10 0 (DrR n))))) := by
  obtain ⟨ρ, m⟩ := st
  obtain ⟨e2, m2, e3, mR, e4, e5⟩ := hB
  obtain ⟨m4, q0⟩ := hA
  simp only at e2 m2 e3 mR e4 e5 m4 q0
  simp only [Tryz.f10, Option.bind_some, loopOf, Option.some.injEq] at hb
  simp only [Tryz.f10, Option.bind_some, tailOf, loopOf, Option.some.injEq] at ht
  subst hb
  subst ht
  have Fz:=fz9 Tryz.results10 e2 m2 e3 mR e4 e5 m4 q0
  repeat'(first|exact trivial|refine go1 ?_|(refine go2 ?_ ?_<;>intro _<;>try(exfalso;omega))|(refine go4 ?_;split<;>((try(exfalso;omega));try refine go3 ?_)))
  all_goals exact DrR.one hn1 hn2
end Go.Proofs.YtdlfdoicheakoaaGreat.X
