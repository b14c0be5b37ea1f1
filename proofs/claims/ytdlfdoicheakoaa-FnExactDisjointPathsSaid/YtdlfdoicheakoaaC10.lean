/- What functions compute: closures, deleting, neighbors. -/
import Derived.Test.YtdlfdoicheakoaaC9
import Derived.Test.YtdlfdoicheakoaaRun
set_option linter.unusedSimpArgs false
set_option linter.unusedVariables false
set_option maxHeartbeats 2000000
namespace Go.Proofs.Ytdlfdoicheakoaa.X
open Go Go.Proofs
/-- A function value that tells something of an edge. -/
structure Clo (c : IV) (dom : Int × Int → Prop) (p : Int × Int → Bool) : Prop where
  frz : ∀ n, X.frz n (.i c) = .ret c
  flat : c.flat = true
  call : ∀ me d x y, dom (x, y) → dynP cfg (KK Try.prog cfg) me (some d) (.i c) [PE x y] = .ret (B (p (x, y)), [])
/-- The place of the first edge that fulfils something, or -1. -/
def fidx (p : Int × Int → Bool) (es : List (Int × Int)) : Int := if es.findIdx p < es.length then (es.findIdx p : Int) else -1
/-- What deleting hands back. -/
def delE (p : Int × Int → Bool) (es : List (Int × Int)) : IV := if es = [] then .emp else .lst ((es.filter fun e => !p e).map encE)
def delA (p : Int × Int → Bool) (es : List (Int × Int)) : List Arr := if es = [] then [] else [.arr 0 2 ((es.filter (fun e => !p e) ++ zE (es.length - (es.filter (fun e => !p e)).length)).map encE)]
def delP (p : Int × Int → Bool) (es : List (Int × Int)) : PV := if es = [] then .i .emp else .ref 2000 0 0 (es.filter fun e => !p e).length
theorem KK_prim {P : Program} {cf : Cfg} {f : FuncId} {g : List PV → List Arr → Option (PV × List Arr × List Arr)} {args : List PV} {ps : List Arr} {r : PV × List Arr × List Arr} (h : cf.prim f = some g) (h2 : g args ps = some r) : KK P cf f args ps = some r :=
  KK_of (.all fun n => by show callWith P cf (exec P cf n) f args ps = some r; unfold callWith primC; rw [h]; simp only [h2])
theorem imm_del {p : Int × Int → Bool} {es : List (Int × Int)} {n : Nat} : imm (n + 1) (delA p es) (delP p es) = some (.i (delE p es)) := by
  unfold delA delP delE
  split
  · rfl
  · simp [imm, imm1]
theorem frz_del {p : Int × Int → Bool} {es : List (Int × Int)} {n : Nat} : frz n (.i (delE p es)) = .ret (.lst ((es.filter fun e => !p e).map encE)) := by
  unfold delE
  split
  · rename_i h; subst h; cases n <;> rfl
  · cases n <;> rfl
theorem flat_del {p : Int × Int → Bool} {es : List (Int × Int)} : (delE p es).flat = true := by unfold delE; split <;> rfl
theorem lenP_del {p : Int × Int → Bool} {es : List (Int × Int)} : lenP (.i (delE p es)) = some (es.filter fun e => !p e).length := by
  unfold delE
  split
  · rename_i h; subst h; rfl
  · simp [lenP]
theorem iaR_del {p : Int × Int → Bool} {es : List (Int × Int)} {el : TypeId} {n : Int} (h0 : 0 ≤ n) (h : n < (es.filter fun e => !p e).length) :
    iaR Try.prog (some (.slice el)) (some n) (.i (delE p es)) = iaR Try.prog (some (.slice el)) (some n) (.i (.lst ((es.filter fun e => !p e).map encE))) := by
  unfold delE
  split
  · rename_i he; subst he; simp at h; omega
  · rfl
theorem flatA_E {v : Nat} {es : List (Int × Int)} : flatA (.arr v 2 (es.map encE)) = true := by simp [flatA, encE, flatIV]
theorem flatA_I {v : Nat} {xs : List Int} : flatA (.arr v 1 (xs.map encI)) = true := by simp [flatA, encI, flatIV]
theorem flatP_del {p : Int × Int → Bool} {es : List (Int × Int)} {n : Nat} : flatP (n + 1) (delP p es) = true := by unfold delP; split <;> rfl
theorem flatA_del {p : Int × Int → Bool} {es : List (Int × Int)} : (delA p es).all flatA = true := by
  unfold delA
  split
  · rfl
  · simp only [List.all_cons, List.all_nil, flatA_E, Bool.and_self]
attribute [go_sem] imm_del frz_del flat_del lenP_del iaR_del flatA_E flatA_I flatP_del flatA_del
/-- The nodes that edges join with a node, in the edges' order. -/
def nbL (v : Int) (es : List (Int × Int)) : List Int := es.filterMap fun e => if v = e.1 then some e.2 else if v = e.2 then some e.1 else none
def sortI (xs : List Int) : List Int := xs.mergeSort fun a b => decide (a ≤ b)
/-- The nodes that edges join with a node. -/
def nbS (v : Int) (es : List (Int × Int)) : List Int := sortI (nbL v es)
theorem nbL_snoc (v : Int) (es : List (Int × Int)) (e : Int × Int) : nbL v (es ++ [e]) = nbL v es ++ if v = e.1 then [e.2] else if v = e.2 then [e.1] else [] := by
  unfold nbL
  rw [List.filterMap_append]
  congr 1
  by_cases h1 : v = e.1
  · rw [List.filterMap_cons, if_pos h1, if_pos h1]; rfl
  · by_cases h2 : v = e.2
    · rw [List.filterMap_cons, if_neg h1, if_neg h1, if_pos h2, if_pos h2]; rfl
    · rw [List.filterMap_cons, if_neg h1, if_neg h1, if_neg h2, if_neg h2]; rfl
theorem sortE_encI (xs : List Int) : sortE (xs.map encI) = (sortI xs).map encI := by
  unfold sortE sortI
  rw [List.map_mergeSort]
  intro a _ b _
  rfl
theorem sortI_length (xs : List Int) : (sortI xs).length = xs.length := List.length_mergeSort _
@[go_sem] theorem c_sortI (xs : List Int) (n : Nat) (h : n = xs.length) (hl : xs.length ≤ 4000000) : KP 118 [.ref 1000 0 0 n] [.arr 0 1 (xs.map encI)] = some (.tup [], [.arr 0 1 ((sortI xs).map encI)], []) := by
  refine KK_prim rfl ?_
  have : (xs.map encI).all isI64 = true := by simp [encI, isI64]
  simp only [sortP, List.length_map, h, hl, this, and_self, if_true, sortE_encI]
theorem c_neighbors (n v : Int) (es : List (Int × Int)) (hl : es.length ≤ 1048576) : KP 102 [GL n es, I v] [] = some (.ref 2000 0 0 (nbS v es).length, [], [.arr 0 1 ((nbS v es).map encI)]) := by
  refine gc Try.func102 ?_
  have Fz:=fz1 Try.results102
  repeat'(first|exact trivial|refine go1 ?_|(refine go2 ?_ ?_<;>intro _<;>try(exfalso;omega))|(refine go4 ?_;split<;>((try(exfalso;omega));try refine go3 ?_)))
  refine xw_loopR (fun (x : Int × Nat × List Int) s => s.m 8 = some (.arr x.2.1 1 (x.2.2.map encI)) ∧ s.ρ 5 = .ref 8 x.2.1 0 x.2.2.length ∧ s.ρ 12 = I x.1 ∧ s.ρ 1 = I v ∧ s.ρ 10 = LE es ∧ s.ρ 11 = I es.length ∧
    0 ≤ x.1 ∧ x.1 ≤ es.length ∧ (x.2.2.length : Int) ≤ x.1 ∧ x.2.2 = nbL v (es.take x.1.toNat)) (fun x => (es.length - x.1).toNat) (0, 0, []) (by simp [upd, nbL]) ?_
  rintro ⟨i, w, xs⟩ ⟨ρ, m⟩ ⟨m8, h5, h12, h1, h10, h11, g0, g1, g2, g3⟩
  simp only at m8 h5 h12 h1 h10 h11 g0 g1 g2 g3
  have Fz:=fz7 Try.results102 m8 h5 h12 h1 h10 h11
  repeat'(first|exact trivial|refine go1 ?_|(refine go2 ?_ ?_<;>intro _<;>try(exfalso;omega))|(refine go4 ?_;split<;>((try(exfalso;omega));try refine go3 ?_)))
  · refine ⟨by omega, by omega, by omega, ?_, by omega⟩
    rw [take_int (0, 0) g0 (by omega), nbL_snoc, ← g3, if_pos (by assumption)]
  · refine ⟨by omega, by omega, by omega, ?_, by omega⟩
    rw [take_int (0, 0) g0 (by omega), nbL_snoc, ← g3, if_neg (by assumption), if_pos (by assumption)]
  · refine ⟨by omega, by omega, by omega, ?_, by omega⟩
    rw [take_int (0, 0) g0 (by omega), nbL_snoc, ← g3, if_neg (by assumption), if_neg (by assumption), List.append_nil]
  · rw [take_all (by omega)] at g3
    rw [g3]
    exact ⟨(sortI_length _).symm, rfl⟩
end Go.Proofs.Ytdlfdoicheakoaa.X
