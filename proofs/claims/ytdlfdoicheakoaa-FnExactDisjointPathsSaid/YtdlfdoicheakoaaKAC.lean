/- What functions answer, and the plain laws behind it. -/
import Derived.Test.YtdlfdoicheakoaaKAB
/- What functions compute: neighbors node by node, cut nodes. -/
set_option linter.unusedSimpArgs false
set_option linter.unusedVariables false
set_option maxHeartbeats 2000000
namespace Go.Proofs.Ytdlfdoicheakoaa.X
open Go Go.Proofs
theorem c_l1Next (n v : Int) (es : List (Int × Int)) (h : OKG n es) (hn : es.Nodup) : KP 116 [GL n es, I v] [] = some (.ref 2000 0 0 (nbS v es).length, [], [.arr 0 1 ((nbS v es).map encI)]) := by
  obtain ⟨n0, n1, hl, ho⟩ := h
  rw [← next_eq ho hn v]
  refine gc Try.func116 ?_
  have Fz:=fz1 Try.results116
  repeat'(first|exact trivial|refine go1 ?_|(refine go2 ?_ ?_<;>intro _<;>try(exfalso;omega))|(refine go4 ?_;split<;>((try(exfalso;omega));try refine go3 ?_)))
  refine xw_loopR (fun (x : Int × Nat × List Int) s => s.m 7 = some (.arr x.2.1 1 (x.2.2.map encI)) ∧ s.ρ 5 = .ref 7 x.2.1 0 x.2.2.length ∧ s.ρ 6 = I x.1 ∧ s.ρ 1 = I v ∧ s.ρ 2 = .ptr 2 0 0 0 ∧ s.m 2 = some (.box 0 [I n, LE es]) ∧
    0 ≤ x.1 ∧ x.1 ≤ n ∧ (x.2.2.length : Int) ≤ x.1 ∧ x.2.2 = (iota x.1).filter fun y => decide (y ≠ v ∧ edgeOf y v ∈ es)) (fun x => (n - x.1).toNat) (0, 0, []) (by simp [upd, iota, n0]) ?_
  rintro ⟨i, w, xs⟩ ⟨ρ, m⟩ ⟨m7, h5, h6, h1, h2, m2, g0, g1, g2, g3⟩
  simp only at m7 h5 h6 h1 h2 m2 g0 g1 g2 g3
  have hf := @findE_pos es (edgeOf i v)
  have Fz:=fz7 Try.results116 m7 h5 h6 h1 h2 m2
  repeat'(first|exact trivial|refine go1 ?_|(refine go2 ?_ ?_<;>intro _<;>try(exfalso;omega))|(refine go4 ?_;split<;>((try(exfalso;omega));try refine go3 ?_)))
  all_goals first
    | (refine ⟨by omega, by omega, by omega, ?_, by omega⟩; rw [iota_snoc g0, List.filter_append, ← g3]; grind)
    | (have : i = n := by omega
       subst this
       rw [← g3]
       exact ⟨rfl, rfl⟩)
/-- A function value that tells something of a number. -/
structure CloI (c : IV) (dom : Int → Prop) (p : Int → Bool) : Prop where
  frz : ∀ n, X.frz n (.i c) = .ret c
  flat : c.flat = true
  call : ∀ me d x, dom x → dynP cfg (KK Try.prog cfg) me (some d) (.i c) [I x] = .ret (B (p x), [])
def fidxI (p : Int → Bool) (xs : List Int) : Int := if xs.findIdx p < xs.length then (xs.findIdx p : Int) else -1
/-- A cut node: not all of its neighbors are connected without it. -/
def CutN (es : List (Int × Int)) (v : Int) : Prop := ∃ x ∈ nbS v es, ¬ Conn (alone v es) ((nbS v es).getD 0 0) x
noncomputable instance decCutN (es : List (Int × Int)) (v : Int) : Decidable (CutN es v) := Classical.propDecidable _
theorem OKG.alone {n : Int} {es : List (Int × Int)} (h : OKG n es) (v : Int) : OKG n (alone v es) :=
  ⟨h.n0, h.n1, Nat.le_trans (List.length_filter_le _ _) h.len, fun e he => h.ok e (List.mem_filter.1 he).1⟩
theorem VG.nodup {n : Int} {es : List (Int × Int)} (h : VG n es) : es.Nodup := Ord.nodup h.2.2.2.2
end Go.Proofs.Ytdlfdoicheakoaa.X

/- What functions compute: edges, cutting one. -/
set_option linter.unusedSimpArgs false
set_option linter.unusedVariables false
set_option maxHeartbeats 2000000
namespace Go.Proofs.Ytdlfdoicheakoaa.X
open Go Go.Proofs
/-- Two nodes that an edge can join. -/
def eOk (x y : Int) : Prop := 0 ≤ x ∧ x < 16 ∧ 0 ≤ y ∧ y < 16 ∧ x ≠ y
instance (x y : Int) : Decidable (eOk x y) := by unfold eOk; infer_instance
/-- Edges without one. -/
def cutE (e0 : Int × Int) (es : List (Int × Int)) : List (Int × Int) := es.filter fun e => decide (e ≠ e0)
theorem cutE_len (e0 : Int × Int) (es : List (Int × Int)) : (cutE e0 es).length ≤ es.length := List.length_filter_le _ _
end Go.Proofs.Ytdlfdoicheakoaa.X

/- What functions compute: is a number in a list? -/
set_option linter.unusedSimpArgs false
set_option linter.unusedVariables false
set_option maxHeartbeats 4000000
set_option maxRecDepth 100000
namespace Go.Proofs.Ytdlfdoicheakoaa.X
open Go Go.Proofs
end Go.Proofs.Ytdlfdoicheakoaa.X
