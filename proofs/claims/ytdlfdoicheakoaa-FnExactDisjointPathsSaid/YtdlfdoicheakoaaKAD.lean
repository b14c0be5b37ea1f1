/- What functions answer, and the plain laws behind it. -/
import Derived.Test.YtdlfdoicheakoaaKAC
import Derived.Test.YtdlfdoicheakoaaM3
/- What functions compute: distances and paths. -/
set_option linter.unusedSimpArgs false
set_option linter.unusedVariables false
set_option maxHeartbeats 2000000
namespace Go.Proofs.Ytdlfdoicheakoaa.X
open Go Go.Proofs
@[go_sem] theorem c_mul1 (n : Int) (h : 0 ≤ n ∧ n ≤ 1048576) : KP 117 [.i (.v (.int .u64 1)), .i (.v (.int .u64 n))] [] = some (.tup [.i (.v (.int .u64 0)), .i (.v (.int .u64 n))], [], []) := by
  refine KK_prim rfl ?_
  have h1 : 1 * n / 18446744073709551616 = 0 := by omega
  have h2 : 1 * n % 18446744073709551616 = n := by omega
  simp only [mulP, h1, h2]
  rw [if_pos (by omega)]
@[go_sem] theorem c_repeatI (x n : Int) (hn : 0 ≤ n ∧ n ≤ 1048576) : KP 101 [.i (.lst [[.v (.int .i64 x)]]), I n] [] = some (.ref 2000 0 0 n.toNat, [], [.arr 0 1 ((List.replicate n.toNat x).map encI)]) := by
  by_cases h0 : n = 0
  · subst h0
    refine gc Try.func101 ?_
    have Fz:=fz1 Try.results101
    repeat'(first|exact trivial|refine go1 ?_|(refine go2 ?_ ?_<;>intro _<;>try(exfalso;omega))|(refine go4 ?_;split<;>((try(exfalso;omega));try refine go3 ?_)))
    refine xw_loopR (fun (y : Unit) s => s.m 30 = some (.arr 0 1 []) ∧ s.ρ 7 = .ref 30 0 0 0 ∧ s.ρ 8 = I 0) (fun _ => 0) () ⟨rfl, rfl, rfl⟩ ?_
    rintro ⟨⟩ ⟨ρ, m⟩ ⟨m30, h7, h8⟩
    simp only at m30 h7 h8
    have Fz:=fz4 Try.results101 m30 h7 h8
    repeat'(first|exact trivial|refine go1 ?_|(refine go2 ?_ ?_<;>intro _<;>try(exfalso;omega))|(refine go4 ?_;split<;>((try(exfalso;omega));try refine go3 ?_)))
    all_goals simp
  refine gc Try.func101 ?_
  have Fz:=fz2 Try.results101 @take_all
  repeat'(first|exact trivial|refine go1 ?_|(refine go2 ?_ ?_<;>intro _<;>try(exfalso;omega))|(refine go4 ?_;split<;>((try(exfalso;omega));try refine go3 ?_)))
  refine xw_loopR (fun (y : Int × List Int) s => s.m 30 = some (.arr 0 1 (y.2.map encI)) ∧ s.ρ 7 = .ref 30 0 0 n.toNat ∧ s.ρ 8 = I y.1 ∧ 0 < y.1 ∧ y.1 ≤ n ∧ y.2.length = n.toNat ∧ y.2.take y.1.toNat = List.replicate y.1.toNat x)
    (fun y => (n - y.1).toNat) (1, x :: (zI n.toNat).drop 1) ?_ ?_
  · have e1 : min 1 (n.toNat) = 1 := by omega
    refine ⟨rfl, rfl, ?_, by simp, by simp only; omega, by simp [zI]; omega, by simp⟩
    simp [upd, e1]
  rintro ⟨k, xs⟩ ⟨ρ, m⟩ ⟨m30, h7, h8, g0, g1, g3, g4⟩
  simp only at m30 h7 h8 g0 g1 g3 g4
  have Fz:=fz6 Try.results101 m30 h7 h8 @llt g3
  repeat'(first|exact trivial|refine go1 ?_|(refine go2 ?_ ?_<;>intro _<;>try(exfalso;omega))|(refine go4 ?_;split<;>((try(exfalso;omega));try refine go3 ?_)))
  · refine ⟨by omega, by omega, by simp [g3]; omega, ?_, by omega⟩
    have e1 : min k.toNat n.toNat = k.toNat := by omega
    rw [e1, g4, List.take_replicate]
    have e2 : min (n.toNat - k.toNat) k.toNat = min k.toNat (n.toNat - k.toNat) := Nat.min_comm ..
    rw [List.replicate_append_replicate, e2]
    have e3 : (k + ((min k.toNat (n.toNat - k.toNat) : Nat) : Int)).toNat = k.toNat + min k.toNat (n.toNat - k.toNat) := by omega
    rw [e3]
    exact List.take_left' (by simp)
  · have : k.toNat = n.toNat := by omega
    rw [this, take_all (by omega)] at g4
    rw [g4]
theorem getD_len_append (a b : List Int) (x : Int) : (a ++ x :: b).getD a.length 0 = x := by simp
end Go.Proofs.Ytdlfdoicheakoaa.X

/- What functions compute: distances as the reference has them; paths. -/
set_option linter.unusedSimpArgs false
set_option linter.unusedVariables false
set_option maxHeartbeats 2000000
namespace Go.Proofs.Ytdlfdoicheakoaa.X
open Go Go.Proofs
end Go.Proofs.Ytdlfdoicheakoaa.X

/- What functions compute: drawing a graph and two nodes; comparing lists. -/
set_option linter.unusedSimpArgs false
set_option linter.unusedVariables false
set_option maxHeartbeats 2000000
namespace Go.Proofs.Ytdlfdoicheakoaa.X
open Go Go.Proofs
end Go.Proofs.Ytdlfdoicheakoaa.X

/- The number of connected parts: plain law. -/
set_option linter.unusedVariables false
namespace Go.Proofs.Ytdlfdoicheakoaa.X
open Go
theorem Conn.edge {es : List (Int × Int)} {e : Int × Int} (h : e ∈ es) : Conn es e.1 e.2 := .of (.inl h)
def root (es : List (Int × Int)) (x : Nat) : Prop := ∀ y : Nat, y < x → ¬ Conn es (y : Nat) (x : Nat)
/-- The number of connected parts. -/
noncomputable def cnt (n : Int) (es : List (Int × Int)) : Nat := ((List.range n.toNat).filter fun x => decide (least es x = x)).length
theorem Conn.nil {x y : Int} (h : Conn [] x y) : x = y := by
  induction h with
  | refl => rfl
  | step _ a _ => rcases a with a | a <;> simp at a
theorem cutE_mem {e0 e : Int × Int} {es : List (Int × Int)} : e ∈ cutE e0 es ↔ e ∈ es ∧ e ≠ e0 := by simp [cutE]
end Go.Proofs.Ytdlfdoicheakoaa.X

/- Shortest paths: plain law. -/
set_option linter.unusedVariables false
namespace Go.Proofs.Ytdlfdoicheakoaa.X
open Go
theorem Rk.one {es : List (Int × Int)} {x y : Int} (h : Adj es x y) : Rk es x 1 y := .inr ⟨x, rfl, h⟩
theorem Rk.comp {es : List (Int × Int)} {x y : Int} {j : Nat} (h : Rk es x j y) : ∀ (k : Nat) {z : Int}, Rk es y k z → Rk es x (j + k) z
  | 0, z, hk => by cases hk; exact h
  | k + 1, z, hk => by
    rcases hk with hk | ⟨w, hw, ha⟩
    · exact .inl (Rk.comp h k hk)
    · exact .inr ⟨w, Rk.comp h k hw, ha⟩
theorem Rk.symm {es : List (Int × Int)} {x : Int} : ∀ (k : Nat) {y : Int}, Rk es x k y → Rk es y k x
  | 0, y, h => by cases h; rfl
  | k + 1, y, h => by
    rcases h with h | ⟨z, h, a⟩
    · exact .inl (Rk.symm k h)
    · have := (Rk.one a.symm).comp k (Rk.symm k h)
      rwa [Nat.add_comm 1 k] at this
end Go.Proofs.Ytdlfdoicheakoaa.X

/- Bridges, forests, paths: plain law. -/
set_option linter.unusedVariables false
namespace Go.Proofs.Ytdlfdoicheakoaa.X
open Go
/-- An edge whose nodes are not connected without it. -/
def Brg (es : List (Int × Int)) (e : Int × Int) : Prop := ¬ Conn (cutE e es) e.1 e.2
noncomputable instance decBrg (es : List (Int × Int)) (e : Int × Int) : Decidable (Brg es e) := Classical.propDecidable _
theorem edgeOf_ends {x y : Int} : (edgeOf x y = (x, y)) ∨ (edgeOf x y = (y, x)) := by unfold edgeOf; split <;> simp
noncomputable def fstep (acc : List (Int × Int)) (e : Int × Int) : List (Int × Int) := if Conn acc e.1 e.2 then acc else acc ++ [e]
noncomputable def forestL (es : List (Int × Int)) : List (Int × Int) := es.foldl fstep []
/-- Edges all of which are bridges are their own forest. -/
theorem VG.sub {n : Int} {es fs : List (Int × Int)} (h : VG n es) (hs : fs.Sublist es) : VG n fs := by
  obtain ⟨h1, h2, h3, h4, h5⟩ := h
  have := hs.length_le
  exact ⟨h1, h2, by omega, fun e he => h4 e (hs.subset he), List.Pairwise.sublist hs h5⟩
def Walk (es : List (Int × Int)) (p : List Int) : Prop := ∀ i, i + 1 < p.length → Adj es (p.getD i 0) (p.getD (i + 1) 0)
theorem Walk.conn {es : List (Int × Int)} {p : List Int} (h : Walk es p) : ∀ i, i < p.length → Conn es (p.getD 0 0) (p.getD i 0)
  | 0, _ => .refl _
  | i + 1, hi => .step (h.conn i (by omega)) (h i hi)
theorem len_le_of_sub {α : Type} [DecidableEq α] : ∀ {l m : List α}, l.Nodup → (∀ x ∈ l, x ∈ m) → l.length ≤ m.length
  | [], m, _, _ => by simp
  | x :: l, m, hn, h => by
    rw [List.nodup_cons] at hn
    have hx := h x (by simp)
    have ih := len_le_of_sub (l := l) (m := m.erase x) hn.2 fun y hy => by
      have : y ≠ x := fun e => hn.1 (e ▸ hy)
      exact (List.mem_erase_of_ne this).2 (h y (List.mem_cons_of_mem _ hy))
    rw [List.length_erase_of_mem hx] at ih
    have := List.length_pos_of_mem hx
    simp only [List.length_cons]; omega
end Go.Proofs.Ytdlfdoicheakoaa.X

/- What functions compute: the number of parts. -/
set_option linter.unusedSimpArgs false
set_option linter.unusedVariables false
set_option maxHeartbeats 2000000
namespace Go.Proofs.Ytdlfdoicheakoaa.X
open Go Go.Proofs
end Go.Proofs.Ytdlfdoicheakoaa.X

/- Safe parts and the tree of bridges: plain law. -/
set_option linter.unusedVariables false
namespace Go.Proofs.Ytdlfdoicheakoaa.X
open Go
/-- A graph's edges without its bridges. -/
noncomputable def bare (es : List (Int × Int)) : List (Int × Int) := es.filter fun e => !decide (Brg es e)
/-- A graph's bridges. -/
noncomputable def brgs (es : List (Int × Int)) : List (Int × Int) := es.filter fun e => decide (Brg es e)
theorem mem_bare {es : List (Int × Int)} {e : Int × Int} : e ∈ bare es ↔ e ∈ es ∧ ¬ Brg es e := by simp [bare]
theorem VG.bare {n : Int} {es : List (Int × Int)} (h : VG n es) : VG n (X.bare es) := h.sub List.filter_sublist
theorem VG.brgs {n : Int} {es : List (Int × Int)} (h : VG n es) : VG n (X.brgs es) := h.sub List.filter_sublist
/-- The label of a node's safe part. -/
noncomputable def sl (es : List (Int × Int)) (x : Int) : Int := (least (bare es) x.toNat : Nat)
noncomputable def treeE (es : List (Int × Int)) (e : Int × Int) : Int × Int := edgeOf (sl es e.1) (sl es e.2)
/-- The edges between safe parts, in the order of bridges. -/
noncomputable def treeL (es : List (Int × Int)) : List (Int × Int) := (brgs es).map (treeE es)
end Go.Proofs.Ytdlfdoicheakoaa.X
