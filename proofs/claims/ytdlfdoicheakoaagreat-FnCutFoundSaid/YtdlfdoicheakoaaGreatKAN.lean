/- What functions answer, and the plain laws behind it. -/
import Derived.Test.YtdlfdoicheakoaaGreatKAL
import Derived.Test.YtdlfdoicheakoaaGreatKAM
import Derived.Test.YtdlfdoicheakoaaGreatKAI
import Derived.Test.YtdlfdoicheakoaaGreatKAK
/- What functions compute: the reference's levels: an edge is put, an edge is cut out. -/
set_option linter.unusedSimpArgs false
set_option linter.unusedVariables false
set_option maxHeartbeats 16000000
set_option maxRecDepth 100000
namespace Go.Proofs.YtdlfdoicheakoaaGreat.X
open Go Go.Proofs
theorem c_l7At (n k : Int) (f : Bool) (ts : List Tl) (hl : ts.length ≤ 1000) : KP 48 [LvP n ts, I k, B f] [] = some (.agg [I n, .ref 2000 0 0 (abT ts k f).length], [], [.arr 0 2 ((abT ts k f).map encE)]) := by
  have l1 := esT_len' ts
  have l2 := lvT_len ts
  have l3 := trT_len ts
  refine xw_call (fn := Tryz.f48) rfl Tryz.func48 rfl ⟨Nat.le_of_ble_eq_true rfl, rfl, rfl⟩ ?_
  have Fz:=fz1 Tryz.results48
  repeat'(first|exact trivial|refine go1 ?_|(refine go2 ?_ ?_<;>intro _<;>try(exfalso;omega))|(refine go4 ?_;split<;>(try(exfalso;omega);try refine go3 ?_)))
  refine xw_loopR (fun (x : Int × Nat) s => s.m 3 = some (.box 0 [I n, LE (esT ts), LI (lvT ts), LT (trT ts)]) ∧ s.ρ 3 = .ptr 3 0 0 0 ∧ s.m 7 = some (.box 0 [I n, .ref 12 x.2 0 (abT (ts.take x.1.toNat) k f).length]) ∧ s.ρ 7 = .ptr 7 0 0 0 ∧ s.m 12 = some (.arr x.2 2 ((abT (ts.take x.1.toNat) k f).map encE)) ∧ s.ρ 6 = .ptr 6 0 0 0 ∧ s.m 6 = some (.box 0 [I 0, .i .emp]) ∧
    s.ρ 8 = I x.1 ∧ s.ρ 1 = I k ∧ s.ρ 2 = B f ∧ 0 ≤ x.1 ∧ x.1 ≤ ts.length) (fun x => (ts.length - x.1).toNat) (0, 0) ?_ ?_
  · exact ⟨rfl, rfl, rfl, rfl, rfl, rfl, rfl, rfl, rfl, rfl, by simp, by simp⟩
  rintro ⟨i, w⟩ ⟨ρ, m⟩ ⟨m3, e3, m7, e7, m12, e6, m6, e8, e1, e2, g0, g1⟩
  simp only at m3 e3 m7 e7 m12 e6 m6 e8 e1 e2 g0 g1
  by_cases hi : i < ts.length
  rotate_left
  · rw [take_all (by omega)] at m7 m12
    have Fz:=fz12 Tryz.results48 m3 e3 m7 e7 m12 e6 m6 e8 e1 e2 l1
    repeat'(first|exact trivial|refine go1 ?_|(refine go2 ?_ ?_<;>intro _<;>try(exfalso;omega))|(refine go4 ?_;split<;>(try(exfalso;omega);try refine go3 ?_)))
  have hE := getTe ts i.toNat (by omega)
  have hL := getTl ts i.toNat (by omega)
  have hT := getTt ts i.toNat (by omega)
  have hsn := abT_snoc (k := k) (f := f) g0 hi
  have hxl := abT_len (ts.take i.toNat) k f
  rw [List.length_take] at hxl
  generalize abT (ts.take i.toNat) k f = xs at *
  generalize ts.getD i.toNat dT = t at hE hL hT hsn
  obtain ⟨⟨a, b⟩, l, q⟩ := t
  simp only at hE hL hT hsn
  have hdec : abP k f ((a, b), l, q) = (decide (k ≤ l) && (!f || q)) := rfl
  rw [hdec] at hsn
  by_cases hk : k ≤ l
  · have hkd := decide_eq_true hk
    rw [hkd] at hsn
    cases f <;> cases q
    · have hsn' : abT (ts.take (i + 1).toNat) k false = xs ++ [(a, b)] := hsn
      have Fz:=fz15 Tryz.results48 m3 e3 m7 e7 m12 e6 m6 e8 e1 e2 hE hL hT l1
      repeat'(first|exact trivial|refine go1 ?_|(refine go2 ?_ ?_<;>intro _<;>try(exfalso;omega))|(refine go4 ?_;split<;>(try(exfalso;omega);try refine go3 ?_)))
      exact ⟨i + 1, w + 1, by rw [hsn']; simp, rfl, by rw [hsn'], rfl, by omega, by omega, by omega⟩
    · have hsn' : abT (ts.take (i + 1).toNat) k false = xs ++ [(a, b)] := hsn
      have Fz:=fz15 Tryz.results48 m3 e3 m7 e7 m12 e6 m6 e8 e1 e2 hE hL hT l1
      repeat'(first|exact trivial|refine go1 ?_|(refine go2 ?_ ?_<;>intro _<;>try(exfalso;omega))|(refine go4 ?_;split<;>(try(exfalso;omega);try refine go3 ?_)))
      exact ⟨i + 1, w + 1, by rw [hsn']; simp, rfl, by rw [hsn'], rfl, by omega, by omega, by omega⟩
    · have hsn' : abT (ts.take (i + 1).toNat) k true = xs := hsn.trans (List.append_nil _)
      have Fz:=fz15 Tryz.results48 m3 e3 m7 e7 m12 e6 m6 e8 e1 e2 hE hL hT l1
      repeat'(first|exact trivial|refine go1 ?_|(refine go2 ?_ ?_<;>intro _<;>try(exfalso;omega))|(refine go4 ?_;split<;>(try(exfalso;omega);try refine go3 ?_)))
      exact ⟨i + 1, w, by rw [hsn'], rfl, by rw [hsn'], rfl, by omega, by omega, by omega⟩
    · have hsn' : abT (ts.take (i + 1).toNat) k true = xs ++ [(a, b)] := hsn
      have Fz:=fz15 Tryz.results48 m3 e3 m7 e7 m12 e6 m6 e8 e1 e2 hE hL hT l1
      repeat'(first|exact trivial|refine go1 ?_|(refine go2 ?_ ?_<;>intro _<;>try(exfalso;omega))|(refine go4 ?_;split<;>(try(exfalso;omega);try refine go3 ?_)))
      exact ⟨i + 1, w + 1, by rw [hsn']; simp, rfl, by rw [hsn'], rfl, by omega, by omega, by omega⟩
  · have hkd := decide_eq_false hk
    rw [hkd] at hsn
    simp only [Bool.false_and, Bool.false_eq_true, if_false, List.append_nil] at hsn
    have Fz:=fz15 Tryz.results48 m3 e3 m7 e7 m12 e6 m6 e8 e1 e2 hE hL hT l1
    repeat'(first|exact trivial|refine go1 ?_|(refine go2 ?_ ?_<;>intro _<;>try(exfalso;omega))|(refine go4 ?_;split<;>(try(exfalso;omega);try refine go3 ?_)))
    exact ⟨i + 1, w, by rw [hsn], rfl, by rw [hsn], rfl, by omega, by omega, by omega⟩
theorem c_l7Most (n k : Int) (h0 : 0 ≤ n ∧ n ≤ 1000) (hk : 0 ≤ k ∧ k ≤ 10) : KP 53 [I n, I k] [] = some (I (n / 2 ^ k.toNat), [], []) := by
  refine xw_call (fn := Tryz.f53) rfl Tryz.func53 rfl ⟨Nat.le_of_ble_eq_true rfl, rfl, rfl⟩ ?_
  have Fz:=fz1 Tryz.results53
  repeat'(first|exact trivial|refine go1 ?_|(refine go2 ?_ ?_<;>intro _<;>try(exfalso;omega))|(refine go4 ?_;split<;>(try(exfalso;omega);try refine go3 ?_)))
  refine xw_loopR (fun (i : Int) s => s.ρ 0 = I (n / 2 ^ i.toNat) ∧ s.ρ 1 = I k ∧ s.ρ 5 = I i ∧ 0 ≤ i ∧ i ≤ k) (fun i => (k - i).toNat) 0 ⟨by simp [upd, initP], rfl, rfl, by omega, hk.1⟩ ?_
  rintro i ⟨ρ, m⟩ ⟨e0, e1, e5, g0, g1⟩
  simp only at e0 e1 e5 g0 g1
  have hq0 : 0 ≤ n / 2 ^ i.toNat := Int.ediv_nonneg h0.1 (Int.pow_nonneg (by omega))
  have hq1 : n / 2 ^ i.toNat ≤ n := Int.ediv_le_self _ h0.1
  by_cases hi : i < k
  · have hnx : n / 2 ^ (i + 1).toNat = (n / 2 ^ i.toNat) / 2 := by
      rw [show (i + 1).toNat = i.toNat + 1 by omega, Int.pow_succ, Int.ediv_ediv_of_nonneg (Int.pow_nonneg (by omega))]
    have htd := Int.tdiv_eq_ediv_of_nonneg (b := 2) hq0
    generalize n / 2 ^ i.toNat = q at *
    have Fz:=fz5 Tryz.results53 e0 e1 e5 htd
    repeat'(first|exact trivial|refine go1 ?_|(refine go2 ?_ ?_<;>intro _<;>try(exfalso;omega))|(refine go4 ?_;split<;>(try(exfalso;omega);try refine go3 ?_)))
    exact ⟨i + 1, by rw [hnx], rfl, by omega, by omega, by omega⟩
  · have hik : i = k := by omega
    subst hik
    have Fz:=fz4 Tryz.results53 e0 e1 e5
    repeat'(first|exact trivial|refine go1 ?_|(refine go2 ?_ ?_<;>intro _<;>try(exfalso;omega))|(refine go4 ?_;split<;>(try(exfalso;omega);try refine go3 ?_)))
end Go.Proofs.YtdlfdoicheakoaaGreat.X

/- What functions compute: the tour of a tree. -/
set_option linter.unusedSimpArgs false
set_option linter.unusedVariables false
set_option maxHeartbeats 8000000
set_option maxRecDepth 100000
namespace Go.Proofs.YtdlfdoicheakoaaGreat.X
open Go Go.Proofs
/-- A tour so far: the neighbors up to a place have been gone to. -/
def tkL (es : List (Int × Int)) (f : Nat) (x p : Int) (ys : List Int) : List Int := x :: ys.flatMap fun y => if y = p then [] else tourL es f y x ++ [x]
end Go.Proofs.YtdlfdoicheakoaaGreat.X

/- What functions compute: whether a list is a tour. -/
set_option linter.unusedSimpArgs false
set_option linter.unusedVariables false
set_option maxHeartbeats 8000000
set_option maxRecDepth 100000
namespace Go.Proofs.YtdlfdoicheakoaaGreat.X
open Go Go.Proofs
end Go.Proofs.YtdlfdoicheakoaaGreat.X

/- What functions compute: whether a list is a tour, as the reference sees it. -/
set_option linter.unusedSimpArgs false
set_option linter.unusedVariables false
set_option maxHeartbeats 8000000
set_option maxRecDepth 100000
namespace Go.Proofs.YtdlfdoicheakoaaGreat.X
open Go Go.Proofs
end Go.Proofs.YtdlfdoicheakoaaGreat.X

/- What functions compute: tours of trees, edges of tours. -/
set_option linter.unusedSimpArgs false
set_option linter.unusedVariables false
set_option maxHeartbeats 8000000
set_option maxRecDepth 100000
namespace Go.Proofs.YtdlfdoicheakoaaGreat.X
open Go Go.Proofs
/-- A tree with a node in it. -/
def TO (n : Int) (es : List (Int × Int)) (r : Int) : Prop := VG n es ∧ inN n r ∧ Tree n es
noncomputable instance decTree (n : Int) (es : List (Int × Int)) : Decidable (Tree n es) := Classical.propDecidable _
noncomputable instance decTO (n : Int) (es : List (Int × Int)) (r : Int) : Decidable (TO n es r) := Classical.propDecidable _
abbrev toL (n : Int) (es : List (Int × Int)) (r : Int) : List Int := tourL es n.toNat r (-1)
theorem TO.at' {n : Int} {es : List (Int × Int)} {r : Int} (h : TO n es r) : At n es r r (-1) ∧ n - dst n es r r ≤ n.toNat := by
  have h0 : 0 ≤ n := by have := h.1.1; omega
  exact ⟨⟨.refl _, h.2.1, .inl ⟨rfl, rfl⟩⟩, by rw [dst_self h.1.okg.ok h0]; omega⟩
theorem c_l6Forest (n : Int) (es : List (Int × Int)) (h : OKG n es) : KP 49 [GL n es] [] = some (B (decide (Tree n es)), [], []) := by
  have hf := c_l2Forest n es h
  have htr := tree_forest (n := n) h.ok
  have hlen := h.len
  have hfl := (forest_sub h.ok).length_le
  have e : decide (Tree n es) = decide (((forestL es).length : Int) = es.length) := decide_eq_decide.2 (by rw [← htr]; omega)
  rw [e]
  refine xw_call (fn := Tryz.f49) rfl Tryz.func49 rfl ⟨Nat.le_of_ble_eq_true rfl, rfl, rfl⟩ ?_
  have Fz:=fz2 Tryz.results49 hf
  repeat'(first|exact trivial|refine go1 ?_|(refine go2 ?_ ?_<;>intro _<;>try(exfalso;omega))|(refine go4 ?_;split<;>(try(exfalso;omega);try refine go3 ?_)))
end Go.Proofs.YtdlfdoicheakoaaGreat.X
