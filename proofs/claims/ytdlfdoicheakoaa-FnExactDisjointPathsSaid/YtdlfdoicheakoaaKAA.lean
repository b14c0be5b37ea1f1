/- What functions answer, and the plain laws behind it. -/
import Derived.Test.YtdlfdoicheakoaaCfg
import Derived.Test.YtdlfdoicheakoaaStp
/- What functions compute: edges. -/
set_option linter.unusedSimpArgs false
set_option linter.unusedVariables false
namespace Go.Proofs.Ytdlfdoicheakoaa.X
open Go Go.Proofs
/-- How data stand in arrays. -/
def encE (e : Int × Int) : List IV := [.v (.int .i64 e.1), .v (.int .i64 e.2)]
abbrev PE (a b : Int) : PV := .agg [I a, I b]
abbrev LE (es : List (Int × Int)) : PV := .i (.lst (es.map encE))
noncomputable abbrev KP : CallS := KK Try.prog cfg
def edgeOf (x y : Int) : Int × Int := if x < y then (x, y) else (y, x)
theorem c_l1Edge (x y : Int) : KP 25 [I x, I y] [] = some (PE (edgeOf x y).1 (edgeOf x y).2, [], []) := by
  refine gc Try.func25 ?_
  have Fz:=fz0
  repeat refine goG ?_
  unfold edgeOf
  split
  · have Fz:=fz0
    repeat refine goG ?_
    have Fz:=fz1 Try.results25
    refine goR ?_
    try trivial
  · have Fz:=fz0
    repeat refine goG ?_
    have Fz:=fz1 Try.results25
    refine goR ?_
    try trivial
def lessE (a b : Int × Int) : Bool := decide (a.1 < b.1 ∨ a.1 = b.1 ∧ a.2 < b.2)
theorem c_l1Less (a b c d : Int) : KP 113 [PE a b, PE c d] [] = some (B (lessE (a, b) (c, d)), [], []) := by
  refine gc Try.func113 ?_
  cases h1 : decide (a < c)
  · cases h2 : decide (a = c)
    · have Fz:=fz2 h1 h2
      repeat refine goG ?_
      have Fz:=fz3 Try.results113 h1 h2
      refine goR ?_
      try trivial
      simp only [decide_eq_false_iff_not] at h1 h2
      simp [lessE, h1, h2]
    · have Fz:=fz2 h1 h2
      repeat refine goG ?_
      have Fz:=fz3 Try.results113 h1 h2
      refine goR ?_
      try trivial
      simp only [decide_eq_false_iff_not, decide_eq_true_eq] at h1 h2
      simp [lessE, h2]
  · have Fz:=fz1 h1
    repeat refine goG ?_
    have Fz:=fz2 Try.results113 h1
    refine goR ?_
    try trivial
    simp only [decide_eq_true_eq] at h1
    simp [lessE, h1]
/-- The place of an edge, or -1. -/
def findE (es : List (Int × Int)) (e : Int × Int) : Int := if e ∈ es then (es.idxOf e : Int) else -1
theorem idxOf_at {e : Int × Int} : ∀ {es : List (Int × Int)} {i : Nat}, es[i]? = some e → e ∉ es.take i → es.idxOf e = i
  | [], _, h, _ => by simp at h
  | x :: r, 0, h, _ => by simp at h; subst h; simp
  | x :: r, i + 1, h, hn => by
    simp only [List.take_succ_cons, List.mem_cons, not_or] at hn
    have hx : (x == e) = false := by simpa using fun e' => hn.1 e'.symm
    rw [List.idxOf_cons, hx, idxOf_at (by simpa using h) hn.2]; rfl
theorem findE_at {es : List (Int × Int)} {e : Int × Int} {i : Nat} (h : es[i]? = some e) (hn : e ∉ es.take i) : findE es e = i := by
  have hin : e ∈ es := List.mem_of_getElem? h
  simp [findE, hin, idxOf_at h hn]
theorem c_l1Find (es : List (Int × Int)) (a b : Int) (hl : es.length ≤ 1048576) : KP 82 [LE es, PE a b] [] = some (I (findE es (a, b)), [], []) := by
  refine gc Try.func82 ?_
  have Fz:=fz0
  repeat refine goG ?_
  refine xw_loop_count (fun n s => ∃ i : Nat, n = es.length - i ∧ i ≤ es.length ∧ (a, b) ∉ es.take i ∧ s.ρ 0 = LE es ∧ s.ρ 5 = I i ∧ s.ρ 3 = .ptr 3 0 0 0 ∧ s.m 3 = some (.box 0 [I a, I b])) ?_ es.length _ ⟨0, by simp, by simp, by simp, rfl, rfl, rfl, rfl⟩
  rintro n ⟨ρ, m⟩ ⟨i, rfl, hi, hni, h0, h5, h3, hm⟩
  simp only at h0 h5 h3 hm
  have hw : IntKind.i64.wrap ((i : Int) + 1) = ((i + 1 : Nat) : Int) := wr1 (by omega)
  cases hc : decide ((i : Int) < es.length)
  · have Fz:=fz5 h0 h5 h3 hm hc
    repeat refine goG ?_
    have Fz:=fz5 Try.results82 h0 h5 h3 hm
    refine goR ?_
    try trivial
    simp only [decide_eq_false_iff_not] at hc
    have : (a, b) ∉ es := by rw [List.take_of_length_le (by omega)] at hni; exact hni
    simp [findE, this]
  · simp only [decide_eq_true_eq] at hc
    obtain ⟨e, he⟩ : ∃ e, es[i]? = some e := ⟨es[i]'(by omega), by simp⟩
    have Fz:=fz9 h0 h5 h3 hm hc hw he @encE.eq_1 @lgm
    repeat refine goG ?_
    split
    · rename_i hab
      have Fz:=fz9 h0 h5 h3 hm hc hw he @encE.eq_1 @lgm
      repeat refine goG ?_
      have Fz:=fz5 Try.results82 h0 h5 h3 hm
      refine goR ?_
      try trivial
      have : e = (a, b) := Prod.ext hab.1 hab.2
      subst this
      rw [findE_at he hni]
    · rename_i hab
      have Fz:=fz9 h0 h5 h3 hm hc hw he @encE.eq_1 @lgm
      repeat refine goG ?_
      refine ⟨es.length - (i + 1), by omega, i + 1, rfl, by omega, ?_, rfl⟩
      rw [List.take_add_one, he]
      simp only [Option.toList_some, List.mem_append, List.mem_singleton, not_or]
      exact ⟨hni, fun e' => hab (by rw [← e']; exact ⟨rfl, rfl⟩)⟩
end Go.Proofs.Ytdlfdoicheakoaa.X

/- What functions compute: the reader that draws. -/
set_option linter.unusedSimpArgs false
set_option linter.unusedVariables false
set_option maxHeartbeats 2000000
namespace Go.Proofs.Ytdlfdoicheakoaa.X
open Go Go.Proofs
def encB (b : Int) : List IV := [.v (.int .u8 b)]
def encI (x : Int) : List IV := [.v (.int .i64 x)]
abbrev LB (bs : List Int) : PV := .i (.lst (bs.map encB))
abbrev LI (xs : List Int) : PV := .i (.lst (xs.map encI))
abbrev Rd (bs : List Int) (p : Int) : Arr := .box 0 [LB bs, I p]
def bytes (bs : List Int) : Prop := (∀ b ∈ bs, 0 ≤ b ∧ b < 256) ∧ bs.length ≤ 2000
theorem all_encB (bs : List Int) : (bs.map encB).all (fun x => x.length == 1) = true := by simp [encB]
theorem all_encI (bs : List Int) : (bs.map encI).all (fun x => x.length == 1) = true := by simp [encI]
theorem all_encE (es : List (Int × Int)) : (es.map encE).all (fun x => x.length == 2) = true := by simp [encE]
attribute [go_sem] all_encB all_encI all_encE
end Go.Proofs.Ytdlfdoicheakoaa.X

/- What functions compute: edges in order. -/
set_option linter.unusedSimpArgs false
set_option linter.unusedVariables false
set_option maxHeartbeats 2000000
namespace Go.Proofs.Ytdlfdoicheakoaa.X
open Go Go.Proofs
/-- Edges in order with one more. -/
def putE (e : Int × Int) : List (Int × Int) → List (Int × Int)
  | [] => [e]
  | x :: r => if lessE e x then e :: x :: r else x :: putE e r
/-- The same, from the front. -/
def putS (e : Int × Int) (done : Bool) (acc : List (Int × Int)) (x : Int × Int) : Bool × List (Int × Int) :=
  if !done && lessE e x then (true, acc ++ [e, x]) else (done, acc ++ [x])
end Go.Proofs.Ytdlfdoicheakoaa.X

/- What functions compute: drawing a graph. -/
set_option linter.unusedSimpArgs false
set_option linter.unusedVariables false
set_option maxHeartbeats 2000000
namespace Go.Proofs.Ytdlfdoicheakoaa.X
open Go Go.Proofs
def Ord (es : List (Int × Int)) : Prop := es.Pairwise fun a b => lessE a b = true
theorem lessE_iff {a b : Int × Int} : lessE a b = true ↔ a.1 < b.1 ∨ a.1 = b.1 ∧ a.2 < b.2 := by simp [lessE]
theorem lessE_trans {a b c : Int × Int} (h : lessE a b = true) (k : lessE b c = true) : lessE a c = true := by
  rw [lessE_iff] at *; omega
/-- Edges as they are handed back: none, or a list. -/
def qe (es : List (Int × Int)) : IV := if es = [] then .emp else .lst (es.map encE)
theorem frz_qe {n : Nat} {es : List (Int × Int)} : frz n (.i (qe es)) = .ret (.lst (es.map encE)) := by
  cases es with
  | nil => cases n <;> rfl
  | cons e r => cases n <;> rfl
theorem flat_qe {es : List (Int × Int)} : (qe es).flat = true := by cases es <;> rfl
theorem lenP_qe {es : List (Int × Int)} : lenP (.i (qe es)) = some es.length := by
  cases es with
  | nil => rfl
  | cons e r => simp [lenP, qe]
attribute [go_sem] frz_qe flat_qe lenP_qe
end Go.Proofs.Ytdlfdoicheakoaa.X

/- What functions compute: graphs that may be wrong. -/
set_option linter.unusedSimpArgs false
set_option linter.unusedVariables false
set_option maxHeartbeats 2000000
namespace Go.Proofs.Ytdlfdoicheakoaa.X
open Go Go.Proofs
abbrev GL (n : Int) (es : List (Int × Int)) : PV := .agg [I n, LE es]
/-- A list of edges, in whatever form. -/
structure EL (x : IV) (es : List (Int × Int)) : Prop where
  f : ∀ n, frz n (.i x) = .ret (.lst (es.map encE))
  fl : x.flat = true
theorem EL.qe (es : List (Int × Int)) : EL (qe es) es := ⟨fun _ => frz_qe, flat_qe⟩
theorem EL.lst (es : List (Int × Int)) : EL (.lst (es.map encE)) es := ⟨fun n => by cases n <;> rfl, rfl⟩
end Go.Proofs.Ytdlfdoicheakoaa.X

/- What functions compute: a graph and a node. -/
set_option linter.unusedSimpArgs false
set_option linter.unusedVariables false
set_option maxHeartbeats 2000000
namespace Go.Proofs.Ytdlfdoicheakoaa.X
open Go Go.Proofs
end Go.Proofs.Ytdlfdoicheakoaa.X
