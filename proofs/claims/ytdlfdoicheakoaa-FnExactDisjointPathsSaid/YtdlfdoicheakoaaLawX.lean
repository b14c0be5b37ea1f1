/- From what the interpreter says of a law over graphs, edges and integers to the statement's own walk. -/
import Derived.Test.YtdlfdoicheakoaaLaw
import Derived.Test.YtdlfdoicheakoaaC30
import Derived.Lib.SmallJoins
import Derived.Deep.SlicePairs
set_option linter.unusedVariables false
namespace Go.Proofs.Ytdlfdoicheakoaa.X
open Go Go.Proofs Go.RowKit Go.ChangeShapes Go.WideShapes Go.Joins Go.Deep
def valI : Value → Int
  | .int _ n => n
  | _ => 0
theorem bounds_i64 {n : Int} (h : (Lit.int .i64 n).wf = true) : okI n := by
  have a : IntKind.i64.min = -9223372036854775808 := by decide
  have b : IntKind.i64.max = 9223372036854775807 := by decide
  simp only [Lit.wf, Bool.and_eq_true, decide_eq_true_eq, a, b] at h
  exact h
theorem addr_eq {a : Addr} (h : a.spot = none) : (⟨a.block, a.off, none⟩ : Addr) = a := by
  cases a
  simp only at h
  rw [h]
/-- A row of edges that came in. -/
theorem edges_in {H : Type} {enc : TypeId × Value → H} {P : Program} {w : World} {spare : Nat → Bool} {held : Bool} {t e : TypeId} {f0 f1 : Field} {fuel : Nat} {cs : List Value} {x : DataW H × List MemPlace}
    (ht : P.underlying t = some (.slice e)) (he : P.underlying e = some (.struct #[f0, f1])) (ce : P.cellsOf e = 2) (o0 : f0.offset = 0) (o1 : f1.offset = 1) (c0 : P.cellsOf f0.type = 1) (c1 : P.cellsOf f1.type = 1)
    (i0 : P.underlying f0.type = some (.int .i64)) (i1 : P.underlying f1.type = some (.int .i64)) (h : DataW.trod enc P w 0 spare held fuel t cs = some x) :
    ∃ (v : Value) (es : List (Int × Int)) (F : Nat → Prop), cs = [v] ∧ (∀ q ∈ es, okI q.1 ∧ okI q.2) ∧ (es.length ≤ 9223372036854775807) ∧ (∀ b, F b → b < w.heap.size) ∧ RepI F w (.lst (es.map encE)) v := by
  rcases open_slice_pairs ht he ce o0 o1 c0 c1 h with ⟨rfl, -⟩ | ⟨a, len, cap, m, n, V0, V1, D0, D1, P0, P1, rfl, hb, hl, hm, hmm, -, hx⟩
  · exact ⟨_, [], fun _ => False, rfl, by simp, by simp, fun _ h => h.elim, .lst [] none 0 2 (fun _ _ => .int .u8 0) (Nat.le_refl _) (by decide) (fun i e h => by simp at h) (fun i e h => by simp at h) (fun i e j p h => by simp at h) (fun i e j p h => by simp at h)⟩
  · have hlm : len ≤ m := by rw [hmm]; split <;> omega
    have each : ∀ i, i < len → (V0 i = .int .i64 (valI (V0 i)) ∧ okI (valI (V0 i))) ∧ (V1 i = .int .i64 (valI (V1 i)) ∧ okI (valI (V1 i))) := fun i hi => by
      obtain ⟨-, -, h0, h1⟩ := hx i (by omega)
      obtain ⟨p, e0, -, w0⟩ := DataW.trod_int i0 h0
      obtain ⟨q, e1, -, w1⟩ := DataW.trod_int i1 h1
      simp only [List.cons.injEq, and_true] at e0 e1
      rw [e0, e1]
      exact ⟨⟨rfl, bounds_i64 w0⟩, ⟨rfl, bounds_i64 w1⟩⟩
    have hml : maxLen ≤ 9223372036854775807 := by decide
    let es : List (Int × Int) := (List.range len).map fun i => (valI (V0 i), valI (V1 i))
    have hes : es.length = len := by simp [es]
    have hel : (es.map encE).length = len := by simp [es]
    have key : ∀ (i : Nat) (e : List IV), (es.map encE)[i]? = some e → i < len ∧ e = encE (valI (V0 i), valI (V1 i)) := by
      intro i e h
      simp only [es, List.map_map, List.getElem?_map, Option.map_eq_some_iff] at h
      obtain ⟨k, hk, rfl⟩ := h
      obtain ⟨h1, h2⟩ := List.getElem?_eq_some_iff.1 hk
      simp only [List.length_range] at h1
      simp only [List.getElem_range] at h2
      subst h2
      exact ⟨h1, rfl⟩
    have hcell : ∀ i, i < len → a.spot = none ∧ a.block < w.heap.size ∧ w.cell? ⟨a.block, a.off + (i * 2 + 0), none⟩ = some (V0 i) ∧ w.cell? ⟨a.block, a.off + (i * 2 + 1), none⟩ = some (V1 i) := fun i hi => by
      obtain ⟨h0, h1, -, -⟩ := hx i (by omega)
      obtain ⟨h00, -⟩ := hx 0 (by omega)
      have e0 : a.add (0 * 2) = a := by simp [Addr.add]
      rw [e0] at h00
      have hsp : a.spot = none ∧ a.block < w.heap.size := by
        unfold World.cell? at h00
        split at h00
        · rename_i hh
          split at h00
          · cases h00
          · rename_i hs
            refine ⟨?_, (Array.getElem?_eq_some_iff.1 hh).1⟩
            cases hq : a.spot with
            | none => rfl
            | some y => rw [hq] at hs; simp at hs
        · cases h00
      have k0 : w.cell? ((⟨a.block, a.off, none⟩ : Addr).add (i * 2)) = some (V0 i) := by rw [addr_eq hsp.1]; exact h0
      have k1 : w.cell? ((⟨a.block, a.off, none⟩ : Addr).add (i * 2 + 1)) = some (V1 i) := by rw [addr_eq hsp.1]; exact h1
      rw [addr_add] at k0 k1
      exact ⟨hsp.1, hsp.2, by simpa using k0, k1⟩
    have res : RepI (fun b => b = a.block ∧ 0 < len) w (.lst (es.map encE)) (.slice (some a) (es.map encE).length cap) := by
      refine .lst _ (some a) cap 2 (fun i j => if j = 0 then V0 i else V1 i) (by omega) hm (fun i e h => by rw [(key i e h).2]; rfl) (fun i e h => ?_) (fun i e j p h hp => ?_) (fun i e j p h hp => ?_)
      · obtain ⟨hi, rfl⟩ := key i e h
        obtain ⟨h0, h1, h2, h3⟩ := hcell i hi
        refine ⟨a, rfl, h0, ⟨rfl, by omega⟩, fun j p hp => ?_⟩
        match j, hp with
        | 0, hp => exact h2
        | 1, hp => exact h3
        | j + 2, hp => simp [encE] at hp
      · obtain ⟨hi, rfl⟩ := key i e h
        obtain ⟨⟨a0, -⟩, ⟨a1, -⟩⟩ := each i hi
        match j, hp with
        | 0, hp => simp [encE] at hp; subst hp; simp only [if_true]; rw [a0]; exact .v _
        | 1, hp => simp [encE] at hp; subst hp; simp only [Nat.one_ne_zero, if_false]; rw [a1]; exact .v _
        | j + 2, hp => simp [encE] at hp
      · obtain ⟨hi, rfl⟩ := key i e h
        obtain ⟨⟨a0, -⟩, ⟨a1, -⟩⟩ := each i hi
        match j, hp with
        | 0, hp => simp only [if_true]; rw [a0]; rfl
        | 1, hp => simp only [Nat.one_ne_zero, if_false]; rw [a1]; rfl
        | j + 2, hp => simp [encE] at hp
    rw [hel] at res
    refine ⟨_, es, fun b => b = a.block ∧ 0 < len, rfl, fun q hq => ?_, by omega, fun b hb => ?_, res⟩
    · simp only [es, List.mem_map, List.mem_range] at hq
      obtain ⟨i, hi, rfl⟩ := hq
      exact ⟨(each i hi).1.2, (each i hi).2.2⟩
    · obtain ⟨rfl, hp⟩ := hb
      exact (hcell 0 hp).2.1
/-- A graph that came in. -/
theorem graph_in {H : Type} {enc : TypeId × Value → H} {P : Program} {w : World} {spare : Nat → Bool} {held : Bool} {r : Reach} {b0 : Nat} {g e : TypeId} {g0 g1 f0 f1 : Field} {v : Value} {d : DataW H} {p : List MemPlace}
    (hg : P.underlying g = some (.struct #[g0, g1])) (hone : oneCellFields P #[g0, g1] = true) (hC : P.cellsOf g = 2) (hi : P.underlying g0.type = some (.int .i64)) (ht : P.underlying g1.type = some (.slice e))
    (he : P.underlying e = some (.struct #[f0, f1])) (ce : P.cellsOf e = 2) (o0 : f0.offset = 0) (o1 : f1.offset = 1) (c0 : P.cellsOf f0.type = 1) (c1 : P.cellsOf f1.type = 1)
    (i0 : P.underlying f0.type = some (.int .i64)) (i1 : P.underlying f1.type = some (.int .i64)) (hv : Value.okWide P w r b0 g v) (h : DataW.Trod enc P w 0 spare held g v d p) :
    ∃ (n : Int) (es : List (Int × Int)) (F : Nat → Prop), okI n ∧ (∀ q ∈ es, okI q.1 ∧ okI q.2) ∧ (es.length ≤ 9223372036854775807) ∧ (∀ b, F b → b < w.heap.size) ∧ RepP (mp []) (fun _ => ⟨0, 0, 0⟩) F w (GL n es) v := by
  obtain ⟨v0, v1, y0, y1, k, rfl, -, -, h0, h1⟩ := open_agg2 hg hone hC hv h
  obtain ⟨n, e0, -, w0⟩ := DataW.trod_int hi h0
  obtain ⟨u, es, F, e1, hq, hl, hF, hr⟩ := edges_in ht he ce o0 o1 c0 c1 i0 i1 h1
  simp only [List.cons.injEq, and_true] at e0 e1
  subst e0 e1
  refine ⟨n, es, F, bounds_i64 w0, hq, hl, hF, .agg [I n, LE es] [_, _] rfl fun j p v h1 h2 => ?_⟩
  match j, h1, h2 with
  | 0, h1, h2 => cases h1; cases h2; exact .i (.v _)
  | 1, h1, h2 => cases h1; cases h2; exact .i hr
  | j + 2, h1, h2 => simp at h1
/-- An edge that came in. -/
theorem edge_in {H : Type} {enc : TypeId × Value → H} {P : Program} {w : World} {spare : Nat → Bool} {held : Bool} {r : Reach} {b0 : Nat} {e : TypeId} {f0 f1 : Field} {v : Value} {d : DataW H} {p : List MemPlace} (F : Nat → Prop)
    (he : P.underlying e = some (.struct #[f0, f1])) (hone : oneCellFields P #[f0, f1] = true) (hC : P.cellsOf e = 2) (i0 : P.underlying f0.type = some (.int .i64)) (i1 : P.underlying f1.type = some (.int .i64))
    (hv : Value.okWide P w r b0 e v) (h : DataW.Trod enc P w 0 spare held e v d p) : ∃ a b : Int, okI a ∧ okI b ∧ RepP (mp []) (fun _ => ⟨0, 0, 0⟩) F w (PE a b) v := by
  obtain ⟨v0, v1, y0, y1, k, rfl, -, -, h0, h1⟩ := open_agg2 he hone hC hv h
  obtain ⟨a, e0, -, w0⟩ := DataW.trod_int i0 h0
  obtain ⟨b, e1, -, w1⟩ := DataW.trod_int i1 h1
  simp only [List.cons.injEq, and_true] at e0 e1
  subst e0 e1
  refine ⟨a, b, bounds_i64 w0, bounds_i64 w1, .agg [I a, I b] [_, _] rfl fun j p v h1 h2 => ?_⟩
  match j, h1, h2 with
  | 0, h1, h2 => cases h1; cases h2; exact .i (.v _)
  | 1, h1, h2 => cases h1; cases h2; exact .i (.v _)
  | j + 2, h1, h2 => simp at h1
/-- A number that came in. -/
theorem int_in {H : Type} {enc : TypeId × Value → H} {P : Program} {w : World} {spare : Nat → Bool} {held : Bool} {r : Reach} {b0 : Nat} {t : TypeId} {v : Value} {d : DataW H} {p : List MemPlace} (F : Nat → Prop)
    (i0 : P.underlying t = some (.int .i64)) (hv : Value.okWide P w r b0 t v) (h : DataW.Trod enc P w 0 spare held t v d p) : ∃ x : Int, okI x ∧ RepP (mp []) (fun _ => ⟨0, 0, 0⟩) F w (I x) v := by
  obtain ⟨x, rfl, -, -, w0⟩ := open_int i0 hv h
  exact ⟨x, bounds_i64 w0, .i (.v _)⟩
inductive All2 {α β : Type} (R : α → β → Prop) : List α → List β → Prop
  | nil : All2 R [] []
  | cons {a : α} {b : β} {l : List α} {r : List β} (h : R a b) (t : All2 R l r) : All2 R (a :: l) (b :: r)
theorem rep_many {F : Nat → Prop} {w : World} {ps : List PV} {vs : List Value} (h : All2 (fun p v => RepP (mp []) (fun _ => ⟨0, 0, 0⟩) F w p v) ps vs) :
    ps.length = vs.length ∧ ∀ (j : Nat) (p : PV) (v : Value), ps[j]? = some p → vs[j]? = some v → RepP (mp []) (fun _ => ⟨0, 0, 0⟩) F w p v := by
  induction h with
  | nil => exact ⟨rfl, fun j p v h => by simp at h⟩
  | cons h0 _ ih =>
    refine ⟨by simp [ih.1], fun j p v h1 h2 => ?_⟩
    match j, h1, h2 with
    | 0, h1, h2 => cases h1; cases h2; exact h0
    | j + 1, h1, h2 => exact ih.2 j p v h1 h2
end Go.Proofs.Ytdlfdoicheakoaa.X
