/- From what the interpreter says of a law over lists of operations to the statement's own walk. -/
import Derived.Test.YtjffaedlmplcnaaLawX
import Derived.Test.YtjffaedlmplcnaaC86
set_option linter.unusedVariables false
namespace Go.Proofs.Ytjffaedlmplcnaa.X
open Go Go.Proofs Go.RowKit Go.ChangeShapes Go.WideShapes Go.Joins Go.Deep
/-- A slice of rows of three cells: a number, and a pair. -/
theorem open_slice_ops {H : Type} {enc : TypeId × Value → H} {P : Program} {w : World} {base : Nat} {spare : Nat → Bool} {held : Bool} {t e : TypeId} {g0 g1 f0 f1 : Field} {fuel : Nat} {cs : List Value} {x : DataW H × List MemPlace}
    (ht : P.underlying t = some (.slice e)) (he : P.underlying e = some (.struct #[g0, g1])) (ce : P.cellsOf e = 3) (q0 : g0.offset = 0) (q1 : g1.offset = 1) (d0 : P.cellsOf g0.type = 1) (d1 : P.cellsOf g1.type = 2)
    (hg : P.underlying g1.type = some (.struct #[f0, f1])) (o0 : f0.offset = 0) (o1 : f1.offset = 1) (c0 : P.cellsOf f0.type = 1) (c1 : P.cellsOf f1.type = 1)
    (h : DataW.trod enc P w base spare held fuel t cs = some x) :
    cs = [.slice none 0 0] ∨
    ∃ (a : Addr) (len cap m : Nat) (V0 V1 V2 : Nat → Value), cs = [.slice (some a) len cap] ∧ len ≤ cap ∧ cap ≤ maxLen ∧ m = (if spare a.block then cap else len) ∧
      ∀ i, i < m → w.cell? (a.add (i * 3)) = some (V0 i) ∧ w.cell? (a.add (i * 3 + 1)) = some (V1 i) ∧ w.cell? (a.add (i * 3 + 2)) = some (V2 i) ∧
        (∃ n y, DataW.trod enc P w base spare held n g0.type [V0 i] = some y) ∧ (∃ n y, DataW.trod enc P w base spare held n f0.type [V1 i] = some y) ∧ ∃ n y, DataW.trod enc P w base spare held n f1.type [V2 i] = some y := by
  rcases open_slice ht h with h0 | ⟨a, len, cap, m, n, D, Pl, rfl, hb, hl, hm, hmm, rfl, hx⟩
  · exact .inl h0.1
  right
  have each : ∀ i, i < m → ∃ q : Value × Value × Value, w.cell? (a.add (i * 3)) = some q.1 ∧ w.cell? (a.add (i * 3 + 1)) = some q.2.1 ∧ w.cell? (a.add (i * 3 + 2)) = some q.2.2 ∧
      (∃ n y, DataW.trod enc P w base spare held n g0.type [q.1] = some y) ∧ (∃ n y, DataW.trod enc P w base spare held n f0.type [q.2.1] = some y) ∧ ∃ n y, DataW.trod enc P w base spare held n f1.type [q.2.2] = some y := by
    intro i hi
    obtain ⟨cs', h1, h2⟩ := hx i hi
    rw [ce] at h1
    obtain ⟨_, hlen, hcell⟩ := World.cells?_some h1
    obtain ⟨xs, k, hk, hxy, _, hxl, hf⟩ := DataW.trod_struct he h2
    match xs, hxl, cs', hlen with
    | [y0, y1], _, [v0, v1, v2], _ =>
      have k0 := hf 0 g0 rfl
      have k1 := hf 1 g1 rfl
      simp [q0, q1, d0, d1] at k0 k1
      obtain ⟨zs, k', hk', hz, _, hzl, hzf⟩ := DataW.trod_struct hg k1
      match zs, hzl with
      | [z0, z1], _ =>
        have l0 := hzf 0 f0 rfl
        have l1 := hzf 1 f1 rfl
        simp [o0, o1, c0, c1] at l0 l1
        have e0 := hcell 0 (by omega)
        have e1 := hcell 1 (by omega)
        have e2 := hcell 2 (by omega)
        rw [add_add] at e0 e1 e2
        exact ⟨(v0, v1, v2), by simpa using e0, by simpa using e1, by simpa using e2, ⟨_, _, k0⟩, ⟨_, _, l0⟩, ⟨_, _, l1⟩⟩
  obtain ⟨q, hq⟩ := choose_lt each
  exact ⟨a, len, cap, m, fun i => (q i).1, fun i => (q i).2.1, fun i => (q i).2.2, rfl, hl, hm, hmm, hq⟩
/-- A row of operations that came in. -/
theorem ops_in {H : Type} {enc : TypeId × Value → H} {P : Program} {w : World} {spare : Nat → Bool} {held : Bool} {r : Reach} {b0 : Nat} {t e : TypeId} {g0 g1 f0 f1 : Field} {v : Value} {d : DataW H} {p : List MemPlace}
    (ht : P.underlying t = some (.slice e)) (he : P.underlying e = some (.struct #[g0, g1])) (ce : P.cellsOf e = 3) (q0 : g0.offset = 0) (q1 : g1.offset = 1) (d0 : P.cellsOf g0.type = 1) (d1 : P.cellsOf g1.type = 2)
    (hg : P.underlying g1.type = some (.struct #[f0, f1])) (o0 : f0.offset = 0) (o1 : f1.offset = 1) (c0 : P.cellsOf f0.type = 1) (c1 : P.cellsOf f1.type = 1)
    (i0 : P.underlying g0.type = some (.int .i64)) (i1 : P.underlying f0.type = some (.int .i64)) (i2 : P.underlying f1.type = some (.int .i64)) (hv : Value.okWide P w r b0 t v) (h : DataW.Trod enc P w 0 spare held t v d p) :
    ∃ (ops : List Op3) (F : Nat → Prop), (∀ q ∈ ops, okI q.1 ∧ okI q.2.1 ∧ okI q.2.2) ∧ (ops.length ≤ 9223372036854775807) ∧ (∀ b, F b → b < w.heap.size) ∧ RepP (mp []) (fun _ => ⟨0, 0, 0⟩) F w (LO ops) v := by
  obtain ⟨a0, len0, cap0, rfl⟩ := okWide_slice ht hv
  obtain ⟨fuel, hf⟩ := h
  have hf' : DataW.trod enc P w 0 spare held fuel t [.slice a0 len0 cap0] = some (d, p) := by simpa [Value.cells] using hf
  rcases open_slice_ops ht he ce q0 q1 d0 d1 hg o0 o1 c0 c1 hf' with h0 | ⟨a, len, cap, m, V0, V1, V2, h0, hl, hm, hmm, hx⟩
  · simp only [List.cons.injEq, Value.slice.injEq, and_true] at h0
    obtain ⟨rfl, rfl, rfl⟩ := h0
    exact ⟨[], fun _ => False, by simp, by simp, fun _ h => h.elim, .i (.lst [] none 0 3 (fun _ _ => .int .u8 0) (Nat.le_refl _) (by decide) (fun i e h => by simp at h) (fun i e h => by simp at h) (fun i e j p h => by simp at h) (fun i e j p h => by simp at h))⟩
  · simp only [List.cons.injEq, Value.slice.injEq, and_true] at h0
    obtain ⟨rfl, rfl, rfl⟩ := h0
    have hlm : len0 ≤ m := by rw [hmm]; split <;> omega
    have each : ∀ i, i < len0 → (V0 i = .int .i64 (valI (V0 i)) ∧ okI (valI (V0 i))) ∧ (V1 i = .int .i64 (valI (V1 i)) ∧ okI (valI (V1 i))) ∧ (V2 i = .int .i64 (valI (V2 i)) ∧ okI (valI (V2 i))) := fun i hi => by
      obtain ⟨-, -, -, ⟨_, _, h0⟩, ⟨_, _, h1⟩, ⟨_, _, h2⟩⟩ := hx i (by omega)
      obtain ⟨p, e0, -, w0⟩ := DataW.trod_int i0 h0
      obtain ⟨q, e1, -, w1⟩ := DataW.trod_int i1 h1
      obtain ⟨s, e2, -, w2⟩ := DataW.trod_int i2 h2
      simp only [List.cons.injEq, and_true] at e0 e1 e2
      rw [e0, e1, e2]
      exact ⟨⟨rfl, bounds_i64 w0⟩, ⟨rfl, bounds_i64 w1⟩, ⟨rfl, bounds_i64 w2⟩⟩
    have hml : maxLen ≤ 9223372036854775807 := by decide
    let ops : List Op3 := (List.range len0).map fun i => (valI (V0 i), valI (V1 i), valI (V2 i))
    have hes : ops.length = len0 := by simp [ops]
    have hel : (ops.map encO).length = len0 := by simp [ops]
    have key : ∀ (i : Nat) (e : List IV), (ops.map encO)[i]? = some e → i < len0 ∧ e = encO (valI (V0 i), valI (V1 i), valI (V2 i)) := by
      intro i e h
      simp only [ops, List.map_map, List.getElem?_map, Option.map_eq_some_iff] at h
      obtain ⟨k, hk, rfl⟩ := h
      obtain ⟨h1, h2⟩ := List.getElem?_eq_some_iff.1 hk
      simp only [List.length_range] at h1
      simp only [List.getElem_range] at h2
      subst h2
      exact ⟨h1, rfl⟩
    have hcell : ∀ i, i < len0 → a.spot = none ∧ a.block < w.heap.size ∧ w.cell? ⟨a.block, a.off + (i * 3 + 0), none⟩ = some (V0 i) ∧ w.cell? ⟨a.block, a.off + (i * 3 + 1), none⟩ = some (V1 i) ∧ w.cell? ⟨a.block, a.off + (i * 3 + 2), none⟩ = some (V2 i) := fun i hi => by
      obtain ⟨h0, h1, h2, -, -, -⟩ := hx i (by omega)
      obtain ⟨h00, -⟩ := hx 0 (by omega)
      have e0 : a.add (0 * 3) = a := by simp [Addr.add]
      rw [e0] at h00
      have hsp : a.spot = none ∧ a.block < w.heap.size := by
        unfold World.cell? at h00
        split at h00
        · rename_i hh
          split at h00
          · cases h00
          · rename_i hs
            refine ⟨?_, (Array.getElem?_eq_some_iff.1 hh).1⟩
            cases hq : a.spot with
            | none => rfl
            | some y => rw [hq] at hs; simp at hs
        · cases h00
      have k0 : w.cell? ((⟨a.block, a.off, none⟩ : Addr).add (i * 3)) = some (V0 i) := by rw [addr_eq hsp.1]; exact h0
      have k1 : w.cell? ((⟨a.block, a.off, none⟩ : Addr).add (i * 3 + 1)) = some (V1 i) := by rw [addr_eq hsp.1]; exact h1
      have k2 : w.cell? ((⟨a.block, a.off, none⟩ : Addr).add (i * 3 + 2)) = some (V2 i) := by rw [addr_eq hsp.1]; exact h2
      rw [addr_add] at k0 k1 k2
      exact ⟨hsp.1, hsp.2, by simpa using k0, k1, k2⟩
    have res : RepI (fun b => b = a.block ∧ 0 < len0) w (.lst (ops.map encO)) (.slice (some a) (ops.map encO).length cap0) := by
      refine .lst _ (some a) cap0 3 (fun i j => if j = 0 then V0 i else if j = 1 then V1 i else V2 i) (by omega) hm (fun i e h => by rw [(key i e h).2]; rfl) (fun i e h => ?_) (fun i e j p h hp => ?_) (fun i e j p h hp => ?_)
      · obtain ⟨hi, rfl⟩ := key i e h
        obtain ⟨h0, h1, h2, h3, h4⟩ := hcell i hi
        refine ⟨a, rfl, h0, ⟨rfl, by omega⟩, fun j p hp => ?_⟩
        match j, hp with
        | 0, hp => exact h2
        | 1, hp => exact h3
        | 2, hp => exact h4
        | j + 3, hp => simp [encO] at hp
      · obtain ⟨hi, rfl⟩ := key i e h
        obtain ⟨⟨a0, -⟩, ⟨a1, -⟩, ⟨a2, -⟩⟩ := each i hi
        match j, hp with
        | 0, hp => simp [encO] at hp; subst hp; simp only [if_true]; rw [a0]; exact .v _
        | 1, hp => simp [encO] at hp; subst hp; simp only [Nat.one_ne_zero, if_false, if_true]; rw [a1]; exact .v _
        | 2, hp => simp [encO] at hp; subst hp; simp only [show ¬ (2 : Nat) = 0 by omega, show ¬ (2 : Nat) = 1 by omega, if_false]; rw [a2]; exact .v _
        | j + 3, hp => simp [encO] at hp
      · obtain ⟨hi, rfl⟩ := key i e h
        obtain ⟨⟨a0, -⟩, ⟨a1, -⟩, ⟨a2, -⟩⟩ := each i hi
        match j, hp with
        | 0, hp => simp only [if_true]; rw [a0]; rfl
        | 1, hp => simp only [Nat.one_ne_zero, if_false, if_true]; rw [a1]; rfl
        | 2, hp => simp only [show ¬ (2 : Nat) = 0 by omega, show ¬ (2 : Nat) = 1 by omega, if_false]; rw [a2]; rfl
        | j + 3, hp => simp [encO] at hp
    rw [hel] at res
    refine ⟨ops, fun b => b = a.block ∧ 0 < len0, fun q hq => ?_, by omega, fun b hb => ?_, .i res⟩
    · simp only [ops, List.mem_map, List.mem_range] at hq
      obtain ⟨i, hi, rfl⟩ := hq
      obtain ⟨⟨-, k0⟩, ⟨-, k1⟩, ⟨-, k2⟩⟩ := each i hi
      exact ⟨k0, k1, k2⟩
    · obtain ⟨rfl, hp⟩ := hb
      exact (hcell 0 hp).2.1
end Go.Proofs.Ytjffaedlmplcnaa.X
