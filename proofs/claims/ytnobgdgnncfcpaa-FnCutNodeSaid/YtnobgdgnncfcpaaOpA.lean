/- Soundness of the operations that turn no memory. -/
import Derived.Test.YtnobgdgnncfcpaaRel
namespace Go.Proofs.Ytnobgdgnncfcpaa.X
open Go

/-- What a computation over sites gives, whatever it has looked at. -/
def Mm.gives {α : Type} (x : Mm α) (m : Mem) (a : α) : Prop := ∃ rd, x.run m = some (a, rd)

namespace Mm
variable {α β : Type} {m : Mem}
theorem gives_ret {a b : α} : (Mm.ret a).gives m b ↔ a = b := by simp [gives, run]
theorem gives_fail {b : α} : (Mm.fail : Mm α).gives m b ↔ False := by simp [gives, run]
theorem run_bind (x : Mm α) (f : α → Mm β) : (x.bind f).run m = match x.run m with | some (a, r) => (match (f a).run m with | some (b, r') => some (b, r ++ r') | none => none) | none => none := by
  induction x with
  | ret a => simp only [bind, run]; cases (f a).run m <;> simp
  | fail => rfl
  | get s k ih =>
    simp only [bind, run, ih]
    cases (k (m s)).run m with
    | none => rfl
    | some ar => cases hh : (f ar.1).run m <;> simp [hh]
theorem gives_bind {x : Mm α} {f : α → Mm β} {b : β} : (x.bind f).gives m b ↔ ∃ a, x.gives m a ∧ (f a).gives m b := by
  simp only [gives, run_bind]
  constructor
  · rintro ⟨rd, h⟩
    cases hx : x.run m with
    | none => simp [hx] at h
    | some ar =>
      cases hf : (f ar.1).run m with
      | none => simp [hx, hf] at h
      | some br => refine ⟨ar.1, ⟨ar.2, rfl⟩, br.2, ?_⟩; simp [hx, hf] at h; rw [hf, ← h.1]
  · rintro ⟨a, ⟨r, hr⟩, r', hr'⟩
    exact ⟨r ++ r', by simp [hr, hr']⟩
theorem gives_get {s : Nat} {k : Option Arr → Mm α} {b : α} : (Mm.get s k).gives m b ↔ (k (m s)).gives m b := by
  simp only [gives, run]
  constructor
  · rintro ⟨rd, h⟩
    cases hx : (k (m s)).run m with
    | none => simp [hx] at h
    | some ar => simp [hx] at h; exact ⟨ar.2, by rw [← h.1]⟩
  · rintro ⟨r, hr⟩; exact ⟨s :: r, by simp [hr]⟩
theorem gives_chk {c : Bool} {x : Mm α} {b : α} : (chk c x).gives m b ↔ c = true ∧ x.gives m b := by cases c <;> simp [chk, gives_fail]
theorem gives_opt {o : Option α} {b : α} : (opt o).gives m b ↔ o = some b := by cases o <;> simp [opt, gives_fail, gives_ret]
theorem gives_mapL_nil {f : α → Mm β} {l : List β} : (mapL f []).gives m l ↔ l = [] := by simp [mapL, gives_ret, eq_comm]
theorem gives_mapL_cons {f : α → Mm β} {a : α} {r : List α} {l : List β} : (mapL f (a :: r)).gives m l ↔ ∃ b bs, (f a).gives m b ∧ (mapL f r).gives m bs ∧ l = b :: bs := by
  simp only [mapL, gives_bind, gives_ret]
  constructor
  · rintro ⟨b, h1, bs, h2, rfl⟩; exact ⟨b, bs, h1, h2, rfl⟩
  · rintro ⟨b, bs, h1, h2, rfl⟩; exact ⟨b, h1, bs, h2, rfl⟩
theorem mapL_length {f : α → Mm β} : ∀ {a : List α} {l : List β}, (mapL f a).gives m l → l.length = a.length
  | [], l, h => by rw [gives_mapL_nil] at h; simp [h]
  | x :: r, l, h => by
    obtain ⟨b, bs, _, h2, rfl⟩ := gives_mapL_cons.1 h
    simp [mapL_length h2]
theorem mapL_get {f : α → Mm β} : ∀ {a : List α} {l : List β}, (mapL f a).gives m l → ∀ (j : Nat) (x : α), a[j]? = some x → ∃ y, l[j]? = some y ∧ (f x).gives m y
  | [], l, h, j, x, hx => by simp at hx
  | y :: r, l, h, j, x, hx => by
    obtain ⟨b, bs, h1, h2, rfl⟩ := gives_mapL_cons.1 h
    cases j with
    | zero => simp at hx; subst hx; exact ⟨b, by simp, h1⟩
    | succ j => simp at hx; obtain ⟨z, hz, hf⟩ := mapL_get h2 j x hx; exact ⟨z, by simpa using hz, hf⟩
theorem mapL_get' {f : α → Mm β} {a : List α} {l : List β} (h : (mapL f a).gives m l) (j : Nat) (y : β) (hy : l[j]? = some y) : ∃ x, a[j]? = some x ∧ (f x).gives m y := by
  have hl := mapL_length h
  have hj : j < a.length := by rw [← hl]; exact (List.getElem?_eq_some_iff.1 hy).1
  obtain ⟨z, hz, hf⟩ := mapL_get h j a[j] (by simp [hj])
  rw [hy] at hz; cases hz
  exact ⟨a[j], by simp [hj], hf⟩
end Mm

section
variable {P : Program}

theorem repI_constC {F : Nat → Prop} {w : World} (v : Value) : RepI F w (constC v) v := by
  unfold constC
  split
  · exact .emp none
  · exact .v _

theorem repP_constP {m : Mem} {γ : Nat → GB} {F : Nat → Prop} {w : World} (v : Value) : RepP m γ F w (constP v) v := by
  unfold constP
  split
  · rename_i cs
    have : RepP m γ F w (.agg (cs.toList.map fun c => .i (constC c))) (.agg cs.toList.toArray) := by
      refine .agg _ cs.toList (by simp) fun j p v hp hv => ?_
      simp only [List.getElem?_map, hv, Option.map_some, Option.some.injEq] at hp
      subst hp
      exact .i (repI_constC v)
    simpa using this
  · exact .bad _
  · rename_i f first caps
    split
    · rename_i h
      have h1 : first = #[] := Array.eq_empty_of_size_eq_zero h.1
      have h2 : caps = #[] := Array.eq_empty_of_size_eq_zero h.2
      subst h1; subst h2
      exact .fn f [] [] [] [] rfl rfl (by simp) (by simp)
    · exact .bad _
  · exact .i (repI_constC _)

theorem opnd_rep {m : Mem} {γ : Nat → GB} {F : Nat → Prop} {w : World} {ρ : Nat → PV} {a : Act} (h : ∀ t, RepP m γ F w (ρ t) (a.tmps.getD t undef)) (x : Operand) :
    RepP m γ F w (opnd ρ x) (a.eval x) := by
  cases x with
  | tmp t => exact h t
  | const v => exact repP_constP v
  | func f => exact .fn f [] [] [] [] rfl rfl (by simp) (by simp)
  | global g => exact .bad _

/-- The operation does, in memory, what the interpreter says. -/
def Does (P : Program) (o : Oper) (a : Act) (w : World) (m : Mem) (γ : Nat → GB) (F : Nat → Prop) (out : PV) (wr : List (Nat × Arr)) : Prop :=
  ∀ (K : Act → World → Prop) (Q : Exit → Act → World → Prop),
    (∀ v γ' F' w', Inv (updL m wr) γ' F' w' → MemStep m γ (updL m wr) γ' → FStep m γ F w F' → Stp m γ w (updL m wr) γ' w' → RepP (updL m wr) γ' F' w' out v → K (a.put o.dst v) w') → o.wp P a w K Q

theorem does_of_run {o : Oper} {a : Act} {w w' : World} {m : Mem} {γ γ' : Nat → GB} {F F' : Nat → Prop} {out : PV} {wr : List (Nat × Arr)} {v : Value}
    (h : (execOp a.eval o).run P w = .ok (.value v) w') (hi : Inv (updL m wr) γ' F' w') (hm : MemStep m γ (updL m wr) γ') (hF : FStep m γ F w F')
    (hs : Stp m γ w (updL m wr) γ' w') (hr : RepP (updL m wr) γ' F' w' out v) : Does P o a w m γ F out wr := by
  intro K Q hK
  simp only [Oper.wp, Oper.upon, h]
  exact hK v γ' F' w' hi hm hF hs hr

theorem does_pure {o : Oper} {a : Act} {w : World} {m : Mem} {γ : Nat → GB} {F : Nat → Prop} {out : PV} {v : Value} (hi : Inv m γ F w)
    (h : (execOp a.eval o).run P w = .ok (.value v) w) (hr : RepP m γ F w out v) : Does P o a w m γ F out [] :=
  does_of_run h hi (MemStep.refl _ _) (FStep.refl ..) (Stp.refl _ _ _) hr

theorem run_sz {t : TypeId} {n : Nat} (h : szOf P t = some n) (w : World) : (sizeOf t).run P w = .ok n w := by
  simp only [szOf, Option.map_eq_some_iff] at h
  obtain ⟨i, hi, rfl⟩ := h
  simp [sizeOf, typeInfo, hi]
theorem run_zero {t : TypeId} {z : List IV} (h : zeroC P t = some z) (w : World) : ∃ v, (zeroValue t).run P w = .ok v w ∧ v.cells.toList.map constC = z := by
  simp only [zeroC, Option.map_eq_some_iff, Option.bind_eq_some_iff] at h
  obtain ⟨v, ⟨i, hi, hz⟩, rfl⟩ := h
  exact ⟨v, by simp [zeroValue, typeInfo, hi, hz], rfl⟩
theorem run_und {t : TypeId} {d : TypeDesc} (h : P.underlying t = some d) (w : World) : (underlying t).run P w = .ok d w := run_underlying h w
theorem run_agg {t : TypeId} {b : Bool} (h : isAggT P t = some b) (w : World) : (isAgg t).run P w = .ok b w := by
  simp only [isAggT, Option.map_eq_some_iff] at h
  obtain ⟨d, hd, rfl⟩ := h
  cases d <;> simp [isAgg, run_underlying hd]
theorem elemT_eq {t e : TypeId} (h : elemT P t = some e) : P.underlying t = some (.slice e) := by
  unfold elemT at h
  split at h
  · rename_i e' he; cases h; exact he
  · cases h

theorem asInt_eq {m : Mem} {γ : Nat → GB} {F : Nat → Prop} {w : World} {p : PV} {v : Value} {n : Int} (h : asInt p = some n) (hr : RepP m γ F w p v) : ∃ k, v = .int k n := by
  unfold asInt at h
  split at h
  · cases h; cases hr with | i hr => cases hr; exact ⟨_, rfl⟩
  · cases h
theorem asBoolP_eq {m : Mem} {γ : Nat → GB} {F : Nat → Prop} {w : World} {p : PV} {v : Value} {b : Bool} (h : asBoolP p = some b) (hr : RepP m γ F w p v) : v = .bool b := by
  unfold asBoolP at h
  split at h
  · cases h; cases hr with | i hr => cases hr; rfl
  · cases h

theorem addr_add (g o n : Nat) : (⟨g, o, none⟩ : Addr).add n = ⟨g, o + n, none⟩ := by unfold Addr.add; split <;> simp_all

/-- The cells that a place leads to. -/
def CellsAt (m : Mem) (γ : Nat → GB) (F : Nat → Prop) (w : World) (g o : Nat) (cs : List PV) : Prop :=
  ∀ (j : Nat) (p : PV), cs[j]? = some p → ∃ x : Value, w.cell? ⟨g, o + j, none⟩ = some x ∧ x.oneCell' = true ∧ RepP m γ F w p x

theorem rdAt_cells {m : Mem} {γ : Nat → GB} {F : Nat → Prop} {w : World} (hi : Inv m γ F w) {p : PV} {v : Value} {cs : List PV} {off : Nat}
    (h : (rdAt p).gives m (cs, off)) (hr : RepP m γ F w p v) : ∃ g o, v = .pointer (some ⟨g, o + off, none⟩) ∧ CellsAt m γ F w g o cs := by
  cases hr with
  | ptr s ver i off' a A h1 h2 h3 =>
    simp only [rdAt, Mm.gives_get, h1] at h
    have hh := hi.holds s A h1
    cases A with
    | arr v k xs =>
      simp only [Mm.gives_chk, beq_iff_eq] at h
      obtain ⟨rfl, h⟩ := h
      cases he : xs[i]? with
      | none => simp [he, Mm.gives_fail] at h
      | some e =>
        simp only [he, Mm.gives_ret, Prod.mk.injEq] at h
        obtain ⟨rfl, rfl⟩ := h
        obtain ⟨hi', rfl⟩ := h3 rfl
        obtain ⟨cur, E, hb, _, _, _, hc⟩ := hh
        refine ⟨_, _, rfl, fun j p hp => ?_⟩
        simp only [List.getElem?_map, Option.map_eq_some_iff] at hp
        obtain ⟨q, hq, rfl⟩ := hp
        obtain ⟨x, hx, ho, hr⟩ := (hc i e he).2 j q hq
        exact ⟨x, by rw [cell_of_row w _ _ cur E (0, 0) hb]; exact hx, ho, .i hr⟩
    | box v cs' =>
      simp only [Mm.gives_chk, Bool.and_eq_true, beq_iff_eq, Mm.gives_ret, Prod.mk.injEq] at h
      obtain ⟨⟨rfl, rfl⟩, rfl, rfl⟩ := h
      obtain ⟨_, rfl⟩ := h3 rfl
      obtain ⟨cur, E, hb, _, hc⟩ := hh
      refine ⟨(γ s).g, 0, by simp, fun j p hp => ?_⟩
      obtain ⟨x, hx, ho, hr⟩ := hc j p hp
      exact ⟨x, by rw [cell_of_row w _ _ cur E (0, 0) hb]; simpa using hx, ho, hr⟩
    | dead v => simp [Mm.gives_fail] at h
  | i hr =>
    cases hr with
    | eptr e off' g o c h1 h2 h3 h4 =>
      simp only [rdAt, Mm.gives_ret, Prod.mk.injEq] at h
      obtain ⟨rfl, rfl⟩ := h
      refine ⟨g, o, rfl, fun j p hp => ?_⟩
      simp only [List.getElem?_map, Option.map_eq_some_iff] at hp
      obtain ⟨q, hq, rfl⟩ := hp
      exact ⟨c j, h2 j q hq, h4 j q hq, .i (h3 j q hq)⟩
    | _ => simp [rdAt, Mm.gives_fail] at h
  | _ => simp [rdAt, Mm.gives_fail] at h

theorem takeT_load {m : Mem} {γ : Nat → GB} {F : Nat → Prop} {w : World} {t : TypeId} {cs : List PV} {off g o : Nat} {p : PV}
    (h : (takeT P t cs off).gives m p) (hc : CellsAt m γ F w g o cs) :
    ∃ v, (loadVar t ⟨g, o + off, none⟩).run P w = .ok v w ∧ RepP m γ F w p v := by
  unfold takeT at h
  split at h
  · rename_i n ha hs
    simp only [Mm.gives_chk, decide_eq_true_eq, Mm.gives_ret] at h
    obtain ⟨hn, rfl⟩ := h
    have hx : ∀ j, ∃ x : Value, j < n → w.cell? ⟨g, o + off + j, none⟩ = some x ∧ RepP m γ F w (((cs.drop off).take n).getD j .bad) x := fun j => by
      by_cases hj : j < n
      · have hlt : off + j < cs.length := by omega
        obtain ⟨x, hx, _, hr⟩ := hc (off + j) cs[off + j] (by simp [hlt])
        refine ⟨x, fun _ => ⟨by rw [← hx]; congr 2; omega, ?_⟩⟩
        have : ((cs.drop off).take n).getD j .bad = cs[off + j] := by simp [List.getD, hj, List.getElem?_drop, hlt]
        rw [this]; exact hr
      · exact ⟨undef, fun h => absurd h hj⟩
    obtain ⟨x, hx⟩ := Classical.axiomOfChoice hx
    refine ⟨.agg ((List.range n).map x).toArray, ?_, ?_⟩
    · simp only [loadVar, Sem.run_bind, run_agg ha, Result.andThen_ok, if_true, run_sz hs]
      rw [run_loadCells w _ n x fun j hj => by rw [addr_add]; exact (hx j hj).1]
      rfl
    · refine .agg _ _ (by simp; omega) fun j p v hp hv => ?_
      have hj : j < n := by
        have := (List.getElem?_eq_some_iff.1 hv).1
        simpa using this
      simp only [List.getElem?_map, List.getElem?_range hj, Option.map_some, Option.some.injEq] at hv
      subst hv
      have := (hx j hj).2
      simp only [List.getD, hp, Option.getD_some] at this
      exact this
  · rename_i ha
    rw [Mm.gives_opt] at h
    obtain ⟨x, hx, _, hr⟩ := hc off p h
    refine ⟨x, ?_, hr⟩
    simp only [loadVar, Sem.run_bind, run_agg ha, Result.andThen_ok, Bool.false_eq_true, if_false, run_load, hx]
  · simp [Mm.gives_fail] at h

end
end Go.Proofs.Ytnobgdgnncfcpaa.X
