/- Soundness, operation by operation: those that turn no memory. -/
import Derived.Test.YtnobgdgnncfcpaaOpA
namespace Go.Proofs.Ytnobgdgnncfcpaa.X
open Go

section
variable {P : Program} {o : Oper} {a : Act} {w : World} {m : Mem} {γ : Nat → GB} {F : Nat → Prop} {ρ : Nat → PV} {out : PV} {wr : List (Nat × Arr)} {cf : Cfg} {C : CallS} {me : FuncId}

abbrev SemOf (P : Program) (cf : Cfg) (C : CallS) (me : FuncId) (o : Oper) (ρ : Nat → PV) (m : Mem) (out : PV) (wr : List (Nat × Arr)) : Prop := (opSem P cf C me o ρ).gives m (out, wr)
abbrev Slots (m : Mem) (γ : Nat → GB) (F : Nat → Prop) (w : World) (ρ : Nat → PV) (a : Act) : Prop := ∀ t, RepP m γ F w (ρ t) (a.tmps.getD t undef)

theorem does_move {x : Operand} (ho : o.op = .move x ∨ o.op = .assign x) (h : SemOf P cf C me o ρ m out wr) (hi : Inv m γ F w) (hs : Slots m γ F w ρ a) : Does P o a w m γ F out wr := by
  have hh : out = opnd ρ x ∧ wr = [] := by
    rcases ho with ho | ho <;> simpa [SemOf, opSem, ho, Mm.gives_ret, Prod.mk.injEq, eq_comm] using h
  obtain ⟨rfl, rfl⟩ := hh
  refine does_pure hi ?_ (opnd_rep hs x)
  rcases ho with ho | ho <;> simp [execOp, ho]

theorem does_pick {c x y : Operand} (ho : o.op = .pick c x y) (h : SemOf P cf C me o ρ m out wr) (hi : Inv m γ F w) (hs : Slots m γ F w ρ a) : Does P o a w m γ F out wr := by
  simp only [SemOf, opSem, ho] at h
  split at h
  · rename_i t ht
    simp only [Mm.gives_ret, Prod.mk.injEq] at h
    obtain ⟨rfl, rfl⟩ := h
    have hc := asBoolP_eq ht (opnd_rep hs c)
    refine does_pure hi (v := if t then a.eval x else a.eval y) ?_ ?_
    · simp [execOp, ho, hc, asBool]
    · cases t
      · exact opnd_rep hs y
      · exact opnd_rep hs x
  · simp [Mm.gives_fail] at h

theorem does_nilCheck {x : Operand} (ho : o.op = .nilCheck x) (h : SemOf P cf C me o ρ m out wr) (hi : Inv m γ F w) (hs : Slots m γ F w ρ a) : Does P o a w m γ F out wr := by
  simp only [SemOf, opSem, ho] at h
  have hx := opnd_rep hs x
  split at h
  · rename_i s ver i off he
    simp only [Mm.gives_ret, Prod.mk.injEq] at h
    obtain ⟨rfl, rfl⟩ := h
    rw [he] at hx
    generalize hv : a.eval x = v at hx
    cases hx with
    | ptr s ver i off ad A h1 h2 h3 => exact does_pure hi (by simp [execOp, ho, hv]) (.ptr s ver i off ad A h1 h2 h3)
  · rename_i c off he
    simp only [Mm.gives_ret, Prod.mk.injEq] at h
    obtain ⟨rfl, rfl⟩ := h
    rw [he] at hx
    generalize hv : a.eval x = v at hx
    cases hx with
    | i hr => cases hr with
      | eptr e off g o' c h1 h2 h3 h4 => exact does_pure hi (by simp [execOp, ho, hv]) (.i (.eptr _ off g o' c h1 h2 h3 h4))
  · simp [Mm.gives_fail] at h

theorem semPure_run {α : Type} {s : Sem α} {x : α} (h : semPure s = some x) (w : World) : s.run P w = .ok x w := by
  cases s <;> simp [semPure] at h
  subst h; rfl

theorem does_unOp {u : UnOp} {t : TypeId} {x : Operand} (ho : o.op = .unOp u t x) (h : SemOf P cf C me o ρ m out wr) (hi : Inv m γ F w) (hs : Slots m γ F w ρ a) : Does P o a w m γ F out wr := by
  simp only [SemOf, opSem, ho] at h
  have hx := opnd_rep hs x
  split at h
  · rename_i v he
    simp only [Mm.gives_bind, Mm.gives_opt, Mm.gives_ret, Prod.mk.injEq] at h
    obtain ⟨r, hr, rfl, rfl⟩ := h
    rw [he] at hx
    generalize hv : a.eval x = v' at hx
    cases hx with
    | i hx => cases hx; exact does_pure hi (by simp [execOp, ho, hv, semPure_run hr]) (.i (.v _))
  · simp [Mm.gives_fail] at h

theorem does_convert {s t : TypeId} {x : Operand} (ho : o.op = .convert s t x) (h : SemOf P cf C me o ρ m out wr) (hi : Inv m γ F w) (hs : Slots m γ F w ρ a) : Does P o a w m γ F out wr := by
  simp only [SemOf, opSem, ho] at h
  have hx := opnd_rep hs x
  split at h
  · rename_i k1 k k2 n h1 h2 he
    simp only [Mm.gives_ret, Prod.mk.injEq] at h
    obtain ⟨rfl, rfl⟩ := h
    rw [he] at hx
    generalize hv : a.eval x = v' at hx
    cases hx with
    | i hx => cases hx; exact does_pure hi (by simp [execOp, ho, hv, convert, run_underlying h1, run_underlying h2, Conv.intToInt]) (.i (.v _))
  · simp [Mm.gives_fail] at h

theorem does_makeFunc {f : FuncId} {x y : Array Operand} (ho : o.op = .makeFunc (.func f) x y) (h : SemOf P cf C me o ρ m out wr) (hi : Inv m γ F w) (hs : Slots m γ F w ρ a) : Does P o a w m γ F out wr := by
  simp only [SemOf, opSem, ho, Mm.gives_ret, Prod.mk.injEq] at h
  obtain ⟨rfl, rfl⟩ := h
  refine does_pure hi (v := .func (.func f) (x.toList.map a.eval).toArray (y.toList.map a.eval).toArray) ?_ ?_
  · simp only [execOp, ho, Instr.makeFunc, Sem.run_bind, Sem.run_pure, Result.andThen_ok]
    rw [← Array.toList_map, ← Array.toList_map]
  · refine .fn f _ _ _ _ (by simp) (by simp) ?_ ?_ <;>
    · intro j p v hp hv
      simp only [List.getElem?_map, Option.map_eq_some_iff] at hp hv
      obtain ⟨q, hq, rfl⟩ := hp
      obtain ⟨q', hq', rfl⟩ := hv
      rw [hq] at hq'; cases hq'
      exact opnd_rep hs q

theorem does_extract {x : Operand} {j : Nat} (ho : o.op = .extract x j) (h : SemOf P cf C me o ρ m out wr) (hi : Inv m γ F w) (hs : Slots m γ F w ρ a) : Does P o a w m γ F out wr := by
  simp only [SemOf, opSem, ho] at h
  have hx := opnd_rep hs x
  split at h
  · rename_i cs he
    simp only [Mm.gives_bind, Mm.gives_opt, Mm.gives_ret, Prod.mk.injEq] at h
    obtain ⟨r, hr, rfl, rfl⟩ := h
    rw [he] at hx
    generalize hv : a.eval x = v' at hx
    cases hx with
    | tup cs c h1 h2 =>
      have hj : j < c.length := by rw [← h1]; exact (List.getElem?_eq_some_iff.1 hr).1
      exact does_pure hi (v := c[j]) (by simp [execOp, ho, hv, Instr.extract, hj]) (h2 j _ _ hr (by simp [hj]))
  · simp [Mm.gives_fail] at h

theorem does_load {t : TypeId} {x : Operand} (ho : o.op = .load t x) (h : SemOf P cf C me o ρ m out wr) (hi : Inv m γ F w) (hs : Slots m γ F w ρ a) : Does P o a w m γ F out wr := by
  simp only [SemOf, opSem, ho, Mm.gives_bind, Mm.gives_ret, Prod.mk.injEq] at h
  obtain ⟨⟨cs, off⟩, h1, p, h2, rfl, rfl⟩ := h
  obtain ⟨g, b, hv, hc⟩ := rdAt_cells hi h1 (opnd_rep hs x)
  obtain ⟨v, hl, hr⟩ := takeT_load h2 hc
  exact does_pure hi (by simp [execOp, ho, hv, Instr.loadAt, Instr.sureAddr, hl]) hr

theorem fieldT_eq {t : TypeId} {f : Nat} {fd : Field} (h : fieldT P t f = some fd) : ∃ fs, P.underlying t = some (.struct fs) ∧ fs[f]? = some fd := by
  unfold fieldT at h
  split at h
  · rename_i fs he; exact ⟨fs, he, h⟩
  · cases h

theorem does_fieldAddr {t : TypeId} {x : Operand} {f : Nat} (ho : o.op = .fieldAddr t x f) (h : SemOf P cf C me o ρ m out wr) (hi : Inv m γ F w) (hs : Slots m γ F w ρ a) : Does P o a w m γ F out wr := by
  simp only [SemOf, opSem, ho] at h
  have hx := opnd_rep hs x
  split at h
  · rename_i fd hf
    obtain ⟨fs, hu, hfs⟩ := fieldT_eq hf
    split at h
    · rename_i n s ver i off hz he
      simp only [Mm.gives_ret, Prod.mk.injEq] at h
      obtain ⟨rfl, rfl⟩ := h
      rw [he] at hx
      generalize hv : a.eval x = v at hx
      cases hx with
      | ptr s ver i off ad A h1 h2 h3 =>
        refine does_pure hi (v := .pointer (some (ad.add fd.offset))) (by simp [execOp, ho, hv, Instr.fieldAt, run_underlying hu, hfs, Instr.sureAddr, fieldPlace, run_sz hz]) ?_
        refine .ptr s ver i _ _ A h1 h2 fun e => ?_
        have := h3 e
        cases A with
        | arr v k xs => obtain ⟨hi, rfl⟩ := this; exact ⟨hi, by rw [addr_add]; simp⟩
        | box v cs => obtain ⟨hi, rfl⟩ := this; exact ⟨hi, by rw [addr_add]⟩
        | dead v => exact this
    · rename_i n c off hz he
      simp only [Mm.gives_ret, Prod.mk.injEq] at h
      obtain ⟨rfl, rfl⟩ := h
      rw [he] at hx
      generalize hv : a.eval x = v at hx
      cases hx with
      | i hr => cases hr with
        | eptr e off g o' c h1 h2 h3 h4 =>
          refine does_pure hi (v := .pointer (some ((⟨g, o' + off, none⟩ : Addr).add fd.offset))) (by simp [execOp, ho, hv, Instr.fieldAt, run_underlying hu, hfs, Instr.sureAddr, fieldPlace, run_sz hz]) ?_
          rw [addr_add, Nat.add_assoc]
          exact .i (.eptr _ _ g o' c h1 h2 h3 h4)
    · simp [Mm.gives_fail] at h
  · simp [Mm.gives_fail] at h

theorem takeT_part {t : TypeId} {cs : List PV} {off : Nat} {p : PV} {c : List Value} (h : (takeT P t cs off).gives m p) (hl : cs.length = c.length)
    (hc : ∀ (j : Nat) (p : PV) (v : Value), cs[j]? = some p → c[j]? = some v → RepP m γ F w p v) : ∃ v, (part t c.toArray off).run P w = .ok v w ∧ RepP m γ F w p v := by
  unfold takeT at h
  split at h
  · rename_i n ha hs
    simp only [Mm.gives_chk, decide_eq_true_eq, Mm.gives_ret] at h
    obtain ⟨hn, rfl⟩ := h
    refine ⟨.agg ((c.drop off).take n).toArray, ?_, .agg _ _ (by simp [hl]) fun j p v hp hv => ?_⟩
    · simp [part, run_agg ha, run_sz hs, List.extract_eq_take_drop]
    · rw [List.getElem?_take] at hp hv
      split at hp
      · rename_i hj
        simp only [hj, if_true, List.getElem?_drop] at hp hv
        exact hc _ _ _ hp hv
      · cases hp
  · rename_i ha
    rw [Mm.gives_opt] at h
    have hj : off < c.length := by rw [← hl]; exact (List.getElem?_eq_some_iff.1 h).1
    exact ⟨c[off], by simp [part, run_agg ha, hj], hc _ _ _ h (by simp [hj])⟩
  · simp [Mm.gives_fail] at h

theorem does_field {t : TypeId} {x : Operand} {f : Nat} (ho : o.op = .field t x f) (h : SemOf P cf C me o ρ m out wr) (hi : Inv m γ F w) (hs : Slots m γ F w ρ a) : Does P o a w m γ F out wr := by
  simp only [SemOf, opSem, ho] at h
  have hx := opnd_rep hs x
  split at h
  · rename_i fd cs hf he
    obtain ⟨fs, hu, hfs⟩ := fieldT_eq hf
    simp only [Mm.gives_bind, Mm.gives_ret, Prod.mk.injEq] at h
    obtain ⟨p, hp, rfl, rfl⟩ := h
    rw [he] at hx
    generalize hv : a.eval x = v at hx
    cases hx with
    | agg cs c h1 h2 =>
      obtain ⟨v, hpv, hr⟩ := takeT_part hp h1 h2
      exact does_pure hi (by simp [execOp, ho, hv, Instr.field, run_underlying hu, hfs, asAgg, hpv]) hr
  · simp [Mm.gives_fail] at h

end
end Go.Proofs.Ytnobgdgnncfcpaa.X
