/- Soundness of regions, in whatever order. -/
import Derived.Test.YtnobgdgnncfcpaaOp
import Derived.Orders
namespace Go.Proofs.Ytnobgdgnncfcpaa.X
open Go

/-- The interpreter's state and the machine's. -/
def Rel (m0 : Mem) (γ0 : Nat → GB) (F0 : Nat → Prop) (w0 : World) (n : Nat) (st : St) (a : Act) (w : World) : Prop :=
  ∃ γ F, Inv st.m γ F w ∧ Slots st.m γ F w st.ρ a ∧ MemStep m0 γ0 st.m γ ∧ FStep m0 γ0 F0 w0 F ∧ Stp m0 γ0 w0 st.m γ w ∧ a.tmps.size = n ∧ a.defers = []

section
variable {P : Program} {m0 : Mem} {γ0 : Nat → GB} {F0 : Nat → Prop} {w0 : World} {n : Nat} {cf : Cfg} {C : CallS} {me : FuncId} {Q : Exit → Act → World → Prop}

theorem Rel.drew {st : St} {a : Act} {w : World} (h : Rel m0 γ0 F0 w0 n st a w) : Rel m0 γ0 F0 w0 n st a w.drew := by
  obtain ⟨γ, F, h1, h2, h3, h4, h5, h6, h7⟩ := h
  exact ⟨γ, F, h1.drew, fun t => RepP.step (w := w) (w' := w.drew) (MemStep.refl _ _) (fun _ h => h) (fun _ _ => rfl) (h2 t), h3, h4, h5.drew, h6, h7⟩

theorem slots_put {m m' : Mem} {γ γ' : Nat → GB} {F F' : Nat → Prop} {w w' : World} {ρ : Nat → PV} {a : Act} {dst : Option Nat} {out : PV} {v : Value} (hs : Slots m γ F w ρ a)
    (hd : ∀ d : Nat, dst = some d → d < a.tmps.size) (hm : MemStep m γ m' γ') (hF : ∀ b, F b → F' b) (hw : Agree F w w') (hr : RepP m' γ' F' w' out v) :
    Slots m' γ' F' w' (putρ ρ dst out) (a.put dst v) := by
  intro t
  cases dst with
  | none => exact (hs t).step hm hF hw
  | some d =>
    have hlt := hd d rfl
    by_cases ht : t = d
    · subst ht
      simp only [putρ, upd_same, Act.put]
      simpa [hlt] using hr
    · simp only [putρ, upd_ne _ _ ht, Act.put]
      have : (a.tmps.setIfInBounds d v).getD t undef = a.tmps.getD t undef := by
        simp [Array.getElem?_setIfInBounds_ne (fun e => ht e.symm)]
      rw [this]
      exact (hs t).step hm hF hw

theorem wanted_eq {ops : Array Oper} {o : Oper} {ρ : Nat → PV} {m : Mem} {γ : Nat → GB} {F : Nat → Prop} {w : World} {a : Act} {b : Bool} (h : wantedP ops o ρ = some b) (hs : Slots m γ F w ρ a) : Region.wanted o (yielded ops a.tmps) = b := by
  unfold wantedP at h
  unfold Region.wanted
  split at h
  · rename_i hg; rw [hg]; simpa using h
  · rename_i j want hg
    rw [hg]
    simp only
    split at h
    · rename_i d hd
      have ht := hs d
      simp only [yielded, hd, Option.bind_some]
      split at h
      · rename_i c hc
        rw [hc] at ht
        simp only [Option.some.injEq] at h
        subst h
        cases htd : a.tmps[d]? with
        | none =>
          simp only [Array.getD_eq_getD_getElem?, htd, Option.getD_none] at ht
          generalize hu : undef = u at ht
          cases ht with | i ht => cases ht; cases hu
        | some x =>
          simp only [Array.getD_eq_getD_getElem?, htd, Option.getD_some] at ht
          cases ht with | i ht => cases ht; simp
      · rename_i c hc
        rw [hc] at ht
        simp only [Option.some.injEq] at h
        subst h
        cases htd : a.tmps[d]? with
        | none => simp
        | some x =>
          simp only [Array.getD_eq_getD_getElem?, htd, Option.getD_some] at ht
          cases ht with | i ht => cases ht; simp
      · cases h
    · cases h

/-- One operation of a region. -/
theorem step_ok (hC : CallOK P C) {ops : Array Oper} {i : Nat} {o : Oper} (ho : ops[i]? = some o) (hd : dstOk n o = true) {st : St} {r : Rec} (h : stepOp P cf C me ops o st = some r) {a : Act} {w : World} (hr : Rel m0 γ0 F0 w0 n st a w)
    {K : Act → World → Prop} (hK : ∀ a w, Rel m0 γ0 F0 w0 n (st.step r) a w → K a w) : wpOp P ops Q i K a w := by
  obtain ⟨γ, F, h1, h2, h3, h4, h5, h6, h7⟩ := hr
  have hdst : ∀ d : Nat, o.dst = some d → d < a.tmps.size := fun d hdd => by simp only [dstOk, hdd, decide_eq_true_eq] at hd; rw [h6]; exact hd
  have hput : ∀ v, (a.put o.dst v).tmps.size = n ∧ (a.put o.dst v).defers = [] := fun v => by
    cases o.dst <;> simp [Act.put, h6, h7]
  unfold stepOp at h
  unfold wpOp
  simp only [ho]
  split at h
  · rename_i hw
    rw [wanted_eq hw h2]
    simp only [if_true]
    left
    simp only [Option.map_eq_some_iff] at h
    obtain ⟨⟨⟨out, wr⟩, rd⟩, hx, rfl⟩ := h
    refine opSem_sound hC ⟨rd, hx⟩ h1 h2 _ _ fun v γ' F' w' i1 i2 i3 i4 i5 => hK _ _ ⟨γ', F', i1, ?_, h3.trans i2, FStep.trans h5 h4 i3, h5.trans i4, (hput v).1, (hput v).2⟩
    exact slots_put h2 hdst i2 i3.sub (h1.agree i4) i5
  · rename_i hw
    rw [wanted_eq hw h2]
    simp only [Bool.false_eq_true, if_false]
    simp only [Option.some.injEq] at h
    subst h
    refine hK _ _ ⟨γ, F, h1, ?_, h3, h4, h5, (hput _).1, (hput _).2⟩
    exact slots_put h2 hdst (MemStep.refl _ _) (fun _ h => h) (fun _ _ => rfl) (.i (.v undef))
  · cases h

theorem wpOps_range (hC : CallOK P C) {ops : Array Oper} (hd : ∀ o, o ∈ ops.toList → dstOk n o = true) : ∀ (l : List Oper) (k : Nat) (st st' : St) (rs : List Rec) (a : Act) (w : World), (∀ j, l[j]? = ops[k + j]?) → k + l.length = ops.size →
    runOps P cf C me ops l st = some (st', rs) → Rel m0 γ0 F0 w0 n st a w → (∀ a w, Rel m0 γ0 F0 w0 n st' a w → Q .normal a w) → wpOps P ops Q (List.range' k l.length) a w
  | [], k, st, st', rs, a, w, _, _, h, hr, hQ => by
    simp only [runOps, Option.some.injEq, Prod.mk.injEq] at h
    obtain ⟨rfl, rfl⟩ := h
    exact hQ a w hr
  | o :: l, k, st, st', rs, a, w, hl, hk, h, hr, hQ => by
    simp only [runOps] at h
    split at h
    · rename_i r hr1
      split at h
      · rename_i st2 rs2 h2
        simp only [Option.some.injEq, Prod.mk.injEq] at h
        obtain ⟨rfl, rfl⟩ := h
        have ho : ops[k]? = some o := by have := hl 0; simpa using this.symm
        simp only [List.length_cons, List.range'_succ, wpOps_cons]
        refine step_ok hC ho (hd o (by simpa using Array.mem_of_getElem? ho)) hr1 hr fun a' w' hr' => ?_
        exact wpOps_range hC hd l (k + 1) _ _ rs2 a' w' (fun j => by have := hl (j + 1); simp only [List.getElem?_cons_succ] at this; rw [this]; congr 1; omega) (by simp at hk; omega) h2 hr' hQ
      · cases h
    · cases h

/-- What is looked at decides what comes out. -/
theorem Mm.run_local {α : Type} {m m' : Mem} : ∀ (x : Mm α) {a : α} {rd : List Nat}, x.run m = some (a, rd) → (∀ s, s ∈ rd → m' s = m s) → x.run m' = some (a, rd)
  | .ret a, b, rd, h, _ => by simpa [Mm.run] using h
  | .fail, b, rd, h, _ => by simp [Mm.run] at h
  | .get s k, b, rd, h, hm => by
    simp only [Mm.run] at h ⊢
    split at h
    · rename_i c r hc
      simp only [Option.some.injEq, Prod.mk.injEq] at h
      obtain ⟨rfl, rfl⟩ := h
      rw [hm s (List.mem_cons_self ..), Mm.run_local (k (m s)) hc (fun s' hs' => hm s' (List.mem_cons_of_mem _ hs'))]
    · cases h

theorem opSem_congr {o : Oper} {ρ ρ' : Nat → PV} (h : ∀ x ∈ o.op.operands, opnd ρ' x = opnd ρ x) : opSem P cf C me o ρ' = opSem P cf C me o ρ := by
  have hmap : ∀ l : List Operand, (∀ x ∈ l, x ∈ o.op.operands) → l.map (opnd ρ') = l.map (opnd ρ) := fun l hl => List.map_congr_left fun x hx => h x (hl x hx)
  unfold opSem
  cases ho : o.op with
  | build t ps =>
    simp only
    have : (ps.toList.map fun (x : Nat × Operand) => (x.1, opnd ρ' x.2)) = ps.toList.map fun (x : Nat × Operand) => (x.1, opnd ρ x.2) :=
      List.map_congr_left fun x hx => by rw [h x.2 (by rw [ho]; simp only [Op.operands, List.mem_toArray, List.mem_map]; exact ⟨x, hx, rfl⟩)]
    simp only [this]
  | buildSlice t k ps =>
    simp only
    have : ∀ l : List (Nat × Operand), (∀ x ∈ l, x ∈ ps.toList) → Mm.mapL (fun (x : Nat × Operand) => (consL (opnd ρ' x.2).cells).bind fun c => .ret ((x.1, c.1), c.2)) l = Mm.mapL (fun (x : Nat × Operand) => (consL (opnd ρ x.2).cells).bind fun c => .ret ((x.1, c.1), c.2)) l := by
      intro l
      induction l with
      | nil => intro _; rfl
      | cons x l ih =>
        intro hl
        simp only [Mm.mapL]
        rw [ih (fun y hy => hl y (List.mem_cons_of_mem _ hy)), h x.2 (by rw [ho]; simp only [Op.operands, List.mem_toArray, List.mem_map]; exact ⟨x, hl x (List.mem_cons_self ..), rfl⟩)]
    rw [this ps.toList (fun _ h => h)]
  | makeFunc f x y =>
    cases f with
    | func f =>
      simp only
      rw [hmap x.toList (by rw [ho]; simp [Op.operands]; intro y hy; exact .inl hy), hmap y.toList (by rw [ho]; simp [Op.operands]; intro y hy; exact .inr hy)]
    | _ => rfl
  | slice t x lo hi mx =>
    have hx : opnd ρ' x = opnd ρ x := h x (by rw [ho]; simp [Op.operands])
    have hlo : lo.map (opnd ρ') = lo.map (opnd ρ) := by
      cases lo with
      | none => rfl
      | some y => simp only [Option.map_some]; rw [h y (by rw [ho]; simp [Op.operands])]
    have hhi : hi.map (opnd ρ') = hi.map (opnd ρ) := by
      cases hi with
      | none => rfl
      | some y => simp only [Option.map_some]; rw [h y (by rw [ho]; simp [Op.operands])]
    cases mx <;> simp only [hx, hlo, hhi]
  | call c =>
    have hargs : c.args.toList.map (opnd ρ') = c.args.toList.map (opnd ρ) := hmap _ (by rw [ho]; intro x hx; simp only [Op.operands, Call.operands, Array.mem_append]; exact .inr (by simpa using hx))
    simp only [hargs]
    cases hc : c.callee with
    | value f =>
      have hf : opnd ρ' f = opnd ρ f := h f (by rw [ho]; simp [Op.operands, Call.operands, hc])
      simp only [hf]
    | _ => rfl
  | pick c x y => simp only [h c (by rw [ho]; simp [Op.operands]), h x (by rw [ho]; simp [Op.operands]), h y (by rw [ho]; simp [Op.operands])]
  | move x => simp only [h x (by rw [ho]; simp [Op.operands])]
  | assign x => simp only [h x (by rw [ho]; simp [Op.operands])]
  | box t x => simp only [h x (by rw [ho]; simp [Op.operands])]
  | load t x => simp only [h x (by rw [ho]; simp [Op.operands])]
  | store t x y => simp only [h x (by rw [ho]; simp [Op.operands]), h y (by rw [ho]; simp [Op.operands])]
  | nilCheck x => simp only [h x (by rw [ho]; simp [Op.operands])]
  | binOp op t x y t' => simp only [h x (by rw [ho]; simp [Op.operands]), h y (by rw [ho]; simp [Op.operands])]
  | unOp op t x => simp only [h x (by rw [ho]; simp [Op.operands])]
  | convert s t x => simp only [h x (by rw [ho]; simp [Op.operands])]
  | makeSlice t x y => simp only [h x (by rw [ho]; simp [Op.operands]), h y (by rw [ho]; simp [Op.operands])]
  | fieldAddr t x f => simp only [h x (by rw [ho]; simp [Op.operands])]
  | field t x f => simp only [h x (by rw [ho]; simp [Op.operands])]
  | indexAddr t x y => simp only [h x (by rw [ho]; simp [Op.operands]), h y (by rw [ho]; simp [Op.operands])]
  | index t x y => simp only [h x (by rw [ho]; simp [Op.operands]), h y (by rw [ho]; simp [Op.operands])]
  | extract x j => simp only [h x (by rw [ho]; simp [Op.operands])]
  | _ => rfl

theorem opnd_congr {ρ ρ' : Nat → PV} {x : Operand} (h : ∀ t, x = .tmp t → ρ' t = ρ t) : opnd ρ' x = opnd ρ x := by
  cases x with
  | tmp t => exact h t rfl
  | _ => rfl

theorem stepOp_local {ops : Array Oper} {o : Oper} {st st2 : St} {r : Rec} (h : stepOp P cf C me ops o st = some r) (hρ : ∀ t, t ∈ o.looksAt ops → st2.ρ t = st.ρ t) (hm : ∀ s, s ∈ r.rd → st2.m s = st.m s) : stepOp P cf C me ops o st2 = some r := by
  have hops : ∀ x ∈ o.op.operands, opnd st2.ρ x = opnd st.ρ x := fun x hx => opnd_congr fun t ht => hρ t (by
    subst ht
    simp only [Oper.looksAt, List.mem_append, List.mem_filterMap]
    exact .inl ⟨.tmp t, by simpa using hx, rfl⟩)
  have hw : wantedP ops o st2.ρ = wantedP ops o st.ρ := by
    unfold wantedP
    cases hg : o.guard with
    | none => rfl
    | some g =>
      obtain ⟨j, want⟩ := g
      simp only
      cases hd : (ops[j]?).bind (·.dst) with
      | none => rfl
      | some d => simp only; rw [hρ d (by simp only [Oper.looksAt, hg, hd, List.mem_append]; exact .inr (by simp))]
  unfold stepOp at h ⊢
  rw [hw, opSem_congr hops]
  cases hwt : wantedP ops o st.ρ with
  | none => rw [hwt] at h; cases h
  | some b =>
    rw [hwt] at h
    cases b with
    | false => exact h
    | true =>
      simp only [Option.map_eq_some_iff] at h ⊢
      obtain ⟨⟨⟨out, wr⟩, rd⟩, hx, rfl⟩ := h
      exact ⟨_, Mm.run_local _ hx hm, rfl⟩

end
end Go.Proofs.Ytnobgdgnncfcpaa.X
