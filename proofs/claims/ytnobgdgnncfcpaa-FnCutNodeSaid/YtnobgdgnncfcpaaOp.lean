/- Soundness of every operation. -/
import Derived.Test.YtnobgdgnncfcpaaCallP
namespace Go.Proofs.Ytnobgdgnncfcpaa.X
open Go

section
variable {P : Program} {o : Oper} {a : Act} {w : World} {m : Mem} {γ : Nat → GB} {F : Nat → Prop} {ρ : Nat → PV} {out : PV} {wr : List (Nat × Arr)} {cf : Cfg} {C : CallS} {me : FuncId}

theorem does_enter (hC : CallOK P C) (hi : Inv m γ F w) {f : FuncId} {args : List PV} {vals : List Value} (h : (callP cf C me o.dst f args).gives m (out, wr)) (hlen : args.length = vals.length)
    (hr : ∀ (j : Nat) (p : PV) (v : Value), args[j]? = some p → vals[j]? = some v → RepP m γ F w p v)
    (hx : Enters P f → (execOp a.eval o).run P w = .ok (.enter f vals.toArray) w) : Does P o a w m γ F out wr := by
  obtain ⟨he, hc⟩ := callP_ok hC hi h hlen hr
  intro K Q hK
  simp only [Oper.wp, Oper.upon, hx he]
  refine hc.mono fun e w' hp => ?_
  obtain ⟨v, γ2, F2, rfl, h1, h2, h3, h4, h5⟩ := hp
  exact hK v γ2 F2 w' h1 h2 h3 h4 h5

theorem does_call {c : Call} {fv : Operand} (hC : CallOK P C) (ho : o.op = .call c) (hc : c.callee = .value fv) (h : SemOf P cf C me o ρ m out wr) (hi : Inv m γ F w) (hs : Slots m γ F w ρ a) : Does P o a w m γ F out wr := by
  simp only [SemOf, opSem, ho, hc] at h
  have hf := opnd_rep hs fv
  have hargs : ∀ (j : Nat) (p : PV) (v : Value), (c.args.toList.map (opnd ρ))[j]? = some p → (c.args.toList.map a.eval)[j]? = some v → RepP m γ F w p v := fun j p v hp hv => by
    simp only [List.getElem?_map, Option.map_eq_some_iff] at hp hv
    obtain ⟨x, hx, rfl⟩ := hp
    obtain ⟨y, hy, rfl⟩ := hv
    rw [hx] at hy; cases hy
    exact opnd_rep hs x
  have three : ∀ (A B : List PV) (ca cb : List Value), A.length = ca.length → B.length = cb.length → (∀ (j : Nat) (p : PV) (v : Value), A[j]? = some p → ca[j]? = some v → RepP m γ F w p v) → (∀ (j : Nat) (p : PV) (v : Value), B[j]? = some p → cb[j]? = some v → RepP m γ F w p v) →
      (A ++ c.args.toList.map (opnd ρ) ++ B).length = (ca ++ c.args.toList.map a.eval ++ cb).length ∧ ∀ (j : Nat) (p : PV) (v : Value), (A ++ c.args.toList.map (opnd ρ) ++ B)[j]? = some p → (ca ++ c.args.toList.map a.eval ++ cb)[j]? = some v → RepP m γ F w p v := by
    intro A B ca cb hA hB h1 h2
    refine ⟨by simp [hA, hB], fun j p v hp hv => ?_⟩
    by_cases hj : j < A.length
    · rw [List.append_assoc, List.getElem?_append_left hj] at hp
      rw [List.append_assoc, List.getElem?_append_left (by omega)] at hv
      exact h1 j p v hp hv
    · by_cases hj2 : j < A.length + (c.args.toList.map (opnd ρ)).length
      · rw [List.append_assoc, List.getElem?_append_right (by omega), List.getElem?_append_left (by omega)] at hp
        rw [List.append_assoc, List.getElem?_append_right (by omega), List.getElem?_append_left (by simp at hj2 ⊢; omega), ← hA] at hv
        exact hargs _ p v hp hv
      · rw [List.getElem?_append_right (by simp at hj2 ⊢; omega)] at hp
        rw [List.getElem?_append_right (by simp at hj2 ⊢; omega)] at hv
        have e : j - (ca ++ c.args.toList.map a.eval).length = j - (A ++ c.args.toList.map (opnd ρ)).length := by simp [hA]
        rw [e] at hv
        exact h2 _ p v hp hv
  have hexec : ∀ (f : FuncId) (ca cb : List Value), a.eval fv = .func (.func f) ca.toArray cb.toArray → Enters P f → (execOp a.eval o).run P w = .ok (.enter f (ca ++ c.args.toList.map a.eval ++ cb).toArray) w := fun f ca cb hv he => by
    simp only [execOp, ho, resolve, hc, hv, Deferred.ofValue, Sem.run_bind, Sem.run_pure, Result.andThen_ok, invoke]
    have := he (ca.toArray ++ c.args.map a.eval ++ cb.toArray) w
    rw [this]
    congr 2
    apply Array.ext'
    simp
  split at h
  · rename_i f first caps he
    rw [he] at hf
    generalize hv : a.eval fv = v' at hf
    cases hf with
    | fn _ _ _ ca cb h1 h2 h3 h4 =>
      obtain ⟨q1, q2⟩ := three first caps ca cb h1 h2 h3 h4
      exact does_enter hC hi h q1 q2 (hexec f ca cb hv)
  · rename_i f first caps he
    rw [he] at hf
    generalize hv : a.eval fv = v' at hf
    cases hf with
    | i hf =>
      cases hf with
      | fn _ _ _ ca cb h1 h2 h3 h4 =>
        obtain ⟨q1, q2⟩ := three (first.map .i) (caps.map .i) ca cb (by simp [h1]) (by simp [h2]) (fun j p v hp hv => by
          simp only [List.getElem?_map, Option.map_eq_some_iff] at hp
          obtain ⟨x, hx, rfl⟩ := hp
          exact .i (h3 j x v hx hv)) (fun j p v hp hv => by
          simp only [List.getElem?_map, Option.map_eq_some_iff] at hp
          obtain ⟨x, hx, rfl⟩ := hp
          exact .i (h4 j x v hx hv))
        exact does_enter hC hi h q1 q2 (hexec f ca cb hv)
  · simp [Mm.gives_fail] at h

theorem opSem_sound (hC : CallOK P C) (h : SemOf P cf C me o ρ m out wr) (hi : Inv m γ F w) (hs : Slots m γ F w ρ a) : Does P o a w m γ F out wr := by
  cases ho : o.op with
  | move x => exact does_move (.inl ho) h hi hs
  | assign x => exact does_move (.inr ho) h hi hs
  | pick c x y => exact does_pick ho h hi hs
  | alloc t => exact does_alloc ho h hi
  | box t x => exact does_box ho h hi hs
  | build t ps => exact does_build ho h hi hs
  | buildSlice t n ps => exact does_buildSlice ho h hi hs
  | load t x => exact does_load ho h hi hs
  | store t x y => exact does_store ho h hi hs
  | nilCheck x => exact does_nilCheck ho h hi hs
  | binOp op t x y t' => exact does_binOp ho h hi hs
  | unOp op t x => exact does_unOp ho h hi hs
  | convert s t x => exact does_convert ho h hi hs
  | makeFunc f x y =>
    cases f with
    | func f => exact does_makeFunc ho h hi hs
    | _ => simp [SemOf, opSem, ho, Mm.gives_fail] at h
  | makeSlice t x y => exact does_makeSlice ho h hi hs
  | slice t x lo hh mx =>
    cases mx with
    | none => exact does_slice ho h hi hs
    | some mx => simp [SemOf, opSem, ho, Mm.gives_fail] at h
  | fieldAddr t x f => exact does_fieldAddr ho h hi hs
  | field t x f => exact does_field ho h hi hs
  | indexAddr t x y => exact does_indexAddr ho h hi hs
  | index t x y => exact does_index ho h hi hs
  | extract x j => exact does_extract ho h hi hs
  | call c =>
    cases hc : c.callee with
    | builtin b =>
      simp only [SemOf, opSem, ho, hc] at h
      exact does_builtin ho hc h hi hs
    | value f => exact does_call hC ho hc h hi hs
    | invoke r n => simp [SemOf, opSem, ho, hc, Mm.gives_fail] at h
  | _ => simp [SemOf, opSem, ho, Mm.gives_fail] at h

end
end Go.Proofs.Ytnobgdgnncfcpaa.X
