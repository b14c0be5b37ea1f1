/- Soundness: stores, append, clear, len, min, max. -/
import Derived.Test.YtnobgdgnncfcpaaOpF
namespace Go.Proofs.Ytnobgdgnncfcpaa.X
open Go

section
variable {P : Program} {o : Oper} {a : Act} {w : World} {m : Mem} {γ : Nat → GB} {F : Nat → Prop} {ρ : Nat → PV} {out : PV} {wr : List (Nat × Arr)} {cf : Cfg} {C : CallS} {me : FuncId}

/-- A site's own block is turned. -/
theorem touch_site (hi : Inv m γ F w) {s : Nat} {A A' : Arr} {G : GB} (hA : m s = some A) (hl : A.live) (hg : G.g = (γ s).g) (hver : A.ver ≤ A'.ver) (hlike : A.ver = A'.ver → A.like A' ∧ G = γ s) {w' : World}
    (hos : w'.os = w.os) (htape : w'.tape = w.tape) (hout : w'.output = w.output) (hsz : w'.heap.size = w.heap.size) (hw : ∀ b, b ≠ (γ s).g → w'.heap[b]? = w.heap[b]?)
    (hH : MemStep m γ (upd m s (some A')) (upd γ s G) → Agree F w w' → Holds (upd m s (some A')) (upd γ s G) F w' G A') :
    Inv (upd m s (some A')) (upd γ s G) F w' ∧ MemStep m γ (upd m s (some A')) (upd γ s G) ∧ Stp m γ w (upd m s (some A')) (upd γ s G) w' := by
  have hms : MemStep m γ (upd m s (some A')) (upd γ s G) := by
    intro s' B hB
    by_cases hs : s' = s
    · subst hs
      rw [hA] at hB; cases hB
      refine ⟨A', upd_same .., hver, fun e => ⟨(hlike e).1, by rw [upd_same]; exact (hlike e).2⟩⟩
    · exact ⟨B, by rw [upd_ne _ _ hs]; exact hB, Nat.le_refl _, fun _ => ⟨B.like_refl, upd_ne _ _ hs⟩⟩
  have hag : Agree F w w' := fun b hb => hw b fun e => hi.notF s A hA hl (e ▸ hb)
  refine ⟨⟨fun s' B hB => ?_, fun s' B hB hBl => ?_, fun s1 s2 B1 B2 hB1 hB2 hl1 hl2 e => ?_, fun b hb => by have := hi.bound b hb; omega⟩, hms, ⟨hos, htape, hout, by omega, fun b hb hn => hw b fun e => hn s A hA hl e.symm, fun s' B hB hBl => ?_⟩⟩
  · by_cases hs : s' = s
    · subst hs
      rw [upd_same] at hB ⊢
      cases hB
      exact hH hms hag
    · rw [upd_ne _ _ hs] at hB ⊢
      by_cases hBl : B.live
      · refine (hi.holds s' B hB).step hms (fun _ h => h) hag (hw _ fun e => hs ?_)
        exact hi.dist s' s B A hB hA hBl hl e
      · cases B <;> simp [Arr.live, Holds] at hBl ⊢
  · by_cases hs : s' = s
    · subst hs; rw [upd_same, hg]; exact hi.notF s' A hA hl
    · rw [upd_ne _ _ hs] at hB ⊢; exact hi.notF s' B hB hBl
  · by_cases h1 : s1 = s <;> by_cases h2 : s2 = s
    · rw [h1, h2]
    · subst h1
      rw [upd_same, upd_ne _ _ h2, hg] at e
      rw [upd_ne _ _ h2] at hB2
      exact hi.dist s1 s2 A B2 hA hB2 hl hl2 e
    · subst h2
      rw [upd_same, upd_ne _ _ h1, hg] at e
      rw [upd_ne _ _ h1] at hB1
      exact hi.dist s1 s2 B1 A hB1 hA hl1 hl e
    · rw [upd_ne _ _ h1] at hB1 e
      rw [upd_ne _ _ h2] at hB2 e
      exact hi.dist s1 s2 B1 B2 hB1 hB2 hl1 hl2 e
  · by_cases hs : s' = s
    · subst hs; rw [upd_same, hg]; exact .inl ⟨A, hA, hl, rfl⟩
    · rw [upd_ne _ _ hs] at hB ⊢; exact .inl ⟨B, hB, hBl, rfl⟩

/-- A run of stores into one block. -/
theorem run_stores (g off : Nat) (E : TypeId) (vs : List Value) (cur : Array Value) (w : World) (hg : w.heap[g]? = some (.cells cur E (0, 0))) (hl : off + vs.length ≤ cur.size) (h1 : ∀ v ∈ vs, v.oneCell' = true) :
    (storeCells ⟨g, off, none⟩ vs).run P w = .ok () (w.setRow g (splice cur.toList off vs).toArray) := by
  have := run_storeCells_at P g off E vs 0 cur w hg (by simpa using hl) h1
  simpa [splice] using this

theorem setRow_facts (g : Nat) (cur cur' : Array Value) (E : TypeId) (w : World) (hg : w.heap[g]? = some (.cells cur E (0, 0))) :
    (w.setRow g cur').os = w.os ∧ (w.setRow g cur').tape = w.tape ∧ (w.setRow g cur').output = w.output ∧ (w.setRow g cur').heap.size = w.heap.size ∧
      (∀ b, b ≠ g → (w.setRow g cur').heap[b]? = w.heap[b]?) ∧ (w.setRow g cur').heap[g]? = some (.cells cur' E (0, 0)) :=
  ⟨rfl, rfl, rfl, by simp [World.setRow], fun b hb => setRow_other w g b _ hb, setRow_heap w g cur cur' E _ hg⟩

theorem skip_does {o : Oper} {a : Act} {w w' : World} {γ' : Nat → GB} {F' : Nat → Prop} {wr : List (Nat × Arr)}
    (h : (execOp a.eval o).run P w = .ok .skip w') (hi : Inv (updL m wr) γ' F' w') (hm : MemStep m γ (updL m wr) γ') (hF : FStep m γ F w F')
    (hs : Stp m γ w (updL m wr) γ' w') : Does P o a w m γ F .bad wr := by
  intro K Q hK
  simp only [Oper.wp, Oper.upon, h]
  exact hK undef γ' F' w' hi hm hF hs (.bad _)

theorem run_storeVar {t : TypeId} {n : Nat} {ad : Addr} {v : Value} {c : List Value} {w w' : World} (hz : szOf P t = some n) (hc : v.cells = c.toArray) (hn : c.length = n) (hst : (storeCells ad c).run P w = .ok () w') :
    (storeVar t ad v).run P w = .ok () w' := by
  simp [storeVar, run_sz hz, hc, hn, hst]

theorem does_store {t : TypeId} {x y : Operand} (ho : o.op = .store t x y) (h : SemOf P cf C me o ρ m out wr) (hi : Inv m γ F w) (hs : Slots m γ F w ρ a) : Does P o a w m γ F out wr := by
  simp only [SemOf, opSem, ho] at h
  have hx := opnd_rep hs x
  have hy := opnd_rep hs y
  split at h
  · rename_i s ver i off n he hz
    rw [he] at hx
    generalize hv : a.eval x = v' at hx
    cases hx with
    | ptr s ver i off ad A hA hver hpl =>
    simp only [Mm.gives_get] at h
    split at h
    · rename_i v k xs hA'
      have := arr_eq hA hA'; subst this
      simp only [Mm.gives_bind] at h
      obtain ⟨⟨iv, wc⟩, hcons, h⟩ := h
      split at h
      · rename_i el hel
        simp only [Mm.gives_chk, Bool.and_eq_true, beq_iff_eq, decide_eq_true_eq, Mm.gives_ret, Prod.mk.injEq, List.all_eq_true, bne_iff_ne, ne_eq] at h
        obtain ⟨⟨⟨⟨rfl, hn⟩, hfit⟩, hnd⟩, rfl, rfl⟩ := h
        obtain ⟨hil, rfl⟩ := hpl rfl
        obtain ⟨h1, h2, h3⟩ := consL_eq hcons
        obtain ⟨ki, km, ks, _⟩ := kill_sites hi (fun s A hA => (h2 s A hA).2)
        have hsc : ∀ q, q ∈ (opnd ρ y).cells → q.scalar = true := fun q hq => by
          obtain ⟨jj, hjj⟩ := List.getElem?_of_mem hq
          obtain ⟨x, wj, _, hg1, _⟩ := h3 jj q hjj
          rcases cons1_eq hg1 with ⟨rfl, hf, _⟩ | ⟨_, _, _, _, _, _, rfl, _⟩
          · exact hf
          · rfl
        obtain ⟨cc, hcc, hccl, hccr⟩ := cells_rep hy hsc
        have hm1 : updL m wc s = some (.arr v k xs) := by rw [updL_other fun A hA => hnd _ hA rfl]; exact hA
        obtain ⟨cur, E, hb, hsz, hxc, hmax, hc⟩ := ki.holds s _ hm1
        have hellen : el.length = k := (hc i el hel).1
        have hccn : cc.length = n := by rw [hccl, ← h1, hn]
        have hfit2 : ((γ s).b + i) * k + off + cc.length ≤ cur.size := by
          rw [hsz, hccn]
          have : ((γ s).b + i + 1) * k ≤ ((γ s).b + (γ s).cap) * k := Nat.mul_le_mul_right _ (by omega)
          rw [Nat.add_mul _ 1] at this
          omega
        have hone : ∀ v ∈ cc, v.oneCell' = true := fun v hv => by
          obtain ⟨j, hj⟩ := List.getElem?_of_mem hv
          have hjl : j < (opnd ρ y).cells.length := by rw [← hccl]; exact (List.getElem?_eq_some_iff.1 hj).1
          exact (hccr j _ v (List.getElem?_eq_getElem hjl) hj).2
        have hrun := run_stores (P := P) (γ s).g (((γ s).b + i) * k + off) E cc cur w hb hfit2 hone
        obtain ⟨f1, f2, f3, f4, f5, f6⟩ := setRow_facts (γ s).g cur (splice cur.toList (((γ s).b + i) * k + off) cc).toArray E w hb
        obtain ⟨t1, t2, t3⟩ := touch_site ki (A' := .arr v k (xs.set i (splice el off iv))) (G := γ s) hm1 trivial rfl (Nat.le_refl _) (fun _ => ⟨⟨rfl, by simp⟩, rfl⟩) f1 f2 f3 f4 f5 (fun hms hag => by
          have hfl : (((γ s).b + i) * k + off) + cc.length ≤ cur.toList.length := by simpa using hfit2
          refine ⟨_, E, f6, by simp [length_splice _ _ _ hfl, hsz], by simpa using hxc, hmax, fun i' e' he' => ?_⟩
          have hsl : off + iv.length ≤ el.length := by rw [hn]; exact hfit
          by_cases hii : i' = i
          · subst hii
            rw [List.getElem?_set_self hil] at he'
            cases he'
            refine ⟨by rw [length_splice _ _ _ hsl, hellen], fun j p hp => ?_⟩
            rw [getElem?_splice _ _ _ _ hsl] at hp
            simp only [List.getElem?_toArray, getElem?_splice _ _ _ _ hfl]
            split at hp
            · rename_i hj
              rw [if_pos (by omega)]
              have hjq : j - off < (opnd ρ y).cells.length := by rw [← h1]; exact (List.getElem?_eq_some_iff.1 hp).1
              obtain ⟨x, wj, hx, hg1, hsub⟩ := h3 (j - off) _ (List.getElem?_eq_getElem hjq)
              rw [hx] at hp; cases hp
              have hjc : j - off < cc.length := by rw [hccl]; exact hjq
              obtain ⟨hr1, _⟩ := hccr (j - off) _ cc[j - off] (List.getElem?_eq_getElem hjq) (by simp [hjc])
              obtain ⟨hr2, ho2⟩ := cons1_rep (wr := wc) hi hg1 hsub hr1
              refine ⟨cc[j - off], ?_, ho2, hr2.mono (fun _ h => h) hag⟩
              rw [show ((γ s).b + i') * k + j - (((γ s).b + i') * k + off) = j - off from by omega]
              simp [hjc]
            · rename_i hj
              rw [if_neg (by omega)]
              obtain ⟨x, hx, ho, hr⟩ := (hc i' el hel).2 j p hp
              exact ⟨x, by simpa using hx, ho, hr.mono (fun _ h => h) hag⟩
          · rw [List.getElem?_set_ne (fun e => hii e.symm)] at he'
            refine ⟨(hc i' e' he').1, fun j p hp => ?_⟩
            obtain ⟨x, hx, ho, hr⟩ := (hc i' e' he').2 j p hp
            have hj : j < k := by rw [← (hc i' e' he').1]; exact (List.getElem?_eq_some_iff.1 hp).1
            have hap := idx_apart (i := (γ s).b + i) (i' := (γ s).b + i') (fun e => hii (by omega)) hj
            simp only [List.getElem?_toArray, getElem?_splice _ _ _ _ hfl]
            rw [if_neg (by omega)]
            exact ⟨x, by simpa using hx, ho, hr.mono (fun _ h => h) hag⟩)
        refine skip_does (F' := fun b => F b ∨ ∃ s A, (s, A) ∈ wc ∧ b = (γ s).g) (γ' := upd γ s (γ s)) (w' := w.setRow (γ s).g (splice cur.toList (((γ s).b + i) * k + off) cc).toArray) ?_ (by rw [updL_append]; exact t1) (by rw [updL_append]; exact km.trans t2) (kill_grow h2) (by rw [updL_append]; exact ks.trans t3)
        simp only [execOp, ho, hv, Instr.storeAt, Instr.sureAddr, Sem.run_bind, Sem.run_pure, Result.andThen_ok, run_storeVar hz hcc hccn hrun]
      · simp [Mm.gives_fail] at h
    · rename_i v cs hA'
      have : A = .box v cs := by rw [hA] at hA'; cases hA'; rfl
      subst this
      simp only [Mm.gives_chk, Bool.and_eq_true, beq_iff_eq, decide_eq_true_eq, Mm.gives_ret, Prod.mk.injEq, List.all_eq_true] at h
      obtain ⟨⟨⟨⟨⟨rfl, rfl⟩, hn⟩, hfit⟩, hsc⟩, rfl, rfl⟩ := h
      obtain ⟨_, rfl⟩ := hpl rfl
      obtain ⟨cc, hcc, hccl, hccr⟩ := cells_rep hy hsc
      obtain ⟨cur, E, hb, hsz, hc⟩ := hi.holds s _ hA
      have hccn : cc.length = n := by rw [hccl, hn]
      have hfit2 : off + cc.length ≤ cur.size := by rw [hsz, hccn]; exact hfit
      have hone : ∀ v ∈ cc, v.oneCell' = true := fun v hv => by
        obtain ⟨j, hj⟩ := List.getElem?_of_mem hv
        have hjl : j < (opnd ρ y).cells.length := by rw [← hccl]; exact (List.getElem?_eq_some_iff.1 hj).1
        exact (hccr j _ v (List.getElem?_eq_getElem hjl) hj).2
      have hrun := run_stores (P := P) (γ s).g off E cc cur w hb hfit2 hone
      obtain ⟨f1, f2, f3, f4, f5, f6⟩ := setRow_facts (γ s).g cur (splice cur.toList off cc).toArray E w hb
      have hfl : off + cc.length ≤ cur.toList.length := by simpa using hfit2
      have hsl : off + (opnd ρ y).cells.length ≤ cs.length := by rw [hn]; exact hfit
      obtain ⟨t1, t2, t3⟩ := touch_site hi (A' := .box v (splice cs off (opnd ρ y).cells)) (G := γ s) hA trivial rfl (Nat.le_refl _) (fun _ => ⟨trivial, rfl⟩) f1 f2 f3 f4 f5 (fun hms hag => by
        refine ⟨_, E, f6, by simp [length_splice _ _ _ hfl, length_splice _ _ _ hsl, hsz], fun j p hp => ?_⟩
        rw [getElem?_splice _ _ _ _ hsl] at hp
        simp only [List.getElem?_toArray, getElem?_splice _ _ _ _ hfl]
        split at hp
        · rename_i hj
          rw [if_pos (by omega)]
          have hjc : j - off < cc.length := by rw [hccl]; exact (List.getElem?_eq_some_iff.1 hp).1
          obtain ⟨hr1, ho1⟩ := hccr (j - off) _ cc[j - off] hp (by simp [hjc])
          exact ⟨cc[j - off], by simp [hjc], ho1, hr1.step hms (fun _ h => h) hag⟩
        · rename_i hj
          rw [if_neg (by omega)]
          obtain ⟨x, hx, ho, hr⟩ := hc j p hp
          exact ⟨x, by simpa using hx, ho, hr.step hms (fun _ h => h) hag⟩)
      refine skip_does (γ' := upd γ s (γ s)) (w' := w.setRow (γ s).g (splice cur.toList off cc).toArray) ?_ t1 t2 (FStep.refl ..) t3
      simp only [execOp, ho, hv, Instr.storeAt, Instr.sureAddr, Sem.run_bind, Sem.run_pure, Result.andThen_ok, run_storeVar hz hcc hccn hrun]
    · simp [Mm.gives_fail] at h
  · simp [Mm.gives_fail] at h

end
end Go.Proofs.Ytnobgdgnncfcpaa.X
