/- Soundness of code and of calls. -/
import Derived.Test.YtnobgdgnncfcpaaDraw
import Derived.LoopN
namespace Go.Proofs.Ytnobgdgnncfcpaa.X
open Go

def Ex.to : Ex → Exit
  | .normal => .normal
  | .exit i => .exit i
  | .ret => .ret

section
variable {P : Program} {cf : Cfg}

theorem mapM_sem {α : Type} {f : α → Sem Value} {w : World} : ∀ (l : List α) (vs : List Value), l.length = vs.length → (∀ (j : Nat) (x : α) (v : Value), l[j]? = some x → vs[j]? = some v → (f x).run P w = .ok v w) → (l.mapM f).run P w = .ok vs w
  | [], [], _, _ => by simp [Sem.run_pure]
  | x :: l, v :: vs, hl, h => by
    have h0 := h 0 x v rfl rfl
    have ih := mapM_sem l vs (by simpa using hl) fun j y u hy hu => h (j + 1) y u (by simpa using hy) (by simpa using hu)
    simp [h0, ih]
  | [], _ :: _, hl, _ => by simp at hl
  | _ :: _, [], hl, _ => by simp at hl

/-- Code runs as the interpreter says. -/
def RunsOK (P : Program) (cf : Cfg) (k : Nat) : Prop :=
  ∀ (me : FuncId) (c : Code) (st : St) (e : Ex) (st' : St), exec P cf k me c st = some (e, st') → ∀ (n : Nat), codeOk n c = true →
    ∀ (m0 : Mem) (γ0 : Nat → GB) (F0 : Nat → Prop) (w0 : World) (Q : Exit → Act → World → Prop),
    (∀ a w, Rel m0 γ0 F0 w0 n st' a w → Q e.to a w) → ∀ a w, Rel m0 γ0 F0 w0 n st a w → c.wp P Q a w

theorem loop_ok {k : Nat} (IH : ∀ j, j ≤ k → RunsOK P cf j) : ∀ (j : Nat), j ≤ k → ∀ (me : FuncId) (b : Code) (st : St) (e : Ex) (st' : St), exec P cf (j + 1) me (.loop b) st = some (e, st') → ∀ (n : Nat), codeOk n b = true →
    ∀ (m0 : Mem) (γ0 : Nat → GB) (F0 : Nat → Prop) (w0 : World) (Q : Exit → Act → World → Prop), (∀ a w, Rel m0 γ0 F0 w0 n st' a w → Q e.to a w) → ∃ r, ∀ a w, Rel m0 γ0 F0 w0 n st a w → Code.rounds P b Q r a w
  | 0, _, me, b, st, e, st', h, _, _, _, _, _, _, _, _ => by simp [exec] at h
  | j + 1, hj, me, b, st, e, st', h, n, hc, m0, γ0, F0, w0, Q, hQ => by
    rw [exec] at h
    cases hb : exec P cf (j + 1) me b st with
    | none => rw [hb] at h; simp at h
    | some x =>
      obtain ⟨e1, st1⟩ := x
      rw [hb] at h
      cases e1 with
      | normal =>
        simp only at h
        obtain ⟨r, hr⟩ := loop_ok IH j (by omega) me b st1 e st' h n hc m0 γ0 F0 w0 Q hQ
        exact ⟨r + 1, fun a w hrel => by
          rw [rounds_succ]
          exact IH (j + 1) hj me b st .normal st1 hb n hc m0 γ0 F0 w0 (Exit.then (Code.rounds P b Q _) Q) (fun a w h => hr a w h) a w hrel⟩
      | exit id =>
        simp only [Option.some.injEq, Prod.mk.injEq] at h
        obtain ⟨rfl, rfl⟩ := h
        exact ⟨1, fun a w hrel => by
          rw [rounds_succ]
          exact IH (j + 1) hj me b st (.exit id) st1 hb n hc m0 γ0 F0 w0 (Exit.then (Code.rounds P b Q _) Q) (fun a w h => hQ a w h) a w hrel⟩
      | ret =>
        simp only [Option.some.injEq, Prod.mk.injEq] at h
        obtain ⟨rfl, rfl⟩ := h
        exact ⟨1, fun a w hrel => by
          rw [rounds_succ]
          exact IH (j + 1) hj me b st .ret st1 hb n hc m0 γ0 F0 w0 (Exit.then (Code.rounds P b Q _) Q) (fun a w h => hQ a w h) a w hrel⟩

theorem exec_ok (hm : P.follows .mixedOrders = true) {k : Nat} (hC : CallOK P (callWith P cf (exec P cf k))) (IH : ∀ j, j ≤ k → RunsOK P cf j) : RunsOK P cf (k + 1) := by
  intro me c st e st' h n hc m0 γ0 F0 w0 Q hQ a w hr
  have ihk := IH k (Nat.le_refl _)
  cases c with
  | skip => rw [exec] at h; simp only [Option.some.injEq, Prod.mk.injEq] at h; obtain ⟨rfl, rfl⟩ := h; exact wp_skip (hQ a w hr)
  | label l => rw [exec] at h; simp only [Option.some.injEq, Prod.mk.injEq] at h; obtain ⟨rfl, rfl⟩ := h; exact wp_label (hQ a w hr)
  | exit id => rw [exec] at h; simp only [Option.some.injEq, Prod.mk.injEq] at h; obtain ⟨rfl, rfl⟩ := h; exact wp_exit (hQ a w hr)
  | ret => rw [exec] at h; simp only [Option.some.injEq, Prod.mk.injEq] at h; obtain ⟨rfl, rfl⟩ := h; exact wp_ret (hQ a w hr)
  | region id ops draw =>
    rw [exec] at h
    simp only [Option.map_eq_some_iff, Prod.mk.injEq] at h
    obtain ⟨s, h1, rfl, rfl⟩ := h
    simp only [codeOk, List.all_eq_true] at hc
    exact region_ok hC hm hc h1 hr fun a w h => hQ a w h
  | seq x y =>
    simp only [codeOk, Bool.and_eq_true] at hc
    rw [exec] at h
    refine wp_seq ?_
    cases hx : exec P cf k me x st with
    | none => rw [hx] at h; simp at h
    | some q =>
      obtain ⟨e1, st1⟩ := q
      rw [hx] at h
      cases e1 with
      | normal =>
        simp only at h
        exact ihk me x st .normal st1 hx n hc.1 m0 γ0 F0 w0 (Exit.then (y.wp P Q) Q) (fun a w h' => ihk me y st1 e st' h n hc.2 m0 γ0 F0 w0 Q hQ a w h') a w hr
      | exit id =>
        simp only [Option.some.injEq, Prod.mk.injEq] at h
        obtain ⟨rfl, rfl⟩ := h
        exact ihk me x st (.exit id) st1 hx n hc.1 m0 γ0 F0 w0 (Exit.then (y.wp P Q) Q) (fun a w h' => hQ a w h') a w hr
      | ret =>
        simp only [Option.some.injEq, Prod.mk.injEq] at h
        obtain ⟨rfl, rfl⟩ := h
        exact ihk me x st .ret st1 hx n hc.1 m0 γ0 F0 w0 (Exit.then (y.wp P Q) Q) (fun a w h' => hQ a w h') a w hr
  | cond x t f =>
    simp only [codeOk, Bool.and_eq_true] at hc
    rw [exec] at h
    split at h
    · rename_i b hb
      have hs : Slots st.m hr.choose hr.choose_spec.choose w st.ρ a := hr.choose_spec.choose_spec.2.1
      have := asBoolP_eq hb (opnd_rep hs x)
      refine wp_cond this ?_
      cases b with
      | true => exact ihk me t st e st' h n hc.1 m0 γ0 F0 w0 Q hQ a w hr
      | false => exact ihk me f st e st' h n hc.2 m0 γ0 F0 w0 Q hQ a w hr
    · cases h
  | block id b =>
    simp only [codeOk] at hc
    rw [exec] at h
    refine wp_block ?_
    cases hx : exec P cf k me b st with
    | none => rw [hx] at h; simp at h
    | some q =>
      obtain ⟨e1, st1⟩ := q
      rw [hx] at h
      cases e1 with
      | normal =>
        simp only [Option.some.injEq, Prod.mk.injEq] at h
        obtain ⟨rfl, rfl⟩ := h
        exact ihk me b st .normal st1 hx n hc m0 γ0 F0 w0 (Exit.inBlock id Q) (fun a w h' => hQ a w h') a w hr
      | exit id' =>
        simp only at h
        refine ihk me b st (.exit id') st1 hx n hc m0 γ0 F0 w0 (Exit.inBlock id Q) (fun a w h' => ?_) a w hr
        simp only [Ex.to, Exit.inBlock]
        split at h
        · rename_i hid
          rw [if_pos hid]
          simp only [Option.some.injEq, Prod.mk.injEq] at h
          obtain ⟨rfl, rfl⟩ := h
          exact hQ a w h'
        · rename_i hid
          rw [if_neg hid]
          simp only [Option.some.injEq, Prod.mk.injEq] at h
          obtain ⟨rfl, rfl⟩ := h
          exact hQ a w h'
      | ret =>
        simp only [Option.some.injEq, Prod.mk.injEq] at h
        obtain ⟨rfl, rfl⟩ := h
        exact ihk me b st .ret st1 hx n hc m0 γ0 F0 w0 (Exit.inBlock id Q) (fun a w h' => hQ a w h') a w hr
  | loop b =>
    obtain ⟨r, hl⟩ := loop_ok IH k (Nat.le_refl _) me b st e st' h n (by simpa [codeOk] using hc) m0 γ0 F0 w0 Q hQ
    exact wp_loop_rounds r (hl a w hr)
  | _ => simp [exec] at h

def resSem (tmps : Array Value) : ResultVar → Sem Value
  | .tmp t => pure (tmps.getD t undef)
  | .cell a t => do loadVar t (← asAddr (tmps.getD a undef))

/-- A result. -/
theorem resP_ok {st : St} {γ : Nat → GB} {F : Nat → Prop} {w : World} {a : Act} (hi : Inv st.m γ F w) (hs : Slots st.m γ F w st.ρ a) {x : ResultVar} {p : PV} (h : (resP P st x).gives st.m p) :
    ∃ v, (resSem a.tmps x).run P w = .ok v w ∧ RepP st.m γ F w p v := by
  cases x with
  | tmp t =>
    simp only [resP, Mm.gives_ret] at h
    subst h
    exact ⟨_, by simp only [resSem, Sem.run_pure], hs t⟩
  | cell b t =>
    simp only [resP, Mm.gives_bind] at h
    obtain ⟨⟨cs, off⟩, h1, h2⟩ := h
    obtain ⟨g, o, hv, hc⟩ := rdAt_cells hi h1 (hs b)
    obtain ⟨v, hl, hr⟩ := takeT_load h2 hc
    exact ⟨v, by simp only [resSem, hv]; simp [asAddr, hl], hr⟩

theorem results_ok {st : St} {γ : Nat → GB} {F : Nat → Prop} {w : World} {a : Act} (hi : Inv st.m γ F w) (hs : Slots st.m γ F w st.ρ a) {fn : Func} {rs : List PV} (h : (Mm.mapL (resP P st) fn.results.toList).gives st.m rs) :
    ∃ v, (results fn a.tmps).run P w = .ok v w ∧ RepP st.m γ F w (tupR rs) v := by
  have key : ∀ (l : List ResultVar) (rs : List PV), (Mm.mapL (resP P st) l).gives st.m rs → ∃ vs : List Value, (l.mapM (resSem a.tmps)).run P w = .ok vs w ∧
      rs.length = vs.length ∧ ∀ (j : Nat) (p : PV) (v : Value), rs[j]? = some p → vs[j]? = some v → RepP st.m γ F w p v := by
    intro l
    induction l with
    | nil => intro rs h; rw [Mm.gives_mapL_nil] at h; subst h; exact ⟨[], by simp [Sem.run_pure], rfl, by simp⟩
    | cons x l ih =>
      intro rs h
      rw [Mm.gives_mapL_cons] at h
      obtain ⟨p, ps, h1, h2, rfl⟩ := h
      obtain ⟨v, hv, hr⟩ := resP_ok (a := a) hi hs h1
      obtain ⟨vs, hvs, hl, hrs⟩ := ih ps h2
      refine ⟨v :: vs, ?_, by simp [hl], fun j p' v' hp hv' => ?_⟩
      · rw [List.mapM_cons]
        simp only [Sem.run_bind, hv, hvs, Result.andThen_ok, Sem.run_pure]
      · cases j with
        | zero => simp at hp hv'; subst hp; subst hv'; exact hr
        | succ j => exact hrs j p' v' (by simpa using hp) (by simpa using hv')
  obtain ⟨vs, h1, h2, h3⟩ := key _ _ h
  refine ⟨if h : vs.toArray.size = 1 then vs.toArray[0] else .tuple vs.toArray, ?_, ?_⟩
  · have e : results fn a.tmps = (do let vs ← fn.results.mapM (resSem a.tmps); pure (if h : vs.size = 1 then vs[0] else .tuple vs)) := rfl
    rw [e, Array.mapM_eq_mapM_toList]
    simp only [Sem.run_bind, Sem.run_map, h1, Result.andThen_ok, Sem.run_pure]
  · match rs, vs, h2, h3 with
    | [], [], _, h3 => exact .tup [] [] rfl (by simp)
    | [p], [v], _, h3 => exact h3 0 p v rfl rfl
    | p :: p2 :: ps, v :: v2 :: vs, h2, h3 => simpa [tupR] using RepP.tup (p :: p2 :: ps) (v :: v2 :: vs) h2 h3

end
end Go.Proofs.Ytnobgdgnncfcpaa.X
