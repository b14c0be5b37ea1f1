/- Soundness of calls: what goes in, what comes back. -/
import Derived.Test.YtnobgdgnncfcpaaOpI
import Derived.Shelf.Abstract
namespace Go.Proofs.Ytnobgdgnncfcpaa.X
open Go

def mp (ps : List Arr) : Mem := fun s => if 1000 ≤ s then ps[s - 1000]? else none
def mq (ps own : List Arr) : Mem := fun s => if 2000 ≤ s then own[s - 2000]? else if 1000 ≤ s then ps[s - 1000]? else none

/-- A callee keeps what its meaning says. -/
def CallPost (ps ps' own : List Arr) (r : PV) (γ : Nat → GB) (F : Nat → Prop) (w : World) (e : Ending) (w' : World) : Prop :=
  ∃ v γ' F', e = .returned v ∧ ps'.length = ps.length ∧ Inv (mq ps' own) γ' F' w' ∧ MemStep (mp ps) γ (mq ps' own) γ' ∧ (∀ b, F b → F' b) ∧ (∀ b, F' b → F b ∨ w.heap.size ≤ b) ∧
    Stp (mp ps) γ w (mq ps' own) γ' w' ∧ RepP (mq ps' own) γ' F' w' r v
def CallOK (P : Program) (C : CallS) : Prop :=
  ∀ f args ps r ps' own, C f args ps = some (r, ps', own) → ps.length ≤ 1000 → Enters P f ∧ ∀ γ F w (vals : List Value), Inv (mp ps) γ F w → args.length = vals.length →
    (∀ (j : Nat) (p : PV) (v : Value), args[j]? = some p → vals[j]? = some v → RepP (mp ps) γ F w p v) → Calls P f vals.toArray w (CallPost ps ps' own r γ F w)

section
variable {P : Program} {w w' : World} {m m' mm : Mem} {γ γ' : Nat → GB} {F F' : Nat → Prop}

def LookOK (look : Nat → Nat → Mm (Nat × Nat)) (mm m : Mem) (γ : Nat → GB) (m' : Mem) (γ' : Nat → GB) : Prop :=
  ∀ s ver s' v', (look s ver).gives mm (s', v') → ∀ A, m s = some A → ver ≤ A.ver → ∃ A', m' s' = some A' ∧ v' ≤ A'.ver ∧ (v' = A'.ver → ver = A.ver ∧ A.like A' ∧ γ' s' = γ s)

theorem ren_rep {look : Nat → Nat → Mm (Nat × Nat)} (hl : LookOK look mm m γ m' γ') (hF : ∀ b, F b → F' b) (hw : Agree F w w') :
    ∀ (n : Nat) (p p' : PV) (v : Value), RepP m γ F w p v → (ren look n p).gives mm p' → RepP m' γ' F' w' p' v := by
  have leaf : ∀ (n : Nat) (p p' : PV) (v : Value), RepP m γ F w p v → (ren look n p).gives mm p' → (∀ cs, p ≠ .agg cs) → (∀ cs, p ≠ .tup cs) → (∀ f a b, p ≠ .fn f a b) → RepP m' γ' F' w' p' v := by
    intro n p p' v hr h h1 h2 h3
    cases hr with
    | i hr =>
      cases n <;> (simp only [ren, Mm.gives_ret] at h; subst h; exact .i (hr.mono hF hw))
    | ref s ver off len ao cap A hA hv hs =>
      have : ∃ s' v', (look s ver).gives mm (s', v') ∧ p' = .ref s' v' off len := by
        cases n <;> (simp only [ren, Mm.gives_bind, Mm.gives_ret] at h; obtain ⟨⟨s', v'⟩, q1, q2⟩ := h; exact ⟨s', v', q1, q2.symm⟩)
      obtain ⟨s', v', q1, rfl⟩ := this
      obtain ⟨A', hA', hv', he⟩ := hl s ver s' v' q1 A hA hv
      refine .ref s' v' off len ao cap A' hA' hv' fun e => ?_
      obtain ⟨e1, e2, e3⟩ := he e
      rw [e3]
      exact sliceOf_like e2 (hs e1)
    | ptr s ver i off a A hA hv hs =>
      have : ∃ s' v', (look s ver).gives mm (s', v') ∧ p' = .ptr s' v' i off := by
        cases n <;> (simp only [ren, Mm.gives_bind, Mm.gives_ret] at h; obtain ⟨⟨s', v'⟩, q1, q2⟩ := h; exact ⟨s', v', q1, q2.symm⟩)
      obtain ⟨s', v', q1, rfl⟩ := this
      obtain ⟨A', hA', hv', he⟩ := hl s ver s' v' q1 A hA hv
      refine .ptr s' v' i off a A' hA' hv' fun e => ?_
      obtain ⟨e1, e2, e3⟩ := he e
      rw [e3]
      exact placeOf_like e2 (hs e1)
    | agg cs => exact absurd rfl (h1 cs)
    | tup cs => exact absurd rfl (h2 cs)
    | fn f a b => exact absurd rfl (h3 f a b)
    | bad => cases n <;> simp [ren, Mm.gives_fail] at h
  intro n
  induction n with
  | zero =>
    intro p p' v hr h
    cases p with
    | agg cs => simp [ren, Mm.gives_fail] at h
    | tup cs => simp [ren, Mm.gives_fail] at h
    | fn f a b => simp [ren, Mm.gives_fail] at h
    | _ => exact leaf 0 _ p' v hr h (by simp) (by simp) (by simp)
  | succ n ih =>
    intro p p' v hr h
    have lst : ∀ (cs l : List PV) (c : List Value), (Mm.mapL (ren look n) cs).gives mm l → cs.length = c.length → (∀ (j : Nat) (p : PV) (v : Value), cs[j]? = some p → c[j]? = some v → RepP m γ F w p v) →
        l.length = c.length ∧ ∀ (j : Nat) (p : PV) (v : Value), l[j]? = some p → c[j]? = some v → RepP m' γ' F' w' p v := fun cs l c hl hlen hc => by
      refine ⟨by rw [Mm.mapL_length hl, hlen], fun j p v hp hv => ?_⟩
      obtain ⟨x, hx, hg⟩ := Mm.mapL_get' hl j p hp
      exact ih x p v (hc j x v hx hv) hg
    cases p with
    | agg cs =>
      simp only [ren, Mm.gives_bind, Mm.gives_ret] at h
      obtain ⟨l, h1, rfl⟩ := h
      cases hr with
      | agg _ c h2 h3 => obtain ⟨q1, q2⟩ := lst cs l c h1 h2 h3; exact .agg l c q1 q2
    | tup cs =>
      simp only [ren, Mm.gives_bind, Mm.gives_ret] at h
      obtain ⟨l, h1, rfl⟩ := h
      cases hr with
      | tup _ c h2 h3 => obtain ⟨q1, q2⟩ := lst cs l c h1 h2 h3; exact .tup l c q1 q2
    | fn f a b =>
      simp only [ren, Mm.gives_bind, Mm.gives_ret] at h
      obtain ⟨la, h1, lb, h2, rfl⟩ := h
      cases hr with
      | fn _ _ _ ca cb q1 q2 q3 q4 =>
        obtain ⟨r1, r2⟩ := lst a la ca h1 q1 q3
        obtain ⟨r3, r4⟩ := lst b lb cb h2 q2 q4
        exact .fn f la lb ca cb r1 r3 r2 r4
    | _ => exact leaf (n + 1) _ p' v hr h (by simp) (by simp) (by simp)

theorem renArr_facts {look : Nat → Nat → Mm (Nat × Nat)} {ver : Nat} {A B : Arr} (h : (renArr look ver A).gives mm B) : A.live ∧ B.live ∧ A.like B ∧ B.ver = ver := by
  cases A with
  | arr v k xs => simp only [renArr, Mm.gives_ret] at h; subst h; exact ⟨trivial, trivial, ⟨rfl, rfl⟩, rfl⟩
  | box v cs => simp only [renArr, Mm.gives_bind, Mm.gives_ret] at h; obtain ⟨l, _, rfl⟩ := h; exact ⟨trivial, trivial, trivial, rfl⟩
  | dead v => simp [renArr, Mm.gives_fail] at h

theorem renArr_holds {look : Nat → Nat → Mm (Nat × Nat)} (hl : LookOK look mm m γ m' γ') (hF : ∀ b, F b → F' b) (hw : Agree F w w') {G : GB} (hb : w'.heap[G.g]? = w.heap[G.g]?)
    {ver : Nat} {A B : Arr} (h : (renArr look ver A).gives mm B) (hh : Holds m γ F w G A) : Holds m' γ' F' w' G B := by
  cases A with
  | arr v k xs =>
    simp only [renArr, Mm.gives_ret] at h; subst h
    obtain ⟨cur, E, h0, h1, h2, h3, h4⟩ := hh
    refine ⟨cur, E, hb.trans h0, h1, h2, h3, fun i e he => ⟨(h4 i e he).1, fun j p hp => ?_⟩⟩
    obtain ⟨x, hx, ho, hr⟩ := (h4 i e he).2 j p hp
    exact ⟨x, hx, ho, hr.mono hF hw⟩
  | box v cs =>
    simp only [renArr, Mm.gives_bind, Mm.gives_ret] at h; obtain ⟨l, h5, rfl⟩ := h
    obtain ⟨cur, E, h0, h1, h2⟩ := hh
    refine ⟨cur, E, hb.trans h0, by rw [h1, Mm.mapL_length h5], fun j p hp => ?_⟩
    obtain ⟨y, hy, hg⟩ := Mm.mapL_get' h5 j p hp
    obtain ⟨x, hx, ho, hr⟩ := h2 j y hy
    exact ⟨x, hx, ho, ren_rep hl hF hw 3 y p x hr hg⟩
  | dead v => simp [renArr, Mm.gives_fail] at h

/-- What goes in. -/
theorem sendM_ok (hi : Inv m γ F w) {args args' : List PV} {L : List Nat} {ps : List Arr} {vs : List Nat} (h : (sendM args).gives m (L, args', ps, vs)) {vals : List Value} (hlen : args.length = vals.length)
    (hr : ∀ (j : Nat) (p : PV) (v : Value), args[j]? = some p → vals[j]? = some v → RepP m γ F w p v) :
    L.Nodup ∧ L.length ≤ 1000 ∧ ps.length = L.length ∧ vs.length = L.length ∧ args'.length = vals.length ∧
      (∀ (j s : Nat), L[j]? = some s → ∃ A B, m s = some A ∧ ps[j]? = some B ∧ vs[j]? = some A.ver ∧ B.ver = 0 ∧ A.like B ∧ A.live ∧ B.live) ∧
      Inv (mp ps) (fun s => γ (L.getD (s - 1000) 0)) F w ∧
      (∀ (j : Nat) (p : PV) (v : Value), args'[j]? = some p → vals[j]? = some v → RepP (mp ps) (fun s => γ (L.getD (s - 1000) 0)) F w p v) := by
  simp only [sendM, Mm.gives_bind, Mm.gives_chk, Bool.and_eq_true, decide_eq_true_eq, Mm.gives_ret, Prod.mk.injEq] at h
  obtain ⟨L', _, args1, hargs, pv, hpv, ⟨hnd, hL⟩, rfl, rfl, rfl, rfl⟩ := h
  have hpl : pv.length = L'.length := Mm.mapL_length hpv
  have hj : ∀ (j s : Nat), L'[j]? = some s → ∃ A B, m s = some A ∧ pv[j]? = some (B, A.ver) ∧ (renArr (lookIn 1000 L') 0 A).gives m B := fun j s hs => by
    obtain ⟨⟨B, v⟩, hy, hg⟩ := Mm.mapL_get hpv j s hs
    simp only [Mm.gives_get] at hg
    split at hg
    · rename_i A hA
      simp only [Mm.gives_bind, Mm.gives_ret, Prod.mk.injEq] at hg
      obtain ⟨B', hB, rfl, rfl⟩ := hg
      exact ⟨A, B', hA, hy, hB⟩
    · simp [Mm.gives_fail] at hg
  have hmp : ∀ j B v, pv[j]? = some (B, v) → mp (pv.map (·.1)) (1000 + j) = some B := fun j B v hB => by
    simp [mp, hB]
  have hlook : LookOK (lookIn 1000 L') m m γ (mp (pv.map (·.1))) (fun s => γ (L'.getD (s - 1000) 0)) := by
    intro s ver s' v' hg A hA hv
    simp only [lookIn, Mm.gives_get, hA, Mm.gives_chk, Bool.and_eq_true, beq_iff_eq, Mm.gives_ret, Prod.mk.injEq] at hg
    obtain ⟨⟨rfl, hc⟩, rfl, rfl⟩ := hg
    have hin : s ∈ L' := by simpa using hc
    have hidx : L'[L'.idxOf s]? = some s := by
      have := List.idxOf_lt_length_of_mem hin
      rw [List.getElem?_eq_getElem this, List.getElem_idxOf]
    obtain ⟨A2, B, hA2, hB, hren⟩ := hj _ _ hidx
    rw [hA] at hA2; cases hA2
    obtain ⟨_, _, r3, r4⟩ := renArr_facts hren
    refine ⟨B, hmp _ _ _ hB, by omega, fun _ => ⟨rfl, r3, ?_⟩⟩
    simp [hidx]
  have hsite : ∀ s B, mp (pv.map (·.1)) s = some B → ∃ j t A, s = 1000 + j ∧ L'[j]? = some t ∧ m t = some A ∧ (renArr (lookIn 1000 L') 0 A).gives m B := fun s B hB => by
    unfold mp at hB
    split at hB
    · rename_i hs
      simp only [List.getElem?_map, Option.map_eq_some_iff] at hB
      obtain ⟨⟨B', v⟩, hy, rfl⟩ := hB
      have hlt : s - 1000 < L'.length := by rw [← hpl]; exact (List.getElem?_eq_some_iff.1 hy).1
      obtain ⟨A, B2, hA, hB2, hren⟩ := hj (s - 1000) _ (List.getElem?_eq_getElem hlt)
      rw [hy] at hB2; cases hB2
      exact ⟨s - 1000, _, A, by omega, List.getElem?_eq_getElem hlt, hA, hren⟩
    · cases hB
  have hgam : ∀ j t, L'[j]? = some t → γ (L'.getD (1000 + j - 1000) 0) = γ t := fun j t ht => by simp [ht]
  refine ⟨hnd, hL, by simp [hpl], by simp [hpl], by rw [Mm.mapL_length hargs, hlen], fun j s hs => ?_, ⟨fun s B hB => ?_, fun s B hB hBl => ?_, fun s s' B B' hB hB' hl hl' e => ?_, hi.bound⟩, fun j p v hp hv => ?_⟩
  · obtain ⟨A, B, hA, hB, hren⟩ := hj j s hs
    obtain ⟨r1, r2, r3, r4⟩ := renArr_facts hren
    exact ⟨A, B, hA, by simp [hB], by simp [hB], r4, r3, r1, r2⟩
  · obtain ⟨j, t, A, rfl, ht, hA, hren⟩ := hsite s B hB
    show Holds _ _ F w (γ (L'.getD (1000 + j - 1000) 0)) B
    rw [hgam j t ht]
    exact renArr_holds hlook (fun _ h => h) (fun _ _ => rfl) rfl hren (hi.holds t A hA)
  · obtain ⟨j, t, A, rfl, ht, hA, hren⟩ := hsite s B hB
    simp only [hgam j t ht]
    exact hi.notF t A hA (renArr_facts hren).1
  · obtain ⟨j, t, A, rfl, ht, hA, hren⟩ := hsite s B hB
    obtain ⟨j', t', A', rfl, ht', hA', hren'⟩ := hsite s' B' hB'
    simp only [hgam j t ht, hgam j' t' ht'] at e
    have := hi.dist t t' A A' hA hA' (renArr_facts hren).1 (renArr_facts hren').1 e
    subst this
    have := (List.getElem?_inj (List.getElem?_eq_some_iff.1 ht).1 hnd).1 (ht.trans ht'.symm)
    omega
  · obtain ⟨x, hx, hg⟩ := Mm.mapL_get' hargs j p hp
    exact ren_rep hlook (fun _ h => h) (fun _ _ => rfl) 3 x p v (hr j x v hx hv) hg

end
end Go.Proofs.Ytnobgdgnncfcpaa.X
