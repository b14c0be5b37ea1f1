/- Soundness of calls: the call as an operation. -/
import Derived.Test.YtnobgdgnncfcpaaBack
namespace Go.Proofs.Ytnobgdgnncfcpaa.X
open Go

theorem mapO_length {α β : Type} {f : α → Option β} : ∀ {a : List α} {l : List β}, mapO f a = some l → l.length = a.length
  | [], l, h => by simp [mapO] at h; simp [← h]
  | x :: r, l, h => by
    simp only [mapO] at h
    split at h
    · rename_i b l' h1 h2; cases h; simp [mapO_length h2]
    · cases h
theorem mapO_get' {α β : Type} {f : α → Option β} : ∀ {a : List α} {l : List β}, mapO f a = some l → ∀ (j : Nat) (y : β), l[j]? = some y → ∃ x, a[j]? = some x ∧ f x = some y
  | [], l, h, j, y, hy => by simp [mapO] at h; subst h; simp at hy
  | x :: r, l, h, j, y, hy => by
    simp only [mapO] at h
    split at h
    · rename_i b l' h1 h2
      cases h
      cases j with
      | zero => simp at hy; subst hy; exact ⟨x, rfl, h1⟩
      | succ j => simp at hy; obtain ⟨z, hz, hf⟩ := mapO_get' h2 j y hy; exact ⟨z, by simpa using hz, hf⟩
    · cases h

section
variable {P : Program} {w w' : World} {m : Mem} {γ γ' : Nat → GB} {F F' F2 : Nat → Prop} {cf : Cfg} {C : CallS} {me : FuncId}

theorem frz_rep (hi : Inv m γ F w) {FI : Nat → Prop} (hF : ∀ b, F b → FI b) : ∀ (n k : Nat) (p : PV) (x : IV) (v : Value), ((∀ s A, m s = some A → A.live → FI (γ s).g) ∨ hasRef k p = false) →
    RepP m γ F w p v → (frz n p).gives m x → RepI FI w x v ∧ (p.scalar = true → v.oneCell' = true) := by
  have lf : ∀ (n k : Nat) (p : PV) (x : IV) (v : Value), ((∀ s A, m s = some A → A.live → FI (γ s).g) ∨ hasRef k p = false) → RepP m γ F w p v → (frz n p).gives m x → (∀ s ver i off, p ≠ .ptr s ver i off) → (∀ f a b, p ≠ .fn f a b) → RepI FI w x v := by
    intro n k p x v ht hr h h1 h2
    cases hr with
    | i hr =>
      cases hr with
      | emp ao =>
        cases n <;> (simp only [frz, Mm.gives_ret] at h; subst h; exact .lst [] ao 0 0 (fun _ _ => undef) (Nat.le_refl _) (Nat.zero_le _) (by simp) (by simp) (by simp) (by simp))
      | v y => cases n <;> (simp only [frz, Mm.gives_ret] at h; subst h; exact .v _)
      | lst xs ao cap k' c q1 q2 q3 q4 q5 q6 =>
        cases n <;> (simp only [frz, Mm.gives_ret] at h; subst h; exact (RepI.lst xs ao cap k' c q1 q2 q3 q4 q5 q6).mono hF (fun _ _ => rfl))
      | eptr e off g o c q1 q2 q3 q4 =>
        cases n <;> (simp only [frz, Mm.gives_ret] at h; subst h; exact (RepI.eptr e off g o c q1 q2 q3 q4).mono hF (fun _ _ => rfl))
      | fn f a b ca cb q1 q2 q3 q4 =>
        cases n <;> (simp only [frz, Mm.gives_ret] at h; subst h; exact (RepI.fn f a b ca cb q1 q2 q3 q4).mono hF (fun _ _ => rfl))
    | ref s ver off len ao cap A hA hv hs =>
      have hT : ∀ s A, m s = some A → A.live → FI (γ s).g := by
        rcases ht with h | h
        · exact h
        · cases k <;> simp [hasRef] at h
      have : (Mm.get s fun | some (.arr v _ xs) => Mm.chk (v == ver) (.ret (.lst ((xs.drop off).take len))) | _ => .fail : Mm IV).gives m x := by cases n <;> exact h
      simp only [Mm.gives_get, hA] at this
      cases A with
      | arr v k' xs =>
        simp only [Mm.gives_chk, beq_iff_eq, Mm.gives_ret] at this
        obtain ⟨rfl, rfl⟩ := this
        exact repI_of_arr (m := m) (γ := γ) (hT s _ hA trivial) ((hi.holds s _ hA).step (MemStep.refl m γ) hF (fun _ _ => rfl) rfl) (hs rfl)
      | _ => simp [Mm.gives_fail] at this
    | ptr s ver i off a A hA hv hs => exact absurd rfl (h1 s ver i off)
    | fn f a b => exact absurd rfl (h2 f a b)
    | agg cs => cases n <;> simp [frz, Mm.gives_fail] at h
    | tup cs => cases n <;> simp [frz, Mm.gives_fail] at h
    | bad => cases n <;> simp [frz, Mm.gives_fail] at h
  have main : ∀ (n k : Nat) (p : PV) (x : IV) (v : Value), ((∀ s A, m s = some A → A.live → FI (γ s).g) ∨ hasRef k p = false) → RepP m γ F w p v → (frz n p).gives m x → RepI FI w x v := by
    intro n
    induction n with
    | zero =>
      intro k p x v ht hr h
      cases p with
      | ptr s ver i off => simp [frz, Mm.gives_fail] at h
      | fn f a b => simp [frz, Mm.gives_fail] at h
      | _ => exact lf 0 k _ x v ht hr h (by simp) (by simp)
    | succ n ih =>
      intro k p x v ht hr h
      have lst : ∀ (k : Nat) (cs : List PV) (l : List IV) (c : List Value), ((∀ s A, m s = some A → A.live → FI (γ s).g) ∨ cs.any (hasRef k) = false) → (Mm.mapL (frz n) cs).gives m l → cs.length = c.length → (∀ (j : Nat) (p : PV) (v : Value), cs[j]? = some p → c[j]? = some v → RepP m γ F w p v) →
          l.length = c.length ∧ ∀ (j : Nat) (p : IV) (v : Value), l[j]? = some p → c[j]? = some v → RepI FI w p v := fun k cs l c ht hl hlen hc => by
        refine ⟨by rw [Mm.mapL_length hl, hlen], fun j p v hp hv => ?_⟩
        obtain ⟨y, hy, hg⟩ := Mm.mapL_get' hl j p hp
        refine ih k y p v (ht.imp id fun h => ?_) (hc j y v hy hv) hg
        rw [List.any_eq_false] at h
        simpa using h y (List.mem_of_getElem? hy)
      cases p with
      | ptr s ver i off =>
        cases hr with
        | ptr _ _ _ _ a A hA hv hs =>
        have hT : ∀ s A, m s = some A → A.live → FI (γ s).g := by
          rcases ht with h | h
          · exact h
          · cases k <;> simp [hasRef] at h
        simp only [frz, Mm.gives_get, hA] at h
        cases A with
        | arr v k' xs =>
          simp only [Mm.gives_chk, beq_iff_eq] at h
          obtain ⟨rfl, h⟩ := h
          split at h
          · rename_i e he
            simp only [Mm.gives_ret] at h
            subst h
            obtain ⟨hi', rfl⟩ := hs rfl
            obtain ⟨cur, E, hb, _, _, _, hc⟩ := hi.holds s _ hA
            refine .eptr e off (γ s).g (((γ s).b + i) * k') (fun j => (cur[((γ s).b + i) * k' + j]?).getD undef) (hT s _ hA trivial) (fun j p hp => ?_) (fun j p hp => ?_) (fun j p hp => ?_)
            · obtain ⟨x, hx, _, _⟩ := (hc i e he).2 j p hp
              rw [cell_of_row w _ _ cur E (0, 0) hb, hx]; rfl
            · obtain ⟨x, hx, _, hr⟩ := (hc i e he).2 j p hp
              simp only [hx, Option.getD_some]; exact hr.mono hF (fun _ _ => rfl)
            · obtain ⟨x, hx, ho, _⟩ := (hc i e he).2 j p hp
              simp only [hx, Option.getD_some]; exact ho
          · simp [Mm.gives_fail] at h
        | box v cs =>
          simp only [Mm.gives_chk, Bool.and_eq_true, beq_iff_eq, Mm.gives_bind, Mm.gives_ret] at h
          obtain ⟨⟨rfl, rfl⟩, e, he, rfl⟩ := h
          obtain ⟨_, rfl⟩ := hs rfl
          obtain ⟨cur, E, hb, hsz, hc⟩ := hi.holds s _ hA
          have hcc : ∀ (j : Nat) (p : IV), e[j]? = some p → ∃ x : Value, cur[j]? = some x ∧ x.oneCell' = true ∧ RepI FI w p x := fun j p hp => by
            obtain ⟨y, hy, hg⟩ := Mm.mapL_get' he j p hp
            obtain ⟨x, hx, ho, hr⟩ := hc j y hy
            exact ⟨x, hx, ho, ih 0 y p x (.inl hT) hr hg⟩
          have : RepI FI w (.eptr e off) (.pointer (some ⟨(γ s).g, 0 + off, none⟩)) := by
            refine .eptr e off (γ s).g 0 (fun j => (cur[j]?).getD undef) (hT s _ hA trivial) (fun j p hp => ?_) (fun j p hp => ?_) (fun j p hp => ?_)
            · obtain ⟨x, hx, _, _⟩ := hcc j p hp
              rw [cell_of_row w _ _ cur E (0, 0) hb, Nat.zero_add, hx]; rfl
            · obtain ⟨x, hx, _, hr⟩ := hcc j p hp
              simp only [hx, Option.getD_some]; exact hr
            · obtain ⟨x, hx, ho, _⟩ := hcc j p hp
              simp only [hx, Option.getD_some]; exact ho
          simpa using this
        | dead v => simp [Mm.gives_fail] at h
      | fn f a b =>
        simp only [frz, Mm.gives_bind, Mm.gives_ret] at h
        obtain ⟨la, h1, lb, h2, rfl⟩ := h
        cases hr with
        | fn _ _ _ ca cb q1 q2 q3 q4 =>
          cases k with
          | zero =>
            obtain ⟨r1, r2⟩ := lst 0 a la ca (ht.imp id fun h => by simp [hasRef] at h) h1 q1 q3
            obtain ⟨r3, r4⟩ := lst 0 b lb cb (ht.imp id fun h => by simp [hasRef] at h) h2 q2 q4
            exact .fn f la lb ca cb r1 r3 r2 r4
          | succ k =>
            obtain ⟨r1, r2⟩ := lst k a la ca (ht.imp id fun h => by simp only [hasRef, Bool.or_eq_false_iff] at h; exact h.1) h1 q1 q3
            obtain ⟨r3, r4⟩ := lst k b lb cb (ht.imp id fun h => by simp only [hasRef, Bool.or_eq_false_iff] at h; exact h.2) h2 q2 q4
            exact .fn f la lb ca cb r1 r3 r2 r4
      | _ => exact lf (n + 1) k _ x v ht hr h (by simp) (by simp)
  exact fun n k p x v ht hr h => ⟨main n k p x v ht hr h, fun hs => scalar_one hr hs⟩

theorem frzA_rep (hi : Inv m γ F w) {FI : Nat → Prop} (hF : ∀ b, F b → FI b) {p p' : PV} {v : Value} {M : Mem} {G : Nat → GB} (ht : (∀ s A, m s = some A → A.live → FI (γ s).g) ∨ hasRef 4 p = false)
    (hr : RepP m γ F w p v) (h : (frzA p).gives m p') : RepP M G FI w p' v := by
  cases p with
  | agg cs =>
    simp only [frzA, Mm.gives_bind, Mm.gives_ret] at h
    obtain ⟨l, hl, rfl⟩ := h
    cases hr with
    | agg _ c h1 h2 =>
      refine .agg _ c (by simp [Mm.mapL_length hl, h1]) fun j p v hp hv => ?_
      simp only [List.getElem?_map, Option.map_eq_some_iff] at hp
      obtain ⟨x, hx, rfl⟩ := hp
      obtain ⟨y, hy, hg⟩ := Mm.mapL_get' hl j x hx
      refine .i (frz_rep hi hF 3 3 y x v (ht.imp id fun h => ?_) (h2 j y v hy hv) hg).1
      simp only [hasRef, List.any_eq_false] at h
      simpa using h y (List.mem_of_getElem? hy)
  | _ =>
    simp only [frzA, Mm.gives_bind, Mm.gives_ret] at h
    obtain ⟨x, hx, rfl⟩ := h
    exact .i (frz_rep hi hF 3 4 _ x v ht hr hx).1

theorem imm_rep {ps own : List Arr} (hi : Inv (mq ps own) γ F w) (hF : ∀ b, F b → F2 b) (hO : ∀ j A, own[j]? = some A → A.live → F2 (γ (2000 + j)).g) :
    ∀ (n : Nat) (r r2 : PV) (v : Value), RepP (mq ps own) γ F w r v → imm n own r = some r2 → RepP (mq ps own) γ F2 w r2 v := by
  have one : ∀ (r r2 : PV) (v : Value), RepP (mq ps own) γ F w r v → imm1 own r = some r2 → RepP (mq ps own) γ F2 w r2 v := by
    intro r r2 v hr h
    cases hr with
    | i hr => simp only [imm1, Option.some.injEq] at h; subst h; exact .i (hr.mono hF (fun _ _ => rfl))
    | ref s ver off len ao cap A hA hv hs =>
      simp only [imm1] at h
      split at h
      · simp only [Option.some.injEq] at h; subst h
        exact .ref s ver off len ao cap A hA hv hs
      · rename_i h2
        split at h
        · rename_i v k xs ho
          split at h
          · rename_i hvv
            simp only [Option.some.injEq] at h; subst h
            have : mq ps own s = some (.arr v k xs) := by
              simp only [mq]; rw [if_pos (by omega)]; exact ho
            rw [hA] at this; cases this
            have hO2 := hO (s - 2000) _ ho trivial
            rw [show 2000 + (s - 2000) = s from by omega] at hO2
            exact .i (repI_of_arr (m := mq ps own) (γ := γ) hO2 ((hi.holds s _ hA).step (MemStep.refl _ _) hF (fun _ _ => rfl) rfl) (hs hvv.symm))
          · cases h
        · cases h
    | _ => simp [imm1] at h
  intro n
  induction n with
  | zero => intro r r2 v hr h; exact one r r2 v hr (by simpa [imm] using h)
  | succ n ih =>
    intro r r2 v hr h
    have lst : ∀ (cs l : List PV) (c : List Value), mapO (imm n own) cs = some l → cs.length = c.length → (∀ (j : Nat) (p : PV) (v : Value), cs[j]? = some p → c[j]? = some v → RepP (mq ps own) γ F w p v) →
        l.length = c.length ∧ ∀ (j : Nat) (p : PV) (v : Value), l[j]? = some p → c[j]? = some v → RepP (mq ps own) γ F2 w p v := fun cs l c hl hlen hc => by
      refine ⟨by rw [mapO_length hl, hlen], fun j p v hp hv => ?_⟩
      obtain ⟨y, hy, hg⟩ := mapO_get' hl j p hp
      exact ih y p v (hc j y v hy hv) hg
    cases r with
    | agg cs =>
      simp only [imm, Option.map_eq_some_iff] at h
      obtain ⟨l, hl, rfl⟩ := h
      cases hr with
      | agg _ c h1 h2 => obtain ⟨q1, q2⟩ := lst cs l c hl h1 h2; exact .agg l c q1 q2
    | tup cs =>
      simp only [imm, Option.map_eq_some_iff] at h
      obtain ⟨l, hl, rfl⟩ := h
      cases hr with
      | tup _ c h1 h2 => obtain ⟨q1, q2⟩ := lst cs l c hl h1 h2; exact .tup l c q1 q2
    | _ => exact one _ r2 v hr (by simpa [imm] using h)

theorem flatI_rep {F1 F2 : Nat → Prop} {x : IV} {v : Value} (hf : flatIV x = true) (h : RepI F1 w x v) : RepI F2 w x v := by
  cases h <;> first | exact .v _ | exact .emp _ | simp [flatIV] at hf
theorem flatC_rep {F1 F2 : Nat → Prop} {p : PV} {v : Value} (hf : flatC p = true) (h : RepP m γ F1 w p v) : RepP m γ F2 w p v := by
  cases h with
  | i h => exact .i (flatI_rep hf h)
  | ref s ver off len ao cap A h1 h2 h3 => exact .ref s ver off len ao cap A h1 h2 h3
  | ptr s ver i off a A h1 h2 h3 => exact .ptr s ver i off a A h1 h2 h3
  | _ => simp [flatC] at hf
theorem flatP_rep {F1 F2 : Nat → Prop} : ∀ (n : Nat) (p : PV) (v : Value), flatP n p = true → RepP m γ F1 w p v → RepP m γ F2 w p v := by
  intro n
  induction n with
  | zero => intro p v hf h; exact flatC_rep (by simpa [flatP] using hf) h
  | succ n ih =>
    intro p v hf h
    cases p with
    | agg cs =>
      simp only [flatP, List.all_eq_true] at hf
      cases h with
      | agg _ c h1 h2 => exact .agg cs c h1 fun j p v hp hv => ih p v (hf p (List.mem_of_getElem? hp)) (h2 j p v hp hv)
    | tup cs =>
      simp only [flatP, List.all_eq_true] at hf
      cases h with
      | tup _ c h1 h2 => exact .tup cs c h1 fun j p v hp hv => ih p v (hf p (List.mem_of_getElem? hp)) (h2 j p v hp hv)
    | _ => exact flatC_rep (by simpa [flatP] using hf) h
theorem flatA_holds {F1 F2 : Nat → Prop} {G : GB} {A : Arr} (hf : flatA A = true) (h : Holds m γ F1 w G A) : Holds m γ F2 w G A := by
  cases A with
  | arr v k xs =>
    obtain ⟨cur, E, h0, h1, h2, h3, h4⟩ := h
    simp only [flatA, List.all_eq_true] at hf
    refine ⟨cur, E, h0, h1, h2, h3, fun i e he => ⟨(h4 i e he).1, fun j p hp => ?_⟩⟩
    obtain ⟨x, hx, ho, hr⟩ := (h4 i e he).2 j p hp
    exact ⟨x, hx, ho, flatI_rep (hf e (List.mem_of_getElem? he) p (List.mem_of_getElem? hp)) hr⟩
  | box v cs =>
    obtain ⟨cur, E, h0, h1, h2⟩ := h
    simp only [flatA, List.all_eq_true] at hf
    refine ⟨cur, E, h0, h1, fun j p hp => ?_⟩
    obtain ⟨x, hx, ho, hr⟩ := h2 j p hp
    exact ⟨x, hx, ho, flatC_rep (hf p (List.mem_of_getElem? hp)) hr⟩
  | dead v => trivial

theorem mp_nil : mp [] = fun _ => none := by funext s; simp [mp]

/-- What a call does. -/
theorem callP_ok (hC : CallOK P C) (hi : Inv m γ F w) {dst : Option Nat} {f : FuncId} {args : List PV} {vals : List Value} {out : PV} {wr : List (Nat × Arr)} (h : (callP cf C me dst f args).gives m (out, wr))
    (hlen : args.length = vals.length) (hr : ∀ (j : Nat) (p : PV) (v : Value), args[j]? = some p → vals[j]? = some v → RepP m γ F w p v) :
    Enters P f ∧ Calls P f vals.toArray w fun e w' => ∃ v γ2 F2, e = .returned v ∧ Inv (updL m wr) γ2 F2 w' ∧ MemStep m γ (updL m wr) γ2 ∧ FStep m γ F w F2 ∧ Stp m γ w (updL m wr) γ2 w' ∧ RepP (updL m wr) γ2 F2 w' out v := by
  -- the two ways back
  have back : ∀ (L vs : List Nat) (ps ps' own : List Arr) (r : PV) (F' : Nat → Prop) (γ' : Nat → GB) (w' : World) (v : Value),
      L.Nodup → ps.length = L.length → L.length ≤ 1000 → vs.length = L.length →
      (∀ (j s : Nat), L[j]? = some s → ∃ A B, m s = some A ∧ ps[j]? = some B ∧ vs[j]? = some A.ver ∧ B.ver = 0 ∧ A.like B ∧ A.live ∧ B.live) →
      ps'.length = ps.length → Inv (mq ps' own) γ' F' w' → MemStep (mp ps) (fun s => γ (L.getD (s - 1000) 0)) (mq ps' own) γ' → Stp (mp ps) (fun s => γ (L.getD (s - 1000) 0)) w (mq ps' own) γ' w' →
      (∀ b, F b → F' b) → (∀ b, F' b → F b ∨ w.heap.size ≤ b) → RepP (mq ps' own) γ' F' w' r v →
      (match dst with
        | some d => if cf.own me d then backO d L vs r ps' own else (Mm.opt (imm 2 own r)).bind fun r' => backO d L vs r' ps' []
        | none => (Mm.opt (imm 2 own r)).bind fun r' => backO 0 L vs r' ps' []).gives m (out, wr) →
      ∃ γ2 F2, Inv (updL m wr) γ2 F2 w' ∧ MemStep m γ (updL m wr) γ2 ∧ FStep m γ F w F2 ∧ Stp m γ w (updL m wr) γ2 w' ∧ RepP (updL m wr) γ2 F2 w' out v := by
    intro L vs ps ps' own r F' γ' w' v h1 h2 h3 h4 h5 h6 h7 h8 h9 h10 h11 h12 hg
    have list : ∀ d, ((Mm.opt (imm 2 own r)).bind fun r' => backO d L vs r' ps' []).gives m (out, wr) → ∃ γ2 F2, Inv (updL m wr) γ2 F2 w' ∧ MemStep m γ (updL m wr) γ2 ∧ FStep m γ F w F2 ∧ Stp m γ w (updL m wr) γ2 w' ∧ RepP (updL m wr) γ2 F2 w' out v := fun d hg => by
      simp only [Mm.gives_bind, Mm.gives_opt] at hg
      obtain ⟨r2, hr2, hg⟩ := hg
      obtain ⟨γ2, hh⟩ := backO_ok (F2 := fun b => F' b ∨ ∃ j A, own[j]? = some A ∧ A.live ∧ b = (γ' (2000 + j)).g) hi h1 h2 h3 h4 h5 (own := own) (own2 := []) (.inr rfl) h6 h7 h8 h9 h10 (fun b hb => .inl hb) h11
        (fun b hb => hb.imp id fun ⟨j, A, q⟩ => ⟨rfl, j, A, q⟩) (imm_rep h7 (fun b hb => .inl hb) (fun j A hA hl => .inr ⟨j, A, hA, hl, rfl⟩) 2 r r2 v h12 hr2) hg
      exact ⟨γ2, _, hh⟩
    cases dst with
    | none => exact list 0 hg
    | some d =>
      simp only at hg
      split at hg
      · obtain ⟨γ2, hh⟩ := backO_ok (F2 := F') hi h1 h2 h3 h4 h5 (own := own) (own2 := own) (.inl rfl) h6 h7 h8 h9 h10 (fun b hb => hb) h11 (fun b hb => .inl hb) h12 hg
        exact ⟨γ2, F', hh⟩
      · exact list d hg
  unfold callP at h
  split at h
  · simp only [Mm.gives_bind] at h
    obtain ⟨⟨L, args', ps, vs⟩, hs, h⟩ := h
    simp only at h
    obtain ⟨h1, h2, h3, h4, h5, h6, h7, h8⟩ := sendM_ok hi hs hlen hr
    split at h
    · rename_i r ps' own hCr
      obtain ⟨he, hc⟩ := hC f args' ps r ps' own hCr (by omega)
      refine ⟨he, (hc _ F w vals h7 h5 h8).mono fun e w' hp => ?_⟩
      obtain ⟨v, γ', F', rfl, q1, q2, q3, q4, q5, q6, q7⟩ := hp
      obtain ⟨γ2, F2, hh⟩ := back L vs ps ps' own r F' γ' w' v h1 h3 h2 h4 h6 q1 q2 q3 q6 q4 q5 q7 h
      exact ⟨v, γ2, F2, rfl, hh⟩
    · simp [Mm.gives_fail] at h
  · simp only [Mm.gives_bind] at h
    obtain ⟨args', ha, h⟩ := h
    split at h
    · rename_i r ps' own hCr
      simp only [Mm.gives_chk, Bool.and_eq_true, Bool.or_eq_true, Bool.not_eq_true', List.isEmpty_iff] at h
      obtain ⟨⟨rfl, hT⟩, h⟩ := h
      obtain ⟨he, hc⟩ := hC f args' [] r [] own hCr (by simp)
      refine ⟨he, ?_⟩
      have hmp0 : ∀ s A, mp [] s ≠ some A := fun s A hA => by simp [mp] at hA
      by_cases hany : args.any (hasRef 4) = true
      · obtain ⟨hf1, hf2⟩ : flatP 3 r = true ∧ own.all flatA = true := by
          rcases hT with h | h
          · rw [h] at hany; cases hany
          · exact h
        have hFI : ∀ b, F b → (F b ∨ ∃ s A, m s = some A ∧ A.live ∧ b = (γ s).g) := fun b hb => .inl hb
        have hiI : Inv (mp []) (fun s => γ (([] : List Nat).getD (s - 1000) 0)) (fun b => F b ∨ ∃ s A, m s = some A ∧ A.live ∧ b = (γ s).g) w :=
          ⟨fun s A hA => absurd hA (hmp0 s A), fun s A hA => absurd hA (hmp0 s A), fun s s' A A' hA => absurd hA (hmp0 s A), fun b hb => by
            rcases hb with hb | ⟨s, A, hA, hl, rfl⟩
            · exact hi.bound b hb
            · exact (hi.holds s A hA).lt hl⟩
        refine (hc _ _ w vals hiI (by rw [Mm.mapL_length ha, hlen]) (fun j p v hp hv => ?_)).mono fun e w' hp => ?_
        · obtain ⟨x, hx, hg⟩ := Mm.mapL_get' ha j p hp
          exact frzA_rep hi hFI (.inl fun s A hA hl => .inr ⟨s, A, hA, hl, rfl⟩) (hr j x v hx hv) hg
        · obtain ⟨v, γ', F', rfl, q1, q2, q3, q4, q5, q6, q7⟩ := hp
          rw [List.all_eq_true] at hf2
          have hmq : ∀ s A, mq [] own s = some A → A ∈ own := fun s A hA => by
            unfold mq at hA
            split at hA
            · exact List.mem_of_getElem? hA
            · simp at hA
          have hi2 : Inv (mq [] own) γ' F w' := ⟨fun s A hA => flatA_holds (hf2 A (hmq s A hA)) (q2.holds s A hA), fun s A hA hl hF => q2.notF s A hA hl (q4 _ (.inl hF)), q2.dist, fun b hb => q2.bound b (q4 b (.inl hb))⟩
          obtain ⟨γ2, F2, hh⟩ := back [] [] [] [] own r F γ' w' v List.nodup_nil rfl (by simp) rfl (by simp) rfl hi2 q3 q6 (fun b hb => hb) (fun b hb => .inl hb) (flatP_rep 3 r v hf1 q7) h
          exact ⟨v, γ2, F2, rfl, hh⟩
      · have hno : args.any (hasRef 4) = false := by simpa using hany
        have hiI : Inv (mp []) (fun s => γ (([] : List Nat).getD (s - 1000) 0)) F w :=
          ⟨fun s A hA => absurd hA (hmp0 s A), fun s A hA => absurd hA (hmp0 s A), fun s s' A A' hA => absurd hA (hmp0 s A), hi.bound⟩
        refine (hc _ _ w vals hiI (by rw [Mm.mapL_length ha, hlen]) (fun j p v hp hv => ?_)).mono fun e w' hp => ?_
        · obtain ⟨x, hx, hg⟩ := Mm.mapL_get' ha j p hp
          refine frzA_rep hi (fun _ h => h) (.inr ?_) (hr j x v hx hv) hg
          rw [List.any_eq_false] at hno
          simpa using hno x (List.mem_of_getElem? hx)
        · obtain ⟨v, γ', F', rfl, q1, q2, q3, q4, q5, q6, q7⟩ := hp
          obtain ⟨γ2, F2, hh⟩ := back [] [] [] [] own r F' γ' w' v List.nodup_nil rfl (by simp) rfl (by simp) rfl q2 q3 q6 q4 q5 q7 h
          exact ⟨v, γ2, F2, rfl, hh⟩
    · simp [Mm.gives_fail] at h

end
end Go.Proofs.Ytnobgdgnncfcpaa.X
