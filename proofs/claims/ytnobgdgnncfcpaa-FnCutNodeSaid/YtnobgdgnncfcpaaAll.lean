/- Soundness of calls of the interpreter, all of it. -/
import Derived.Test.YtnobgdgnncfcpaaSound
namespace Go.Proofs.Ytnobgdgnncfcpaa.X
open Go


section
variable {P : Program} {cf : Cfg}

/-- What comes out. -/
theorem outP_ok {ps : List Arr} {γ : Nat → GB} {F : Nat → Prop} {w : World} (hpl : ps.length ≤ 1000) {fn : Func} {st : St} {a : Act} {w' : World} {n : Nat} (hr : Rel (mp ps) γ F w n st a w')
    {r : PV} {ps' own : List Arr} (h : (outP P fn ps.length st).gives st.m (r, ps', own)) : ∃ v, (results fn a.tmps).run P w' = .ok v w' ∧ CallPost ps ps' own r γ F w (.returned v) w' := by
  obtain ⟨γe, Fe, hi, hs, hms, hfs, hst, _, _⟩ := hr
  simp only [outP, Mm.gives_bind, Mm.gives_chk, Mm.gives_ret, Bool.and_eq_true, decide_eq_true_eq, List.all_eq_true, Prod.mk.injEq] at h
  obtain ⟨rs, hrs, pe, hpe, L, hL, r', hr', ps2, hps, own2, hown, ⟨hnd, hLo⟩, rfl, rfl, rfl⟩ := h
  obtain ⟨v, hv, hrv⟩ := results_ok (a := a) hi hs hrs
  have hpel : pe.length = ps.length := by rw [Mm.mapL_length hpe]; simp
  have hps2 : ps2.length = ps.length := by rw [Mm.mapL_length hps, hpel]
  have hownl : own2.length = L.length := Mm.mapL_length hown
  have hown1 : ∀ s, s ∈ L → s < 1000 ∨ 3000 ≤ s := fun s hs => by have := hLo s hs; simpa [ownSite] using this
  -- parameters
  have hpar : ∀ j, j < ps.length → ∃ A B, st.m (1000 + j) = some A ∧ ps2[j]? = some B ∧ (renArr (lookBack ps.length L) A.ver A).gives st.m B := fun j hj => by
    obtain ⟨A, hA, hg⟩ := Mm.mapL_get hpe j j (by simp [hj])
    simp only [Mm.gives_get] at hg
    split at hg
    · rename_i A' hA'
      simp only [Mm.gives_ret] at hg; subst hg
      obtain ⟨B, hB, hren⟩ := Mm.mapL_get hps j A' hA
      exact ⟨A', B, hA', hB, hren⟩
    · simp [Mm.gives_fail] at hg
  have hos : ∀ (j s : Nat), L[j]? = some s → ∃ A B, st.m s = some A ∧ own2[j]? = some B ∧ (renArr (lookBack ps.length L) 0 A).gives st.m B := fun j s hjs => by
    obtain ⟨B, hB, hg⟩ := Mm.mapL_get hown j s hjs
    simp only [Mm.gives_get] at hg
    split at hg
    · rename_i A hA; exact ⟨A, B, hA, hB, hg⟩
    · simp [Mm.gives_fail] at hg
  let γq : Nat → GB := fun s => if 2000 ≤ s then γe (L.getD (s - 2000) 0) else γe s
  have hq1 : ∀ j B, ps2[j]? = some B → mq ps2 own2 (1000 + j) = some B := fun j B hB => by
    have : j < ps.length := by rw [← hps2]; exact (List.getElem?_eq_some_iff.1 hB).1
    simp only [mq]
    rw [if_neg (by omega), if_pos (by omega)]
    simpa using hB
  have hq2 : ∀ j B, own2[j]? = some B → mq ps2 own2 (2000 + j) = some B := fun j B hB => by
    simp only [mq]
    rw [if_pos (by omega)]
    simpa using hB
  have hg1 : ∀ j, j < ps.length → γq (1000 + j) = γe (1000 + j) := fun j hj => by
    show (if 2000 ≤ 1000 + j then _ else _) = _
    rw [if_neg (by omega)]
  have hg2 : ∀ (j s : Nat), L[j]? = some s → γq (2000 + j) = γe s := fun j s hjs => by
    show (if 2000 ≤ 2000 + j then _ else _) = _
    rw [if_pos (by omega)]
    simp [hjs]
  have hlook : LookOK (lookBack ps.length L) st.m st.m γe (mq ps2 own2) γq := by
    intro s ver s' v' hg A hA hve
    simp only [lookBack, Mm.gives_get, hA, Mm.gives_chk, beq_iff_eq] at hg
    obtain ⟨rfl, hg⟩ := hg
    split at hg
    · rename_i hrange
      simp only [Mm.gives_ret, Prod.mk.injEq] at hg
      obtain ⟨rfl, rfl⟩ := hg
      obtain ⟨A2, B, hA2, hB, hren⟩ := hpar (s - 1000) (by omega)
      rw [show 1000 + (s - 1000) = s from by omega] at hA2
      rw [hA] at hA2; cases hA2
      obtain ⟨_, _, r3, r4⟩ := renArr_facts hren
      have hb := hq1 _ _ hB
      have hgg := hg1 (s - 1000) (by omega)
      rw [show 1000 + (s - 1000) = s from by omega] at hb hgg
      exact ⟨B, hb, by omega, fun _ => ⟨rfl, r3, hgg⟩⟩
    · split at hg
      · rename_i hc
        simp only [Mm.gives_ret, Prod.mk.injEq] at hg
        obtain ⟨rfl, rfl⟩ := hg
        have hin : s ∈ L := by simpa using hc
        have hidx : L[L.idxOf s]? = some s := by
          have := List.idxOf_lt_length_of_mem hin
          rw [List.getElem?_eq_getElem this, List.getElem_idxOf]
        obtain ⟨A2, B, hA2, hB, hren⟩ := hos _ _ hidx
        rw [hA] at hA2; cases hA2
        obtain ⟨_, _, r3, r4⟩ := renArr_facts hren
        exact ⟨B, hq2 _ _ hB, by omega, fun _ => ⟨rfl, r3, hg2 _ _ hidx⟩⟩
      · simp [Mm.gives_fail] at hg
  -- every site that is handed back stands for one of the function's
  have hsite : ∀ s B, mq ps2 own2 s = some B → ∃ t A ver, st.m t = some A ∧ γq s = γe t ∧ (renArr (lookBack ps.length L) ver A).gives st.m B ∧
      ((1000 ≤ s ∧ s < 1000 + ps.length ∧ t = s) ∨ (2000 ≤ s ∧ L[s - 2000]? = some t)) := fun s B hB => by
    unfold mq at hB
    split at hB
    · rename_i hs2
      have hlt : s - 2000 < L.length := by rw [← hownl]; exact (List.getElem?_eq_some_iff.1 hB).1
      have hjs := List.getElem?_eq_getElem hlt
      obtain ⟨A, B2, hA, hB2, hren⟩ := hos _ _ hjs
      rw [hB] at hB2; cases hB2
      have := hg2 _ _ hjs
      rw [show 2000 + (s - 2000) = s from by omega] at this
      exact ⟨_, A, 0, hA, this, hren, .inr ⟨hs2, hjs⟩⟩
    · split at hB
      · rename_i hs2 hs1
        have hlt : s - 1000 < ps.length := by rw [← hps2]; exact (List.getElem?_eq_some_iff.1 hB).1
        obtain ⟨A, B2, hA, hB2, hren⟩ := hpar _ hlt
        rw [hB] at hB2; cases hB2
        have := hg1 _ hlt
        rw [show 1000 + (s - 1000) = s from by omega] at this hA
        exact ⟨s, A, A.ver, hA, this, hren, .inl ⟨hs1, by omega, rfl⟩⟩
      · cases hB
  refine ⟨v, hv, v, γq, Fe, rfl, hps2, ⟨fun s B hB => ?_, fun s B hB hBl => ?_, fun s s' B B' hB hB' hl hl' e => ?_, hi.bound⟩, fun s A hA => ?_, hfs.sub, fun b hb => ?_, ⟨hst.os, hst.tape, hst.output, hst.size, hst.frame, fun s B hB hBl => ?_⟩,
    ren_rep hlook (fun _ h => h) (fun _ _ => rfl) 3 _ _ v hrv hr'⟩
  · obtain ⟨t, A, ver, hA, hg, hren, _⟩ := hsite s B hB
    rw [hg]
    exact renArr_holds hlook (fun _ h => h) (fun _ _ => rfl) rfl hren (hi.holds t A hA)
  · obtain ⟨t, A, ver, hA, hg, hren, _⟩ := hsite s B hB
    rw [hg]
    exact hi.notF t A hA (renArr_facts hren).1
  · obtain ⟨t, A, ver, hA, hg, hren, hcase⟩ := hsite s B hB
    obtain ⟨t', A', ver', hA', hg', hren', hcase'⟩ := hsite s' B' hB'
    rw [hg, hg'] at e
    have := hi.dist t t' A A' hA hA' (renArr_facts hren).1 (renArr_facts hren').1 e
    subst this
    rcases hcase with ⟨c1, c2, rfl⟩ | ⟨c1, c2⟩
    · rcases hcase' with ⟨d1, d2, d3⟩ | ⟨d1, d2⟩
      · exact d3
      · have := hown1 _ (List.mem_of_getElem? d2); omega
    · rcases hcase' with ⟨d1, d2, d3⟩ | ⟨d1, d2⟩
      · have := hown1 _ (List.mem_of_getElem? c2); omega
      · have := (List.getElem?_inj (List.getElem?_eq_some_iff.1 c2).1 hnd).1 (c2.trans d2.symm)
        omega
  · have hs : 1000 ≤ s ∧ s < 1000 + ps.length := by
      unfold mp at hA
      split at hA
      · rename_i h; have := (List.getElem?_eq_some_iff.1 hA).1; omega
      · cases hA
    obtain ⟨A', hA', hl, he⟩ := hms s A hA
    obtain ⟨A2, B, hA2, hB, hren⟩ := hpar (s - 1000) (by omega)
    have hb := hq1 _ _ hB
    have hgg := hg1 (s - 1000) (by omega)
    rw [show 1000 + (s - 1000) = s from by omega] at hA2 hb hgg
    rw [hA'] at hA2; cases hA2
    obtain ⟨_, _, r3, r4⟩ := renArr_facts hren
    refine ⟨B, hb, by omega, fun e => ?_⟩
    obtain ⟨x1, x2⟩ := he (by omega)
    exact ⟨Arr.like_trans x1 r3, by rw [hgg, x2]⟩
  · rcases hfs.grow b hb with h | h | ⟨s, A, hA, _, ho, _⟩
    · exact .inl h
    · exact .inr h
    · unfold mp at hA
      split at hA
      · rename_i h
        have := (List.getElem?_eq_some_iff.1 hA).1
        simp only [ownSite, Bool.or_eq_true, decide_eq_true_eq] at ho
        omega
      · cases hA
  · obtain ⟨t, A, ver, hA, hg, hren, hcase⟩ := hsite s B hB
    rw [hg]
    rcases hcase with ⟨c1, c2, rfl⟩ | ⟨c1, c2⟩
    · exact hst.blocks t A hA (renArr_facts hren).1
    · rcases hst.blocks t A hA (renArr_facts hren).1 with ⟨A0, hA0, _⟩ | h
      · have := hown1 _ (List.mem_of_getElem? c2)
        unfold mp at hA0
        split at hA0
        · have := (List.getElem?_eq_some_iff.1 hA0).1; omega
        · cases hA0
      · exact .inr h

theorem call_ok (hp : CallOK P (primC cf)) {k : Nat} (hE : RunsOK P cf k) : CallOK P (callWith P cf (exec P cf k)) := by
  intro f args ps r ps' own h hps
  unfold callWith at h
  cases hg : primC cf f args ps with
  | some g =>
    rw [hg] at h
    simp only at h
    exact hp f args ps r ps' own (by rw [hg]; exact h) hps
  | none =>
    rw [hg] at h
    simp only at h
    split at h
    · rename_i fn hfn
      split at h
      · rename_i c hc
        split at h
        · rename_i hcond
          obtain ⟨hlen, hname, hok⟩ := hcond
          refine ⟨enters_of hfn hname hc, fun γ F w vals hi hvl hrep => ?_⟩
          refine calls_of_wp hfn hc ?_
          have hrel : Rel (mp ps) γ F w fn.ntmps (initP args ps) { tmps := vals.toArray ++ Array.replicate (fn.ntmps - vals.toArray.size) undef, defers := [] } w := by
            refine ⟨γ, F, hi, fun t => ?_, MemStep.refl _ _, FStep.refl _ _ _ _, Stp.refl _ _ _, by simp; omega, rfl⟩
            show RepP (mp ps) γ F w (args.getD t (.i (.v undef))) _
            by_cases ht : t < vals.length
            · have h1 : args[t]? = some args[t] := List.getElem?_eq_getElem (by omega)
              have h2 : vals[t]? = some vals[t] := List.getElem?_eq_getElem ht
              have := hrep t _ _ h1 h2
              have e1 : args.getD t (.i (.v undef)) = args[t] := by simp [List.getD, h1]
              have e2 : (vals.toArray ++ Array.replicate (fn.ntmps - vals.toArray.size) undef).getD t undef = vals[t] := by
                rw [Array.getD_eq_getD_getElem?, Array.getElem?_append_left (by simpa using ht)]
                simp [h2]
              rw [e1, e2]; exact this
            · have e1 : args.getD t (.i (.v undef)) = .i (.v undef) := by simp [List.getD, List.getElem?_eq_none (by omega : args.length ≤ t)]
              have e2 : (vals.toArray ++ Array.replicate (fn.ntmps - vals.toArray.size) undef).getD t undef = undef := by
                rw [Array.getD_eq_getD_getElem?, Array.getElem?_append_right (by simp; omega)]
                simp only [Array.getElem?_replicate]
                split <;> rfl
              rw [e1, e2]; exact .i (.v undef)
          have fin : ∀ (e : Ex) (st' : St), exec P cf k f c (initP args ps) = some (e, st') → (e = .normal ∨ e = .ret) → ((outP P fn ps.length st').run st'.m).map (·.1) = some (r, ps', own) →
              c.wp P (bodyPost P fn (CallPost ps ps' own r γ F w)) { tmps := vals.toArray ++ Array.replicate (fn.ntmps - vals.toArray.size) undef, defers := [] } w := by
            intro e st' he hcase ho
            simp only [Option.map_eq_some_iff] at ho
            obtain ⟨⟨x, rd⟩, hx, rfl⟩ := ho
            refine hE f c _ e st' he fn.ntmps hok (mp ps) γ F w _ (fun a w' hr' => ?_) _ _ hrel
            have hdef : a.defers = [] := by obtain ⟨_, _, _, _, _, _, _, _, h⟩ := hr'; exact h
            obtain ⟨v, hv, hpost⟩ := outP_ok hps hr' ⟨rd, hx⟩
            rcases hcase with rfl | rfl
            · exact ⟨hdef, v, hv, hpost⟩
            · exact ⟨hdef, v, hv, hpost⟩
          split at h
          · rename_i st' he; exact fin _ st' he (.inl rfl) h
          · rename_i st' he; exact fin _ st' he (.inr rfl) h
          · cases h
        · cases h
      · cases h
    · cases h

theorem all_ok (hm : P.follows .mixedOrders = true) (hp : CallOK P (primC cf)) : ∀ k, ∀ j, j ≤ k → RunsOK P cf j
  | 0 => fun j hj => by
    obtain rfl : j = 0 := by omega
    intro me c st e st' h
    simp [exec] at h
  | k + 1 => fun j hj => by
    rcases Nat.lt_or_ge k j with h | h
    · obtain rfl : j = k + 1 := by omega
      exact exec_ok hm (call_ok hp (all_ok hm hp k k (Nat.le_refl _))) (all_ok hm hp k)
    · exact all_ok hm hp k j h

/-- THE LAW: a call runs as the interpreter says. -/
theorem calls_ok (hm : P.follows .mixedOrders = true) (hp : CallOK P (primC cf)) (k : Nat) : CallOK P (callWith P cf (exec P cf k)) := call_ok hp (all_ok hm hp k k (Nat.le_refl _))

end
end Go.Proofs.Ytnobgdgnncfcpaa.X
