/- Soundness of calls: what comes back. -/
import Derived.Test.YtnobgdgnncfcpaaCall
namespace Go.Proofs.Ytnobgdgnncfcpaa.X
open Go

section
variable {P : Program} {w w' : World} {m : Mem} {γ γ' : Nat → GB} {F F' F2 : Nat → Prop}

theorem siteOf_inj {d j j' : Nat} (h : siteOf d j = siteOf d j') : j = j' := by unfold siteOf at h; omega

/-- Back in the caller: the callee's sites take their places again. -/
theorem backO_ok (hi : Inv m γ F w) {d : Nat} {L vs : List Nat} {ps ps' own own2 : List Arr} {r out : PV} {wr : List (Nat × Arr)} {v : Value}
    (hnd : L.Nodup) (hpl : ps.length = L.length) (hL : L.length ≤ 1000) (hvl : vs.length = L.length)
    (hps : ∀ (j s : Nat), L[j]? = some s → ∃ A B, m s = some A ∧ ps[j]? = some B ∧ vs[j]? = some A.ver ∧ B.ver = 0 ∧ A.like B ∧ A.live ∧ B.live)
    (hown2 : own2 = own ∨ own2 = [])
    (hpl' : ps'.length = ps.length) (hi' : Inv (mq ps' own) γ' F' w') (hms : MemStep (mp ps) (fun s => γ (L.getD (s - 1000) 0)) (mq ps' own) γ')
    (hst : Stp (mp ps) (fun s => γ (L.getD (s - 1000) 0)) w (mq ps' own) γ' w')
    (hF' : ∀ b, F b → F' b) (hF2 : ∀ b, F' b → F2 b) (hG : ∀ b, F' b → F b ∨ w.heap.size ≤ b)
    (hK : ∀ b, F2 b → F' b ∨ (own2 = [] ∧ ∃ j A, own[j]? = some A ∧ A.live ∧ b = (γ' (2000 + j)).g))
    (hr : RepP (mq ps' own) γ' F2 w' r v) (h : (backO d L vs r ps' own2).gives m (out, wr)) :
    ∃ γ2, Inv (updL m wr) γ2 F2 w' ∧ MemStep m γ (updL m wr) γ2 ∧ FStep m γ F w F2 ∧ Stp m γ w (updL m wr) γ2 w' ∧ RepP (updL m wr) γ2 F2 w' out v := by
  simp only [backO, Mm.gives_bind, Mm.gives_chk, Bool.and_eq_true, decide_eq_true_eq, List.all_eq_true, bne_iff_ne, ne_eq, Mm.gives_ret, Prod.mk.injEq, List.mem_range] at h
  obtain ⟨nv, hnv, r', hrr, w1, hw1, w2, hw2, ⟨hown8, hdis⟩, rfl, rfl⟩ := h
  have hnvl : nv.length = own2.length := by rw [Mm.mapL_length hnv]; simp
  have hps2 : ps'.length ≤ 1000 := by omega
  -- the callee's sites
  have hmqP : ∀ j B, ps'[j]? = some B → mq ps' own (1000 + j) = some B := fun j B hB => by
    have := (List.getElem?_eq_some_iff.1 hB).1
    simp only [mq]; rw [if_neg (by omega), if_pos (by omega)]; simpa using hB
  have hmqO : ∀ j B, own[j]? = some B → mq ps' own (2000 + j) = some B := fun j B hB => by
    simp only [mq]; rw [if_pos (by omega)]; simpa using hB
  have hmpP : ∀ j B, ps[j]? = some B → mp ps (1000 + j) = some B := fun j B hB => by
    simp only [mp]; rw [if_pos (by omega)]; simpa using hB
  have hmpO : ∀ s, 2000 ≤ s → mp ps s = none := fun s hs => by
    simp only [mp]; rw [if_pos (by omega)]; exact List.getElem?_eq_none (by omega)
  -- what is written back
  have hW1 : ∀ (j s : Nat), L[j]? = some s → ∃ A B B0 C, m s = some A ∧ ps[j]? = some B0 ∧ ps'[j]? = some B ∧ B0.ver = 0 ∧ A.like B0 ∧ A.live ∧ (renArr (lookOut d L vs nv) (A.ver + B.ver) B).gives m C ∧ (s, C) ∈ w1 := fun j s hs => by
    obtain ⟨A, B0, hA, hB0, hv, hv0, hlike, hAl, _⟩ := hps j s hs
    have hj : j < ps'.length := by have := (List.getElem?_eq_some_iff.1 hs).1; omega
    obtain ⟨y, hy, hg⟩ := Mm.mapL_get hw1 j ((s, A.ver), ps'[j]) (by
      rw [List.getElem?_zip_eq_some]
      exact ⟨by rw [List.getElem?_zip_eq_some]; exact ⟨hs, hv⟩, List.getElem?_eq_getElem hj⟩)
    simp only [Mm.gives_bind, Mm.gives_ret] at hg
    obtain ⟨C, hC, rfl⟩ := hg
    exact ⟨A, ps'[j], B0, C, hA, hB0, List.getElem?_eq_getElem hj, hv0, hlike, hAl, hC, List.mem_of_getElem? hy⟩
  have hW1' : ∀ s C, (s, C) ∈ w1 → ∃ j, L[j]? = some s ∧ ∃ A B, m s = some A ∧ ps'[j]? = some B ∧ (renArr (lookOut d L vs nv) (A.ver + B.ver) B).gives m C := fun s C hC => by
    obtain ⟨j, hj⟩ := List.getElem?_of_mem hC
    obtain ⟨⟨⟨t, ver⟩, B⟩, hx, hg⟩ := Mm.mapL_get' hw1 j _ hj
    rw [List.getElem?_zip_eq_some] at hx
    obtain ⟨hx1, hx2⟩ := hx
    simp only at hx1 hx2
    rw [List.getElem?_zip_eq_some] at hx1
    simp only [Mm.gives_bind, Mm.gives_ret, Prod.mk.injEq] at hg
    obtain ⟨C', hC', rfl, rfl⟩ := hg
    obtain ⟨A, B0, hA, hB0, hv, _⟩ := hps j t hx1.1
    have : ver = A.ver := by have := hx1.2; simp only at this; rw [hv] at this; cases this; rfl
    subst this
    exact ⟨j, hx1.1, A, B, hA, hx2, hC'⟩
  have hW2 : ∀ j B, own2[j]? = some B → ∃ n C, nv[j]? = some n ∧ (∀ A0, m (siteOf d j) = some A0 → A0.ver < n) ∧ (renArr (lookOut d L vs nv) (n + B.ver) B).gives m C ∧ (siteOf d j, C) ∈ w2 := fun j B hB => by
    have hj := (List.getElem?_eq_some_iff.1 hB).1
    obtain ⟨n, hn, hgn⟩ := Mm.mapL_get hnv j j (by simp [hj])
    obtain ⟨y, hy, hg⟩ := Mm.mapL_get hw2 j ((j, n), B) (by
      rw [List.getElem?_zip_eq_some]
      exact ⟨by rw [List.getElem?_zip_eq_some]; exact ⟨by simp [hj], hn⟩, hB⟩)
    simp only [Mm.gives_bind, Mm.gives_ret] at hg
    obtain ⟨C, hC, rfl⟩ := hg
    exact ⟨n, C, hn, fun A0 h0 => gives_newVer hgn A0 h0, hC, List.mem_of_getElem? hy⟩
  have hW2' : ∀ s C, (s, C) ∈ w2 → ∃ j B n, s = siteOf d j ∧ own2[j]? = some B ∧ nv[j]? = some n ∧ (∀ A0, m (siteOf d j) = some A0 → A0.ver < n) ∧ (renArr (lookOut d L vs nv) (n + B.ver) B).gives m C := fun s C hC => by
    obtain ⟨j, hj⟩ := List.getElem?_of_mem hC
    obtain ⟨⟨⟨t, n⟩, B⟩, hx, hg⟩ := Mm.mapL_get' hw2 j _ hj
    rw [List.getElem?_zip_eq_some] at hx
    obtain ⟨hx1, hx2⟩ := hx
    simp only at hx1 hx2
    rw [List.getElem?_zip_eq_some] at hx1
    have hjl := (List.getElem?_eq_some_iff.1 hx2).1
    have : t = j := by have := hx1.1; simp [hjl] at this; exact this.symm
    subst this
    simp only [Mm.gives_bind, Mm.gives_ret, Prod.mk.injEq] at hg
    obtain ⟨C', hC', rfl, rfl⟩ := hg
    obtain ⟨n', hn', hgn⟩ := Mm.mapL_get hnv t t (by simp [hjl])
    have hnn := hx1.2
    simp only at hnn
    rw [hn'] at hnn; cases hnn
    exact ⟨t, B, n, rfl, hx2, hn', fun A0 h0 => gives_newVer hgn A0 h0, hC'⟩
  -- the new memory
  have hdet : ∀ {look : Nat → Nat → Mm (Nat × Nat)} {ver : Nat} {B C C' : Arr}, (renArr look ver B).gives m C → (renArr look ver B).gives m C' → C = C' := fun h1 h2 => by
    obtain ⟨r1, h1⟩ := h1; obtain ⟨r2, h2⟩ := h2
    rw [h1] at h2; simp at h2; exact h2.1
  have hval1 : ∀ s C, (s, C) ∈ w1 → updL m (w1 ++ w2) s = some C := fun s C hC => by
    obtain ⟨j, hj, A, B, hA, hB, hren⟩ := hW1' s C hC
    refine updL_mem (List.mem_append_left _ hC) fun D hD => ?_
    rcases List.mem_append.1 hD with hD | hD
    · obtain ⟨j', hj', A', B', hA', hB', hren'⟩ := hW1' s D hD
      have : j = j' := (List.getElem?_inj (List.getElem?_eq_some_iff.1 hj).1 hnd).1 (hj.trans hj'.symm)
      subst this
      rw [hA] at hA'; cases hA'
      rw [hB] at hB'; cases hB'
      exact hdet hren' hren
    · obtain ⟨j', B', n, rfl, hB', _⟩ := hW2' s D hD
      exact absurd rfl (hdis _ (List.mem_of_getElem? hj) j' (List.getElem?_eq_some_iff.1 hB').1)
  have hval2 : ∀ s C, (s, C) ∈ w2 → updL m (w1 ++ w2) s = some C := fun s C hC => by
    obtain ⟨j, B, n, rfl, hB, hn, _, hren⟩ := hW2' s C hC
    refine updL_mem (List.mem_append_right _ hC) fun D hD => ?_
    rcases List.mem_append.1 hD with hD | hD
    · obtain ⟨j', hj', _⟩ := hW1' _ D hD
      exact absurd rfl (hdis _ (List.mem_of_getElem? hj') j (List.getElem?_eq_some_iff.1 hB).1)
    · obtain ⟨j', B', n', e, hB', hn', _, hren'⟩ := hW2' _ D hD
      have := siteOf_inj e
      subst this
      rw [hB] at hB'; cases hB'
      rw [hn] at hn'; cases hn'
      exact hdet hren' hren
  have hval0 : ∀ s, s ∉ L → (∀ j, j < own2.length → s ≠ siteOf d j) → updL m (w1 ++ w2) s = m s := fun s h1 h2 => updL_other fun A hA => by
    rcases List.mem_append.1 hA with hA | hA
    · obtain ⟨j, hj, _⟩ := hW1' s A hA; exact h1 (List.mem_of_getElem? hj)
    · obtain ⟨j, B, n, e, hB, _⟩ := hW2' s A hA; exact h2 j (List.getElem?_eq_some_iff.1 hB).1 e
  -- where each site lies now
  have hγ : ∃ γ2 : Nat → GB, (∀ j s, L[j]? = some s → γ2 s = γ' (1000 + j)) ∧ (∀ j, j < own2.length → γ2 (siteOf d j) = γ' (2000 + j)) ∧ (∀ s, s ∉ L → (∀ j, j < own2.length → s ≠ siteOf d j) → γ2 s = γ s) := by
    refine ⟨fun s => if s ∈ L then γ' (1000 + L.idxOf s) else if h : ∃ j, j < own2.length ∧ s = siteOf d j then γ' (2000 + h.choose) else γ s, fun j s hs => ?_, fun j hj => ?_, fun s h1 h2 => ?_⟩
    · have hin := List.mem_of_getElem? hs
      simp only [hin, if_true]
      have hl := List.idxOf_lt_length_of_mem hin
      have : L.idxOf s = j := (List.getElem?_inj hl hnd).1 (by rw [List.getElem?_eq_getElem hl, List.getElem_idxOf, hs])
      rw [this]
    · have hni : siteOf d j ∉ L := fun hin => hdis _ hin j hj rfl
      have hex : ∃ j', j' < own2.length ∧ siteOf d j = siteOf d j' := ⟨j, hj, rfl⟩
      simp only [hni, if_false, hex, dif_pos]
      rw [← siteOf_inj hex.choose_spec.2]
    · have : ¬ ∃ j, j < own2.length ∧ s = siteOf d j := fun ⟨j, hj, e⟩ => h2 j hj e
      simp only [h1, if_false, this, dif_neg, not_false_eq_true]
  obtain ⟨γ2, hγ1, hγ2, hγ0⟩ := hγ
  have hcase : ∀ s A, updL m (w1 ++ w2) s = some A →
      (∃ j A0 B0 B, L[j]? = some s ∧ m s = some A0 ∧ ps[j]? = some B0 ∧ ps'[j]? = some B ∧ B0.ver = 0 ∧ A0.like B0 ∧ A0.live ∧ γ2 s = γ' (1000 + j) ∧ (renArr (lookOut d L vs nv) (A0.ver + B.ver) B).gives m A) ∨
      (∃ j B n, s = siteOf d j ∧ own2[j]? = some B ∧ nv[j]? = some n ∧ (∀ A0, m s = some A0 → A0.ver < n) ∧ γ2 s = γ' (2000 + j) ∧ (renArr (lookOut d L vs nv) (n + B.ver) B).gives m A) ∨
      (s ∉ L ∧ (∀ j, j < own2.length → s ≠ siteOf d j) ∧ m s = some A ∧ γ2 s = γ s) := fun s A hA => by
    by_cases hin : s ∈ L
    · obtain ⟨j, hj⟩ := List.getElem?_of_mem hin
      obtain ⟨A0, B, B0, C, hA0, hB0, hB, hv0, hlike, hAl, hren, hC⟩ := hW1 j s hj
      rw [hval1 s C hC] at hA; cases hA
      exact .inl ⟨j, A0, B0, B, hj, hA0, hB0, hB, hv0, hlike, hAl, hγ1 j s hj, hren⟩
    · by_cases hex : ∃ j, j < own2.length ∧ s = siteOf d j
      · obtain ⟨j, hj, rfl⟩ := hex
        obtain ⟨n, C, hn, hlt, hren, hC⟩ := hW2 j _ (List.getElem?_eq_getElem hj)
        rw [hval2 _ C hC] at hA; cases hA
        exact .inr (.inl ⟨j, _, n, rfl, List.getElem?_eq_getElem hj, hn, hlt, hγ2 j hj, hren⟩)
      · have h2 : ∀ j, j < own2.length → s ≠ siteOf d j := fun j hj e => hex ⟨j, hj, e⟩
        rw [hval0 s hin h2] at hA
        exact .inr (.inr ⟨hin, h2, hA, hγ0 s hin h2⟩)
  have hlook : LookOK (lookOut d L vs nv) m (mq ps' own) γ' (updL m (w1 ++ w2)) γ2 := by
    intro s ver s' v' hg A hA hv
    unfold lookOut at hg
    split at hg
    · simp [Mm.gives_fail] at hg
    · split at hg
      · rename_i h1 h2
        split at hg
        · rename_i t vt ht hvt
          simp only [Mm.gives_ret, Prod.mk.injEq] at hg
          obtain ⟨rfl, rfl⟩ := hg
          obtain ⟨A0, B, B0, C, hA0, hB0, hB, hv0, hlike, hAl, hren, hC⟩ := hW1 _ _ ht
          have hAB := hmqP _ _ hB
          rw [show 1000 + (s - 1000) = s from by omega, hA] at hAB
          cases hAB
          obtain ⟨_, _, r3, r4⟩ := renArr_facts hren
          obtain ⟨A1, _, hA1, _, hvv, _⟩ := hps _ _ ht
          rw [hA0] at hA1; cases hA1
          rw [hvt] at hvv; cases hvv
          refine ⟨C, hval1 _ _ hC, by omega, fun e => ⟨by omega, r3, ?_⟩⟩
          rw [hγ1 _ _ ht, show 1000 + (s - 1000) = s from by omega]
        · simp [Mm.gives_fail] at hg
      · rename_i h1 h2
        split at hg
        · rename_i n hn
          simp only [Mm.gives_ret, Prod.mk.injEq] at hg
          obtain ⟨rfl, rfl⟩ := hg
          have hj : s - 2000 < own2.length := by rw [← hnvl]; exact (List.getElem?_eq_some_iff.1 hn).1
          obtain ⟨n', C, hn', hlt, hren, hC⟩ := hW2 _ _ (List.getElem?_eq_getElem hj)
          rw [hn] at hn'; cases hn'
          have hoo : own2 = own := by
            rcases hown2 with h | h
            · exact h
            · rw [h] at hj; simp at hj
          have hAB := hmqO (s - 2000) own2[s - 2000] (by rw [← hoo]; exact List.getElem?_eq_getElem hj)
          rw [show 2000 + (s - 2000) = s from by omega, hA] at hAB
          simp only [Option.some.injEq] at hAB
          rw [← hAB] at hren
          obtain ⟨_, _, r3, r4⟩ := renArr_facts hren
          refine ⟨C, hval2 _ _ hC, by omega, fun e => ⟨by omega, r3, ?_⟩⟩
          rw [hγ2 _ hj, show 2000 + (s - 2000) = s from by omega]
        · simp [Mm.gives_fail] at hg
  have hpar : ∀ s A, mp ps s = some A → A.live → ∃ j t A0, s = 1000 + j ∧ L[j]? = some t ∧ m t = some A0 ∧ A0.live ∧ γ (L.getD (s - 1000) 0) = γ t := fun s A hA hl => by
    unfold mp at hA
    split at hA
    · rename_i hs
      have hj : s - 1000 < L.length := by rw [← hpl]; exact (List.getElem?_eq_some_iff.1 hA).1
      obtain ⟨A0, B0, hA0, _, _, _, _, hAl, _⟩ := hps _ _ (List.getElem?_eq_getElem hj)
      exact ⟨s - 1000, L[s - 1000], A0, by omega, List.getElem?_eq_getElem hj, hA0, hAl, by simp [hj]⟩
    · cases hA
  have hsame : ∀ s A, m s = some A → A.live → s ∉ L → w'.heap[(γ s).g]? = w.heap[(γ s).g]? := fun s A hA hl hni =>
    hst.frame _ ((hi.holds s A hA).lt hl) fun s' A' hA' hl' e => by
      obtain ⟨j, t, A0, _, ht, hA0, hAl, hg⟩ := hpar s' A' hA' hl'
      simp only [hg] at e
      have := hi.dist t s A0 A hA0 hA hAl hl e
      subst this
      exact hni (List.mem_of_getElem? ht)
  have hblk : ∀ j B, ps'[j]? = some B → B.live → ∀ t, L[j]? = some t → (γ' (1000 + j)).g = (γ t).g ∨ w.heap.size ≤ (γ' (1000 + j)).g := fun j B hB hl t ht => by
    rcases hst.blocks (1000 + j) B (hmqP j B hB) hl with ⟨A0, hA0, _, e⟩ | h
    · left; rw [← e]; simp [ht]
    · exact .inr h
  have hblkO : ∀ j B, own[j]? = some B → B.live → w.heap.size ≤ (γ' (2000 + j)).g := fun j B hB hl => by
    rcases hst.blocks (2000 + j) B (hmqO j B hB) hl with ⟨A0, hA0, _, e⟩ | h
    · rw [hmpO _ (by omega)] at hA0; cases hA0
    · exact h
  have hmstep : MemStep m γ (updL m (w1 ++ w2)) γ2 := by
    intro s A hA
    by_cases hin : s ∈ L
    · obtain ⟨j, hj⟩ := List.getElem?_of_mem hin
      obtain ⟨A0, B, B0, C, hA0, hB0, hB, hv0, hlike, hAl, hren, hC⟩ := hW1 j s hj
      rw [hA] at hA0; cases hA0
      obtain ⟨_, _, r3, r4⟩ := renArr_facts hren
      refine ⟨C, hval1 s C hC, by omega, fun e => ?_⟩
      obtain ⟨B2, hB2, hle, heq⟩ := hms (1000 + j) B0 (hmpP j B0 hB0)
      rw [hmqP j B hB] at hB2; cases hB2
      obtain ⟨l1, l2⟩ := heq (by omega)
      refine ⟨Arr.like_trans hlike (Arr.like_trans l1 r3), ?_⟩
      rw [hγ1 j s hj, l2]
      simp [hj]
    · by_cases hex : ∃ j, j < own2.length ∧ s = siteOf d j
      · obtain ⟨j, hj, rfl⟩ := hex
        obtain ⟨n, C, hn, hlt, hren, hC⟩ := hW2 j _ (List.getElem?_eq_getElem hj)
        obtain ⟨_, _, r3, r4⟩ := renArr_facts hren
        have := hlt A hA
        exact ⟨C, hval2 _ C hC, by omega, fun e => by omega⟩
      · have h2 : ∀ j, j < own2.length → s ≠ siteOf d j := fun j hj e => hex ⟨j, hj, e⟩
        exact ⟨A, by rw [hval0 s hin h2]; exact hA, Nat.le_refl _, fun _ => ⟨A.like_refl, hγ0 s hin h2⟩⟩
  have hFF2 : ∀ b, F b → F2 b := fun b hb => hF2 b (hF' b hb)
  have hag : Agree F w w' := fun b hb => hst.frame b (hi.bound b hb) fun s A hA hl e => by
    obtain ⟨j, t, A0, _, ht, hA0, hAl, hg⟩ := hpar s A hA hl
    simp only [hg] at e
    exact hi.notF t A0 hA0 hAl (e ▸ hb)
  have hF2new : ∀ b, F2 b → F b ∨ w.heap.size ≤ b := fun b hb => by
    rcases hK b hb with h | ⟨_, j, A, hA, hl, rfl⟩
    · exact hG b h
    · exact .inr (hblkO j A hA hl)
  refine ⟨γ2, ⟨fun s A hA => ?_, fun s A hA hl => ?_, fun s s' A A' hA hA' hl hl' e => ?_, fun b hb => ?_⟩, hmstep, ⟨hFF2, fun b hb => ?_⟩, ⟨hst.os, hst.tape, hst.output, hst.size, fun b hb hn => ?_, fun s A hA hl => ?_⟩, ren_rep hlook (fun _ h => h) (fun _ _ => rfl) 3 r r' v hr hrr⟩
  · rcases hcase s A hA with ⟨j, A0, B0, B, hj, hA0, hB0, hB, hv0, hlike, hAl, hg, hren⟩ | ⟨j, B, n, rfl, hB, hn, hlt, hg, hren⟩ | ⟨h1, h2, h3, hg⟩
    · rw [hg]
      exact renArr_holds hlook (fun _ h => h) (fun _ _ => rfl) rfl hren ((hi'.holds _ _ (hmqP j B hB)).step (MemStep.refl _ _) hF2 (fun _ _ => rfl) rfl)
    · rw [hg]
      have hoo : own2 = own := by
        rcases hown2 with h | h
        · exact h
        · rw [h] at hB; simp at hB
      rw [hoo] at hB
      exact renArr_holds hlook (fun _ h => h) (fun _ _ => rfl) rfl hren ((hi'.holds _ _ (hmqO j B hB)).step (MemStep.refl _ _) hF2 (fun _ _ => rfl) rfl)
    · rw [hg]
      by_cases hl : A.live
      · exact (hi.holds s A h3).step hmstep hFF2 hag (hsame s A h3 hl h1)
      · cases A <;> simp [Arr.live, Holds] at hl ⊢
  · intro hF2b
    rcases hcase s A hA with ⟨j, A0, B0, B, hj, hA0, hB0, hB, hv0, hlike, hAl, hg, hren⟩ | ⟨j, B, n, rfl, hB, hn, hlt, hg, hren⟩ | ⟨h1, h2, h3, hg⟩
    · rw [hg] at hF2b
      have hBl := (renArr_facts hren).1
      rcases hK _ hF2b with h | ⟨_, j', A', hA', hl', e⟩
      · exact hi'.notF _ _ (hmqP j B hB) hBl h
      · have := hi'.dist _ _ _ _ (hmqP j B hB) (hmqO j' A' hA') hBl hl' e
        have := (List.getElem?_eq_some_iff.1 hB).1
        omega
    · rw [hg] at hF2b
      have hBl := (renArr_facts hren).1
      rcases hK _ hF2b with h | ⟨h0, _⟩
      · have hoo : own2 = own := by
          rcases hown2 with h | h
          · exact h
          · rw [h] at hB; simp at hB
        rw [hoo] at hB
        exact hi'.notF _ _ (hmqO j B hB) hBl h
      · rw [h0] at hB; simp at hB
    · rw [hg] at hF2b
      have hlt := (hi.holds s A h3).lt hl
      rcases hF2new _ hF2b with h | h
      · exact hi.notF s A h3 hl h
      · omega
  · have key : ∀ s A, updL m (w1 ++ w2) s = some A → A.live → (∃ q B, mq ps' own q = some B ∧ B.live ∧ γ2 s = γ' q ∧ ((∃ j, q = 1000 + j ∧ L[j]? = some s) ∨ ∃ j, q = 2000 + j ∧ s = siteOf d j)) ∨ (s ∉ L ∧ (∀ j, j < own2.length → s ≠ siteOf d j) ∧ m s = some A ∧ γ2 s = γ s) := fun s A hA hl => by
      rcases hcase s A hA with ⟨j, A0, B0, B, hj, hA0, hB0, hB, hv0, hlike, hAl, hg, hren⟩ | ⟨j, B, n, rfl, hB, hn, hlt, hg, hren⟩ | h
      · exact .inl ⟨1000 + j, B, hmqP j B hB, (renArr_facts hren).1, hg, .inl ⟨j, rfl, hj⟩⟩
      · have hoo : own2 = own := by
          rcases hown2 with h | h
          · exact h
          · rw [h] at hB; simp at hB
        rw [hoo] at hB
        exact .inl ⟨2000 + j, B, hmqO j B hB, (renArr_facts hren).1, hg, .inr ⟨j, rfl, rfl⟩⟩
      · exact .inr h
    have mixed : ∀ s q B, mq ps' own q = some B → B.live → γ2 s = γ' q → ((∃ j, q = 1000 + j ∧ L[j]? = some s) ∨ ∃ j, q = 2000 + j ∧ s = siteOf d j) → ∀ s' A', s' ∉ L → m s' = some A' → A'.live → (γ' q).g ≠ (γ s').g := by
      intro s q B hq hBl _ hqq s' A' hni hA' hl' e
      have hlt := (hi.holds s' A' hA').lt hl'
      rcases hst.blocks q B hq hBl with ⟨A0, hA0, hAl0, e0⟩ | h
      · obtain ⟨j, t, A1, _, ht, hA1, hAl1, hg⟩ := hpar q A0 hA0 hAl0
        simp only [hg] at e0
        have := hi.dist t s' A1 A' hA1 hA' hAl1 hl' (e0.trans e)
        subst this
        exact hni (List.mem_of_getElem? ht)
      · omega
    rcases key s A hA hl with ⟨q, B, hq, hBl, hg, hqq⟩ | ⟨h1, h2, h3, hg⟩ <;> rcases key s' A' hA' hl' with ⟨q', B', hq', hBl', hg', hqq'⟩ | ⟨h1', h2', h3', hg'⟩
    · rw [hg, hg'] at e
      have := hi'.dist q q' B B' hq hq' hBl hBl' e
      subst this
      rcases hqq with ⟨j, rfl, hj⟩ | ⟨j, rfl, rfl⟩ <;> rcases hqq' with ⟨j', e', hj'⟩ | ⟨j', e', rfl⟩
      · have : j = j' := by omega
        subst this
        rw [hj] at hj'; cases hj'; rfl
      · have := (List.getElem?_eq_some_iff.1 hj).1
        omega
      · have := (List.getElem?_eq_some_iff.1 hj').1
        omega
      · have : j = j' := by omega
        rw [this]
    · rw [hg, hg'] at e
      exact absurd e (mixed s q B hq hBl hg hqq s' A' h1' h3' hl')
    · rw [hg, hg'] at e
      exact absurd e.symm (mixed s' q' B' hq' hBl' hg' hqq' s A h1 h3 hl)
    · rw [hg, hg'] at e
      exact hi.dist s s' A A' h3 h3' hl hl' e
  · rcases hK b hb with h | ⟨_, j, A, hA, hl, rfl⟩
    · exact hi'.bound b h
    · exact (hi'.holds _ _ (hmqO j A hA)).lt hl
  · rcases hF2new b hb with h | h
    · exact .inl h
    · exact .inr (.inl h)
  · refine hst.frame b hb fun s A hA hl e => ?_
    obtain ⟨j, t, A0, _, ht, hA0, hAl, hg⟩ := hpar s A hA hl
    simp only [hg] at e
    exact hn t A0 hA0 hAl e
  · rcases hcase s A hA with ⟨j, A0, B0, B, hj, hA0, hB0, hB, hv0, hlike, hAl, hg, hren⟩ | ⟨j, B, n, rfl, hB, hn, hlt, hg, hren⟩ | ⟨h1, h2, h3, hg⟩
    · rcases hblk j B hB (renArr_facts hren).1 s hj with h | h
      · exact .inl ⟨A0, hA0, hAl, by rw [hg, h]⟩
      · exact .inr (by rw [hg]; exact h)
    · have hoo : own2 = own := by
        rcases hown2 with h | h
        · exact h
        · rw [h] at hB; simp at hB
      rw [hoo] at hB
      exact .inr (by rw [hg]; exact hblkO j B hB (renArr_facts hren).1)
    · exact .inl ⟨A, h3, hl, by rw [hg]⟩

end
end Go.Proofs.Ytnobgdgnncfcpaa.X
