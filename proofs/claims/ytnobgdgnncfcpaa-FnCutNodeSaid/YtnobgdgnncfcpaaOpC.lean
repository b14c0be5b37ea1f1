/- Soundness, operation by operation: slices, indices, comparisons, lengths. -/
import Derived.Test.YtnobgdgnncfcpaaOpB
import Derived.Laws.StructEq
namespace Go.Proofs.Ytnobgdgnncfcpaa.X
open Go

section
variable {P : Program} {o : Oper} {a : Act} {w : World} {m : Mem} {γ : Nat → GB} {F : Nat → Prop} {ρ : Nat → PV} {out : PV} {wr : List (Nat × Arr)} {cf : Cfg} {C : CallS} {me : FuncId}

theorem addr_none {ad : Addr} (h : ad.spot = none) : ad = ⟨ad.block, ad.off, none⟩ := by cases ad; simp at h; subst h; rfl

theorem arr_eq {m : Mem} {s : Nat} {A : Arr} {v k : Nat} {xs : List (List IV)} (h1 : m s = some A) (h : m s = some (.arr v k xs)) : A = .arr v k xs := by
  rw [h1] at h; cases h; rfl

theorem does_indexAddr {t : TypeId} {x y : Operand} (ho : o.op = .indexAddr t x y) (h : SemOf P cf C me o ρ m out wr) (hi : Inv m γ F w) (hs : Slots m γ F w ρ a) : Does P o a w m γ F out wr := by
  simp only [SemOf, opSem, ho] at h
  have hx := opnd_rep hs x
  have hy := opnd_rep hs y
  split at h
  · rename_i el n hu hn
    obtain ⟨kk, hyv⟩ := asInt_eq hn hy
    split at h
    · rename_i k s ver off len hz he
      simp only [Mm.gives_get] at h
      split at h
      · rename_i v k' xs hA
        simp only [Mm.gives_chk, Bool.and_eq_true, beq_iff_eq, decide_eq_true_eq, Mm.gives_ret, Prod.mk.injEq] at h
        obtain ⟨⟨⟨⟨rfl, rfl⟩, h0⟩, hlt⟩, rfl, rfl⟩ := h
        rw [he] at hx
        generalize hv : a.eval x = v' at hx
        cases hx with
        | ref s ver off len ao cap A h1 h2 h3 =>
          have := arr_eq h1 hA; subst this
          obtain ⟨hl, hc, rfl, had⟩ := h3 rfl
          obtain ⟨cur, E, hb, hsz, hxc, _, _⟩ := hi.holds s _ h1
          obtain rfl := had (by omega)
          refine does_pure hi (v := .pointer (some ((⟨(γ s).g, ((γ s).b + off) * k, none⟩ : Addr).add (n.toNat * k)))) ?_ (.ptr s _ _ _ _ _ h1 (Nat.le_refl _) fun _ => ⟨by omega, ?_⟩)
          · simp [execOp, ho, hv, hyv, Instr.indexAt, run_underlying hu, asIntOf, run_sz hz, h0, hlt]
          · rw [addr_add, Nat.add_zero, ← Nat.add_mul, Nat.add_assoc]
      · simp [Mm.gives_fail] at h
    · rename_i k xs hz he
      split at h
      · rename_i e hxe
        simp only [Mm.gives_chk, beq_iff_eq, Mm.gives_ret, Prod.mk.injEq] at h
        obtain ⟨hk, rfl, rfl⟩ := h
        split at hxe
        · rename_i h0
          rw [he] at hx
          generalize hv : a.eval x = v' at hx
          cases hx with
          | i hr => cases hr with
            | lst xs ao cap k' c h1 h2 h3 h4 h5 h6 =>
              obtain ⟨ad, rfl, hsp, hF, hc⟩ := h4 _ _ hxe
              have hkk : k = k' := by rw [← hk, h3 _ _ hxe]
              subst hkk
              have hlt : n.toNat < xs.length := (List.getElem?_eq_some_iff.1 hxe).1
              refine does_pure hi (v := .pointer (some (ad.add (n.toNat * k)))) ?_ ?_
              · have : n < xs.length := by omega
                simp [execOp, ho, hv, hyv, Instr.indexAt, run_underlying hu, asIntOf, run_sz hz, h0, this]
              · rw [addr_none hsp, addr_add]
                refine .i (.eptr e 0 ad.block (ad.off + n.toNat * k) (c n.toNat) hF (fun j p hp => ?_) (fun j p hp => h5 _ _ _ _ hxe hp) (fun j p hp => h6 _ _ _ _ hxe hp))
                rw [Nat.add_assoc]; exact hc j p hp
        · cases hxe
      · simp [Mm.gives_fail] at h
    · simp [Mm.gives_fail] at h
  · rename_i len el n hu hn
    obtain ⟨kk, hyv⟩ := asInt_eq hn hy
    split at h
    · rename_i k s ver i off hz he
      simp only [Mm.gives_chk, Bool.and_eq_true, decide_eq_true_eq, Mm.gives_ret, Prod.mk.injEq] at h
      obtain ⟨⟨h0, hlt⟩, rfl, rfl⟩ := h
      rw [he] at hx
      generalize hv : a.eval x = v' at hx
      cases hx with
      | ptr s ver i off ad A h1 h2 h3 =>
        refine does_pure hi (v := .pointer (some (ad.add (n.toNat * k)))) (by simp [execOp, ho, hv, hyv, Instr.indexAt, run_underlying hu, asIntOf, Instr.sureAddr, run_sz hz, h0, hlt]) ?_
        refine .ptr s ver i _ _ A h1 h2 fun e => ?_
        have := h3 e
        cases A with
        | arr v k xs => obtain ⟨hi, rfl⟩ := this; exact ⟨hi, by rw [addr_add]; simp⟩
        | box v cs => obtain ⟨hi, rfl⟩ := this; exact ⟨hi, by rw [addr_add]⟩
        | dead v => exact this
    · rename_i k c off hz he
      simp only [Mm.gives_chk, Bool.and_eq_true, decide_eq_true_eq, Mm.gives_ret, Prod.mk.injEq] at h
      obtain ⟨⟨h0, hlt⟩, rfl, rfl⟩ := h
      rw [he] at hx
      generalize hv : a.eval x = v' at hx
      cases hx with
      | i hr => cases hr with
        | eptr e off g o' c h1 h2 h3 h4 =>
          refine does_pure hi (v := .pointer (some ((⟨g, o' + off, none⟩ : Addr).add (n.toNat * k)))) (by simp [execOp, ho, hv, hyv, Instr.indexAt, run_underlying hu, asIntOf, Instr.sureAddr, run_sz hz, h0, hlt]) ?_
          rw [addr_add, Nat.add_assoc]
          exact .i (.eptr _ _ g o' c h1 h2 h3 h4)
    · simp [Mm.gives_fail] at h
  · simp [Mm.gives_fail] at h

theorem does_index {t : TypeId} {x y : Operand} (ho : o.op = .index t x y) (h : SemOf P cf C me o ρ m out wr) (hi : Inv m γ F w) (hs : Slots m γ F w ρ a) : Does P o a w m γ F out wr := by
  simp only [SemOf, opSem, ho] at h
  have hx := opnd_rep hs x
  have hy := opnd_rep hs y
  split at h
  · rename_i s n hu he hn
    obtain ⟨kk, hyv⟩ := asInt_eq hn hy
    rw [he] at hx
    generalize hv : a.eval x = v' at hx
    cases hx with
    | i hr => cases hr with
      | v x =>
        split at h
        · rename_i b hb
          simp only [Mm.gives_ret, Prod.mk.injEq] at h
          obtain ⟨rfl, rfl⟩ := h
          exact does_pure hi (by simp [execOp, ho, hv, hyv, Instr.index, run_underlying hu, asIntOf, hb]) (.i (.v _))
        · simp [Mm.gives_fail] at h
  · rename_i len el cs n hu he hn
    obtain ⟨kk, hyv⟩ := asInt_eq hn hy
    rw [he] at hx
    generalize hv : a.eval x = v' at hx
    cases hx with
    | agg cs c h1 h2 =>
      split at h
      · rename_i k hz
        simp only [Mm.gives_chk, Bool.and_eq_true, decide_eq_true_eq, Mm.gives_bind, Mm.gives_ret, Prod.mk.injEq] at h
        obtain ⟨⟨h0, hlt⟩, p, hp, rfl, rfl⟩ := h
        obtain ⟨v, hpv, hr⟩ := takeT_part (m := m) (γ := γ) (F := F) (w := w) hp h1 h2
        exact does_pure hi (by simp [execOp, ho, hv, hyv, Instr.index, run_underlying hu, asIntOf, run_sz hz, h0, hlt, hpv]) hr
      · simp [Mm.gives_fail] at h
  · simp [Mm.gives_fail] at h



theorem run_sliceBound (k : IntKind) (i : Int) (y : Nat) (code : BoundsCode) (h0 : 0 ≤ i) (h1 : i ≤ y) (w : World) : (Instr.sliceBound (.int k i) y code).run P w = .ok i.toNat w := by
  simp [Instr.sliceBound, asIntOf, h0, h1]

theorem optInt_eq {ρ : Nat → PV} {a : Act} (hs : Slots m γ F w ρ a) {lo : Option Operand} {l : Option Int} (h : optInt (lo.map (opnd ρ)) = some l) :
    (lo = none ∧ l = none) ∨ ∃ x n k, lo = some x ∧ l = some n ∧ a.eval x = .int k n := by
  cases lo with
  | none => simp [optInt] at h; exact .inl ⟨rfl, h.symm⟩
  | some x =>
    simp only [Option.map_some, optInt, Option.map_eq_some_iff] at h
    obtain ⟨n, hn, rfl⟩ := h
    obtain ⟨k, hk⟩ := asInt_eq hn (opnd_rep hs x)
    exact .inr ⟨x, n, k, rfl, rfl, hk⟩

theorem boundsP_eq {n : Nat} {l h : Option Int} {i j : Nat} (hb : boundsP n l h = some (i, j)) : (l.getD 0) = i ∧ (h.getD n) = j ∧ i ≤ j ∧ j ≤ n := by
  unfold boundsP at hb
  simp only at hb
  split at hb
  · rename_i hh
    simp only [Option.some.injEq, Prod.mk.injEq] at hb
    obtain ⟨rfl, rfl⟩ := hb
    omega
  · cases hb

theorem run_bounds (hs : Slots m γ F w ρ a) {lo hi : Option Operand} {l h : Option Int} (hl : optInt (lo.map (opnd ρ)) = some l) (hh : optInt (hi.map (opnd ρ)) = some h)
    {n cap i j : Nat} (hb : boundsP n l h = some (i, j)) (hc : n ≤ cap) (sl : Bool) :
    (Instr.sliceBounds sl n cap (lo.map a.eval) (hi.map a.eval) none).run P w = .ok (i, j, cap) w := by
  obtain ⟨h1, h2, h3, h4⟩ := boundsP_eq hb
  rcases optInt_eq hs hl with ⟨rfl, rfl⟩ | ⟨x, nx, kx, rfl, rfl, hx⟩ <;> rcases optInt_eq hs hh with ⟨rfl, rfl⟩ | ⟨y, ny, ky, rfl, rfl, hy⟩ <;>
    simp only [Option.getD_none, Option.getD_some] at h1 h2
  · have : i = 0 := by omega
    have : j = n := by omega
    subst_vars
    simp [Instr.sliceBounds]
  · have : i = 0 := by omega
    subst this
    simp only [Option.map_none, Option.map_some, Instr.sliceBounds, hy, Sem.run_bind, Sem.run_pure, Result.andThen_ok]
    rw [run_sliceBound _ _ _ _ (by omega) (by omega)]
    simp; omega
  · have : j = n := by omega
    subst this
    simp only [Option.map_none, Option.map_some, Instr.sliceBounds, hx, Sem.run_bind, Sem.run_pure, Result.andThen_ok]
    rw [run_sliceBound _ _ _ _ (by omega) (by omega)]
    simp; omega
  · simp only [Option.map_some, Instr.sliceBounds, hx, hy, Sem.run_bind, Sem.run_pure, Result.andThen_ok]
    rw [run_sliceBound _ _ _ _ (by omega) (by omega)]
    simp only [Result.andThen_ok]
    rw [run_sliceBound _ _ _ _ (by omega) (by omega)]
    simp; omega

theorem does_slice {t : TypeId} {x : Operand} {lo hi : Option Operand} (ho : o.op = .slice t x lo hi none) (h : SemOf P cf C me o ρ m out wr) (hin : Inv m γ F w) (hs : Slots m γ F w ρ a) : Does P o a w m γ F out wr := by
  simp only [SemOf, opSem, ho] at h
  have hx := opnd_rep hs x
  split at h
  · rename_i l h' hl hh
    split at h
    · rename_i s ver off len el he hu
      split at h
      · rename_i i j k hb hz
        simp only [Mm.gives_get] at h
        split at h
        · rename_i v k' xs hA
          simp only [Mm.gives_chk, Bool.and_eq_true, beq_iff_eq, Mm.gives_ret, Prod.mk.injEq] at h
          obtain ⟨⟨rfl, rfl⟩, rfl, rfl⟩ := h
          obtain ⟨_, _, hij, hjn⟩ := boundsP_eq hb
          rw [he] at hx
          generalize hv : a.eval x = v' at hx
          cases hx with
          | ref s ver off len ao cap A h1 h2 h3 =>
            have := arr_eq h1 hA; subst this
            obtain ⟨hl1, hc1, rfl, had⟩ := h3 rfl
            obtain ⟨cur, E, hbk, hsz, hxc, _, _⟩ := hin.holds s _ h1
            have hrun := run_bounds (P := P) hs hl hh hb (show len ≤ (γ s).cap - off by omega) true
            refine does_pure hin (v := .slice (if (γ s).cap - off = i then ao else ao.map (·.add (i * k))) (j - i) ((γ s).cap - off - i)) ?_ ?_
            · simp [execOp, ho, hv, Instr.sliceAt, Instr.slice, run_underlying hu, hrun, run_sz hz]
            · refine .ref s _ _ _ _ _ _ h1 (Nat.le_refl _) fun _ => ⟨by omega, by omega, by omega, fun hlt => ?_⟩
              rw [if_neg (by omega), had (by omega)]
              simp [addr_add, ← Nat.add_mul, Nat.add_assoc]
        · simp [Mm.gives_fail] at h
      · simp [Mm.gives_fail] at h
    · rename_i xs el he hu
      split at h
      · rename_i i j k hb hz
        simp only [Mm.gives_chk, Mm.gives_ret, Prod.mk.injEq] at h
        obtain ⟨hall, rfl, rfl⟩ := h
        obtain ⟨_, _, hij, hjn⟩ := boundsP_eq hb
        rw [he] at hx
        generalize hv : a.eval x = v' at hx
        cases hx with
        | i hr => cases hr with
          | lst xs ao cap k' c h1 h2 h3 h4 h5 h6 =>
            have hrun := run_bounds (P := P) hs hl hh hb (show xs.length ≤ cap by omega) true
            have hlen : ((xs.drop i).take (j - i)).length = j - i := by simp; omega
            refine does_pure hin (v := .slice (if cap = i then ao else ao.map (·.add (i * k))) (j - i) (cap - i)) ?_ ?_
            · simp [execOp, ho, hv, Instr.sliceAt, Instr.slice, run_underlying hu, hrun, run_sz hz]
            · have hget : ∀ (q : Nat) (e : List IV), ((xs.drop i).take (j - i))[q]? = some e → xs[i + q]? = some e := fun q e hq => by
                rw [List.getElem?_take] at hq
                split at hq
                · simpa using hq
                · cases hq
              suffices hgoal : RepI F w (.lst ((xs.drop i).take (j - i))) (.slice (if cap = i then ao else ao.map (·.add (i * k))) ((xs.drop i).take (j - i)).length (cap - i)) by rw [hlen] at hgoal; exact .i hgoal
              refine (.lst _ _ _ k' (fun q r => c (i + q) r) (by omega) (by omega) (fun q e hq => h3 _ _ (hget q e hq)) (fun q e hq => ?_) (fun q e r p hq hp => h5 _ _ _ _ (hget q e hq) hp) (fun q e r p hq hp => h6 _ _ _ _ (hget q e hq) hp))
              have hq' := hget q e hq
              obtain ⟨ad, rfl, hsp, hF, hc⟩ := h4 _ _ hq'
              have hlt : i + q < xs.length := (List.getElem?_eq_some_iff.1 hq').1
              have hk : k = k' := by
                rw [← h3 _ _ hq']
                have := List.all_eq_true.1 hall e (List.mem_of_getElem? hq')
                simp only [beq_iff_eq] at this
                exact this.symm
              subst hk
              have hne : ¬ cap = i := by omega
              rw [if_neg hne]
              refine ⟨ad.add (i * k), rfl, ?_, ?_, fun r p hp => ?_⟩
              · unfold Addr.add; split <;> simp [hsp]
              · unfold Addr.add; split <;> exact hF
              · rw [addr_none hsp, addr_add, ← hc r p hp]
                rw [show ad.off + i * k + (q * k + r) = ad.off + ((i + q) * k + r) from by rw [Nat.add_mul]; omega]
      · simp [Mm.gives_fail] at h
    · rename_i s he hu
      split at h
      · rename_i i j hb
        simp only [Mm.gives_ret, Prod.mk.injEq] at h
        obtain ⟨rfl, rfl⟩ := h
        rw [he] at hx
        generalize hv : a.eval x = v' at hx
        cases hx with
        | i hr => cases hr with
          | v y =>
            have hrun := run_bounds (P := P) hs hl hh hb (Nat.le_refl _) false
            exact does_pure hin (by simp [execOp, ho, hv, Instr.sliceAt, Instr.slice, run_underlying hu, hrun]) (.i (.v _))
      · simp [Mm.gives_fail] at h
    · simp [Mm.gives_fail] at h
  · simp [Mm.gives_fail] at h

theorem eqFields_flat (d : Nat) (w : World) : ∀ (fs : List Field) (i : Nat) (xs ys : List PV) (cx cy px py : List Value) (r : Bool),
    (∀ f j, (f, j) ∈ fs.zipIdx i → f.offset = j ∧ f.name ≠ "_" ∧ ∃ k, P.underlying f.type = some (.int k)) →
    px.length = i → py.length = i → xs.length = cx.length → ys.length = cy.length → xs.length = fs.length → ys.length = fs.length →
    (∀ (j : Nat) (p : PV) (v : Value), xs[j]? = some p → cx[j]? = some v → RepP m γ F w p v) → (∀ (j : Nat) (p : PV) (v : Value), ys[j]? = some p → cy[j]? = some v → RepP m γ F w p v) →
    eqCells xs ys = some r → (Op.eqFields (d + 1) (px ++ cx).toArray (py ++ cy).toArray fs).run P w = .ok r w
  | [], i, xs, ys, cx, cy, px, py, r, _, _, _, _, _, hxl, hyl, _, _, he => by
    have h1 := List.eq_nil_of_length_eq_zero hxl
    have h2 := List.eq_nil_of_length_eq_zero hyl
    subst h1; subst h2
    simp [eqCells] at he
    subst he
    simp [Op.eqFields]
  | f :: fs, i, x :: xs, y :: ys, vx :: cx, vy :: cy, px, py, r, hf, hpx, hpy, hx, hy, hxl, hyl, hrx, hry, he => by
    have hx0 := hrx 0 x vx rfl rfl
    have hy0 := hry 0 y vy rfl rfl
    obtain ⟨hoff, hname, k, hu⟩ := hf f i (by simp)
    unfold eqCells at he
    split at he
    · rename_i hh; simp at hh
    · rename_i k1 va xs' k2 vb ys' h1 h2
      cases h1; cases h2
      cases hx0 with
      | i q1 =>
      cases q1
      cases hy0 with
      | i q2 =>
      cases q2
      split at he
      · rename_i hkk
        subst hkk
        simp only [Option.map_eq_some_iff] at he
        obtain ⟨r', hr', rfl⟩ := he
        have ih := eqFields_flat d w fs (i + 1) xs ys cx cy (px ++ [.int k1 va]) (py ++ [.int k1 vb]) r'
          (fun g j hg => hf g j (by simp [hg])) (by simp [hpx]) (by simp [hpy]) (by simpa using hx) (by simpa using hy) (by simpa using hxl) (by simpa using hyl)
          (fun j p v hp hv => hrx (j + 1) p v hp hv) (fun j p v hp hv => hry (j + 1) p v hp hv) hr'
        have hag : isAggT P f.type = some false := by simp [isAggT, hu]
        have pa : ∀ (pre rest : List Value) (v : Value), pre.length = i → (part f.type (pre ++ v :: rest).toArray f.offset).run P w = .ok v w := fun pre rest v hpre => by
          simp [part, run_agg hag, hoff, ← hpre]
        simp only [Op.eqFields, ne_eq, hname, not_false_eq_true, if_true, Sem.run_bind, pa _ _ _ hpx, pa _ _ _ hpy, Result.andThen_ok, run_equalIn_int w d f.type k1 k _ _ hu]
        cases hab : (va == vb)
        · simp
        · simp only [Bool.not_true, Bool.false_eq_true, if_false, Bool.true_and]
          simpa using ih
      · cases he
    · cases he
  | _ :: _, _, [], _, _, _, _, _, _, _, _, _, _, _, hxl, _, _, _, _ => by simp at hxl
  | _ :: _, _, _ :: _, [], _, _, _, _, _, _, _, _, _, _, _, hyl, _, _, _ => by simp at hyl
  | _ :: _, _, _ :: _, _ :: _, [], _, _, _, _, _, _, _, hx, _, _, _, _, _, _ => by simp at hx
  | _ :: _, _, _ :: _, _ :: _, _ :: _, [], _, _, _, _, _, _, _, hy, _, _, _, _, _ => by simp at hy

theorem flatS_eq {t : TypeId} {n : Nat} (h : flatS P t n = true) : P.underlying t = some (.struct (P.fieldsOf t)) ∧ (P.fieldsOf t).size = n ∧ P.stoodInHeld t = false ∧ P.eqGuardType P.depth t = false ∧
    ∀ f j, (f, j) ∈ (P.fieldsOf t).toList.zipIdx 0 → f.offset = j ∧ f.name ≠ "_" ∧ ∃ k, P.underlying f.type = some (.int k) := by
  unfold flatS at h
  split at h
  · rename_i fs hu
    have hfs : P.fieldsOf t = fs := by simp [Program.fieldsOf, hu]
    rw [hfs]
    simp only [Bool.and_eq_true, beq_iff_eq, Bool.not_eq_true', List.all_eq_true] at h
    obtain ⟨⟨⟨h1, h2⟩, h3⟩, h4⟩ := h
    refine ⟨hu, h1, h2, h3, fun f j hf => ?_⟩
    have := h4 (f, j) hf
    simp only [bne_iff_ne, ne_eq] at this
    obtain ⟨⟨h5, h6⟩, h7⟩ := this
    refine ⟨h5, h6, ?_⟩
    split at h7
    · rename_i k hk; exact ⟨k, hk⟩
    · cases h7
  · cases h

theorem eqCells_len : ∀ (xs ys : List PV) (r : Bool), eqCells xs ys = some r → ys.length = xs.length
  | [], [], _, _ => rfl
  | [], _ :: _, _, h => by simp [eqCells] at h
  | x :: xs, [], r, h => by
    unfold eqCells at h
    split at h <;> simp_all
  | x :: xs, y :: ys, r, h => by
    unfold eqCells at h
    split at h
    · rename_i e1 e2; cases e1
    · rename_i e1 e2
      cases e1; cases e2
      split at h
      · simp only [Option.map_eq_some_iff] at h
        obtain ⟨r', hr', _⟩ := h
        simp [eqCells_len _ _ _ hr']
      · cases h
    · cases h

theorem run_eq_flat {t : TypeId} {xs ys : List PV} {cx cy : List Value} {r : Bool} (hf : flatS P t xs.length = true) (hx : xs.length = cx.length) (hy : ys.length = cy.length)
    (hrx : ∀ (j : Nat) (p : PV) (v : Value), xs[j]? = some p → cx[j]? = some v → RepP m γ F w p v) (hry : ∀ (j : Nat) (p : PV) (v : Value), ys[j]? = some p → cy[j]? = some v → RepP m γ F w p v)
    (he : eqCells xs ys = some r) : (Op.equal t (.agg cx.toArray) (.agg cy.toArray)).run P w = .ok r w := by
  obtain ⟨h1, h2, h3, h4, h5⟩ := flatS_eq hf
  show (Op.equalIn (9998 + 1 + 1) t _ _).run P w = _
  rw [run_equalIn_struct w _ t _ _ h1 h3]
  have := eqFields_flat (P := P) (m := m) (γ := γ) (F := F) 9998 w (P.fieldsOf t).toList 0 xs ys cx cy [] [] r h5 rfl rfl hx hy (by simp [h2]) (by rw [eqCells_len _ _ _ he]; simp [h2]) hrx hry he
  simpa using this

theorem run_equalIn_nilS (d : Nat) {t e : TypeId} (a : Option Addr) (l c : Nat) (h : P.underlying t = some (.slice e)) (w : World) : (Op.equalIn (d + 1) t (.slice a l c) (.slice none 0 0)).run P w = .ok a.isNone w := by
  cases a <;> simp [Op.equalIn, run_underlying h]
theorem run_equal_nilS {t e : TypeId} (a : Option Addr) (l c : Nat) (h : P.underlying t = some (.slice e)) (w : World) : (Op.equal t (.slice a l c) (.slice none 0 0)).run P w = .ok a.isNone w := run_equalIn_nilS 9999 a l c h w
theorem run_eql_nilS {t e : TypeId} (a : Option Addr) (l c : Nat) (h : P.underlying t = some (.slice e)) (w : World) : (binOp .eql t (.slice a l c) (.slice none 0 0)).run P w = .ok (.bool a.isNone) w := by
  simp [binOp, run_equal_nilS a l c h w]
theorem run_neq_nilS {t e : TypeId} (a : Option Addr) (l c : Nat) (h : P.underlying t = some (.slice e)) (w : World) : (binOp .neq t (.slice a l c) (.slice none 0 0)).run P w = .ok (.bool (!a.isNone)) w := by
  simp [binOp, run_equal_nilS a l c h w]
theorem guard_nilS {op : BinOp} {t : TypeId} {x y : Operand} (a : Option Addr) (l c : Nat) : eqGuard op t x y (.slice a l c) (.slice none 0 0) = pure () := by
  unfold eqGuard
  split <;> rfl
theorem does_nilT {op : BinOp} {t t' : TypeId} {x y : Operand} {r : Bool} (ho : o.op = .binOp op t x y t') (hn : nilT (P.underlying t) op y (opnd ρ x) = some r)
    (h : (Mm.ret (PV.i (.v (.bool r)), ([] : List (Nat × Arr)))).gives m (out, wr)) (hi : Inv m γ F w) (hs : Slots m γ F w ρ a) : Does P o a w m γ F out wr := by
  simp only [Mm.gives_ret, Prod.mk.injEq] at h
  obtain ⟨rfl, rfl⟩ := h
  have hx := opnd_rep hs x
  unfold nilT at hn
  split at hn
  · rename_i el z zs hu hz
    cases hn
    rw [hz] at hx
    generalize hvx : a.eval x = vx at hx
    cases hx with
    | i hx =>
      cases hx with
      | lst xs ao cap k c h1 h2 h3 h4 h5 h6 =>
        obtain ⟨ad, rfl, _⟩ := h4 0 z (by simp)
        refine does_pure hi ?_ (.i (.v _))
        have hy : a.eval (.const (.slice none 0 0)) = .slice none 0 0 := rfl
        simp only [execOp, ho, hvx, hy, guard_nilS, Sem.run_bind, Sem.run_pure, Result.andThen_ok, run_eql_nilS _ _ _ hu]
        rfl
  · rename_i el z zs hu hz
    cases hn
    rw [hz] at hx
    generalize hvx : a.eval x = vx at hx
    cases hx with
    | i hx =>
      cases hx with
      | lst xs ao cap k c h1 h2 h3 h4 h5 h6 =>
        obtain ⟨ad, rfl, _⟩ := h4 0 z (by simp)
        refine does_pure hi ?_ (.i (.v _))
        have hy : a.eval (.const (.slice none 0 0)) = .slice none 0 0 := rfl
        simp only [execOp, ho, hvx, hy, guard_nilS, Sem.run_bind, Sem.run_pure, Result.andThen_ok, run_neq_nilS _ _ _ hu]
        rfl
  · cases hn

theorem does_binOp {op : BinOp} {t t' : TypeId} {x y : Operand} (ho : o.op = .binOp op t x y t') (h : SemOf P cf C me o ρ m out wr) (hi : Inv m γ F w) (hs : Slots m γ F w ρ a) : Does P o a w m γ F out wr := by
  simp only [SemOf, opSem, ho] at h
  cases hnil : nilT (P.underlying t) op y (opnd ρ x) with
  | some r => rw [hnil] at h; exact does_nilT ho hnil h hi hs
  | none =>
  rw [hnil] at h
  simp only [Mm.gives_bind, Mm.gives_opt, Mm.gives_ret, Prod.mk.injEq] at h
  obtain ⟨v, hv, rfl, rfl⟩ := h
  have hx := opnd_rep hs x
  have hy := opnd_rep hs y
  generalize hvx : a.eval x = vx at hx
  generalize hvy : a.eval y = vy at hy
  have hexec : ∀ g : Sem Value, (∀ w, ((do eqGuard op t x y vx vy; binOp op t vx vy : Sem Value)).run P w = g.run P w) → (g.run P w = .ok v w) → (execOp a.eval o).run P w = .ok (.value v) w := by
    intro g hg hr
    simp only [execOp, ho, hvx, hvy]
    have := hg w
    simp only [Sem.run_bind] at this ⊢
    rw [this, hr]
    rfl
  have hplain : eqGuard op t x y vx vy = pure () → (binOp op t vx vy).run P w = .ok v w → Does P o a w m γ F (.i (.v v)) [] := fun hg hr =>
    does_pure hi (hexec (binOp op t vx vy) (fun w => by rw [hg]; simp) hr) (.i (.v _))
  have hng : ∀ {u u' : Value}, vx = u → vy = u' → (∀ z, u ≠ .agg z) → u ≠ .nilIface → eqGuard op t x y vx vy = pure () := by
    rintro u u' rfl rfl h1 h2
    unfold eqGuard
    split <;> (try simp only [Bool.not_true, Bool.not_false, Bool.false_eq_true, if_false, if_true]) <;> first | rfl | (cases vx <;> first | rfl | simp_all)
  unfold binV at hv
  split at hv
  · rename_i k1 n1 k2 n2 e1 e2
    rw [e1] at hx; rw [e2] at hy
    cases hx with
    | i hx =>
    cases hx
    cases hy with
    | i hy =>
    cases hy
    exact hplain (hng rfl rfl (by simp) (by simp)) (semPure_run hv w)
  · rename_i n1 n2 e1 e2
    rw [e1] at hx; rw [e2] at hy
    cases hx with
    | i hx =>
    cases hx
    cases hy with
    | i hy =>
    cases hy
    exact hplain (hng rfl rfl (by simp) (by simp)) (semPure_run hv w)
  · rename_i n1 n2 e1 e2
    rw [e1] at hx; rw [e2] at hy
    cases hx with
    | i hx =>
    cases hx
    cases hy with
    | i hy =>
    cases hy
    split at hv
    · rename_i hu
      cases hv
      refine hplain (hng rfl rfl (by simp) (by simp)) ?_
      have hb : (Op.equal t (.bool n1) (.bool n2)).run P w = .ok (n1 == n2) w := run_equalIn_bool w 9999 t n1 n2 hu
      show ((do pure (.bool (← Op.equal t (.bool n1) (.bool n2))) : Sem Value)).run P w = _
      simp only [Sem.run_bind, hb, Result.andThen_ok, Sem.run_pure]
    · rename_i hu
      cases hv
      refine hplain (hng rfl rfl (by simp) (by simp)) ?_
      have hb : (Op.equal t (.bool n1) (.bool n2)).run P w = .ok (n1 == n2) w := run_equalIn_bool w 9999 t n1 n2 hu
      show ((do pure (.bool (!(← Op.equal t (.bool n1) (.bool n2)))) : Sem Value)).run P w = _
      simp only [Sem.run_bind, hb, Result.andThen_ok, Sem.run_pure]
    · cases hv
  · rename_i xs ys e1 e2
    rw [e1] at hx; rw [e2] at hy
    split at hv
    · rename_i hf
      cases hx with
      | agg _ cx hlx hrx =>
      cases hy with
      | agg _ cy hly hry =>
      obtain ⟨h1, h2, h3, h4, h5⟩ := flatS_eq hf
      have hgd : ∀ w, (eqGuard op t x y (.agg cx.toArray) (.agg cy.toArray)).run P w = .ok () w := fun w => by
        unfold eqGuard
        split <;> simp [h4]
      split at hv
      · simp only [Option.map_eq_some_iff] at hv
        obtain ⟨r, hr, rfl⟩ := hv
        refine does_pure hi (hexec (do pure (.bool (← Op.equal t (.agg cx.toArray) (.agg cy.toArray)))) (fun w => ?_) ?_) (.i (.v _))
        · have hb : binOp .eql t (.agg cx.toArray) (.agg cy.toArray) = (do pure (.bool (← Op.equal t (.agg cx.toArray) (.agg cy.toArray)))) := rfl
          rw [← hb]; simp only [Sem.run_bind, hgd, Result.andThen_ok]
        · simp only [Sem.run_bind, run_eq_flat hf hlx hly hrx hry hr, Result.andThen_ok, Sem.run_pure]
      · simp only [Option.map_eq_some_iff] at hv
        obtain ⟨r, hr, rfl⟩ := hv
        refine does_pure hi (hexec (do pure (.bool (!(← Op.equal t (.agg cx.toArray) (.agg cy.toArray))))) (fun w => ?_) ?_) (.i (.v _))
        · have hb : binOp .neq t (.agg cx.toArray) (.agg cy.toArray) = (do pure (.bool (!(← Op.equal t (.agg cx.toArray) (.agg cy.toArray))))) := rfl
          rw [← hb]; simp only [Sem.run_bind, hgd, Result.andThen_ok]
        · simp only [Sem.run_bind, run_eq_flat hf hlx hly hrx hry hr, Result.andThen_ok, Sem.run_pure]
      · cases hv
    · cases hv
  · cases hv

end
end Go.Proofs.Ytnobgdgnncfcpaa.X
