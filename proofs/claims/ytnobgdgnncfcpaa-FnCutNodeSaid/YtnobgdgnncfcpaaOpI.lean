/- Soundness: clear, len, min, max; all operations but calls together. -/
import Derived.Test.YtnobgdgnncfcpaaOpH
namespace Go.Proofs.Ytnobgdgnncfcpaa.X
open Go

section
variable {P : Program} {o : Oper} {a : Act} {w : World} {m : Mem} {γ : Nat → GB} {F : Nat → Prop} {ρ : Nat → PV} {out : PV} {wr : List (Nat × Arr)} {cf : Cfg} {C : CallS} {me : FuncId}

theorem splice_nil {α : Type} (xs : List α) (off : Nat) : splice xs off [] = xs := by simp [splice]

theorem does_clear {x : Operand} {ts : Array TypeId} (ho : o.op = .call { callee := .builtin .clear, args := #[x], argTypes := ts }) (h : (clearB P ts (opnd ρ x)).gives m (out, wr))
    (hi : Inv m γ F w) (hs : Slots m γ F w ρ a) : Does P o a w m γ F out wr := by
  have hx := opnd_rep hs x
  have hexec : ∀ w', (Builtin.clear_ ts o.type #[a.eval x]).run P w = .ok undef w' → (execOp a.eval o).run P w = .ok (.value undef) w' := fun w' hr => by
    simp [execOp, ho, resolve, invoke, builtin, hr]
  unfold clearB at h
  split at h
  · rename_i s ver off len hxe
    split at h
    · rename_i e he
      obtain ⟨t, ht, hel⟩ := Option.bind_eq_some_iff.1 he
      have hu := elemT_eq hel
      split at h
      · rename_i k' z hz1 hz2
        simp only [Mm.gives_get] at h
        split at h
        · rename_i v k xs hA
          simp only [Mm.gives_chk, Bool.and_eq_true, beq_iff_eq, Mm.gives_ret, Prod.mk.injEq, List.all_eq_true] at h
          obtain ⟨⟨⟨⟨rfl, rfl⟩, hzl⟩, hzf⟩, rfl, rfl⟩ := h
          rw [hxe] at hx
          generalize hvx : a.eval x = vx at hx
          cases hx with
          | ref s ver off len ao cap A h1 h2 h3 =>
          have := arr_eq h1 hA; subst this
          obtain ⟨hl, hoc, rfl, had⟩ := h3 rfl
          by_cases hlen : len = 0
          · subst hlen
            obtain ⟨t1, t2, t3⟩ := touch_site hi (A' := .arr v k xs) (G := γ s) (w' := w) h1 trivial rfl (Nat.le_refl _) (fun _ => ⟨⟨rfl, rfl⟩, rfl⟩) rfl rfl rfl rfl (fun _ _ => rfl)
              (fun hms hag => (hi.holds s _ h1).step hms (fun _ h => h) hag rfl)
            refine does_of_run (γ' := upd γ s (γ s)) (F' := F) (w' := w) (v := undef) (hexec _ ?_) ?_ ?_ (FStep.refl ..) ?_ (.i (.v _))
            · rw [hvx]; cases ao <;> simp [Builtin.clear_, ht, run_underlying hu, undef]
            · simpa [splice_nil, updL] using t1
            · simpa [splice_nil, updL] using t2
            · simpa [splice_nil, updL] using t3
          · obtain ⟨cur, E, hb, hsz, hxc, hcm, hc⟩ := hi.holds s _ h1
            obtain rfl := had (by omega)
            obtain ⟨zv, hzr, rfl⟩ := run_zero hz2 w
            have hzs : zv.cells.size = k := by simpa using hzl
            have hgr : Grid F w k (List.replicate len (zv.cells.toList.map constC)) (Builtin.zeroCells zv.cells len) := by
              have := grid_zero (F := F) (w := w) (n := len) hzs hzf
              simpa [Builtin.zeroCells, hzs] using this
            have hk0 : 0 < k ∨ k = 0 := by omega
            have hnl : (Builtin.zeroCells zv.cells len).toList.length = len * k := by simp [size_zeroCells, hzs]
            have hmul : ((γ s).b + off) * k + (Builtin.zeroCells zv.cells len).toList.length ≤ cur.size := by
              rw [hnl, hsz, ← Nat.add_mul]; exact Nat.mul_le_mul_right _ (by omega)
            have hone : ∀ v ∈ (Builtin.zeroCells zv.cells len).toList, v.oneCell' = true := by
              rcases hk0 with hk0 | hk0
              · exact grid_one hk0 hgr
              · intro v hv
                have : (Builtin.zeroCells zv.cells len).toList = [] := List.eq_nil_of_length_eq_zero (by rw [hnl, hk0]; simp)
                rw [this] at hv; cases hv
            have hst := run_stores (P := P) (γ s).g (((γ s).b + off) * k) E _ cur w hb hmul hone
            generalize hcells : (Builtin.zeroCells zv.cells len).toList = cells at *
            have hgr' : Grid F w k (List.replicate len (zv.cells.toList.map constC)) cells.toArray := by rw [← hcells]; simpa using hgr
            obtain ⟨f1, f2, f3, f4, f5, f6⟩ := setRow_facts (γ s).g cur (splice cur.toList (((γ s).b + off) * k) cells).toArray E w hb
            have hfl : ((γ s).b + off) * k + cells.length ≤ cur.toList.length := by simpa using hmul
            have hsl : off + (List.replicate len (zv.cells.toList.map constC)).length ≤ xs.length := by simpa using hl
            obtain ⟨t1, t2, t3⟩ := touch_site hi (A' := .arr v k (splice xs off (List.replicate len (zv.cells.toList.map constC)))) (G := γ s) h1 trivial rfl (Nat.le_refl _) (fun _ => ⟨⟨rfl, by rw [length_splice _ _ _ hsl]⟩, rfl⟩) f1 f2 f3 f4 f5 (fun hms hag => by
              refine ⟨_, E, f6, by simp [length_splice _ _ _ hfl, hsz], by rw [length_splice _ _ _ hsl]; exact hxc, hcm, fun i el hel => ?_⟩
              rw [getElem?_splice _ _ _ _ hsl] at hel
              simp only [List.getElem?_toArray, getElem?_splice _ _ _ _ hfl]
              split at hel
              · rename_i hin
                refine ⟨(hgr'.2 _ el hel).1, fun j p hp => ?_⟩
                obtain ⟨x, hx, ho, hr⟩ := (hgr'.2 _ el hel).2 j p hp
                have hj : j < k := by rw [← (hgr'.2 _ el hel).1]; exact (List.getElem?_eq_some_iff.1 hp).1
                have hlt := idx_lt (show i - off < len by have := hin.2; simp at this; omega) hj
                have e1 : ((γ s).b + i) * k + j = ((γ s).b + off) * k + ((i - off) * k + j) := by
                  rw [← Nat.add_assoc, ← Nat.add_mul]; congr 2; omega
                rw [e1, if_pos (by omega), Nat.add_sub_cancel_left]
                exact ⟨x, by simpa using hx, ho, hr.mono (fun _ h => h) hag⟩
              · rename_i hin
                refine ⟨(hc i el hel).1, fun j p hp => ?_⟩
                obtain ⟨x, hx, ho, hr⟩ := (hc i el hel).2 j p hp
                have hj : j < k := by rw [← (hc i el hel).1]; exact (List.getElem?_eq_some_iff.1 hp).1
                have hin' : i < off ∨ off + len ≤ i := by simp at hin; omega
                have hne : ¬ (((γ s).b + off) * k ≤ ((γ s).b + i) * k + j ∧ ((γ s).b + i) * k + j < ((γ s).b + off) * k + cells.length) := by
                  rw [hnl]
                  rintro ⟨q1, q2⟩
                  rcases hin' with q | q
                  · have : ((γ s).b + i + 1) * k ≤ ((γ s).b + off) * k := Nat.mul_le_mul_right _ (by omega)
                    rw [Nat.add_mul _ 1] at this; omega
                  · have : ((γ s).b + off + len) * k ≤ ((γ s).b + i) * k := Nat.mul_le_mul_right _ (by omega)
                    rw [Nat.add_mul _ len] at this; omega
                rw [if_neg hne]
                exact ⟨x, by simpa using hx, ho, hr.mono (fun _ h => h) hag⟩)
            refine does_of_run (v := undef) (γ' := upd γ s (γ s)) (F' := F) (hexec _ ?_) t1 t2 (FStep.refl ..) t3 (.i (.v _))
            rw [hvx]
            cases len with
            | zero => exact absurd rfl hlen
            | succ len => simp [Builtin.clear_, ht, run_underlying hu, hzr, hcells, hst, undef]
        · simp [Mm.gives_fail] at h
      · simp [Mm.gives_fail] at h
    · simp [Mm.gives_fail] at h
  · simp [Mm.gives_fail] at h

theorem lenP_eq {p : PV} {v : Value} {n : Nat} (h : lenP p = some n) (hr : RepP m γ F w p v) : ∃ ao c, v = .slice ao n c := by
  cases hr with
  | ref s ver off len ao cap A h1 h2 h3 => simp only [lenP, Option.some.injEq] at h; subst h; exact ⟨ao, cap, rfl⟩
  | i hr =>
    cases hr with
    | emp ao => simp only [lenP, Option.some.injEq] at h; subst h; exact ⟨ao, 0, rfl⟩
    | lst xs ao cap k c h1 h2 h3 h4 h5 h6 => simp only [lenP, Option.some.injEq] at h; subst h; exact ⟨ao, cap, rfl⟩
    | _ => simp [lenP] at h
  | _ => simp [lenP] at h

theorem does_len {x : Operand} {ts : Array TypeId} (ho : o.op = .call { callee := .builtin .len, args := #[x], argTypes := ts }) (h : (lenB P ts (opnd ρ x)).gives m (out, wr))
    (hi : Inv m γ F w) (hs : Slots m γ F w ρ a) : Does P o a w m γ F out wr := by
  have hx := opnd_rep hs x
  have hexec : ∀ v, (Builtin.len_ ts o.type #[a.eval x]).run P w = .ok v w → (execOp a.eval o).run P w = .ok (.value v) w := fun v hr => by
    simp [execOp, ho, resolve, invoke, builtin, hr]
  unfold lenB at h
  split at h
  · rename_i el ht
    obtain ⟨t, ht, hu⟩ := Option.bind_eq_some_iff.1 ht
    split at h
    · rename_i n hn
      simp only [Mm.gives_ret, Prod.mk.injEq] at h
      obtain ⟨rfl, rfl⟩ := h
      obtain ⟨ao, c, hv⟩ := lenP_eq hn hx
      exact does_pure hi (hexec _ (by rw [hv]; simp [Builtin.len_, ht, run_underlying hu, goInt])) (.i (.v _))
    · simp [Mm.gives_fail] at h
  · rename_i ht
    obtain ⟨t, ht, hu⟩ := Option.bind_eq_some_iff.1 ht
    split at h
    · rename_i s hxe
      simp only [Mm.gives_ret, Prod.mk.injEq] at h
      obtain ⟨rfl, rfl⟩ := h
      rw [hxe] at hx
      generalize hvx : a.eval x = vx at hx
      cases hx with
      | i hx => cases hx; exact does_pure hi (hexec _ (by rw [hvx]; simp [Builtin.len_, ht, run_underlying hu, goInt])) (.i (.v _))
    · simp [Mm.gives_fail] at h
  · simp [Mm.gives_fail] at h

theorem intP_eq {p : PV} {v : Value} {k : IntKind} {n : Int} (h : intP p = some (k, n)) (hr : RepP m γ F w p v) : v = .int k n := by
  unfold intP at h
  split at h
  · cases h; cases hr with | i hr => cases hr; rfl
  · cases h

theorem does_min {x y : Operand} {ts : Array TypeId} (ho : o.op = .call { callee := .builtin .min, args := #[x, y], argTypes := ts }) (h : (minB (opnd ρ x) (opnd ρ y)).gives m (out, wr))
    (hi : Inv m γ F w) (hs : Slots m γ F w ρ a) : Does P o a w m γ F out wr := by
  unfold minB at h
  split at h
  · rename_i k n k' n' h1 h2
    simp only [Mm.gives_ret, Prod.mk.injEq] at h
    obtain ⟨rfl, rfl⟩ := h
    have e1 := intP_eq h1 (opnd_rep hs x)
    have e2 := intP_eq h2 (opnd_rep hs y)
    exact does_pure hi (by simp [execOp, ho, resolve, invoke, builtin, Builtin.min_, e1, e2, Builtin.min2]) (.i (.v _))
  · simp [Mm.gives_fail] at h
theorem does_max {x y : Operand} {ts : Array TypeId} (ho : o.op = .call { callee := .builtin .max, args := #[x, y], argTypes := ts }) (h : (maxB (opnd ρ x) (opnd ρ y)).gives m (out, wr))
    (hi : Inv m γ F w) (hs : Slots m γ F w ρ a) : Does P o a w m γ F out wr := by
  unfold maxB at h
  split at h
  · rename_i k n k' n' h1 h2
    simp only [Mm.gives_ret, Prod.mk.injEq] at h
    obtain ⟨rfl, rfl⟩ := h
    have e1 := intP_eq h1 (opnd_rep hs x)
    have e2 := intP_eq h2 (opnd_rep hs y)
    exact does_pure hi (by simp [execOp, ho, resolve, invoke, builtin, Builtin.max_, e1, e2, Builtin.max2]) (.i (.v _))
  · simp [Mm.gives_fail] at h

theorem does_builtin {c : Call} {b : Builtin} (ho : o.op = .call c) (hc : c.callee = .builtin b) (h : (builtinP P b c.argTypes o.dst (c.args.toList.map (opnd ρ))).gives m (out, wr))
    (hi : Inv m γ F w) (hs : Slots m γ F w ρ a) : Does P o a w m γ F out wr := by
  obtain ⟨callee, ⟨args⟩, ts⟩ := c
  simp only at hc
  subst hc
  simp only at h
  unfold builtinP at h
  split at h
  · rename_i x he
    match args, he with
    | [x], he => simp at he; subst he; exact does_len ho h hi hs
  · rename_i x y he
    match args, he with
    | [x, y], he => simp at he; obtain ⟨rfl, rfl⟩ := he; exact does_min ho h hi hs
  · rename_i x y he
    match args, he with
    | [x, y], he => simp at he; obtain ⟨rfl, rfl⟩ := he; exact does_max ho h hi hs
  · rename_i x y he
    match args, he with
    | [x, y], he =>
      simp at he; obtain ⟨rfl, rfl⟩ := he
      exact does_append ho h hi hs
  · rename_i x he
    match args, he with
    | [x], he => simp at he; subst he; exact does_clear ho h hi hs
  · simp [Mm.gives_fail] at h

end
end Go.Proofs.Ytnobgdgnncfcpaa.X
