/- Soundness: struct literals, slice literals, make. -/
import Derived.Test.YtnobgdgnncfcpaaOpE
namespace Go.Proofs.Ytnobgdgnncfcpaa.X
open Go

section
variable {P : Program} {o : Oper} {a : Act} {w : World} {m : Mem} {γ : Nat → GB} {F : Nat → Prop} {ρ : Nat → PV} {out : PV} {wr : List (Nat × Arr)} {cf : Cfg} {C : CallS} {me : FuncId}

theorem cellsOf_pv {p : PV} {v : Value} (hr : RepP m γ F w p v) (hs : ∀ q, q ∈ p.cells → q.scalar = true) : CellsOf m γ F w p.cells v.cells := by
  obtain ⟨c, hc, hl, hcr⟩ := cells_rep hr hs
  refine ⟨by rw [hc]; simp [hl], fun j p hp => ?_⟩
  have hj : j < c.length := by rw [hl]; exact (List.getElem?_eq_some_iff.1 hp).1
  exact ⟨c[j], by rw [hc]; simp [hj], (hcr j p c[j] hp (by simp [hj])).1⟩

theorem fillP_sound (hs : Slots m γ F w ρ a) (fs : Array Field) : ∀ (l : List (Nat × Operand)) (cs cs' : List PV) (cur : Array Value), CellsOf m γ F w cs cur →
    fillP P fs cs (l.map fun x => (x.1, opnd ρ x.2)) = some cs' →
    ∃ cur', Instr.fill (fun i => (fs.map fun f => (f.offset, (szOf P f.type).getD 0))[i]?) cur (l.map fun x => (x.1, a.eval x.2)) = some cur' ∧ CellsOf m γ F w cs' cur'
  | [], cs, cs', cur, hc, h => by
    simp only [List.map_nil, fillP, Option.some.injEq] at h
    subst h
    exact ⟨cur, rfl, hc⟩
  | (i, x) :: l, cs, cs', cur, hc, h => by
    simp only [List.map_cons, fillP] at h
    split at h
    · rename_i f hf
      split at h
      · rename_i hh
        obtain ⟨h1, h2, h3⟩ := hh
        have hcx := cellsOf_pv (opnd_rep hs x) (by simpa [List.all_eq_true] using h3)
        obtain ⟨cur', hf', hr'⟩ := fillP_sound hs fs l _ cs' _ (cellsOf_splice hc hcx h2) h
        refine ⟨cur', ?_, hr'⟩
        simp only [List.map_cons]
        rw [fill_cons _ cur i (a.eval x) _ f.offset (opnd ρ x).cells.length (by simp [hf, h1]) hcx.1 (by rw [hc.1]; exact h2)]
        exact hf'
      · cases h
    · cases h

theorem repP_agg_of_cells {cs : List PV} {cur : Array Value} (h : CellsOf m γ F w cs cur) : RepP m γ F w (.agg cs) (.agg cur) := by
  have : RepP m γ F w (.agg cs) (.agg cur.toList.toArray) := by
    refine .agg cs cur.toList (by simp [h.1]) fun j p v hp hv => ?_
    obtain ⟨x, hx, hr⟩ := h.2 j p hp
    simp only [Array.getElem?_toList] at hv
    rw [hx] at hv; cases hv
    exact hr
  simpa using this

theorem does_build {t : TypeId} {parts : Array (Nat × Operand)} (ho : o.op = .build t parts) (h : SemOf P cf C me o ρ m out wr) (hi : Inv m γ F w) (hs : Slots m γ F w ρ a) : Does P o a w m γ F out wr := by
  simp only [SemOf, opSem, ho] at h
  split at h
  · rename_i z fs hz hu
    split at h
    · rename_i cs hcs
      simp only [Mm.gives_chk, Mm.gives_ret, Prod.mk.injEq, List.all_eq_true] at h
      obtain ⟨hall, rfl, rfl⟩ := h
      obtain ⟨zv, hzr, rfl⟩ := run_zero hz w
      have h0 : CellsOf m γ F w ((zv.cells.toList.map constC).map .i) zv.cells := by
        refine ⟨by simp, fun j p hp => ?_⟩
        simp only [List.map_map, List.getElem?_map, Option.map_eq_some_iff] at hp
        obtain ⟨x, hx, rfl⟩ := hp
        exact ⟨x, by simpa using hx, .i (repI_constC x)⟩
      obtain ⟨cur', hf, hr⟩ := fillP_sound hs fs parts.toList _ cs zv.cells h0 hcs
      refine does_pure hi (v := .agg cur') ?_ (repP_agg_of_cells hr)
      have hm := mapM_places (P := P) (w := w) fs (fun f hf => hall f (by simpa using hf))
      simp only [execOp, ho, Instr.build, Sem.run_bind, hzr, Result.andThen_ok, run_underlying hu, hm]
      have hf' : Instr.fill (fun x => (fs.map fun f => (f.offset, (szOf P f.type).getD 0))[x]?) zv.cells (parts.map fun x => (x.1, a.eval x.2)).toList = some cur' := by
        rw [Array.toList_map]; exact hf
      simp only [hf', Sem.run_pure, Result.andThen_ok]
    · simp [Mm.gives_fail] at h
  · simp [Mm.gives_fail] at h

/-- Cells that stand for elements. -/
def Grid (F : Nat → Prop) (w : World) (k : Nat) (xs : List (List IV)) (cur : Array Value) : Prop :=
  cur.size = xs.length * k ∧ ∀ (i : Nat) (e : List IV), xs[i]? = some e → e.length = k ∧ ∀ (j : Nat) (p : IV), e[j]? = some p → ∃ x : Value, cur[i * k + j]? = some x ∧ x.oneCell' = true ∧ RepI F w p x

theorem idx_apart {i i' k j : Nat} (h : i ≠ i') (hj : j < k) : ¬ (i * k ≤ i' * k + j ∧ i' * k + j < i * k + k) := by
  rintro ⟨h1, h2⟩
  rcases Nat.lt_or_gt_of_ne h with hl | hl
  · have : (i + 1) * k ≤ i' * k := Nat.mul_le_mul_right _ hl
    rw [Nat.add_mul] at this; omega
  · have : (i' + 1) * k ≤ i * k := Nat.mul_le_mul_right _ hl
    rw [Nat.add_mul] at this; omega
theorem idx_lt {i k n j : Nat} (hi : i < n) (hj : j < k) : i * k + j < n * k := by
  have : (i + 1) * k ≤ n * k := Nat.mul_le_mul_right _ hi
  rw [Nat.add_mul] at this; omega

theorem grid_set {k : Nat} {xs : List (List IV)} {cur : Array Value} (h : Grid F w k xs cur) {i : Nat} {e : List IV} {c : Array Value} (hi : i < xs.length) (he : e.length = k)
    (hc : c.size = k) (hr : ∀ (j : Nat) (p : IV), e[j]? = some p → ∃ x : Value, c[j]? = some x ∧ x.oneCell' = true ∧ RepI F w p x) : Grid F w k (xs.set i e) (setAt cur (i * k) c) := by
  have hfit : i * k + c.size ≤ cur.size := by
    rw [h.1, hc]
    have : (i + 1) * k ≤ xs.length * k := Nat.mul_le_mul_right _ hi
    rw [Nat.add_mul] at this; omega
  refine ⟨by rw [setAt_size, h.1]; simp, fun i' e' he' => ?_⟩
  by_cases hii : i' = i
  · subst hii
    simp only [List.getElem?_set_self hi, Option.some.injEq] at he'
    subst he'
    refine ⟨he, fun j p hp => ?_⟩
    have hj : j < e.length := (List.getElem?_eq_some_iff.1 hp).1
    rw [setAt_get _ _ _ hfit, if_pos (by omega), show i' * k + j - i' * k = j from by omega]
    exact hr j p hp
  · rw [List.getElem?_set_ne (fun e => hii e.symm)] at he'
    refine ⟨(h.2 i' e' he').1, fun j p hp => ?_⟩
    have hj : j < k := by rw [← (h.2 i' e' he').1]; exact (List.getElem?_eq_some_iff.1 hp).1
    rw [setAt_get _ _ _ hfit, if_neg (by rw [hc]; exact idx_apart (fun e => hii e.symm) hj)]
    exact (h.2 i' e' he').2 j p hp

theorem fillE_length {k : Nat} : ∀ (l : List (Nat × List IV)) (xs xs' : List (List IV)), fillE k xs l = some xs' → xs'.length = xs.length
  | [], xs, xs', h => by simp [fillE] at h; rw [h]
  | (i, e) :: l, xs, xs', h => by
    simp only [fillE] at h
    split at h
    · rw [fillE_length l _ _ h]; simp
    · cases h

theorem fillE_sound {k : Nat} (hk : 0 < k) : ∀ (l : List (Nat × List IV)) (vs : List (Nat × Value)) (xs xs' : List (List IV)) (cur : Array Value),
    l.length = vs.length →
    (∀ (j : Nat) (x : Nat × List IV) (v : Nat × Value), l[j]? = some x → vs[j]? = some v → x.1 = v.1 ∧ v.2.cells.size = x.2.length ∧ ∀ (q : Nat) (p : IV), x.2[q]? = some p → ∃ y : Value, v.2.cells[q]? = some y ∧ y.oneCell' = true ∧ RepI F w p y) →
    Grid F w k xs cur → fillE k xs l = some xs' → ∃ cur', Instr.fill (fun i => some (i * k, k)) cur vs = some cur' ∧ Grid F w k xs' cur'
  | [], [], xs, xs', cur, _, _, hg, h => by simp [fillE] at h; subst h; exact ⟨cur, rfl, hg⟩
  | [], _ :: _, _, _, _, hl, _, _, _ => by simp at hl
  | _ :: _, [], _, _, _, hl, _, _, _ => by simp at hl
  | (i, e) :: l, (i', v) :: vs, xs, xs', cur, hl, hr, hg, h => by
    simp only [fillE] at h
    split at h
    · rename_i hh
      obtain ⟨h1, h2⟩ := hh
      obtain ⟨rfl, h4, h5⟩ := hr 0 (i, e) (i', v) rfl rfl
      simp only at h4 h5
      have hgs := grid_set hg h2 h1 (by rw [h4, h1]) h5
      obtain ⟨cur', hf, hr'⟩ := fillE_sound hk l vs _ xs' _ (by simpa using hl) (fun j x y hx hy => hr (j + 1) x y hx hy) hgs h
      refine ⟨cur', ?_, hr'⟩
      rw [fill_cons _ cur i v vs (i * k) k rfl (by rw [h4, h1]) ?_]
      · exact hf
      · rw [hg.1]
        have : (i + 1) * k ≤ xs.length * k := Nat.mul_le_mul_right _ h2
        rw [Nat.add_mul] at this; omega
    · cases h

theorem grid_zero {k n : Nat} {zc : Array Value} (hz : zc.size = k) (hone : ∀ x, x ∈ zc.toList.map constC → x.flat = true) :
    Grid F w k (List.replicate n (zc.toList.map constC)) ((Array.range (n * k)).map (zc[· % zc.size]!)) := by
  refine ⟨by simp, fun i e he => ?_⟩
  have hi : i < n := by have := (List.getElem?_eq_some_iff.1 he).1; simpa using this
  simp only [List.getElem?_replicate, hi, if_true, Option.some.injEq] at he
  subst he
  refine ⟨by simp [hz], fun j p hp => ?_⟩
  simp only [List.getElem?_map, Option.map_eq_some_iff] at hp
  obtain ⟨x, hx, rfl⟩ := hp
  have hj : j < k := by rw [← hz]; have := (List.getElem?_eq_some_iff.1 hx).1; simpa using this
  have hlt := idx_lt hi hj
  refine ⟨x, ?_, constC_one (hone _ (List.mem_map.2 ⟨x, List.mem_of_getElem? hx, rfl⟩)), repI_constC x⟩
  have hm : (i * k + j) % zc.size = j := by rw [hz, Nat.mul_comm, Nat.mul_add_mod, Nat.mod_eq_of_lt hj]
  have hjz : j < zc.size := by omega
  simp only [Array.getElem?_map, Array.getElem?_range, hlt, if_true, Option.map_some, hm, Option.some.injEq]
  rw [getElem!_pos zc j hjz]
  simpa [hjz] using hx

theorem inv_grid {v k n : Nat} {xs : List (List IV)} {cur : Array Value} {E : TypeId} {m' : Mem} {γ' : Nat → GB} (hg : Grid F w k xs cur) (hn : xs.length = n) (hmax : n ≤ maxLen) (hag : Agree F w (w.alloc (.cells cur E))) :
    Holds m' γ' F (w.alloc (.cells cur E)) ⟨w.heap.size, 0, n⟩ (.arr v k xs) := by
  refine ⟨cur, E, by rw [heap_alloc]; simp, by simp [hg.1, hn], by show xs.length ≤ n; omega, by simpa using hmax, fun i e he => ⟨(hg.2 i e he).1, fun j p hp => ?_⟩⟩
  obtain ⟨x, hx, ho, hr⟩ := (hg.2 i e he).2 j p hp
  exact ⟨x, by simpa using hx, ho, hr.mono (fun _ h => h) hag⟩

theorem slice_new {d v k n : Nat} {xs : List (List IV)} {G : Nat → GB} {m' : Mem} {w' : World} {b : Nat} (hm : m' d = some (.arr v k xs)) (hG : G d = ⟨b, 0, n⟩) (hn : xs.length = n) :
    RepP m' G F w' (.ref d v 0 n) (.slice (some ⟨b, 0, none⟩) n n) := by
  refine .ref d v 0 n _ _ _ hm (Nat.le_refl _) fun _ => ?_
  rw [hG]
  exact ⟨by omega, Nat.zero_le _, rfl, fun _ => by simp⟩

theorem does_buildSlice {t : TypeId} {n : Nat} {parts : Array (Nat × Operand)} (ho : o.op = .buildSlice t n parts) (h : SemOf P cf C me o ρ m out wr) (hi : Inv m γ F w) (hs : Slots m γ F w ρ a) : Does P o a w m γ F out wr := by
  simp only [SemOf, opSem, ho] at h
  split at h
  · rename_i el d hel hd
    have hu := elemT_eq hel
    split at h
    · rename_i k z hk hz
      simp only [Mm.gives_bind] at h
      obtain ⟨l, hl, h⟩ := h
      split at h
      · rename_i xs hxs
        simp only [Mm.gives_bind, Mm.gives_chk, Bool.and_eq_true, decide_eq_true_eq, beq_iff_eq, Mm.gives_ret, Prod.mk.injEq, List.all_eq_true, bne_iff_ne, ne_eq] at h
        obtain ⟨v, hv, ⟨⟨⟨⟨hmax, hzl⟩, hzf⟩, hk0⟩, hnd⟩, rfl, rfl⟩ := h
        obtain ⟨zv, hzr, rfl⟩ := run_zero hz w
        have hzs : zv.cells.size = k := by simpa using hzl
        have hwr : ∀ s A, (s, A) ∈ l.flatMap (·.2) → ownSite s = true ∧ ∃ v k ys, m s = some (.arr v k ys) ∧ A = .dead (v + 1) := fun s A hA => by
          simp only [List.mem_flatMap] at hA
          obtain ⟨x, hx, hy⟩ := hA
          obtain ⟨j, hj⟩ := List.getElem?_of_mem hx
          obtain ⟨p, _, hg⟩ := Mm.mapL_get' hl j _ hj
          simp only [Mm.gives_bind, Mm.gives_ret] at hg
          obtain ⟨c, hc, rfl⟩ := hg
          exact (consL_eq hc).2.1 s A hy
        obtain ⟨ki, km, ks, klive⟩ := kill_sites hi fun s A hA => (hwr s A hA).2
        have hlen := fillE_length _ _ _ hxs
        simp only [List.length_replicate] at hlen
        have hmul : n * k ≤ maxLen := by unfold maxLen; omega
        have hnmax : n ≤ maxLen := Nat.le_trans (Nat.le_mul_of_pos_right n hk0) hmul
        have hg0 : Grid (fun b => F b ∨ ∃ s A, (s, A) ∈ l.flatMap (·.2) ∧ b = (γ s).g) w k (List.replicate n (zv.cells.toList.map constC)) ((Array.range (n * k)).map (zv.cells[· % zv.cells.size]!)) := grid_zero hzs hzf
        obtain ⟨cur', hf, hg⟩ := fillE_sound hk0 (l.map (·.1)) (parts.toList.map fun x => (x.1, a.eval x.2)) _ xs _ (by simp [Mm.mapL_length hl]) (fun j x y hx hy => by
          simp only [List.getElem?_map, Option.map_eq_some_iff] at hx hy
          obtain ⟨lx, hlx, rfl⟩ := hx
          obtain ⟨px, hpx, rfl⟩ := hy
          obtain ⟨px', hpx', hgx⟩ := Mm.mapL_get' hl j _ hlx
          rw [hpx] at hpx'; cases hpx'
          simp only [Mm.gives_bind, Mm.gives_ret] at hgx
          obtain ⟨c, hc, rfl⟩ := hgx
          obtain ⟨h1, h2, h3⟩ := consL_eq hc
          have hsc : ∀ q, q ∈ (opnd ρ px.2).cells → q.scalar = true := fun q hq => by
            obtain ⟨jj, hjj⟩ := List.getElem?_of_mem hq
            obtain ⟨x, wj, _, hg1, _⟩ := h3 jj q hjj
            rcases cons1_eq hg1 with ⟨rfl, hf, _⟩ | ⟨_, _, _, _, _, _, rfl, _⟩
            · exact hf
            · rfl
          obtain ⟨cc, hcc, hccl, hccr⟩ := cells_rep (opnd_rep hs px.2) hsc
          refine ⟨rfl, by simp only [hcc, List.size_toArray, hccl, h1], fun q p hp => ?_⟩
          have hq : q < (opnd ρ px.2).cells.length := by rw [← h1]; exact (List.getElem?_eq_some_iff.1 hp).1
          obtain ⟨x, wj, hx, hg1, hsub⟩ := h3 q (opnd ρ px.2).cells[q] (by simp [hq])
          rw [hx] at hp; cases hp
          have hqc : q < cc.length := by rw [hccl]; exact hq
          obtain ⟨hr1, _⟩ := hccr q _ cc[q] (List.getElem?_eq_getElem hq) (by simp [hqc])
          obtain ⟨hr2, ho2⟩ := cons1_rep (wr := l.flatMap (·.2)) hi hg1 (fun y hy => List.mem_flatMap.2 ⟨_, List.mem_of_getElem? hlx, hsub y hy⟩) hr1
          exact ⟨cc[q], by simp only [hcc]; simp [hqc], ho2, hr2⟩) hg0 hxs
        have hdn : updL m (l.flatMap (·.2)) d = m d := updL_other fun A hA => hnd _ hA rfl
        obtain ⟨h1, h2, h3, h4⟩ := new_site ki (d := d) (A := .arr v k xs) (fun A0 h0 => gives_newVer hv A0 (by rwa [hdn] at h0)) trivial cur' el n (fun hm hag => inv_grid hg hlen hnmax hag)
        refine does_of_run (v := .slice (some ⟨w.heap.size, 0, none⟩) n n) (γ' := upd γ d ⟨w.heap.size, 0, n⟩) (F' := fun b => F b ∨ ∃ s A, (s, A) ∈ l.flatMap (·.2) ∧ b = (γ s).g) (w' := w.alloc (.cells cur' el)) ?_ (by rw [updL_append]; exact h1) (by rw [updL_append]; exact km.trans h2)
          (kill_grow hwr) (by rw [updL_append]; exact ks.trans h3) (by rw [updL_append]; exact slice_new (upd_same ..) (upd_same ..) hlen)
        have hf' : Instr.fill (fun i => some (i * k, k)) ((Array.range (n * k)).map (zv.cells[· % zv.cells.size]!)) (parts.map fun x => (x.1, a.eval x.2)).toList = some cur' := by
          rw [Array.toList_map]; exact hf
        have hnm : ¬ (2 ^ 24 < n * k) := by omega
        simp only [execOp, ho, Instr.buildSlice, Sem.run_bind, run_underlying hu, Result.andThen_ok, run_sz hk, gt_iff_lt, hnm, if_false]
        by_cases hn0 : n * k = 0
        · have hn : n = 0 := by rcases Nat.mul_eq_zero.1 hn0 with h | h <;> omega
          subst hn
          simp only [Nat.zero_mul, if_true, Sem.run_pure, Result.andThen_ok]
          simp only [Nat.zero_mul, Array.range_zero', Array.map_empty] at hf' ⊢
          simp only [hf', newRow, Sem.run_bind, Sem.run_pure]
          rfl
        · simp only [hn0, if_false, Sem.run_bind, hzr, Result.andThen_ok, Sem.run_pure, hf', newRow]
          rfl
      · simp [Mm.gives_fail] at h
    · simp [Mm.gives_fail] at h
  · simp [Mm.gives_fail] at h

theorem does_makeSlice {t : TypeId} {x y : Operand} (ho : o.op = .makeSlice t x y) (h : SemOf P cf C me o ρ m out wr) (hi : Inv m γ F w) (hs : Slots m γ F w ρ a) : Does P o a w m γ F out wr := by
  simp only [SemOf, opSem, ho] at h
  split at h
  · rename_i el d n n' hel hd hn hn'
    have hu := elemT_eq hel
    obtain ⟨k1, hx⟩ := asInt_eq hn (opnd_rep hs x)
    obtain ⟨k2, hy⟩ := asInt_eq hn' (opnd_rep hs y)
    split at h
    · rename_i inf z hinf hz
      simp only [Mm.gives_bind, Mm.gives_chk, Bool.and_eq_true, decide_eq_true_eq, beq_iff_eq, Mm.gives_ret, Prod.mk.injEq, List.all_eq_true] at h
      obtain ⟨v, hv, ⟨⟨⟨⟨⟨⟨h0, rfl⟩, hm1⟩, hb⟩, hzl⟩, hk0⟩, hzf⟩, rfl, rfl⟩ := h
      have hz' := hz
      simp only [zeroC, Option.map_eq_some_iff, Option.bind_eq_some_iff, hinf, Option.some.injEq] at hz'
      obtain ⟨zv, ⟨_, rfl, hzv⟩, rfl⟩ := hz'
      have hzs : zv.cells.size = inf.size := by simpa using hzl
      have hg : Grid F w inf.size (List.replicate n.toNat (zv.cells.toList.map constC)) (madeCells zv.cells (n.toNat * inf.size)) := grid_zero hzs hzf
      have hnn : n.toNat ≤ maxLen := by unfold maxLen; omega
      obtain ⟨h1, h2, h3, h4⟩ := new_site hi (d := d) (A := .arr v inf.size (List.replicate n.toNat (zv.cells.toList.map constC))) (fun A0 h0 => gives_newVer hv A0 h0) trivial (madeCells zv.cells (n.toNat * inf.size)) el n.toNat
        (fun hm hag => inv_grid hg (by simp) hnn hag)
      have hb' : (inf.bytes : Int) * n ≤ 281474976710656 := by
        have : (inf.bytes : Int) * n ≤ 128 * 1000000 := Int.mul_le_mul (by omega) hm1 h0 (by omega)
        omega
      have hrun := run_make (P := P) w t el inf zv hu hinf hzv k1 k2 n n h0 (Int.le_refl _) hb' (by omega)
      refine does_of_run (v := .slice (some ⟨w.heap.size, 0, none⟩) n.toNat n.toNat) (γ' := upd γ d ⟨w.heap.size, 0, n.toNat⟩) (F' := F) ?_ h1 h2 (FStep.refl ..) h3 (slice_new (upd_same ..) (upd_same ..) (by simp))
      simp [execOp, ho, hx, hy, hrun]
    · simp [Mm.gives_fail] at h
  · simp [Mm.gives_fail] at h

end
end Go.Proofs.Ytnobgdgnncfcpaa.X
