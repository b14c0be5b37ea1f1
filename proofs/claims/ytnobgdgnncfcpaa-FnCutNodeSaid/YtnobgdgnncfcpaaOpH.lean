/- Soundness: append, clear, len, min, max. -/
import Derived.Test.YtnobgdgnncfcpaaOpG
namespace Go.Proofs.Ytnobgdgnncfcpaa.X
open Go

section
variable {P : Program} {o : Oper} {a : Act} {w : World} {m : Mem} {γ : Nat → GB} {F : Nat → Prop} {ρ : Nat → PV} {out : PV} {wr : List (Nat × Arr)} {cf : Cfg} {C : CallS} {me : FuncId}

theorem qdiv {q n k : Nat} (hk : 0 < k) (hq : q < n * k) : q / k < n ∧ q % k < k ∧ q / k * k + q % k = q :=
  ⟨(Nat.div_lt_iff_lt_mul hk).2 hq, Nat.mod_lt _ hk, by rw [Nat.mul_comm]; exact Nat.div_add_mod q k⟩

theorem grid_one {k : Nat} {xs : List (List IV)} {cur : Array Value} (hk : 0 < k) (h : Grid F w k xs cur) : ∀ x ∈ cur.toList, x.oneCell' = true := by
  intro x hx
  obtain ⟨q, hq⟩ := List.getElem?_of_mem hx
  have hlt : q < xs.length * k := by rw [← h.1]; have := (List.getElem?_eq_some_iff.1 hq).1; simpa using this
  obtain ⟨h1, h2, h3⟩ := qdiv hk hlt
  obtain ⟨he, hc⟩ := h.2 (q / k) _ (List.getElem?_eq_getElem h1)
  obtain ⟨y, hy, ho, _⟩ := hc (q % k) _ (List.getElem?_eq_getElem (by rw [he]; exact h2))
  rw [h3] at hy
  simp only [Array.getElem?_toList] at hq
  rw [hq] at hy; cases hy
  exact ho

theorem run_firstCells {k n : Nat} {ao : Option Addr} {c : Nat} {W : World} (news : List Value) (hl : news.length = n * k) (h : n * k ≠ 0 → ∃ g o, ao = some ⟨g, o, none⟩ ∧ ∀ j v, news[j]? = some v → W.cell? ⟨g, o + j, none⟩ = some v) :
    (Builtin.firstCells k n (.slice ao n c)).run P W = .ok news.toArray W := by
  by_cases h0 : n * k = 0
  · have : news = [] := List.eq_nil_of_length_eq_zero (by omega)
    subst this
    cases ao with
    | none => rfl
    | some ad => simp [Builtin.firstCells, h0, loadCells, loadCellsFrom]
  · obtain ⟨g, off, rfl, hc⟩ := h h0
    simp only [Builtin.firstCells, ← hl]
    exact run_loadCells_list W _ news fun j v hv => by rw [addr_add]; exact hc j v hv

/-- The elements of a slice, as they are read. -/
theorem elems_run (hi : Inv m γ F w) {k : Nat} (hk : 0 < k) {p : PV} {v : Value} {ys : List (List IV)} (h : (elems k p).gives m ys) (hr : RepP m γ F w p v) :
    ∃ ao c, v = .slice ao ys.length c ∧ ∃ news : List Value, Grid F w k ys news.toArray ∧ ∀ W : World, W.heap = w.heap → (Builtin.firstCells k ys.length v).run P W = .ok news.toArray W := by
  cases hr with
  | ref s ver off len ao cap A h1 h2 h3 =>
    simp only [elems, Mm.gives_get, h1] at h
    cases A with
    | arr v k' xs =>
      simp only [Mm.gives_chk, Bool.and_eq_true, beq_iff_eq, Mm.gives_ret] at h
      obtain ⟨⟨rfl, rfl⟩, rfl⟩ := h
      obtain ⟨hl, hoc, rfl, had⟩ := h3 rfl
      obtain ⟨cur, E, hb, hsz, hxc, hmax, hc⟩ := hi.holds s _ h1
      have hlen : ((xs.drop off).take len).length = len := by simp; omega
      have hget : ∀ (q : Nat) (e : List IV), ((xs.drop off).take len)[q]? = some e → xs[off + q]? = some e ∧ q < len := fun q e hq => by
        rw [List.getElem?_take] at hq
        split at hq
        · rename_i h; exact ⟨by simpa using hq, h⟩
        · cases hq
      have hfit : ((γ s).b + off) * k' + len * k' ≤ cur.size := by
        rw [hsz, ← Nat.add_mul]; exact Nat.mul_le_mul_right _ (by omega)
      refine ⟨ao, _, by rw [hlen], (cur.toList.drop (((γ s).b + off) * k')).take (len * k'), ⟨by simp [hlen]; omega, fun i e he => ?_⟩, fun W hW => ?_⟩
      · obtain ⟨he', hil⟩ := hget i e he
        refine ⟨(hc _ e he').1, fun j p hp => ?_⟩
        obtain ⟨x, hx, ho, hr⟩ := (hc _ e he').2 j p hp
        have hj : j < k' := by rw [← (hc _ e he').1]; exact (List.getElem?_eq_some_iff.1 hp).1
        have := idx_lt hil hj
        refine ⟨x, ?_, ho, hr⟩
        simp only [List.getElem?_toArray, List.getElem?_take, this, if_true, List.getElem?_drop, Array.getElem?_toList]
        rw [show ((γ s).b + off) * k' + (i * k' + j) = ((γ s).b + (off + i)) * k' + j from by rw [← Nat.add_assoc, ← Nat.add_mul, Nat.add_assoc]]
        exact hx
      · rw [hlen]
        refine run_firstCells _ (by simp; omega) fun hne => ⟨_, _, had ?_, fun j v hv => ?_⟩
        · have : 0 < len := Nat.pos_of_ne_zero fun e => hne (by rw [e, Nat.zero_mul])
          omega
        · rw [List.getElem?_take] at hv
          split at hv
          · rw [cell_of_row W _ _ cur E (0, 0) (by rw [hW]; exact hb)]
            simpa using hv
          · cases hv
    | _ => simp [Mm.gives_fail] at h
  | i hr =>
    cases hr with
    | emp ao =>
      simp only [elems, Mm.gives_ret] at h
      subst h
      exact ⟨ao, 0, rfl, [], ⟨by simp, fun i e he => by simp at he⟩, fun W _ => run_firstCells [] (by simp) (by simp)⟩
    | lst xs ao cap k' c h1 h2 h3 h4 h5 h6 =>
      simp only [elems, Mm.gives_chk, Mm.gives_ret, List.all_eq_true, beq_iff_eq] at h
      obtain ⟨hall, rfl⟩ := h
      have hkk : ∀ i e, xs[i]? = some e → k' = k := fun i e he => by rw [← h3 i e he]; exact hall e (List.mem_of_getElem? he)
      have hcell : ∀ q, q < xs.length * k → ∃ e p, xs[q / k]? = some e ∧ e[q % k]? = some p := fun q hq => by
        obtain ⟨q1, q2, q3⟩ := qdiv hk hq
        have he := List.getElem?_eq_getElem q1
        have := hall _ (List.mem_of_getElem? he)
        exact ⟨_, _, he, List.getElem?_eq_getElem (by rw [this]; exact q2)⟩
      refine ⟨ao, cap, rfl, (List.range (xs.length * k)).map fun q => c (q / k) (q % k), ⟨by simp, fun i e he => ⟨hall e (List.mem_of_getElem? he), fun j p hp => ?_⟩⟩, fun W hW => ?_⟩
      · have hj : j < k := by rw [← hall e (List.mem_of_getElem? he)]; exact (List.getElem?_eq_some_iff.1 hp).1
        have hil : i < xs.length := (List.getElem?_eq_some_iff.1 he).1
        have hlt := idx_lt hil hj
        have e1 : (i * k + j) / k = i := by rw [Nat.mul_comm, Nat.mul_add_div hk, Nat.div_eq_of_lt hj]; rfl
        have e2 : (i * k + j) % k = j := by rw [Nat.mul_comm, Nat.mul_add_mod, Nat.mod_eq_of_lt hj]
        exact ⟨c i j, by simp [hlt, e1, e2], h6 i e j p he hp, h5 i e j p he hp⟩
      · refine run_firstCells _ (by simp) fun hne => ?_
        have h0 : 0 < xs.length * k := Nat.pos_of_ne_zero hne
        obtain ⟨e, p, he, hp⟩ := hcell 0 h0
        obtain ⟨ad, rfl, hsp, hF, _⟩ := h4 _ _ he
        refine ⟨ad.block, ad.off, by rw [← addr_none hsp], fun j v hv => ?_⟩
        have hj : j < xs.length * k := by have := (List.getElem?_eq_some_iff.1 hv).1; simpa using this
        obtain ⟨e', p', he', hp'⟩ := hcell j hj
        obtain ⟨ad', had', _, _, hc'⟩ := h4 _ _ he'
        cases had'
        have hce := hc' _ _ hp'
        rw [hkk _ _ he', (qdiv hk hj).2.2] at hce
        simp only [List.getElem?_map, List.getElem?_range hj, Option.map_some, Option.some.injEq] at hv
        subst hv
        have : W.cell? ⟨ad.block, ad.off + j, none⟩ = w.cell? ⟨ad.block, ad.off + j, none⟩ := World.cell?_of_block (by rw [hW])
        rw [this]; exact hce
    | _ => simp [elems, Mm.gives_fail] at h
  | _ => simp [elems, Mm.gives_fail] at h

theorem run_append_room' (t ty e : TypeId) (i : TypeInfo) (ht : P.underlying t = some (.slice e)) (hi : P.info? e = some i) (ao : Option Addr) (sLen sCap : Nat) (ax : Option Addr) (n c : Nat) (news : List Value) {w w' : World}
    (hf : (Builtin.firstCells i.size n (.slice ax n c)).run P w = .ok news.toArray w) (hroom : sLen + n ≤ sCap)
    (hst : ∀ ad, ao = some ad → (storeCells (ad.add (sLen * i.size)) news).run P w = .ok () w') (hnone : ao = none → w' = w) :
    (Builtin.append_ #[t, t] ty #[.slice ao sLen sCap, .slice ax n c]).run P w = .ok (.slice ao (sLen + n) sCap) w' := by
  cases ao with
  | none => simp [Builtin.append_, run_underlying ht, sizeOf, typeInfo, hi, Builtin.lenOf, hroom, hf, hnone rfl]
  | some ad => simp [Builtin.append_, run_underlying ht, sizeOf, typeInfo, hi, Builtin.lenOf, hroom, hf, hst ad rfl]

theorem run_append_grow' (t ty e : TypeId) (i : TypeInfo) (z : Value) (ht : P.underlying t = some (.slice e)) (hi : P.info? e = some i) (hz : i.zero = some z) (ao : Option Addr) (sLen sCap : Nat) (olds : List Value) (ax : Option Addr) (n c : Nat) (news : List Value) {w : World}
    (hf : (Builtin.firstCells i.size n (.slice ax n c)).run P w.drew = .ok news.toArray w.drew) (hfo : (Builtin.firstCells i.size sLen (.slice ao sLen sCap)).run P w.drew = .ok olds.toArray w.drew)
    (hg : sCap < sLen + n) (h63 : ((sLen + n : Nat) : Int) ≤ 9223372036854775807) (hfit : Builtin.nextslicecap (sLen + n) sCap * i.bytes ≤ 281474976710656) :
    (Builtin.append_ #[t, t] ty #[.slice ao sLen sCap, .slice ax n c]).run P w =
      .ok (.slice (some ⟨w.heap.size, 0, none⟩) (sLen + n) (grownCap w (sLen + n) sCap e))
        (w.drew.alloc (.cells (olds.toArray ++ news.toArray ++ Builtin.zeroCells z.cells (grownCap w (sLen + n) sCap e - (sLen + n))) e)) := by
  have hn : ¬ (sLen + n ≤ sCap) := by omega
  have h63' : ¬ (9223372036854775807 < ((sLen : Int) + (n : Int))) := by omega
  have h48' : ¬ (281474976710656 < Builtin.nextslicecap (sLen + n) sCap * i.bytes) := by omega
  simp [Builtin.append_, run_underlying ht, sizeOf, typeInfo, zeroValue, hi, hz, Builtin.lenOf, hn, h63', h48', Question.forced, hf, hfo, newRow, grownCap]
  congr 2
  apply Array.ext'
  simp [List.append_assoc]

theorem Inv.drew (hi : Inv m γ F w) : Inv m γ F w.drew := by
  have hag : Agree F w w.drew := fun _ _ => rfl
  exact ⟨fun s A hA => (hi.holds s A hA).step (MemStep.refl m γ) (fun _ h => h) hag rfl, hi.notF, hi.dist, hi.bound⟩

theorem grid_append {k : Nat} {xs ys : List (List IV)} {a b : List Value} (h1 : Grid F w k xs a.toArray) (h2 : Grid F w k ys b.toArray) (rest : Array Value) :
    ∀ (i : Nat) (e : List IV), (xs ++ ys)[i]? = some e → e.length = k ∧ ∀ (j : Nat) (p : IV), e[j]? = some p → ∃ x : Value, (a.toArray ++ b.toArray ++ rest)[i * k + j]? = some x ∧ x.oneCell' = true ∧ RepI F w p x := by
  have ha : a.length = xs.length * k := by have := h1.1; simpa using this
  have hb : b.length = ys.length * k := by have := h2.1; simpa using this
  intro i e he
  by_cases hi : i < xs.length
  · rw [List.getElem?_append_left hi] at he
    refine ⟨(h1.2 i e he).1, fun j p hp => ?_⟩
    have hj : j < k := by rw [← (h1.2 i e he).1]; exact (List.getElem?_eq_some_iff.1 hp).1
    obtain ⟨x, hx, ho, hr⟩ := (h1.2 i e he).2 j p hp
    have := idx_lt hi hj
    refine ⟨x, ?_, ho, hr⟩
    rw [Array.getElem?_append_left (by simp; omega), Array.getElem?_append_left (by simp; omega)]
    exact hx
  · rw [List.getElem?_append_right (by omega)] at he
    have hil : i - xs.length < ys.length := (List.getElem?_eq_some_iff.1 he).1
    refine ⟨(h2.2 _ e he).1, fun j p hp => ?_⟩
    have hj : j < k := by rw [← (h2.2 _ e he).1]; exact (List.getElem?_eq_some_iff.1 hp).1
    obtain ⟨x, hx, ho, hr⟩ := (h2.2 _ e he).2 j p hp
    have h3 := idx_lt hil hj
    have h4 : i * k + j = xs.length * k + ((i - xs.length) * k + j) := by
      rw [← Nat.add_assoc, ← Nat.add_mul]; congr 2; omega
    refine ⟨x, ?_, ho, hr⟩
    rw [h4, Array.getElem?_append_left (by simp; omega), Array.getElem?_append_right (by simp; omega)]
    simp only [List.size_toArray, ha, Nat.add_sub_cancel_left]
    exact hx

theorem cap_fits {n old bytes : Nat} (h : old < n) (hn : n ≤ 1000000000000) (hb : bytes ≤ 128) : Builtin.nextslicecap n old * bytes ≤ 281474976710656 :=
  growslice_fits h (by
    have : n * bytes ≤ 1000000000000 * 128 := Nat.mul_le_mul hn hb
    omega)

theorem grid_of_arr {s v k off len cap : Nat} {xs : List (List IV)} {ao : Option Addr} (hi : Inv m γ F w) (hk : 0 < k) (hA : m s = some (.arr v k xs)) (hs : sliceOf (γ s) off len cap ao (.arr v k xs)) (hfull : off + len = xs.length) :
    ∃ olds : List Value, Grid F w k (xs.drop off) olds.toArray ∧ ∀ W : World, W.heap = w.heap → (Builtin.firstCells k len (.slice ao len cap)).run P W = .ok olds.toArray W := by
  obtain ⟨ao', c', e, olds, hg, hf⟩ := elems_run (P := P) (k := k) (p := .ref s v off len) (v := .slice ao len cap) (ys := xs.drop off) hi hk
    (by simp only [elems, Mm.gives_get, hA, Mm.gives_chk, beq_self_eq_true, Bool.and_self, true_and, Mm.gives_ret]; rw [List.take_of_length_le (by simp; omega)]) (.ref s v off len ao cap _ hA (Nat.le_refl _) fun _ => hs)
  have hl : (xs.drop off).length = len := by simp; omega
  refine ⟨olds, hg, fun W hW => ?_⟩
  have := hf W hW
  rwa [hl] at this

theorem append_grow {s v k len cap : Nat} {t e : TypeId} {inf : TypeInfo} {z : Value} {ao ax : Option Addr} {c : Nat} {xs ys : List (List IV)} {olds news : List Value} {x y : Operand}
    (hexec : ∀ v w', (Builtin.append_ #[t, t] o.type #[a.eval x, a.eval y]).run P w = .ok v w' → (execOp a.eval o).run P w = .ok (.value v) w')
    (hvx : a.eval x = .slice ao len cap) (hvy : a.eval y = .slice ax ys.length c)
    (hi : Inv m γ F w) (hv : ∀ A0, m s = some A0 → A0.ver < v) (ht : P.underlying t = some (.slice e)) (hinf : P.info? e = some inf) (hz : inf.zero = some z) (hzs : z.cells.size = inf.size) (hkk : k = inf.size) (hb : inf.bytes ≤ 128)
    (hgo : Grid F w k xs olds.toArray) (hxl : xs.length = len) (hgn : Grid F w k ys news.toArray)
    (hfo : ∀ W : World, W.heap = w.heap → (Builtin.firstCells k len (.slice ao len cap)).run P W = .ok olds.toArray W)
    (hfn : ∀ W : World, W.heap = w.heap → (Builtin.firstCells k ys.length (.slice ax ys.length c)).run P W = .ok news.toArray W)
    (hgrow : cap < len + ys.length) (hmax : len + ys.length ≤ 1000000000000) :
    Does P o a w m γ F (.ref s v 0 (len + ys.length)) [(s, .arr v k (xs ++ ys))] := by
  subst hkk
  have hrun := run_append_grow' (P := P) t o.type e inf z ht hinf hz ao len cap olds ax ys.length c news (w := w) (hfn _ rfl) (hfo _ rfl) hgrow (by omega) (cap_fits hgrow hmax hb)
  have hge := grownCap_ge w (len + ys.length) cap e
  have hle := grownCap_le_maxLen w (len + ys.length) cap e (by unfold maxLen; omega)
  have hol : olds.length = len * inf.size := by have := hgo.1; rw [hxl] at this; simpa using this
  have hnl : news.length = ys.length * inf.size := by have := hgn.1; simpa using this
  have hga := grid_append hgo hgn (Builtin.zeroCells z.cells (grownCap w (len + ys.length) cap e - (len + ys.length)))
  have hcs : (olds.toArray ++ news.toArray ++ Builtin.zeroCells z.cells (grownCap w (len + ys.length) cap e - (len + ys.length))).size = grownCap w (len + ys.length) cap e * inf.size := by
    simp only [Array.size_append, List.size_toArray, size_zeroCells, hzs, hol, hnl, ← Nat.add_mul]
    congr 1; omega
  generalize olds.toArray ++ news.toArray ++ Builtin.zeroCells z.cells (grownCap w (len + ys.length) cap e - (len + ys.length)) = cells at hga hcs hrun
  obtain ⟨h1, h2, h3, h4⟩ := new_site hi.drew (d := s) (A := .arr v inf.size (xs ++ ys)) hv trivial cells e (grownCap w (len + ys.length) cap e)
    (fun hm hag => by
      refine ⟨cells, e, Array.getElem?_push_size, by rw [hcs]; simp, by show (xs ++ ys).length ≤ grownCap w (len + ys.length) cap e; simp [hxl]; omega, by simpa using hle, fun i el hel => ?_⟩
      obtain ⟨g1, g2⟩ := hga i el hel
      refine ⟨g1, fun j p hp => ?_⟩
      obtain ⟨x, hx, ho, hr⟩ := g2 j p hp
      exact ⟨x, by simpa using hx, ho, RepI.mono (w := w) (fun _ h => h) (fun b hb => hag b hb) hr⟩)
  have hs : Stp m γ w m γ w.drew := (Stp.refl m γ w).drew
  refine does_of_run (v := .slice (some ⟨w.heap.size, 0, none⟩) (len + ys.length) (grownCap w (len + ys.length) cap e)) (γ' := upd γ s ⟨w.heap.size, 0, grownCap w (len + ys.length) cap e⟩) (F' := F)
    (hexec _ _ (by rw [hvx, hvy]; exact hrun)) h1 h2 (FStep.refl ..) (hs.trans h3) ?_
  refine .ref s v 0 _ _ _ _ (upd_same ..) (Nat.le_refl _) fun _ => ?_
  rw [upd_same]
  exact ⟨by simp [hxl], Nat.zero_le _, rfl, fun _ => by simp⟩

theorem does_append {x y : Operand} {ts : Array TypeId} (ho : o.op = .call { callee := .builtin .append, args := #[x, y], argTypes := ts }) (h : (appB P ts o.dst (opnd ρ x) (opnd ρ y)).gives m (out, wr))
    (hi : Inv m γ F w) (hs : Slots m γ F w ρ a) : Does P o a w m γ F out wr := by
  have hx := opnd_rep hs x
  have hy := opnd_rep hs y
  simp only [appB, Mm.gives_bind, Mm.gives_opt, Mm.gives_chk, Bool.and_eq_true, decide_eq_true_eq, beq_iff_eq] at h
  obtain ⟨e, he, d, hd, inf, hinf, ys, hys, ⟨⟨⟨⟨hts, htt⟩, hk0⟩, hbytes⟩, hzc⟩, h⟩ := h
  obtain ⟨t, rfl⟩ : ∃ t, ts = #[t, t] := by
    obtain ⟨l⟩ := ts
    match l, hts with
    | [t, u], _ => simp at htt; exact ⟨t, by rw [htt]⟩
  simp only [List.getElem?_toArray, List.getElem?_cons_zero, Option.bind_some] at he
  have hu := elemT_eq he
  obtain ⟨z, hz, hzs⟩ : ∃ z, inf.zero = some z ∧ z.cells.size = inf.size := by
    cases hzz : inf.zero with
    | none => simp [zeroC, hinf, hzz] at hzc
    | some z => simp [zeroC, hinf, hzz] at hzc; exact ⟨z, rfl, hzc⟩
  have hexec : ∀ v w', (Builtin.append_ #[t, t] o.type #[a.eval x, a.eval y]).run P w = .ok v w' → (execOp a.eval o).run P w = .ok (.value v) w' := fun v w' hr => by
    simp [execOp, ho, resolve, invoke, builtin, hr]
  obtain ⟨ax, c, hvy, news, hgn, hfn⟩ := elems_run (P := P) hi hk0 hys hy
  rw [hvy] at hfn
  have hnl : news.length = ys.length * inf.size := by have := hgn.1; simpa using this
  split at h
  · rename_i hemp
    rw [hemp] at hx
    generalize hvx : a.eval x = vx at hx
    cases hx with
    | i hx =>
    cases hx with
    | emp ao =>
    split at h
    · simp only [Mm.gives_ret, Prod.mk.injEq] at h
      obtain ⟨rfl, rfl⟩ := h
      have hn0 : news = [] := List.eq_nil_of_length_eq_zero (by simpa using hnl)
      subst hn0
      have hrun := run_append_room' (P := P) t o.type e inf hu hinf ao 0 0 ax 0 c [] (w := w) (w' := w) (by simpa using hfn w rfl) (Nat.le_refl _) (fun ad _ => rfl) (fun _ => rfl)
      exact does_pure hi (hexec _ _ (by rw [hvx, hvy]; exact hrun)) (.i (.emp ao))
    · rename_i y0 yr
      simp only [Mm.gives_bind, Mm.gives_chk, decide_eq_true_eq, Mm.gives_ret, Prod.mk.injEq] at h
      obtain ⟨v, hv, hmax, rfl, rfl⟩ := h
      have := append_grow (P := P) (xs := []) (ys := y0 :: yr) (olds := []) (s := d) (v := v) (k := inf.size) (len := 0) hexec hvx hvy hi (fun A0 h0 => gives_newVer hv A0 h0) hu hinf hz hzs rfl hbytes
        ⟨by simp, fun i e he => by simp at he⟩ rfl hgn (fun W _ => run_firstCells [] (by simp) (by simp)) hfn (by simp) (by simpa using hmax)
      simpa using this
  · rename_i s0 ver off len hsl
    simp only [Mm.gives_get] at h
    split at h
    · rename_i v k xs hA
      simp only [Mm.gives_chk, Bool.and_eq_true, beq_iff_eq, decide_eq_true_eq, Mm.gives_ret, Prod.mk.injEq] at h
      obtain ⟨⟨⟨⟨rfl, rfl⟩, hfull⟩, hmax⟩, rfl, rfl⟩ := h
      rw [hsl] at hx
      generalize hvx : a.eval x = vx at hx
      cases hx with
      | ref s ver off len ao cap A h1 h2 h3 =>
      have := arr_eq h1 hA; subst this
      have hso := h3 rfl
      obtain ⟨olds, hgo, hfo⟩ := grid_of_arr (P := P) hi hk0 h1 hso hfull
      have hxl : (xs.drop off).length = len := by simp; omega
      by_cases hroom : len + ys.length ≤ cap
      · obtain ⟨hl, hoc, rfl, had⟩ := hso
        obtain ⟨cur, E, hb, hsz, hxc, hcm, hc⟩ := hi.holds s0 _ h1
        have hmul : ((γ s0).b + off) * inf.size + len * inf.size + news.length ≤ cur.size := by
          rw [hnl, hsz, ← Nat.add_mul, ← Nat.add_mul]; exact Nat.mul_le_mul_right _ (by omega)
        have hone := grid_one hk0 hgn
        have hst := run_stores (P := P) (γ s0).g (((γ s0).b + off) * inf.size + len * inf.size) E news cur w hb hmul (by simpa using hone)
        obtain ⟨f1, f2, f3, f4, f5, f6⟩ := setRow_facts (γ s0).g cur (splice cur.toList (((γ s0).b + off) * inf.size + len * inf.size) news).toArray E w hb
        have hfl : ((γ s0).b + off) * inf.size + len * inf.size + news.length ≤ cur.toList.length := by simpa using hmul
        obtain ⟨t1, t2, t3⟩ := touch_site hi (A' := .arr (v + 1) inf.size (xs.drop off ++ ys)) (G := ⟨(γ s0).g, (γ s0).b + off, (γ s0).cap - off⟩) h1 trivial rfl (Nat.le_succ _) (fun e => absurd e (by simp [Arr.ver])) f1 f2 f3 f4 f5 (fun hms hag => by
          refine ⟨_, E, f6, ?_, by show (xs.drop off ++ ys).length ≤ (γ s0).cap - off; rw [List.length_append, hxl]; exact hroom, by show (γ s0).b + off + ((γ s0).cap - off) ≤ maxLen; omega, fun i el hel => ?_⟩
          · simp only [List.size_toArray, length_splice _ _ _ hfl, Array.length_toList, hsz]
            congr 1; omega
          · show _ ∧ ∀ (j : Nat) (p : IV), el[j]? = some p → ∃ x : Value, (splice cur.toList (((γ s0).b + off) * inf.size + len * inf.size) news).toArray[((γ s0).b + off + i) * inf.size + j]? = some x ∧ _
            simp only [List.getElem?_toArray, getElem?_splice _ _ _ _ hfl]
            by_cases hil : i < (xs.drop off).length
            · rw [List.getElem?_append_left hil, List.getElem?_drop] at hel
              refine ⟨(hc _ el hel).1, fun j p hp => ?_⟩
              obtain ⟨x, hx, ho, hr⟩ := (hc _ el hel).2 j p hp
              have hj : j < inf.size := by rw [← (hc _ el hel).1]; exact (List.getElem?_eq_some_iff.1 hp).1
              have hlt := idx_lt (show i < len by omega) hj
              have e1 : ((γ s0).b + off + i) * inf.size + j = ((γ s0).b + off) * inf.size + (i * inf.size + j) := by rw [Nat.add_mul _ i]; omega
              rw [if_neg (by omega)]
              refine ⟨x, ?_, ho, hr.mono (fun _ h => h) hag⟩
              rw [Nat.add_assoc (γ s0).b off i]
              simpa using hx
            · rw [List.getElem?_append_right (by omega)] at hel
              rw [hxl] at hel hil
              refine ⟨(hgn.2 _ el hel).1, fun j p hp => ?_⟩
              obtain ⟨x, hx, ho, hr⟩ := (hgn.2 _ el hel).2 j p hp
              have hj : j < inf.size := by rw [← (hgn.2 _ el hel).1]; exact (List.getElem?_eq_some_iff.1 hp).1
              have hlt := idx_lt (show i - len < ys.length from (List.getElem?_eq_some_iff.1 hel).1) hj
              have e1 : ((γ s0).b + off + i) * inf.size + j = ((γ s0).b + off) * inf.size + len * inf.size + ((i - len) * inf.size + j) := by
                rw [← Nat.add_assoc, ← Nat.add_mul, ← Nat.add_mul]; congr 2; omega
              rw [if_pos (by omega)]
              refine ⟨x, ?_, ho, hr.mono (fun _ h => h) hag⟩
              rw [e1, Nat.add_sub_cancel_left]
              simpa using hx)
        have hrun := run_append_room' (P := P) t o.type e inf hu hinf ao len ((γ s0).cap - off) ax ys.length c news (w := w) (w' := w.setRow (γ s0).g (splice cur.toList (((γ s0).b + off) * inf.size + len * inf.size) news).toArray) (hfn w rfl) hroom
          (fun ad hade => by
            by_cases hoff : off < (γ s0).cap
            · rw [had hoff] at hade; cases hade
              rw [addr_add]; exact hst
            · have hy0 : ys.length = 0 := by omega
              have hn0 : news = [] := List.eq_nil_of_length_eq_zero (by rw [hnl, hy0]; simp)
              subst hn0
              rw [show splice cur.toList (((γ s0).b + off) * inf.size + len * inf.size) [] = cur.toList from by simp [splice]]
              simp only [Array.toArray_toList, setRow_self w _ cur E (0, 0) hb]
              rfl)
          (fun hno => by
            by_cases hoff : off < (γ s0).cap
            · rw [had hoff] at hno; cases hno
            · have hy0 : ys.length = 0 := by omega
              have hn0 : news = [] := List.eq_nil_of_length_eq_zero (by rw [hnl, hy0]; simp)
              subst hn0
              rw [show splice cur.toList (((γ s0).b + off) * inf.size + len * inf.size) [] = cur.toList from by simp [splice]]
              simp only [Array.toArray_toList, setRow_self w _ cur E (0, 0) hb])
        refine does_of_run (γ' := upd γ s0 ⟨(γ s0).g, (γ s0).b + off, (γ s0).cap - off⟩) (F' := F) (hexec _ _ (by rw [hvx, hvy]; exact hrun)) t1 t2 (FStep.refl ..) t3 ?_
        refine .ref s0 _ 0 _ _ _ _ (upd_same ..) (Nat.le_refl _) fun _ => ?_
        rw [upd_same]
        refine ⟨by rw [List.length_append, hxl]; omega, Nat.zero_le _, rfl, fun hlt => ?_⟩
        rw [had (by simp only at hlt; omega)]
        simp
      · exact append_grow hexec hvx hvy hi (fun A0 h0 => by rw [h1] at h0; cases h0; exact Nat.lt_succ_self _) hu hinf hz hzs rfl hbytes hgo hxl hgn hfo hfn (by omega) hmax
    · simp [Mm.gives_fail] at h
  · simp [Mm.gives_fail] at h

end
end Go.Proofs.Ytnobgdgnncfcpaa.X
