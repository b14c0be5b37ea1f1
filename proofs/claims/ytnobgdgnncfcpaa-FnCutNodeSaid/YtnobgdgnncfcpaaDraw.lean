/- Soundness of regions that draw their order. -/
import Derived.Test.YtnobgdgnncfcpaaReg
namespace Go.Proofs.Ytnobgdgnncfcpaa.X
open Go

theorem updL_indep {wr : List (Nat × Arr)} {s : Nat} (h : ∃ A, (s, A) ∈ wr) (m m' : Mem) : updL m wr s = updL m' wr s := by
  induction wr generalizing m m' with
  | nil => obtain ⟨A, hA⟩ := h; cases hA
  | cons x r ih =>
    obtain ⟨t, B⟩ := x
    simp only [updL]
    by_cases hr : ∃ A, (s, A) ∈ r
    · exact ih hr _ _
    · have hn : ∀ A, (s, A) ∉ r := fun A hA => hr ⟨A, hA⟩
      rw [updL_other hn, updL_other hn]
      obtain ⟨A, hA⟩ := h
      rcases List.mem_cons.1 hA with e | e
      · cases e; rw [upd_same, upd_same]
      · exact absurd e (hn A)

/-- The state behind some of the operations, in the text's order. -/
def stD (st0 : St) (rs : List Rec) (D : Nat → Bool) : Nat → St
  | 0 => st0
  | k + 1 => if D k then (match rs[k]? with | some r => (stD st0 rs D k).step r | none => stD st0 rs D k) else stD st0 rs D k

theorem St.ext' {a b : St} (h1 : a.ρ = b.ρ) (h2 : a.m = b.m) : a = b := by cases a; cases b; simp_all

theorem putρ_other {ρ : Nat → PV} {dst : Option Nat} {out : PV} {t : Nat} (h : dst ≠ some t) : putρ ρ dst out t = ρ t := by
  cases dst with
  | none => rfl
  | some d => simp only [putρ]; exact upd_ne _ _ (fun e => h (by rw [e]))
theorem putρ_same {ρ : Nat → PV} {dst : Option Nat} {out : PV} {t : Nat} (h : dst = some t) : putρ ρ dst out t = out := by subst h; simp [putρ, upd_same]

theorem step_comm {st : St} {r q : Rec} (h1 : ∀ d, r.dst = some d → q.dst ≠ some d) (h2 : ∀ s A B, (s, A) ∈ r.wr → (s, B) ∉ q.wr) : (st.step r).step q = (st.step q).step r := by
  refine St.ext' (funext fun t => ?_) (funext fun s => ?_)
  · simp only [St.step]
    by_cases hq : q.dst = some t
    · have hr : r.dst ≠ some t := fun e => h1 t e hq
      rw [putρ_same hq, putρ_other hr, putρ_same hq]
    · rw [putρ_other hq]
      by_cases hr : r.dst = some t
      · rw [putρ_same hr, putρ_same hr]
      · rw [putρ_other hr, putρ_other hr, putρ_other hq]
  · simp only [St.step]
    by_cases hq : ∃ B, (s, B) ∈ q.wr
    · have hr : ∀ A, (s, A) ∉ r.wr := fun A hA => by obtain ⟨B, hB⟩ := hq; exact h2 s A B hA hB
      rw [updL_other hr]
      exact updL_indep hq _ _
    · have hq' : ∀ B, (s, B) ∉ q.wr := fun B hB => hq ⟨B, hB⟩
      rw [updL_other hq']
      by_cases hr : ∃ A, (s, A) ∈ r.wr
      · exact updL_indep hr _ _
      · have hr' : ∀ A, (s, A) ∉ r.wr := fun A hA => hr ⟨A, hA⟩
        rw [updL_other hr', updL_other hr', updL_other hq']

section
variable {st0 : St} {rs : List Rec} {D D' : Nat → Bool}

theorem stD_congr : ∀ (k : Nat), (∀ j, j < k → D j = D' j) → stD st0 rs D k = stD st0 rs D' k
  | 0, _ => rfl
  | k + 1, h => by simp only [stD]; rw [stD_congr k (fun j hj => h j (by omega)), h k (by omega)]

/-- What an operation finds is what it finds in the text's order. -/
theorem stD_ρ {t i : Nat} (h1 : ∀ j r, j < i → rs[j]? = some r → r.dst = some t → D j = true) (h2 : ∀ j r, i ≤ j → D j = true → rs[j]? = some r → r.dst ≠ some t) :
    ∀ k, (stD st0 rs D k).ρ t = (stD st0 rs (fun _ => true) (min k i)).ρ t
  | 0 => by simp [stD]
  | k + 1 => by
    have ih := stD_ρ h1 h2 k
    by_cases hk : k < i
    · rw [show min (k + 1) i = k + 1 from by omega]
      rw [show min k i = k from by omega] at ih
      simp only [stD, if_true]
      cases hr : rs[k]? with
      | none => simp only [ite_self]; exact ih
      | some r =>
        by_cases hd : r.dst = some t
        · rw [h1 k r hk hr hd]
          simp only [if_true, St.step, putρ_same hd]
        · split
          · simp only [St.step, putρ_other hd]; exact ih
          · simp only [St.step, putρ_other hd]; exact ih
    · rw [show min (k + 1) i = i from by omega]
      rw [show min k i = i from by omega] at ih
      simp only [stD]
      split
      · rename_i hD
        cases hr : rs[k]? with
        | none => exact ih
        | some r => simp only [St.step, putρ_other (h2 k r (by omega) hD hr)]; exact ih
      · exact ih
theorem stD_m {s i : Nat} (h1 : ∀ j r A, j < i → rs[j]? = some r → (s, A) ∈ r.wr → D j = true) (h2 : ∀ j r A, i ≤ j → D j = true → rs[j]? = some r → (s, A) ∉ r.wr) :
    ∀ k, (stD st0 rs D k).m s = (stD st0 rs (fun _ => true) (min k i)).m s
  | 0 => by simp [stD]
  | k + 1 => by
    have ih := stD_m h1 h2 k
    by_cases hk : k < i
    · rw [show min (k + 1) i = k + 1 from by omega]
      rw [show min k i = k from by omega] at ih
      simp only [stD, if_true]
      cases hr : rs[k]? with
      | none => simp only [ite_self]; exact ih
      | some r =>
        by_cases hd : ∃ A, (s, A) ∈ r.wr
        · obtain ⟨A, hA⟩ := hd
          rw [h1 k r A hk hr hA]
          simp only [if_true, St.step]
          exact updL_indep ⟨A, hA⟩ _ _
        · have hn : ∀ A, (s, A) ∉ r.wr := fun A hA => hd ⟨A, hA⟩
          split
          · simp only [St.step, updL_other hn]; exact ih
          · simp only [St.step, updL_other hn]; exact ih
    · rw [show min (k + 1) i = i from by omega]
      rw [show min k i = i from by omega] at ih
      simp only [stD]
      split
      · rename_i hD
        cases hr : rs[k]? with
        | none => exact ih
        | some r => simp only [St.step]; rw [updL_other (fun A hA => h2 k r A (by omega) hD hr hA)]; exact ih
      · exact ih

/-- One more operation. -/
theorem stD_more {i : Nat} {r : Rec} (hr : rs[i]? = some r) (hi : D i = false) (hD : ∀ j, D' j = if j = i then true else D j)
    (hc : ∀ j q, i < j → D j = true → rs[j]? = some q → (∀ d, r.dst = some d → q.dst ≠ some d) ∧ ∀ s A B, (s, A) ∈ r.wr → (s, B) ∉ q.wr) :
    ∀ k, stD st0 rs D' k = if i < k then (stD st0 rs D k).step r else stD st0 rs D k
  | 0 => by simp [stD]
  | k + 1 => by
    have ih := stD_more hr hi hD hc k
    by_cases hk : k = i
    · subst hk
      have ih' : stD st0 rs D' k = stD st0 rs D k := by rw [ih, if_neg (Nat.lt_irrefl _)]
      have e1 : stD st0 rs D' (k + 1) = (stD st0 rs D k).step r := by
        show (if D' k = true then (match rs[k]? with | some r => (stD st0 rs D' k).step r | none => stD st0 rs D' k) else stD st0 rs D' k) = _
        rw [hD k, if_pos rfl, if_pos rfl, hr, ih']
      have e2 : stD st0 rs D (k + 1) = stD st0 rs D k := by
        show (if D k = true then (match rs[k]? with | some r => (stD st0 rs D k).step r | none => stD st0 rs D k) else stD st0 rs D k) = _
        rw [hi]; rfl
      rw [e1, e2, if_pos (Nat.lt_succ_self k)]
    · have hDk : D' k = D k := by rw [hD k, if_neg hk]
      by_cases hlt : i < k
      · rw [if_pos hlt] at ih
        have e1 : stD st0 rs D' (k + 1) = if D k = true then (match rs[k]? with | some q => ((stD st0 rs D k).step r).step q | none => (stD st0 rs D k).step r) else (stD st0 rs D k).step r := by
          show (if D' k = true then (match rs[k]? with | some r => (stD st0 rs D' k).step r | none => stD st0 rs D' k) else stD st0 rs D' k) = _
          rw [hDk, ih]
        have e2 : stD st0 rs D (k + 1) = if D k = true then (match rs[k]? with | some q => (stD st0 rs D k).step q | none => stD st0 rs D k) else stD st0 rs D k := rfl
        rw [e1, e2, if_pos (Nat.lt_succ_of_lt hlt)]
        cases hdk : D k with
        | false => rfl
        | true =>
          cases hq : rs[k]? with
          | none => rfl
          | some q => obtain ⟨c1, c2⟩ := hc k q hlt hdk hq; exact step_comm c1 c2
      · rw [if_neg hlt] at ih
        have e1 : stD st0 rs D' (k + 1) = stD st0 rs D (k + 1) := by
          show (if D' k = true then (match rs[k]? with | some r => (stD st0 rs D' k).step r | none => stD st0 rs D' k) else stD st0 rs D' k) = (if D k = true then (match rs[k]? with | some r => (stD st0 rs D k).step r | none => stD st0 rs D k) else stD st0 rs D k)
          rw [hDk, ih]
        rw [e1, if_neg (by omega)]
end

section
variable {P : Program} {m0 : Mem} {γ0 : Nat → GB} {F0 : Nat → Prop} {w0 : World} {n : Nat} {cf : Cfg} {C : CallS} {me : FuncId} {Q : Exit → Act → World → Prop}

theorem runOps_recs {ops : Array Oper} : ∀ (l : List Oper) (st st' : St) (rs : List Rec), runOps P cf C me ops l st = some (st', rs) →
    rs.length = l.length ∧ st' = stD st rs (fun _ => true) l.length ∧ ∀ (k : Nat) (o : Oper), l[k]? = some o → ∃ r, rs[k]? = some r ∧ stepOp P cf C me ops o (stD st rs (fun _ => true) k) = some r
  | [], st, st', rs, h => by
    simp only [runOps, Option.some.injEq, Prod.mk.injEq] at h
    obtain ⟨rfl, rfl⟩ := h
    exact ⟨rfl, rfl, by simp⟩
  | o :: l, st, st', rs, h => by
    simp only [runOps] at h
    split at h
    · rename_i r hr
      split at h
      · rename_i st2 rs2 h2
        simp only [Option.some.injEq, Prod.mk.injEq] at h
        obtain ⟨rfl, rfl⟩ := h
        obtain ⟨i1, i2, i3⟩ := runOps_recs l _ _ rs2 h2
        have hshift : ∀ k, stD st (r :: rs2) (fun _ => true) (k + 1) = stD (st.step r) rs2 (fun _ => true) k := by
          intro k
          induction k with
          | zero => simp [stD]
          | succ k ih => rw [stD, ih]; simp [stD]
        refine ⟨by simp [i1], by simp only [List.length_cons]; rw [hshift]; exact i2, fun k o' ho' => ?_⟩
        cases k with
        | zero => simp at ho'; subst ho'; exact ⟨r, rfl, hr⟩
        | succ k =>
          simp only [List.getElem?_cons_succ] at ho'
          obtain ⟨q, hq, hs⟩ := i3 k o' ho'
          exact ⟨q, by simpa using hq, by rw [hshift]; exact hs⟩
      · cases h
    · cases h

theorem stepOp_dst {ops : Array Oper} {o : Oper} {st : St} {r : Rec} (h : stepOp P cf C me ops o st = some r) : r.dst = o.dst := by
  unfold stepOp at h
  split at h
  · simp only [Option.map_eq_some_iff] at h
    obtain ⟨x, _, rfl⟩ := h; rfl
  · simp only [Option.some.injEq] at h; subst h; rfl
  · cases h

theorem clash_spec {ops : Array Oper} {x y : Oper} {r q : Rec} (h : clash ops x y r q = false) :
    x.apart ops y = true ∧ (∀ s A, (s, A) ∈ r.wr → s ∉ q.rd ∧ ∀ B, (s, B) ∉ q.wr) ∧ (∀ s B, (s, B) ∈ q.wr → s ∉ r.rd) := by
  simp only [clash, Bool.or_eq_false_iff, Bool.not_eq_false', List.any_eq_false] at h
  obtain ⟨⟨h1, h2⟩, h3⟩ := h
  refine ⟨h1, fun s A hA => ?_, fun s B hB => ?_⟩
  · have := h2 (s, A) hA
    simp only [Bool.or_eq_true, not_or, Bool.not_eq_true, List.any_eq_false, beq_iff_eq] at this
    refine ⟨by simpa using this.1, fun B hB => ?_⟩
    exact this.2 (s, B) hB rfl
  · simpa using h3 (s, B) hB

/-- Who stands before whom. -/
theorem before_spec (ops : Array Oper) : (Region.before ops).size = ops.size ∧ ∀ (j : Nat) (o : Oper), ops[j]? = some o → ∀ b, ((Region.before ops).getD j 0).testBit b = true →
    ∃ e ∈ o.after, Region.binds .any e = true ∧ (b = e.on ∨ (e.on < j ∧ ((Region.before ops).getD e.on 0).testBit b = true)) := by
  have fold : ∀ (acc : Array Nat) (l : List Edge) (s : Nat) (b : Nat), (l.foldl (fun s e => if Region.binds .any e then s ||| 2 ^ e.on ||| acc.getD e.on 0 else s) s).testBit b = true →
      s.testBit b = true ∨ ∃ e ∈ l, Region.binds .any e = true ∧ (b = e.on ∨ (acc.getD e.on 0).testBit b = true) := by
    intro acc l
    induction l with
    | nil => intro s b h; exact .inl h
    | cons e l ih =>
      intro s b h
      simp only [List.foldl_cons] at h
      rcases ih _ b h with h | ⟨e', he', hb, hh⟩
      · by_cases hbe : Region.binds .any e = true
        · simp only [hbe, if_true, Nat.testBit_or, Bool.or_eq_true] at h
          rcases h with (h | h) | h
          · exact .inl h
          · rw [Nat.testBit_two_pow] at h
            exact .inr ⟨e, List.mem_cons_self .., hbe, .inl (by simpa [eq_comm] using h)⟩
          · exact .inr ⟨e, List.mem_cons_self .., hbe, .inr h⟩
        · simp only [hbe] at h; exact .inl h
      · exact .inr ⟨e', List.mem_cons_of_mem _ he', hb, hh⟩
  have main : ∀ (l : List Oper) (acc : Array Nat) (pre : List Oper), acc.size = pre.length →
      (∀ (j : Nat) (o : Oper), pre[j]? = some o → ∀ b, (acc.getD j 0).testBit b = true → ∃ e ∈ o.after, Region.binds .any e = true ∧ (b = e.on ∨ (e.on < j ∧ (acc.getD e.on 0).testBit b = true))) →
      let r := l.foldl (fun acc o => acc.push (o.after.foldl (fun s e => if Region.binds .any e then s ||| 2 ^ e.on ||| acc.getD e.on 0 else s) 0)) acc
      r.size = (pre ++ l).length ∧ ∀ (j : Nat) (o : Oper), (pre ++ l)[j]? = some o → ∀ b, (r.getD j 0).testBit b = true → ∃ e ∈ o.after, Region.binds .any e = true ∧ (b = e.on ∨ (e.on < j ∧ (r.getD e.on 0).testBit b = true)) := by
    intro l
    induction l with
    | nil => intro acc pre hs h; simpa [hs] using h
    | cons o l ih =>
      intro acc pre hs h
      simp only [List.foldl_cons]
      have := ih (acc.push (o.after.foldl (fun s e => if Region.binds .any e then s ||| 2 ^ e.on ||| acc.getD e.on 0 else s) 0)) (pre ++ [o]) (by simp [hs]) (fun j o' ho' b hb => by
        have hget : ∀ q, q < acc.size → ∀ x : Nat, (acc.push x).getD q 0 = acc.getD q 0 := fun q hq x => by
          simp [Array.getElem?_push, Nat.ne_of_lt hq]
        by_cases hj : j < pre.length
        · rw [List.getElem?_append_left hj] at ho'
          rw [hget j (by omega)] at hb
          obtain ⟨e, he, hbe, hh⟩ := h j o' ho' b hb
          exact ⟨e, he, hbe, hh.imp id fun ⟨h1, h2⟩ => ⟨h1, by rw [hget _ (by omega)]; exact h2⟩⟩
        · have hjl := (List.getElem?_eq_some_iff.1 ho').1
          simp only [List.length_append, List.length_cons, List.length_nil] at hjl
          have hje : j = pre.length := by omega
          subst hje
          simp at ho'; subst ho'
          rw [← hs] at hb
          have hlast : ∀ x : Nat, (acc.push x).getD acc.size 0 = x := fun x => by simp
          rw [hlast, ← Array.foldl_toList] at hb
          rcases fold acc _ 0 b hb with h0 | ⟨e, he, hbe, hh⟩
          · simp at h0
          · refine ⟨e, by simpa using he, hbe, hh.imp id fun h2 => ?_⟩
            have hlt : e.on < acc.size := by
              rcases Nat.lt_or_ge e.on acc.size with hl | hl
              · exact hl
              · simp [Array.getElem?_eq_none hl] at h2
            refine ⟨by omega, ?_⟩
            rw [hget _ hlt]; exact h2)
      simpa using this
  have := main ops.toList #[] [] rfl (by simp)
  simp only [List.nil_append, Array.foldl_toList, Array.length_toList] at this
  refine ⟨this.1, fun j o ho b hb => this.2 j o (by simpa using ho) b hb⟩

theorem orderOk_spec {ops : Array Oper} {rs : List Rec} (h : orderOk ops rs = true) :
    (∀ (i : Nat) (o : Oper), ops[i]? = some o → ∀ e ∈ o.after, Region.binds .any e = true → e.on < i) ∧
    ∀ (i j : Nat) (x y : Oper) (r q : Rec), i < j → ops[i]? = some x → ops[j]? = some y → rs[i]? = some r → rs[j]? = some q → ((Region.before ops).getD j 0).testBit i = true ∨ clash ops x y r q = false := by
  simp only [orderOk, Bool.and_eq_true, List.all_eq_true, List.mem_range, Bool.or_eq_true, Bool.not_eq_true'] at h
  obtain ⟨h1, h2⟩ := h
  refine ⟨fun i o ho e he hb => ?_, fun i j x y r q hij hx hy hr hq => ?_⟩
  · have := h1 (o, i) (by rw [List.mem_zipIdx_iff_getElem?]; simpa using ho) e (by simpa using he)
    simp only [hb, decide_eq_true_eq] at this
    simpa using this
  · have hj : j < ops.size := (Array.getElem?_eq_some_iff.1 hy).1
    have := h2 j hj i hij
    simpa [hx, hy, hr, hq] using this

/-- A region that draws. -/
theorem draw_ok (hC : CallOK P C) {ops : Array Oper} (hd : ∀ o, o ∈ ops.toList → dstOk n o = true) {st st' : St} {rs : List Rec} (h : runOps P cf C me ops ops.toList st = some (st', rs)) (hord : orderOk ops rs = true)
    (hQ : ∀ a w, Rel m0 γ0 F0 w0 n st' a w → Q .normal a w) :
    ∀ (fuel : Nat) (listed : Array Bool) (a : Act) (w : World), listed.size = ops.size → fuel = ((List.range ops.size).filter fun i => !listed.getD i true).length →
      (∀ (j : Nat) (o : Oper), ops[j]? = some o → listed.getD j true = true → ∀ e ∈ o.after, Region.binds .any e = true → listed.getD e.on true = true) →
      Rel m0 γ0 F0 w0 n (stD st rs (fun i => listed.getD i true) ops.size) a w → wpAny P .any ops Q fuel listed a w := by
  obtain ⟨hlen, hst, hrec⟩ := runOps_recs _ _ _ _ h
  obtain ⟨hedge, hclash⟩ := orderOk_spec hord
  simp only [Array.length_toList] at hlen hst
  have hrec' : ∀ (k : Nat) (o : Oper), ops[k]? = some o → ∃ r, rs[k]? = some r ∧ stepOp P cf C me ops o (stD st rs (fun _ => true) k) = some r := fun k o ho => hrec k o (by simpa using ho)
  have hdone : ∀ (listed : Array Bool) (a : Act) (w : World), listed.size = ops.size → Region.ready .any ops listed = [] → Rel m0 γ0 F0 w0 n (stD st rs (fun i => listed.getD i true) ops.size) a w → Q .normal a w := by
    intro listed a w hls hready hr
    have hall : ∀ i, i < ops.size → listed.getD i true = true := by
      intro i
      induction i using Nat.strongRecOn with
      | _ i ih =>
        intro hi
        cases hli : listed.getD i true with
        | true => rfl
        | false =>
          have : i ∈ Region.ready .any ops listed := by
            simp only [Region.ready, List.mem_filter, List.mem_range, hli, Bool.not_false, Bool.true_and]
            refine ⟨hi, ?_⟩
            simp only [Array.getElem?_eq_getElem hi, Option.map_some, Option.getD_some, Array.all_eq_true]
            intro k hk
            by_cases hb : Region.binds .any ops[i].after[k] = true
            · have hlt := hedge i ops[i] (Array.getElem?_eq_getElem hi) _ (Array.getElem_mem hk) hb
              have := ih _ hlt (by omega)
              have hsz : (ops[i].after[k]).on < listed.size := by omega
              simp only [Array.getD_eq_getD_getElem?, Array.getElem?_eq_getElem hsz, Option.getD_some] at this ⊢
              simp [this]
            · simp [hb]
          rw [hready] at this; cases this
    have : stD st rs (fun i => listed.getD i true) ops.size = st' := by rw [hst]; exact stD_congr _ fun j hj => hall j hj
    rw [this] at hr
    exact hQ a w hr
  intro fuel
  induction fuel with
  | zero =>
    intro listed a w hls hf hcl hr
    have hnil : Region.ready .any ops listed = [] := by
      have h0 := List.eq_nil_of_length_eq_zero hf.symm
      rw [List.filter_eq_nil_iff] at h0
      simp only [Region.ready]
      rw [List.filter_eq_nil_iff]
      intro i hi
      have := h0 i hi
      simp only [Bool.not_eq_true', Bool.not_eq_false] at this
      simp [this]
    exact ⟨hnil, hdone listed a w hls hnil hr⟩
  | succ fuel ih =>
    intro listed a w hls hf hcl hr
    refine ⟨fun hnil => hdone listed a w hls hnil hr, fun i hi => ?_⟩
    simp only [Region.ready, List.mem_filter, List.mem_range, Bool.and_eq_true, Bool.not_eq_true'] at hi
    obtain ⟨hisz, hil, hiafter⟩ := hi
    have ho : ops[i]? = some ops[i] := Array.getElem?_eq_getElem hisz
    have hanc : ∀ e ∈ ops[i].after, Region.binds .any e = true → listed.getD e.on true = true := fun e he hb => by
      simp only [ho, Option.map_some, Option.getD_some, Array.all_eq_true] at hiafter
      obtain ⟨k, hk, rfl⟩ := Array.mem_iff_getElem.1 he
      have := hiafter k hk
      simp only [hb, Bool.not_true, Bool.false_or] at this
      cases hx : listed[(ops[i].after[k]).on]? with
      | none => rw [Array.getD_eq_getD_getElem?, hx]; rfl
      | some b => simp only [Array.getD_eq_getD_getElem?, hx, Option.getD_some] at this ⊢; exact this
    -- all that stands before a listed one is listed
    have hclosed : ∀ (j : Nat), j < ops.size → (listed.getD j true = true ∨ j = i) → ∀ b, ((Region.before ops).getD j 0).testBit b = true → listed.getD b true = true := by
      intro j
      induction j using Nat.strongRecOn with
      | _ j ihj =>
        intro hj hlj b hb
        obtain ⟨e, he, hbe, hh⟩ := (before_spec ops).2 j ops[j] (Array.getElem?_eq_getElem hj) b hb
        have hle : listed.getD e.on true = true := by
          rcases hlj with hlj | rfl
          · exact hcl j _ (Array.getElem?_eq_getElem hj) hlj e he hbe
          · exact hanc e he hbe
        rcases hh with rfl | ⟨hlt, hh⟩
        · exact hle
        · exact ihj e.on hlt (by omega) (.inl hle) b hh
    obtain ⟨r, hri, hstep⟩ := hrec' i _ ho
    have hdst := stepOp_dst hstep
    -- earlier ones that clash are listed; later listed ones do not clash
    have hearly : ∀ (j : Nat) (q : Rec), j < i → rs[j]? = some q → listed.getD j true = true ∨ clash ops ops[j]! ops[i] q r = false := fun j q hj hq => by
      have hjs : j < ops.size := by omega
      rcases hclash j i ops[j] ops[i] q r hj (Array.getElem?_eq_getElem hjs) ho hq hri with hb | hb
      · exact .inl (hclosed i hisz (.inr rfl) j hb)
      · exact .inr (by rw [getElem!_pos ops j hjs]; exact hb)
    have hlate : ∀ (j : Nat) (q : Rec), i < j → listed.getD j true = true → rs[j]? = some q → clash ops ops[i] ops[j]! r q = false := fun j q hj hlj hq => by
      have hjs : j < ops.size := by have := (List.getElem?_eq_some_iff.1 hq).1; omega
      rcases hclash i j ops[i] ops[j] r q hj ho (Array.getElem?_eq_getElem hjs) hri hq with hb | hb
      · have := hclosed j hjs (.inl hlj) i hb
        rw [hil] at this; cases this
      · rw [getElem!_pos ops j hjs]; exact hb
    have hqdst : ∀ (j : Nat) (q : Rec), rs[j]? = some q → q.dst = (ops[j]!).dst := fun j q hq => by
      have hjs : j < ops.size := by have := (List.getElem?_eq_some_iff.1 hq).1; omega
      obtain ⟨q', hq', hs'⟩ := hrec' j ops[j] (Array.getElem?_eq_getElem hjs)
      rw [hq] at hq'; cases hq'
      rw [getElem!_pos ops j hjs]; exact stepOp_dst hs'
    have hmin : min ops.size i = i := by omega
    have hloc : stepOp P cf C me ops ops[i] (stD st rs (fun i => listed.getD i true) ops.size) = some r := by
      refine stepOp_local hstep (fun t ht => ?_) (fun s hs => ?_)
      · have := stD_ρ (st0 := st) (rs := rs) (D := fun i => listed.getD i true) (t := t) (i := i) (fun j q hj hq hdq => by
          rcases hearly j q hj hq with h | h
          · exact h
          · exact absurd ht ((Oper.apart_spec (clash_spec h).1).1 t (by rw [← hqdst j q hq]; exact hdq))) (fun j q hj hlj hq hdq => by
          have hne : i ≠ j := fun e => by subst e; rw [hil] at hlj; cases hlj
          have hc := hlate j q (by omega) hlj hq
          exact (Oper.apart_spec (clash_spec hc).1).2.2 t (by rw [← hqdst j q hq]; exact hdq) ht) ops.size
        rw [hmin] at this
        exact this
      · have := stD_m (st0 := st) (rs := rs) (D := fun i => listed.getD i true) (s := s) (i := i) (fun j q A hj hq hA => by
          rcases hearly j q hj hq with h | h
          · exact h
          · exact absurd hs ((clash_spec h).2.1 s A hA).1) (fun j q A hj hlj hq hA => by
          have hne : i ≠ j := fun e => by subst e; rw [hil] at hlj; cases hlj
          have hc := hlate j q (by omega) hlj hq
          exact (clash_spec hc).2.2 s A hA hs) ops.size
        rw [hmin] at this
        exact this
    have hil' : i < listed.size := by omega
    have hget : ∀ j, (listed.setIfInBounds i true).getD j true = if j = i then true else listed.getD j true := fun j => by
      simp only [Array.getD_eq_getD_getElem?, Array.getElem?_setIfInBounds]
      by_cases hji : j = i
      · subst hji; simp [hil']
      · simp [hji, Ne.symm hji]
    have hmore := stD_more (st0 := st) (rs := rs) (D := fun i => listed.getD i true) (D' := fun j => (listed.setIfInBounds i true).getD j true) hri hil hget (fun j q hj hlj hq => by
      have hc := clash_spec (hlate j q hj hlj hq)
      refine ⟨fun d hdd => ?_, fun s A B hA hB => (hc.2.1 s A hA).2 B hB⟩
      rw [hqdst j q hq]
      exact (Oper.apart_spec hc.1).2.1 d (by rw [← hdst]; exact hdd)) ops.size
    rw [if_pos hisz] at hmore
    refine step_ok hC ho (hd _ (by simp)) hloc hr fun a' w' hr' => ?_
    refine ih _ a' w' (by simpa using hls) ?_ (fun j o hoj hlj e he hb => ?_) (by rw [hmore]; exact hr')
    · have hcount : ∀ (l : List Nat), l.Nodup → i ∈ l → (l.filter fun j => !listed.getD j true).length = (l.filter fun j => !(listed.setIfInBounds i true).getD j true).length + 1 := by
        intro l
        induction l with
        | nil => intro _ h; cases h
        | cons x l ihl =>
          intro hnd hin
          obtain ⟨hx, hnd'⟩ := List.nodup_cons.1 hnd
          by_cases hxi : x = i
          · subst hxi
            have e : l.filter (fun j => !listed.getD j true) = l.filter (fun j => !(listed.setIfInBounds x true).getD j true) := List.filter_congr fun j hj => by
              rw [hget, if_neg (fun e => hx (by rw [← e]; exact hj))]
            rw [List.filter_cons_of_pos (by rw [hil]; rfl), List.filter_cons_of_neg (by rw [hget]; simp), e]
            rfl
          · have hin' : i ∈ l := by
              rcases List.mem_cons.1 hin with h | h
              · exact absurd h.symm hxi
              · exact h
            have := ihl hnd' hin'
            by_cases hlx : listed.getD x true = true
            · rw [List.filter_cons_of_neg (by rw [hlx]; simp), List.filter_cons_of_neg (by rw [hget, if_neg hxi, hlx]; simp)]
              exact this
            · rw [List.filter_cons_of_pos (by simp [hlx]), List.filter_cons_of_pos (by rw [hget, if_neg hxi]; simp [hlx]), List.length_cons, List.length_cons, this]
      have := hcount (List.range ops.size) List.nodup_range (by simpa using hisz)
      omega
    · rw [hget] at hlj ⊢
      split
      · rfl
      · by_cases hji : j = i
        · subst hji
          rw [ho] at hoj; cases hoj
          exact hanc e he hb
        · rw [if_neg hji] at hlj
          exact hcl j o hoj hlj e he hb

/-- A region. -/
theorem region_ok (hC : CallOK P C) (hm : P.follows .mixedOrders = true) {id : Nat} {ops : Array Oper} {draw : Bool} (hd : ∀ o, o ∈ ops.toList → dstOk n o = true) {st st' : St} (h : regionP P cf C me ops draw st = some st') {a : Act} {w : World}
    (hr : Rel m0 γ0 F0 w0 n st a w) (hQ : ∀ a w, Rel m0 γ0 F0 w0 n st' a w → Q .normal a w) : (Code.region id ops draw).wp P Q a w := by
  unfold regionP at h
  split at h
  · rename_i st2 rs h2
    split at h
    · rename_i hdr
      subst hdr
      split at h
      · rename_i hord
        simp only [Option.some.injEq] at h
        subst h
        refine wp_region_any hm (draw_ok hC hd h2 hord hQ ops.size _ a _ (by simp) ?_ (fun j o hoj hlj => ?_) ?_)
        · have : (List.range ops.size).filter (fun i => !(Array.replicate ops.size false).getD i true) = List.range ops.size := List.filter_eq_self.2 fun i hi => by
            have : i < ops.size := by simpa using hi
            simp [this]
          rw [this]; simp
        · have : j < ops.size := (Array.getElem?_eq_some_iff.1 hoj).1
          simp [this] at hlj
        · have : stD st rs (fun i => (Array.replicate ops.size false).getD i true) ops.size = st := by
            have : ∀ k, k ≤ ops.size → stD st rs (fun i => (Array.replicate ops.size false).getD i true) k = st := by
              intro k
              induction k with
              | zero => intro _; rfl
              | succ k ih =>
                intro hk
                have hk' : k < ops.size := by omega
                have hf : (Array.replicate ops.size false).getD k true = false := by simp [hk']
                show (if (Array.replicate ops.size false).getD k true = true then _ else _) = _
                rw [if_neg (by rw [hf]; exact Bool.false_ne_true)]
                exact ih (by omega)
            exact this _ (Nat.le_refl _)
          rw [this]
          exact hr.drew
      · cases h
    · rename_i hdr
      simp only [Bool.not_eq_true] at hdr
      subst hdr
      simp only [Option.some.injEq] at h
      subst h
      refine wp_region ?_
      have := wpOps_range (Q := Q) hC hd ops.toList 0 st st2 rs a w (fun j => by simp) (by simp) h2 hr hQ
      simpa [List.range_eq_range'] using this
  · cases h

end
end Go.Proofs.Ytnobgdgnncfcpaa.X
