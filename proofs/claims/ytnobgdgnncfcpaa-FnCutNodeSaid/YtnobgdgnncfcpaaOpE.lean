/- Soundness: operations that lay new memory. -/
import Derived.Test.YtnobgdgnncfcpaaOpD
namespace Go.Proofs.Ytnobgdgnncfcpaa.X
open Go

section
variable {P : Program} {o : Oper} {a : Act} {w : World} {m : Mem} {γ : Nat → GB} {F : Nat → Prop} {ρ : Nat → PV} {out : PV} {wr : List (Nat × Arr)} {cf : Cfg} {C : CallS} {me : FuncId}

theorem constC_one {x : Value} (h : (constC x).flat = true) : x.oneCell' = true := by
  unfold constC at h
  split at h
  · rfl
  · exact h

theorem scalar_one {q : PV} {x : Value} (hr : RepP m γ F w q x) (hs : q.scalar = true) : x.oneCell' = true := by
  cases hr with
  | i h => cases h <;> first | rfl | exact hs
  | ref => rfl
  | ptr => rfl
  | fn => rfl
  | agg => cases hs
  | tup => cases hs
  | bad => cases hs

theorem cells_one {x : Value} (h : x.oneCell' = true) : x.cells = #[x] := by cases x <;> first | rfl | cases h

theorem cells_rep {p : PV} {v : Value} (hr : RepP m γ F w p v) (hs : ∀ q, q ∈ p.cells → q.scalar = true) :
    ∃ c : List Value, v.cells = c.toArray ∧ c.length = p.cells.length ∧ ∀ (j : Nat) (q : PV) (x : Value), p.cells[j]? = some q → c[j]? = some x → RepP m γ F w q x ∧ x.oneCell' = true := by
  have one : p.cells = [p] → ∃ c : List Value, v.cells = c.toArray ∧ c.length = p.cells.length ∧ ∀ (j : Nat) (q : PV) (x : Value), p.cells[j]? = some q → c[j]? = some x → RepP m γ F w q x ∧ x.oneCell' = true := fun he => by
    have h1 := scalar_one hr (hs p (by rw [he]; exact List.mem_singleton.2 rfl))
    refine ⟨[v], cells_one h1, by rw [he]; rfl, fun j q x hq hx => ?_⟩
    rw [he] at hq
    cases j with
    | zero => simp at hq hx; subst hq; subst hx; exact ⟨hr, h1⟩
    | succ j => simp at hq
  cases hr with
  | agg cs c h1 h2 => exact ⟨c, rfl, h1.symm, fun j q x hq hx => ⟨h2 j q x hq hx, scalar_one (h2 j q x hq hx) (hs q (List.mem_of_getElem? hq))⟩⟩
  | _ => exact one rfl

theorem run_newVar (t : TypeId) (v : Value) (w : World) : (newVar t v).run P w = .ok ⟨w.heap.size, 0, none⟩ (w.alloc (.cells v.cells t)) := by
  rfl

theorem does_box {t : TypeId} {x : Operand} (ho : o.op = .box t x) (h : SemOf P cf C me o ρ m out wr) (hi : Inv m γ F w) (hs : Slots m γ F w ρ a) : Does P o a w m γ F out wr := by
  simp only [SemOf, opSem, ho] at h
  split at h
  · rename_i d hd
    simp only [Mm.gives_bind, Mm.gives_chk, Mm.gives_ret, Prod.mk.injEq, List.all_eq_true] at h
    obtain ⟨v, hv, hsc, rfl, rfl⟩ := h
    obtain ⟨c, hc, hl, hcr⟩ := cells_rep (opnd_rep hs x) hsc
    obtain ⟨h1, h2, h3, h4⟩ := new_site hi (A := .box v (opnd ρ x).cells) (fun A0 h0 => gives_newVer hv A0 h0) trivial (a.eval x).cells t 0 (fun hm hag => by
      refine ⟨(a.eval x).cells, t, by rw [heap_alloc]; simp, by rw [hc]; simp [hl], fun j p hp => ?_⟩
      have hj : j < c.length := by rw [hl]; exact (List.getElem?_eq_some_iff.1 hp).1
      obtain ⟨hr, h1⟩ := hcr j p c[j] hp (by simp [hj])
      exact ⟨c[j], by rw [hc]; simp [hj], h1, hr.step hm (fun _ h => h) hag⟩)
    refine does_of_run (v := .pointer (some ⟨w.heap.size, 0, none⟩)) (γ' := upd γ d ⟨w.heap.size, 0, 0⟩) (F' := F) ?_ h1 h2 (FStep.refl ..) h3 ?_
    · simp [execOp, ho, Instr.box, run_newVar]
    · exact .ptr d v 0 0 _ _ (upd_same ..) (Nat.le_refl _) fun _ => ⟨rfl, by rw [upd_same]⟩
  · simp [Mm.gives_fail] at h

theorem does_alloc {t : TypeId} (ho : o.op = .alloc t) (h : SemOf P cf C me o ρ m out wr) (hi : Inv m γ F w) : Does P o a w m γ F out wr := by
  simp only [SemOf, opSem, ho] at h
  split at h
  · rename_i d z hd hz
    simp only [Mm.gives_bind, Mm.gives_chk, Mm.gives_ret, Prod.mk.injEq, List.all_eq_true] at h
    obtain ⟨v, hv, hsc, rfl, rfl⟩ := h
    obtain ⟨zv, hzr, rfl⟩ := run_zero hz w
    obtain ⟨h1, h2, h3, h4⟩ := new_site hi (A := .box v ((zv.cells.toList.map constC).map .i)) (fun A0 h0 => gives_newVer hv A0 h0) trivial zv.cells t 0 (fun hm hag => by
      refine ⟨zv.cells, t, by rw [heap_alloc]; simp, by simp, fun j p hp => ?_⟩
      simp only [List.map_map, List.getElem?_map, Option.map_eq_some_iff] at hp
      obtain ⟨x, hx, rfl⟩ := hp
      exact ⟨x, by simpa using hx, constC_one (hsc _ (List.mem_map.2 ⟨x, List.mem_of_getElem? hx, rfl⟩)), .i (repI_constC x)⟩)
    refine does_of_run (v := .pointer (some ⟨w.heap.size, 0, none⟩)) (γ' := upd γ d ⟨w.heap.size, 0, 0⟩) (F' := F) ?_ h1 h2 (FStep.refl ..) h3 ?_
    · simp [execOp, ho, Instr.alloc, hzr, run_newVar]
    · exact .ptr d v 0 0 _ _ (upd_same ..) (Nat.le_refl _) fun _ => ⟨rfl, by rw [upd_same]⟩
  · simp [Mm.gives_fail] at h

/-- What 'fill' does with one part. -/
theorem foldl_set (off : Nat) : ∀ (c : List Value) (i : Nat) (cur : Array Value),
    ((c.zipIdx i).foldl (fun cs (x : Value × Nat) => cs.setIfInBounds (off + x.2) x.1) cur).size = cur.size ∧
    ∀ q, off + i + c.length ≤ cur.size → ((c.zipIdx i).foldl (fun cs (x : Value × Nat) => cs.setIfInBounds (off + x.2) x.1) cur)[q]? = if off + i ≤ q ∧ q < off + i + c.length then c[q - (off + i)]? else cur[q]?
  | [], i, cur => ⟨rfl, fun q _ => by rw [if_neg (by simp only [List.length_nil]; omega)]; rfl⟩
  | v :: c, i, cur => by
    obtain ⟨h1, h2⟩ := foldl_set off c (i + 1) (cur.setIfInBounds (off + i) v)
    simp only [List.zipIdx_cons, List.foldl_cons]
    refine ⟨by rw [h1]; simp, fun q hq => ?_⟩
    have hs : (cur.setIfInBounds (off + i) v).size = cur.size := by simp
    simp only [List.length_cons] at hq ⊢
    rw [h2 q (by rw [hs]; omega)]
    by_cases hqe : q = off + i
    · subst hqe
      rw [if_neg (by omega), if_pos (by omega)]
      have hlt : off + i < cur.size := by omega
      simp [hlt]
    · by_cases hin : off + (i + 1) ≤ q ∧ q < off + (i + 1) + c.length
      · rw [if_pos hin, if_pos (by omega)]
        rw [show q - (off + i) = (q - (off + (i + 1))) + 1 from by omega]
        simp
      · rw [if_neg hin, if_neg (by omega), Array.getElem?_setIfInBounds_ne (by omega)]

def setAt (cur : Array Value) (off : Nat) (c : Array Value) : Array Value := c.zipIdx.foldl (fun cs (x : Value × Nat) => cs.setIfInBounds (off + x.2) x.1) cur

theorem setAt_size (cur : Array Value) (off : Nat) (c : Array Value) : (setAt cur off c).size = cur.size := by
  have := (foldl_set off c.toList 0 cur).1
  unfold setAt
  rwa [← Array.foldl_toList, Array.toList_zipIdx]
theorem setAt_get (cur : Array Value) (off : Nat) (c : Array Value) (h : off + c.size ≤ cur.size) (q : Nat) : (setAt cur off c)[q]? = if off ≤ q ∧ q < off + c.size then c[q - off]? else cur[q]? := by
  have := (foldl_set off c.toList 0 cur).2 q (by simpa using h)
  unfold setAt
  rw [← Array.foldl_toList, Array.toList_zipIdx]
  simpa using this

theorem fill_cons (place : Nat → Option (Nat × Nat)) (cells : Array Value) (i : Nat) (v : Value) (rest : List (Nat × Value)) (off size : Nat) (hp : place i = some (off, size)) (h1 : v.cells.size = size) (h2 : off + size ≤ cells.size) :
    Instr.fill place cells ((i, v) :: rest) = Instr.fill place (setAt cells off v.cells) rest := by
  simp only [Instr.fill, hp, h1]
  rw [if_neg (by simp; omega)]
  rfl

theorem getElem?_splice {α : Type} (cs e : List α) (off j : Nat) (h : off + e.length ≤ cs.length) : (splice cs off e)[j]? = if off ≤ j ∧ j < off + e.length then e[j - off]? else cs[j]? := by
  unfold splice
  by_cases h1 : j < off
  · rw [if_neg (by omega), List.append_assoc, List.getElem?_append_left (by simp; omega)]
    simp [h1]
  · by_cases h2 : j < off + e.length
    · rw [if_pos ⟨by omega, h2⟩, List.append_assoc, List.getElem?_append_right (by simp; omega), List.getElem?_append_left (by simp; omega)]
      congr 1; simp; omega
    · rw [if_neg (by omega), List.getElem?_append_right (by simp; omega)]
      simp only [List.length_append, List.length_take, List.getElem?_drop]
      congr 1; omega
theorem length_splice {α : Type} (cs e : List α) (off : Nat) (h : off + e.length ≤ cs.length) : (splice cs off e).length = cs.length := by
  simp [splice]; omega

/-- Cells that stand for a list of values. -/
def CellsOf (m : Mem) (γ : Nat → GB) (F : Nat → Prop) (w : World) (cs : List PV) (cur : Array Value) : Prop :=
  cur.size = cs.length ∧ ∀ (j : Nat) (p : PV), cs[j]? = some p → ∃ x : Value, cur[j]? = some x ∧ RepP m γ F w p x

theorem cellsOf_splice {cs e : List PV} {cur : Array Value} {off : Nat} {c : Array Value} (h : CellsOf m γ F w cs cur) (he : CellsOf m γ F w e c) (hl : off + e.length ≤ cs.length) :
    CellsOf m γ F w (splice cs off e) (setAt cur off c) := by
  refine ⟨by rw [setAt_size, h.1, length_splice _ _ _ hl], fun j p hp => ?_⟩
  rw [getElem?_splice _ _ _ _ hl] at hp
  rw [setAt_get _ _ _ (by rw [he.1, h.1]; exact hl), he.1]
  split at hp
  · rename_i hj; rw [if_pos hj]; exact he.2 _ _ hp
  · rename_i hj; rw [if_neg hj]; exact h.2 _ _ hp

theorem mapM_places {w : World} (fs : Array Field) (hz : ∀ f, f ∈ fs → (szOf P f.type).isSome = true) :
    (fs.mapM (fun f => do pure (f.offset, ← sizeOf f.type)) : Sem (Array (Nat × Nat))).run P w = .ok (fs.map fun f => (f.offset, (szOf P f.type).getD 0)) w := by
  rw [Array.mapM_eq_mapM_toList]
  have : ∀ l : List Field, (∀ f, f ∈ l → (szOf P f.type).isSome = true) → (l.mapM (fun f => do pure (f.offset, ← sizeOf f.type)) : Sem (List (Nat × Nat))).run P w = .ok (l.map fun f => (f.offset, (szOf P f.type).getD 0)) w := by
    intro l
    induction l with
    | nil => intro _; simp
    | cons f l ih =>
      intro h
      obtain ⟨n, hn⟩ := Option.isSome_iff_exists.1 (h f (List.mem_cons_self ..))
      simp only [List.mapM_cons, Sem.run_bind, run_sz hn, Result.andThen_ok, Sem.run_pure, ih (fun g hg => h g (List.mem_cons_of_mem _ hg)), List.map_cons, hn, Option.getD_some]
  simp only [map_eq_pure_bind, Sem.run_bind, this fs.toList (fun f hf => hz f (by simpa using hf)), Result.andThen_ok, Sem.run_pure]
  rw [← Array.toList_map]

end
end Go.Proofs.Ytnobgdgnncfcpaa.X
