/- Soundness: new sites; what is given up into an array. -/
import Derived.Test.YtnobgdgnncfcpaaOpC
namespace Go.Proofs.Ytnobgdgnncfcpaa.X
open Go

theorem updL_append (m : Mem) (a b : List (Nat × Arr)) : updL m (a ++ b) = updL (updL m a) b := by
  induction a generalizing m with
  | nil => rfl
  | cons x r ih => obtain ⟨s, A⟩ := x; simp only [List.cons_append, updL]; exact ih _
theorem updL_other {m : Mem} {wr : List (Nat × Arr)} {s : Nat} (h : ∀ A, (s, A) ∉ wr) : updL m wr s = m s := by
  induction wr generalizing m with
  | nil => rfl
  | cons x r ih =>
    obtain ⟨t, B⟩ := x
    simp only [updL]
    rw [ih (fun A hA => h A (List.mem_cons_of_mem _ hA)), upd_ne]
    rintro rfl
    exact h B (List.mem_cons_self ..)
theorem updL_mem {m : Mem} {wr : List (Nat × Arr)} {s : Nat} {A : Arr} (h : (s, A) ∈ wr) (hu : ∀ B, (s, B) ∈ wr → B = A) : updL m wr s = some A := by
  induction wr generalizing m with
  | nil => cases h
  | cons x r ih =>
    obtain ⟨t, B⟩ := x
    simp only [updL]
    by_cases hr : ∃ C, (s, C) ∈ r
    · obtain ⟨C, hC⟩ := hr
      have := hu C (List.mem_cons_of_mem _ hC)
      subst this
      exact ih hC (fun B hB => hu B (List.mem_cons_of_mem _ hB))
    · rw [updL_other (fun A hA => hr ⟨A, hA⟩)]
      rcases List.mem_cons.1 h with h | h
      · cases h; rw [upd_same]
      · exact absurd ⟨A, h⟩ hr

section
variable {P : Program} {w : World} {m : Mem} {γ : Nat → GB} {F : Nat → Prop}

theorem gives_newVer {d v : Nat} (h : (newVer d).gives m v) : ∀ A0, m d = some A0 → A0.ver < v := by
  intro A0 h0
  simp only [newVer, Mm.gives_get, h0, Mm.gives_ret] at h
  omega

theorem heap_alloc (w : World) (o : Obj) : (w.alloc o).heap = w.heap.push o := rfl

/-- A site is laid anew in a new block. -/
theorem new_site (hi : Inv m γ F w) {d : Nat} {A : Arr} (hv : ∀ A0, m d = some A0 → A0.ver < A.ver) (_hl : A.live) (cur : Array Value) (E : TypeId) (cap : Nat)
    (hA : MemStep m γ (upd m d (some A)) (upd γ d ⟨w.heap.size, 0, cap⟩) → Agree F w (w.alloc (.cells cur E)) →
      Holds (upd m d (some A)) (upd γ d ⟨w.heap.size, 0, cap⟩) F (w.alloc (.cells cur E)) ⟨w.heap.size, 0, cap⟩ A) :
    Inv (upd m d (some A)) (upd γ d ⟨w.heap.size, 0, cap⟩) F (w.alloc (.cells cur E)) ∧ MemStep m γ (upd m d (some A)) (upd γ d ⟨w.heap.size, 0, cap⟩) ∧
      Stp m γ w (upd m d (some A)) (upd γ d ⟨w.heap.size, 0, cap⟩) (w.alloc (.cells cur E)) ∧ Agree F w (w.alloc (.cells cur E)) := by
  have hold : ∀ b, b < w.heap.size → (w.alloc (.cells cur E)).heap[b]? = w.heap[b]? := fun b hb => by
    rw [heap_alloc, Array.getElem?_push, if_neg (by omega)]
  have hms : MemStep m γ (upd m d (some A)) (upd γ d ⟨w.heap.size, 0, cap⟩) := by
    intro s B hB
    by_cases hs : s = d
    · subst hs
      exact ⟨A, upd_same .., Nat.le_of_lt (hv B hB), fun e => absurd e (Nat.ne_of_lt (hv B hB))⟩
    · exact ⟨B, by rw [upd_ne _ _ hs]; exact hB, Nat.le_refl _, fun _ => ⟨B.like_refl, upd_ne _ _ hs⟩⟩
  have hag : Agree F w (w.alloc (.cells cur E)) := fun b hb => hold b (hi.bound b hb)
  refine ⟨⟨fun s B hB => ?_, fun s B hB hBl => ?_, fun s s' B B' hB hB' hBl hBl' e => ?_, fun b hb => by have := hi.bound b hb; rw [heap_alloc]; simp; omega⟩, hms,
    ⟨rfl, rfl, rfl, by rw [heap_alloc]; simp, fun b hb _ => hold b hb, fun s B hB hBl => ?_⟩, hag⟩
  · by_cases hs : s = d
    · subst hs
      rw [upd_same] at hB ⊢
      cases hB
      exact hA hms hag
    · rw [upd_ne _ _ hs] at hB ⊢
      by_cases hBl : B.live
      · exact (hi.holds s B hB).step hms (fun _ h => h) hag (hold _ ((hi.holds s B hB).lt hBl))
      · cases B <;> simp [Arr.live, Holds] at hBl ⊢
  · by_cases hs : s = d
    · subst hs
      rw [upd_same]
      intro hF
      exact absurd (hi.bound _ hF) (by simp)
    · rw [upd_ne _ _ hs] at hB ⊢
      exact hi.notF s B hB hBl
  · by_cases hs : s = d <;> by_cases hs' : s' = d
    · rw [hs, hs']
    · subst hs
      rw [upd_same, upd_ne _ _ hs'] at e
      rw [upd_ne _ _ hs'] at hB'
      have := (hi.holds s' B' hB').lt hBl'
      simp only at e
      omega
    · subst hs'
      rw [upd_same, upd_ne _ _ hs] at e
      rw [upd_ne _ _ hs] at hB
      have := (hi.holds s B hB).lt hBl
      simp only at e
      omega
    · rw [upd_ne _ _ hs] at hB e
      rw [upd_ne _ _ hs'] at hB' e
      exact hi.dist s s' B B' hB hB' hBl hBl' e
  · by_cases hs : s = d
    · subst hs; rw [upd_same]; exact .inr (Nat.le_refl _)
    · rw [upd_ne _ _ hs] at hB ⊢
      exact .inl ⟨B, hB, hBl, rfl⟩

/-- A part of an array, looked at as a list. -/
theorem repI_of_arr {F1 : Nat → Prop} {G : GB} {v k off len cap : Nat} {xs : List (List IV)} {ao : Option Addr} (hF : F1 G.g) (hh : Holds m γ F1 w G (.arr v k xs))
    (hs : sliceOf G off len cap ao (.arr v k xs)) : RepI F1 w (.lst ((xs.drop off).take len)) (.slice ao len cap) := by
  obtain ⟨cur, E, hb, hsz, hxc, hmax, hc⟩ := hh
  obtain ⟨hl, hoc, rfl, had⟩ := hs
  have hlen : ((xs.drop off).take len).length = len := by simp; omega
  have hget : ∀ (q : Nat) (e : List IV), ((xs.drop off).take len)[q]? = some e → xs[off + q]? = some e ∧ q < len := fun q e hq => by
    rw [List.getElem?_take] at hq
    split at hq
    · rename_i h; exact ⟨by simpa using hq, h⟩
    · cases hq
  suffices h : RepI F1 w (.lst ((xs.drop off).take len)) (.slice ao ((xs.drop off).take len).length (G.cap - off)) by rwa [hlen] at h
  have hcell : ∀ (i : Nat) (e : List IV) (j : Nat) (p : IV), ((xs.drop off).take len)[i]? = some e → e[j]? = some p →
      ∃ x, cur[(G.b + (off + i)) * k + j]? = some x ∧ x.oneCell' = true ∧ RepI F1 w p x := fun i e j p he hp => (hc _ e (hget i e he).1).2 j p hp
  refine .lst _ _ _ k (fun i j => (cur[(G.b + (off + i)) * k + j]?).getD undef) (by rw [hlen]; omega) (by omega) (fun i e he => (hc _ e (hget i e he).1).1) (fun i e he => ?_)
    (fun i e j p he hp => ?_) (fun i e j p he hp => ?_)
  · have hlt := (hget i e he).2
    refine ⟨_, had (by omega), rfl, hF, fun j p hp => ?_⟩
    obtain ⟨x, hx, _, _⟩ := hcell i e j p he hp
    show w.cell? ⟨G.g, (G.b + off) * k + (i * k + j), none⟩ = _
    rw [show (G.b + off) * k + (i * k + j) = (G.b + (off + i)) * k + j from by rw [← Nat.add_assoc, ← Nat.add_mul, Nat.add_assoc], cell_of_row w _ _ cur E (0, 0) hb, hx]
    rfl
  · obtain ⟨x, hx, _, hr⟩ := hcell i e j p he hp
    simp only [hx, Option.getD_some]; exact hr
  · obtain ⟨x, hx, ho, _⟩ := hcell i e j p he hp
    simp only [hx, Option.getD_some]; exact ho

/-- Some sites are given up: their blocks are looked at from now on, and never turned. -/
theorem kill_sites (hi : Inv m γ F w) {wr : List (Nat × Arr)} (hwr : ∀ s A, (s, A) ∈ wr → ∃ v k xs, m s = some (.arr v k xs) ∧ A = .dead (v + 1)) :
    let F1 : Nat → Prop := fun b => F b ∨ ∃ s A, (s, A) ∈ wr ∧ b = (γ s).g
    Inv (updL m wr) γ F1 w ∧ MemStep m γ (updL m wr) γ ∧ Stp m γ w (updL m wr) γ w ∧ (∀ s B, updL m wr s = some B → B.live → m s = some B ∧ ∀ A, (s, A) ∉ wr) := by
  intro F1
  have hval : ∀ s A, (s, A) ∈ wr → updL m wr s = some A := fun s A h => updL_mem h fun B hB => by
    obtain ⟨v, k, xs, h1, rfl⟩ := hwr s A h
    obtain ⟨v', k', xs', h2, rfl⟩ := hwr s B hB
    rw [h1] at h2; cases h2; rfl
  have hlive : ∀ s B, updL m wr s = some B → B.live → m s = some B ∧ ∀ A, (s, A) ∉ wr := fun s B hB hl => by
    have hn : ∀ A, (s, A) ∉ wr := fun A hA => by
      obtain ⟨v, k, xs, h1, rfl⟩ := hwr s A hA
      rw [hval s _ hA] at hB
      cases hB
      exact hl
    exact ⟨by rwa [updL_other hn] at hB, hn⟩
  have hms : MemStep m γ (updL m wr) γ := fun s A hA => by
    by_cases hx : ∃ B, (s, B) ∈ wr
    · obtain ⟨B, hB⟩ := hx
      obtain ⟨v, k, xs, h1, rfl⟩ := hwr s B hB
      rw [h1] at hA
      cases hA
      exact ⟨_, hval s _ hB, by simp [Arr.ver], fun e => absurd e (by simp [Arr.ver])⟩
    · exact ⟨A, by rw [updL_other fun B hB => hx ⟨B, hB⟩]; exact hA, Nat.le_refl _, fun _ => ⟨A.like_refl, rfl⟩⟩
  refine ⟨⟨fun s B hB => ?_, fun s B hB hl => ?_, fun s s' B B' hB hB' hl hl' e => ?_, fun b hb => ?_⟩, hms, ?_, hlive⟩
  · by_cases hl : B.live
    · exact (hi.holds s B (hlive s B hB hl).1).step hms (fun _ h => .inl h) (fun _ _ => rfl) rfl
    · cases B <;> simp [Arr.live, Holds] at hl ⊢
  · obtain ⟨h1, hn⟩ := hlive s B hB hl
    rintro (hF | ⟨s', A, hA, e⟩)
    · exact hi.notF s B h1 hl hF
    · obtain ⟨v, k, xs, h2, rfl⟩ := hwr s' A hA
      have := hi.dist s s' B _ h1 h2 hl trivial e
      subst this
      exact hn _ hA
  · exact hi.dist s s' B B' (hlive s B hB hl).1 (hlive s' B' hB' hl').1 hl hl' e
  · rcases hb with hb | ⟨s, A, hA, rfl⟩
    · exact hi.bound b hb
    · obtain ⟨v, k, xs, h2, rfl⟩ := hwr s A hA
      exact (hi.holds s _ h2).lt trivial
  · exact ⟨rfl, rfl, rfl, Nat.le_refl _, fun _ _ _ => rfl, fun s B hB hl => .inl ⟨B, (hlive s B hB hl).1, hl, rfl⟩⟩

theorem kill_grow {wr : List (Nat × Arr)} (hwr : ∀ s A, (s, A) ∈ wr → ownSite s = true ∧ ∃ v k xs, m s = some (.arr v k xs) ∧ A = .dead (v + 1)) :
    FStep m γ F w (fun b => F b ∨ ∃ s A, (s, A) ∈ wr ∧ b = (γ s).g) := by
  refine ⟨fun _ h => .inl h, fun b hb => ?_⟩
  rcases hb with hb | ⟨s, A, hA, rfl⟩
  · exact .inl hb
  · obtain ⟨ho, v, k, xs, h1, _⟩ := hwr s A hA
    exact .inr (.inr ⟨s, _, h1, trivial, ho, rfl⟩)

theorem cons1_eq {p : PV} {x : IV} {wr : List (Nat × Arr)} (h : (cons1 p).gives m (x, wr)) :
    (p = .i x ∧ x.flat = true ∧ wr = []) ∨ ∃ s v k xs off len, p = .ref s v off len ∧ m s = some (.arr v k xs) ∧ x = .lst ((xs.drop off).take len) ∧ wr = [(s, .dead (v + 1))] ∧ ownSite s = true := by
  cases p with
  | i y => simp only [cons1, Mm.gives_chk, Mm.gives_ret, Prod.mk.injEq] at h; obtain ⟨h1, rfl, rfl⟩ := h; exact .inl ⟨rfl, h1, rfl⟩
  | ref s ver off len =>
    simp only [cons1, Mm.gives_get] at h
    split at h
    · rename_i v k xs hA
      simp only [Mm.gives_chk, Bool.and_eq_true, beq_iff_eq, Mm.gives_ret, Prod.mk.injEq] at h
      obtain ⟨⟨rfl, ho⟩, rfl, rfl⟩ := h
      exact .inr ⟨s, v, k, xs, off, len, rfl, hA, rfl, rfl, ho⟩
    · simp [Mm.gives_fail] at h
  | _ => simp [cons1, Mm.gives_fail] at h

theorem consL_eq {cs : List PV} {xs : List IV} {wr : List (Nat × Arr)} (h : (consL cs).gives m (xs, wr)) :
    xs.length = cs.length ∧ (∀ s A, (s, A) ∈ wr → ownSite s = true ∧ ∃ v k ys, m s = some (.arr v k ys) ∧ A = .dead (v + 1)) ∧
      ∀ (j : Nat) (p : PV), cs[j]? = some p → ∃ x wj, xs[j]? = some x ∧ (cons1 p).gives m (x, wj) ∧ ∀ y, y ∈ wj → y ∈ wr := by
  simp only [consL, Mm.gives_bind, Mm.gives_ret, Prod.mk.injEq] at h
  obtain ⟨l, hl, rfl, rfl⟩ := h
  refine ⟨by simp [Mm.mapL_length hl], fun s A hA => ?_, fun j p hp => ?_⟩
  · simp only [List.mem_flatMap] at hA
    obtain ⟨⟨x, wj⟩, hx, hy⟩ := hA
    obtain ⟨j, hj⟩ := List.getElem?_of_mem hx
    obtain ⟨p, _, hg⟩ := Mm.mapL_get' hl j _ hj
    rcases cons1_eq hg with ⟨_, _, rfl⟩ | ⟨s', v, k, ys, off, len, _, h1, _, rfl, h2⟩
    · cases hy
    · simp only [List.mem_singleton, Prod.mk.injEq] at hy
      obtain ⟨rfl, rfl⟩ := hy
      exact ⟨h2, v, k, ys, h1, rfl⟩
  · obtain ⟨⟨x, wj⟩, hx, hg⟩ := Mm.mapL_get hl j p hp
    refine ⟨x, wj, by simp [hx], hg, fun y hy => ?_⟩
    simp only [List.mem_flatMap]
    exact ⟨(x, wj), List.mem_of_getElem? hx, hy⟩

/-- What is given up stands, as a list, behind it. -/
theorem cons1_rep (hi : Inv m γ F w) {p : PV} {x : IV} {wj wr : List (Nat × Arr)} {v : Value} (h : (cons1 p).gives m (x, wj)) (hsub : ∀ y, y ∈ wj → y ∈ wr) (hr : RepP m γ F w p v) :
    RepI (fun b => F b ∨ ∃ s A, (s, A) ∈ wr ∧ b = (γ s).g) w x v ∧ v.oneCell' = true := by
  rcases cons1_eq h with ⟨rfl, hf, rfl⟩ | ⟨s, ver, k, xs, off, len, rfl, hA, rfl, rfl, _⟩
  · cases hr with
    | i hr =>
      refine ⟨hr.mono (fun _ h => .inl h) (fun _ _ => rfl), ?_⟩
      cases hr <;> simp_all [IV.flat, Value.oneCell']
  · cases hr with
    | ref _ _ _ _ ao cap A h1 h2 h3 =>
      have := arr_eq h1 hA; subst this
      refine ⟨repI_of_arr (m := m) (γ := γ) (F1 := _) (.inr ⟨s, _, hsub _ (List.mem_singleton.2 rfl), rfl⟩)
        ((hi.holds s _ h1).step (MemStep.refl m γ) (fun _ h => .inl h) (fun _ _ => rfl) rfl) (h3 rfl), rfl⟩

end
end Go.Proofs.Ytnobgdgnncfcpaa.X
