/- What the abstract values stand for in memory, and how that is kept from step to step. -/
import Derived.Test.YtnobgdgnncfcpaaExec
namespace Go.Proofs.Ytnobgdgnncfcpaa.X
open Go

theorem upd_same {α : Type} (f : Nat → α) (i : Nat) (v : α) : upd f i v i = v := by simp [upd]
theorem upd_ne {α : Type} (f : Nat → α) {i j : Nat} (v : α) (h : j ≠ i) : upd f i v j = f j := by simp [upd, h]

structure GB where
  g : Nat
  b : Nat
  cap : Nat

inductive RepI (F : Nat → Prop) (w : World) : IV → Value → Prop
  | v (x : Value) : RepI F w (.v x) x
  | emp (ao : Option Addr) : RepI F w .emp (.slice ao 0 0)
  | lst (xs : List (List IV)) (ao : Option Addr) (cap k : Nat) (c : Nat → Nat → Value) (h1 : xs.length ≤ cap) (h2 : cap ≤ maxLen)
      (h3 : ∀ (i : Nat) (e : List IV), xs[i]? = some e → e.length = k)
      (h4 : ∀ (i : Nat) (e : List IV), xs[i]? = some e → ∃ a : Addr, ao = some a ∧ a.spot = none ∧ F a.block ∧ ∀ (j : Nat) (p : IV), e[j]? = some p → w.cell? ⟨a.block, a.off + (i * k + j), none⟩ = some (c i j))
      (h5 : ∀ (i : Nat) (e : List IV) (j : Nat) (p : IV), xs[i]? = some e → e[j]? = some p → RepI F w p (c i j))
      (h6 : ∀ (i : Nat) (e : List IV) (j : Nat) (p : IV), xs[i]? = some e → e[j]? = some p → (c i j).oneCell' = true) :
      RepI F w (.lst xs) (.slice ao xs.length cap)
  | eptr (e : List IV) (off g o : Nat) (c : Nat → Value) (h1 : F g) (h2 : ∀ (j : Nat) (p : IV), e[j]? = some p → w.cell? ⟨g, o + j, none⟩ = some (c j))
      (h3 : ∀ (j : Nat) (p : IV), e[j]? = some p → RepI F w p (c j)) (h4 : ∀ (j : Nat) (p : IV), e[j]? = some p → (c j).oneCell' = true) : RepI F w (.eptr e off) (.pointer (some ⟨g, o + off, none⟩))
  | fn (f : FuncId) (a b : List IV) (ca cb : List Value) (h1 : a.length = ca.length) (h2 : b.length = cb.length)
      (h3 : ∀ (j : Nat) (p : IV) (v : Value), a[j]? = some p → ca[j]? = some v → RepI F w p v) (h4 : ∀ (j : Nat) (p : IV) (v : Value), b[j]? = some p → cb[j]? = some v → RepI F w p v) :
      RepI F w (.fn f a b) (.func (.func f) ca.toArray cb.toArray)

/-- The memory that is looked at stays. -/
def Agree (F : Nat → Prop) (w w' : World) : Prop := ∀ b, F b → w'.heap[b]? = w.heap[b]?

theorem RepI.mono {F F' : Nat → Prop} {w w' : World} (hF : ∀ b, F b → F' b) (hw : Agree F w w') {p : IV} {v : Value} (h : RepI F w p v) : RepI F' w' p v := by
  induction h with
  | v x => exact .v x
  | emp ao => exact .emp ao
  | lst xs ao cap k c h1 h2 h3 h4 h5 h6 ih =>
    refine .lst xs ao cap k c h1 h2 h3 (fun i e he => ?_) ih h6
    obtain ⟨a, ha, hs, hb, hc⟩ := h4 i e he
    exact ⟨a, ha, hs, hF _ hb, fun j p hp => (World.cell?_of_block (a := ⟨a.block, a.off + (i * k + j), none⟩) (hw a.block hb)).trans (hc j p hp)⟩
  | eptr e off g o c h1 h2 h3 h4 ih =>
    exact .eptr e off g o c (hF _ h1) (fun j p hp => (World.cell?_of_block (a := ⟨g, o + j, none⟩) (hw g h1)).trans (h2 j p hp)) ih h4
  | fn f a b ca cb h1 h2 h3 h4 ih3 ih4 => exact .fn f a b ca cb h1 h2 ih3 ih4

def Arr.live : Arr → Prop
  | .dead _ => False
  | _ => True

/-- Where a place of a current site lies. -/
def placeOf (G : GB) (i off : Nat) : Arr → Addr → Prop
  | .arr _ k xs, a => i < xs.length ∧ a = ⟨G.g, (G.b + i) * k + off, none⟩
  | .box _ _, a => i = 0 ∧ a = ⟨G.g, off, none⟩
  | .dead _, _ => False
def sliceOf (G : GB) (off len cap : Nat) (ao : Option Addr) : Arr → Prop
  | .arr _ k xs => off + len ≤ xs.length ∧ off ≤ G.cap ∧ cap = G.cap - off ∧ (off < G.cap → ao = some ⟨G.g, (G.b + off) * k, none⟩)
  | _ => False

inductive RepP (m : Mem) (γ : Nat → GB) (F : Nat → Prop) (w : World) : PV → Value → Prop
  | i {x : IV} {v : Value} (h : RepI F w x v) : RepP m γ F w (.i x) v
  | ref (s ver off len : Nat) (ao : Option Addr) (cap : Nat) (A : Arr) (h1 : m s = some A) (h2 : ver ≤ A.ver) (h3 : ver = A.ver → sliceOf (γ s) off len cap ao A) :
      RepP m γ F w (.ref s ver off len) (.slice ao len cap)
  | ptr (s ver i off : Nat) (a : Addr) (A : Arr) (h1 : m s = some A) (h2 : ver ≤ A.ver) (h3 : ver = A.ver → placeOf (γ s) i off A a) :
      RepP m γ F w (.ptr s ver i off) (.pointer (some a))
  | agg (cs : List PV) (c : List Value) (h1 : cs.length = c.length) (h2 : ∀ (j : Nat) (p : PV) (v : Value), cs[j]? = some p → c[j]? = some v → RepP m γ F w p v) :
      RepP m γ F w (.agg cs) (.agg c.toArray)
  | tup (cs : List PV) (c : List Value) (h1 : cs.length = c.length) (h2 : ∀ (j : Nat) (p : PV) (v : Value), cs[j]? = some p → c[j]? = some v → RepP m γ F w p v) :
      RepP m γ F w (.tup cs) (.tuple c.toArray)
  | fn (f : FuncId) (a b : List PV) (ca cb : List Value) (h1 : a.length = ca.length) (h2 : b.length = cb.length)
      (h3 : ∀ (j : Nat) (p : PV) (v : Value), a[j]? = some p → ca[j]? = some v → RepP m γ F w p v) (h4 : ∀ (j : Nat) (p : PV) (v : Value), b[j]? = some p → cb[j]? = some v → RepP m γ F w p v) :
      RepP m γ F w (.fn f a b) (.func (.func f) ca.toArray cb.toArray)
  | bad (v : Value) : RepP m γ F w .bad v

/-- Two arrays of one make. -/
def Arr.like : Arr → Arr → Prop
  | .arr _ k xs, .arr _ k' xs' => k = k' ∧ xs.length = xs'.length
  | .box _ _, .box _ _ => True
  | .dead _, .dead _ => True
  | _, _ => False

theorem Arr.like_refl (A : Arr) : A.like A := by cases A <;> simp [Arr.like]

theorem sliceOf_like {G : GB} {off len cap : Nat} {ao : Option Addr} {A A' : Arr} (h : A.like A') (hs : sliceOf G off len cap ao A) : sliceOf G off len cap ao A' := by
  cases A <;> cases A' <;> simp only [Arr.like, sliceOf] at h hs ⊢
  obtain ⟨rfl, hl⟩ := h
  rw [← hl]; exact hs
theorem placeOf_like {G : GB} {i off : Nat} {a : Addr} {A A' : Arr} (h : A.like A') (hs : placeOf G i off A a) : placeOf G i off A' a := by
  cases A <;> cases A' <;> simp only [Arr.like, placeOf] at h hs ⊢
  · obtain ⟨rfl, hl⟩ := h
    rw [← hl]; exact hs
  · exact hs

/-- Sites go on: what has not changed its version is of one make and in its place. -/
def MemStep (m : Mem) (γ : Nat → GB) (m' : Mem) (γ' : Nat → GB) : Prop :=
  ∀ s A, m s = some A → ∃ A', m' s = some A' ∧ A.ver ≤ A'.ver ∧ (A.ver = A'.ver → A.like A' ∧ γ' s = γ s)

theorem MemStep.refl (m : Mem) (γ : Nat → GB) : MemStep m γ m γ := fun _ A h => ⟨A, h, Nat.le_refl _, fun _ => ⟨A.like_refl, rfl⟩⟩
theorem Arr.like_trans {A B C : Arr} (h : A.like B) (k : B.like C) : A.like C := by
  cases A <;> cases B <;> cases C <;> simp_all [Arr.like]
theorem MemStep.trans {m m1 m2 : Mem} {γ γ1 γ2 : Nat → GB} (h : MemStep m γ m1 γ1) (k : MemStep m1 γ1 m2 γ2) : MemStep m γ m2 γ2 := by
  intro s A hA
  obtain ⟨A1, h1, l1, e1⟩ := h s A hA
  obtain ⟨A2, h2, l2, e2⟩ := k s A1 h1
  refine ⟨A2, h2, Nat.le_trans l1 l2, fun e => ?_⟩
  obtain ⟨x1, y1⟩ := e1 (by omega)
  obtain ⟨x2, y2⟩ := e2 (by omega)
  exact ⟨Arr.like_trans x1 x2, y2.trans y1⟩

theorem RepP.step {m m' : Mem} {γ γ' : Nat → GB} {F F' : Nat → Prop} {w w' : World} (hm : MemStep m γ m' γ') (hF : ∀ b, F b → F' b) (hw : Agree F w w')
    {p : PV} {v : Value} (h : RepP m γ F w p v) : RepP m' γ' F' w' p v := by
  induction h with
  | i h => exact .i (h.mono hF hw)
  | ref s ver off len ao cap A h1 h2 h3 =>
    obtain ⟨A', hA', hl, he⟩ := hm s A h1
    refine .ref s ver off len ao cap A' hA' (Nat.le_trans h2 hl) fun e => ?_
    obtain ⟨hk, hg⟩ := he (by omega)
    rw [hg]
    exact sliceOf_like hk (h3 (by omega))
  | ptr s ver i off a A h1 h2 h3 =>
    obtain ⟨A', hA', hl, he⟩ := hm s A h1
    refine .ptr s ver i off a A' hA' (Nat.le_trans h2 hl) fun e => ?_
    obtain ⟨hk, hg⟩ := he (by omega)
    rw [hg]
    exact placeOf_like hk (h3 (by omega))
  | agg cs c h1 h2 ih => exact .agg cs c h1 ih
  | tup cs c h1 h2 ih => exact .tup cs c h1 ih
  | fn f a b ca cb h1 h2 h3 h4 ih3 ih4 => exact .fn f a b ca cb h1 h2 ih3 ih4
  | bad v => exact .bad v

/-- A site's cells. -/
def Holds (m : Mem) (γ : Nat → GB) (F : Nat → Prop) (w : World) (G : GB) : Arr → Prop
  | .arr _ k xs => ∃ cur E, w.heap[G.g]? = some (.cells cur E (0, 0)) ∧ cur.size = (G.b + G.cap) * k ∧ xs.length ≤ G.cap ∧ G.b + G.cap ≤ maxLen ∧
      ∀ (i : Nat) (e : List IV), xs[i]? = some e → e.length = k ∧ ∀ (j : Nat) (p : IV), e[j]? = some p → ∃ x : Value, cur[(G.b + i) * k + j]? = some x ∧ x.oneCell' = true ∧ RepI F w p x
  | .box _ cs => ∃ cur E, w.heap[G.g]? = some (.cells cur E (0, 0)) ∧ cur.size = cs.length ∧
      ∀ (j : Nat) (p : PV), cs[j]? = some p → ∃ x : Value, cur[j]? = some x ∧ x.oneCell' = true ∧ RepP m γ F w p x
  | .dead _ => True

structure Inv (m : Mem) (γ : Nat → GB) (F : Nat → Prop) (w : World) : Prop where
  holds : ∀ s A, m s = some A → Holds m γ F w (γ s) A
  notF : ∀ s A, m s = some A → A.live → ¬ F (γ s).g
  dist : ∀ s s' A A', m s = some A → m s' = some A' → A.live → A'.live → (γ s).g = (γ s').g → s = s'
  bound : ∀ b, F b → b < w.heap.size

theorem Holds.lt {m : Mem} {γ : Nat → GB} {F : Nat → Prop} {w : World} {G : GB} {A : Arr} (h : Holds m γ F w G A) (hl : A.live) : G.g < w.heap.size := by
  cases A with
  | arr v k xs => obtain ⟨cur, E, hh, _⟩ := h; exact (Array.getElem?_eq_some_iff.1 hh).1
  | box v cs => obtain ⟨cur, E, hh, _⟩ := h; exact (Array.getElem?_eq_some_iff.1 hh).1
  | dead v => exact hl.elim

theorem Holds.step {m m' : Mem} {γ γ' : Nat → GB} {F F' : Nat → Prop} {w w' : World} (hm : MemStep m γ m' γ') (hF : ∀ b, F b → F' b) (hw : Agree F w w')
    {G : GB} {A : Arr} (hb : w'.heap[G.g]? = w.heap[G.g]?) (h : Holds m γ F w G A) : Holds m' γ' F' w' G A := by
  cases A with
  | arr v k xs =>
    obtain ⟨cur, E, hh, h1, h2, h3, h4⟩ := h
    refine ⟨cur, E, hb.trans hh, h1, h2, h3, fun i e he => ⟨(h4 i e he).1, fun j p hp => ?_⟩⟩
    obtain ⟨x, hx, ho, hr⟩ := (h4 i e he).2 j p hp
    exact ⟨x, hx, ho, hr.mono hF hw⟩
  | box v cs =>
    obtain ⟨cur, E, hh, h1, h2⟩ := h
    refine ⟨cur, E, hb.trans hh, h1, fun j p hp => ?_⟩
    obtain ⟨x, hx, ho, hr⟩ := h2 j p hp
    exact ⟨x, hx, ho, hr.step hm hF hw⟩
  | dead v => trivial

/-- What a step may turn: the sites' own blocks, and new ones. -/
structure Stp (m : Mem) (γ : Nat → GB) (w : World) (m' : Mem) (γ' : Nat → GB) (w' : World) : Prop where
  os : w'.os = w.os
  tape : w'.tape = w.tape
  output : w'.output = w.output
  size : w.heap.size ≤ w'.heap.size
  frame : ∀ b, b < w.heap.size → (∀ s A, m s = some A → A.live → (γ s).g ≠ b) → w'.heap[b]? = w.heap[b]?
  blocks : ∀ s A, m' s = some A → A.live → (∃ A0, m s = some A0 ∧ A0.live ∧ (γ s).g = (γ' s).g) ∨ w.heap.size ≤ (γ' s).g

theorem Stp.refl (m : Mem) (γ : Nat → GB) (w : World) : Stp m γ w m γ w :=
  ⟨rfl, rfl, rfl, Nat.le_refl _, fun _ _ _ => rfl, fun s A h hl => .inl ⟨A, h, hl, rfl⟩⟩
theorem Stp.trans {m m1 m2 : Mem} {γ γ1 γ2 : Nat → GB} {w w1 w2 : World} (h : Stp m γ w m1 γ1 w1) (k : Stp m1 γ1 w1 m2 γ2 w2) : Stp m γ w m2 γ2 w2 := by
  refine ⟨k.os.trans h.os, k.tape.trans h.tape, k.output.trans h.output, Nat.le_trans h.size k.size, fun b hb hn => ?_, fun s A hA hl => ?_⟩
  · refine (k.frame b (by have := h.size; omega) fun s A hA hl e => ?_).trans (h.frame b hb hn)
    rcases h.blocks s A hA hl with ⟨A0, h0, l0, e0⟩ | h0
    · exact hn s A0 h0 l0 (e0.trans e)
    · omega
  · rcases k.blocks s A hA hl with ⟨A0, h0, l0, e0⟩ | h0
    · rcases h.blocks s A0 h0 l0 with ⟨A1, h1, l1, e1⟩ | h1
      · exact .inl ⟨A1, h1, l1, e1.trans e0⟩
      · exact .inr (by omega)
    · exact .inr (by have := h.size; omega)
theorem Stp.drew {m m' : Mem} {γ γ' : Nat → GB} {w w' : World} (h : Stp m γ w m' γ' w') : Stp m γ w m' γ' w'.drew := ⟨h.os, h.tape, h.output, h.size, h.frame, h.blocks⟩

/-- What may be looked at grows: by new blocks, and by blocks of sites of the function's own. -/
structure FStep (m : Mem) (γ : Nat → GB) (F : Nat → Prop) (w : World) (F' : Nat → Prop) : Prop where
  sub : ∀ b, F b → F' b
  grow : ∀ b, F' b → F b ∨ w.heap.size ≤ b ∨ ∃ s A, m s = some A ∧ A.live ∧ ownSite s = true ∧ b = (γ s).g
theorem FStep.refl (m : Mem) (γ : Nat → GB) (F : Nat → Prop) (w : World) : FStep m γ F w F := ⟨fun _ h => h, fun _ h => .inl h⟩
theorem FStep.trans {m m1 : Mem} {γ γ1 : Nat → GB} {F F1 F2 : Nat → Prop} {w w1 : World} (hs : Stp m γ w m1 γ1 w1) (h : FStep m γ F w F1) (k : FStep m1 γ1 F1 w1 F2) : FStep m γ F w F2 := by
  refine ⟨fun b hb => k.sub b (h.sub b hb), fun b hb => ?_⟩
  rcases k.grow b hb with h1 | h1 | ⟨s, A, hA, hl, ho, rfl⟩
  · exact h.grow b h1
  · exact .inr (.inl (Nat.le_trans hs.size h1))
  · rcases hs.blocks s A hA hl with ⟨A0, h0, l0, e0⟩ | h0
    · exact .inr (.inr ⟨s, A0, h0, l0, ho, e0.symm⟩)
    · exact .inr (.inl h0)

/-- Blocks that may be looked at are not turned. -/
theorem Inv.agree {m m' : Mem} {γ γ' : Nat → GB} {F : Nat → Prop} {w w' : World} (hi : Inv m γ F w) (h : Stp m γ w m' γ' w') : Agree F w w' :=
  fun b hb => h.frame b (hi.bound b hb) fun s A hA hl e => hi.notF s A hA hl (e ▸ hb)

/-- The whole state. -/
structure Good (ρ : Nat → PV) (m : Mem) (γ : Nat → GB) (F : Nat → Prop) (tm : Nat → Value) (w : World) : Prop where
  inv : Inv m γ F w
  slots : ∀ t, RepP m γ F w (ρ t) (tm t)

end Go.Proofs.Ytnobgdgnncfcpaa.X
