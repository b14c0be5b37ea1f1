/- Blocks: plain law. -/
import Derived.Test.YtdjdgnabcecdlaaGreatDoorKAH
set_option linter.unusedVariables false
namespace Go.Proofs.YtdjdgnabcecdlaaGreatDoor.X
open Go
/-- Two edges with a node in common whose other nodes are connected without it. -/
def Near (es : List (Int × Int)) (e f : Int × Int) : Prop := ∃ v x y, ((e.1 = v ∧ e.2 = x) ∨ (e.2 = v ∧ e.1 = x)) ∧ ((f.1 = v ∧ f.2 = y) ∨ (f.2 = v ∧ f.1 = y)) ∧ x ≠ y ∧ Conn (alone v es) x y
noncomputable instance decNear (es : List (Int × Int)) (e f : Int × Int) : Decidable (Near es e f) := Classical.propDecidable _
theorem Near.symm {es : List (Int × Int)} {e f : Int × Int} : Near es e f → Near es f e := fun ⟨v, x, y, h1, h2, h3, h4⟩ => ⟨v, y, x, h2, h1, fun h => h3 h.symm, h4.symm⟩
abbrev eAt (es : List (Int × Int)) (i : Int) : Int × Int := es.getD i.toNat (0, 0)
/-- Places of edges that are near each other. -/
noncomputable def relL (es : List (Int × Int)) : List (Int × Int) := ((iota es.length).flatMap fun i => (iota i).map fun k => (k, i)).filter fun q => decide (Near es (eAt es q.1) (eAt es q.2))
theorem mem_relL {es : List (Int × Int)} {k i : Int} : (k, i) ∈ relL es ↔ 0 ≤ k ∧ k < i ∧ i < es.length ∧ Near es (eAt es k) (eAt es i) := by
  simp only [relL, List.mem_filter, List.mem_flatMap, List.mem_map, decide_eq_true_eq, Prod.mk.injEq, mem_iota]
  constructor
  · rintro ⟨⟨i', h1, k', h2, rfl, rfl⟩, h3⟩; exact ⟨by omega, by omega, by omega, h3⟩
  · rintro ⟨h1, h2, h3, h4⟩; exact ⟨⟨i, by omega, k, by omega, rfl, rfl⟩, h4⟩
theorem rel_ok {es : List (Int × Int)} : ∀ q ∈ relL es, okE es.length q := fun q hq => by
  have := mem_relL.1 (show (q.1, q.2) ∈ relL es from hq)
  exact ⟨this.1, this.2.1, this.2.2.1⟩
/-- For each edge the place of the first edge of its block. -/
noncomputable def blkL (es : List (Int × Int)) : List Int := lab es.length (relL es)
theorem blkL_length (es : List (Int × Int)) : (blkL es).length = es.length := by rw [blkL, lab_length]; omega
/-- Edges of one block. -/
def Blk (es : List (Int × Int)) (e f : Int × Int) : Prop := ∃ i k : Int, (0 ≤ i ∧ i < es.length) ∧ (0 ≤ k ∧ k < es.length) ∧ eAt es i = e ∧ eAt es k = f ∧ Conn (relL es) i k
theorem eAt_inj {es : List (Int × Int)} (hn : es.Nodup) {i k : Int} (hi : 0 ≤ i ∧ i < es.length) (hk : 0 ≤ k ∧ k < es.length) (h : eAt es i = eAt es k) : i = k := by
  have h1 : i.toNat < es.length := by omega
  have h2 : k.toNat < es.length := by omega
  simp only [eAt, List.getD, List.getElem?_eq_getElem h1, List.getElem?_eq_getElem h2, Option.getD_some] at h
  have := (List.getElem_inj hn).1 h
  omega
theorem eAt_mem {es : List (Int × Int)} {i : Int} (hi : 0 ≤ i ∧ i < es.length) : eAt es i ∈ es := getD_mem (by omega)
theorem eAt_of {es : List (Int × Int)} {e : Int × Int} (h : e ∈ es) : ∃ i : Int, (0 ≤ i ∧ i < es.length) ∧ eAt es i = e := by
  obtain ⟨i, hi, he⟩ := List.mem_iff_getElem.1 h
  exact ⟨i, by omega, by simp [eAt, hi, he]⟩
section
variable {n : Int} {es : List (Int × Int)}
theorem Blk.refl {e : Int × Int} (h : e ∈ es) : Blk es e e := by
  obtain ⟨i, hi, he⟩ := eAt_of h
  exact ⟨i, i, hi, hi, he, he, .refl i⟩
theorem Blk.symm {e f : Int × Int} : Blk es e f → Blk es f e := fun ⟨i, k, h1, h2, h3, h4, h5⟩ => ⟨k, i, h2, h1, h4, h3, h5.symm⟩
theorem Blk.trans (hn : es.Nodup) {e f g : Int × Int} : Blk es e f → Blk es f g → Blk es e g := fun ⟨i, k, h1, h2, h3, h4, h5⟩ ⟨i', k', g1, g2, g3, g4, g5⟩ => by
  have := eAt_inj hn h2 g1 (h4.trans g3.symm)
  subst this
  exact ⟨i, k', h1, g2, h3, g4, h5.trans g5⟩
theorem Blk.near {e f : Int × Int} (he : e ∈ es) (hf : f ∈ es) (h : Near es e f) : Blk es e f := by
  obtain ⟨i, hi, rfl⟩ := eAt_of he
  obtain ⟨k, hk, rfl⟩ := eAt_of hf
  refine ⟨i, k, hi, hk, rfl, rfl, ?_⟩
  by_cases h1 : i < k
  · exact .of (.inl (mem_relL.2 ⟨hi.1, h1, hk.2, h⟩))
  · by_cases h2 : k < i
    · exact .of (.inr (mem_relL.2 ⟨hk.1, h2, hi.2, h.symm⟩))
    · have : i = k := by omega
      subst this; exact .refl i
theorem Blk.mem {e f : Int × Int} : Blk es e f → e ∈ es ∧ f ∈ es := fun ⟨i, k, h1, h2, h3, h4, _⟩ => ⟨h3 ▸ eAt_mem h1, h4 ▸ eAt_mem h2⟩
/-- A node of an edge. -/
def On (v : Int) (e : Int × Int) : Prop := e.1 = v ∨ e.2 = v
instance (v : Int) (e : Int × Int) : Decidable (On v e) := by unfold On; infer_instance
theorem On.conn {e : Int × Int} (he : e ∈ es) {v a b : Int} (ha : On a e) (hb : On b e) (hav : a ≠ v) (hbv : b ≠ v) : Conn (alone v es) a b := by
  by_cases hab : a = b
  · subst hab; exact .refl a
  · have hm : ∀ x y, e.1 = x → e.2 = y → x ≠ v → y ≠ v → e ∈ alone v es := fun x y h1 h2 h3 h4 => by
      unfold alone
      rw [List.mem_filter]
      refine ⟨he, decide_eq_true ⟨?_, ?_⟩⟩ <;> simp_all
    rcases ha with ha | ha <;> rcases hb with hb | hb
    · exact absurd (ha.symm.trans hb) hab
    · exact .of (.inl (by rw [← ha, ← hb]; exact hm a b ha hb hav hbv))
    · exact .of (.inr (by rw [← ha, ← hb]; exact hm b a hb ha hbv hav))
    · exact absurd (ha.symm.trans hb) hab
theorem On.other (ho : ∀ e ∈ es, okE n e) {e : Int × Int} (he : e ∈ es) (v : Int) : ∃ a, On a e ∧ a ≠ v := by
  have := ho e he
  unfold okE at this
  by_cases h : e.1 = v
  · exact ⟨e.2, .inr rfl, by omega⟩
  · exact ⟨e.1, .inl rfl, h⟩
theorem On.ends {e : Int × Int} {v : Int} (h : On v e) : ∃ x, (e.1 = v ∧ e.2 = x) ∨ (e.2 = v ∧ e.1 = x) := h.elim (fun h => ⟨e.2, .inl ⟨h, rfl⟩⟩) fun h => ⟨e.1, .inr ⟨h, rfl⟩⟩
theorem On.adj {e : Int × Int} (he : e ∈ es) {v x : Int} (h : (e.1 = v ∧ e.2 = x) ∨ (e.2 = v ∧ e.1 = x)) : Adj es v x := by
  rcases h with ⟨rfl, rfl⟩ | ⟨rfl, rfl⟩
  · exact .inl he
  · exact .inr he
end
theorem getD_map {l : List Int} {f : Int → Int} {i : Nat} (h : i < l.length) : (l.map f).getD i 0 = f (l.getD i 0) := by
  simp [h]
/-- Two labels made one. -/
def joinL (out : List Int) (a b : Int) : List Int := out.map fun x => if x = max (out.getD a.toNat 0) (out.getD b.toNat 0) then min (out.getD a.toNat 0) (out.getD b.toNat 0) else x
theorem joinL_lab {m a b : Int} {fs : List (Int × Int)} (ho : ∀ q ∈ fs, okE m q) (hab : okE m (a, b)) : joinL (lab m fs) a b = lab m ((a, b) :: fs) := by
  have hab' := hab
  unfold okE at hab'
  simp only at hab'
  have hla : (lab m fs).getD a.toNat 0 = (least fs a.toNat : Nat) := lab_get (by omega)
  have hlb : (lab m fs).getD b.toNat 0 = (least fs b.toNat : Nat) := lab_get (by omega)
  have ea : ((a.toNat : Nat) : Int) = a := by omega
  have eb : ((b.toNat : Nat) : Int) = b := by omega
  obtain ⟨-, ca, -⟩ := least_spec fs a.toNat
  obtain ⟨-, cb, -⟩ := least_spec fs b.toNat
  rw [ea] at ca
  rw [eb] at cb
  have hmono : ∀ {x y : Int}, Conn fs x y → Conn ((a, b) :: fs) x y := fun h => h.mono fun q hq => List.mem_cons_of_mem _ hq
  have hedge : Conn ((a, b) :: fs) a b := Conn.edge (e := (a, b)) (by simp)
  have hlen := lab_length m fs
  unfold joinL
  rw [hla, hlb]
  refine lab_of (es := (a, b) :: fs) (fun q hq => ?_) ⟨by simp [lab_length], fun x hx => ?_⟩ fun e he => ?_
  · rcases List.mem_cons.1 hq with rfl | hq
    · exact hab
    · exact ho q hq
  · rw [getD_map (by omega), lab_get hx]
    obtain ⟨lx, cx, -⟩ := least_spec fs x
    split
    · rename_i h
      have hall : Conn ((a, b) :: fs) (least fs a.toNat : Nat) (x : Nat) ∧ Conn ((a, b) :: fs) (least fs b.toNat : Nat) (x : Nat) := by
        have h1 : Conn ((a, b) :: fs) (least fs a.toNat : Nat) (least fs b.toNat : Nat) := (hmono ca).trans (hedge.trans (hmono cb).symm)
        by_cases hle : least fs a.toNat ≤ least fs b.toNat
        · have e : least fs x = least fs b.toNat := by omega
          have h2 := hmono cx
          rw [e] at h2
          exact ⟨h1.trans h2, h2⟩
        · have e : least fs x = least fs a.toNat := by omega
          have h2 := hmono cx
          rw [e] at h2
          exact ⟨h2, h1.symm.trans h2⟩
      by_cases hle : least fs a.toNat ≤ least fs b.toNat
      · exact ⟨least fs a.toNat, by omega, by omega, hall.1⟩
      · exact ⟨least fs b.toNat, by omega, by omega, hall.2⟩
    · exact ⟨least fs x, rfl, lx, hmono cx⟩
  · rcases List.mem_cons.1 he with rfl | he
    · simp only
      rw [getD_map (by omega), getD_map (by omega), hla, hlb]
      split <;> split <;> omega
    · have ho1 := ho e he
      unfold okE at ho1
      have h1 : (lab m fs).getD e.1.toNat 0 = (lab m fs).getD e.2.toNat 0 := (lab_iff (n := m) ⟨by omega, by omega⟩ ⟨by omega, by omega⟩).2 (Conn.edge he)
      rw [getD_map (by omega), getD_map (by omega), h1]
def comV (e f : Int × Int) : Option (Int × Int × Int) :=
  if e.1 = f.1 then some (e.1, e.2, f.2) else if e.1 = f.2 then some (e.1, e.2, f.1) else if e.2 = f.1 then some (e.2, e.1, f.2) else if e.2 = f.2 then some (e.2, e.1, f.1) else none
theorem com_some {n : Int} {es : List (Int × Int)} {e f : Int × Int} {v x y : Int} (he : okE n e) (hf : okE n f) (hne : e ≠ f) (h : comV e f = some (v, x, y)) :
    (0 ≤ v ∧ v < n) ∧ (0 ≤ x ∧ x < n) ∧ (0 ≤ y ∧ y < n) ∧ (Near es e f ↔ Conn (alone v es) x y) := by
  have hne' : ¬ (e.1 = f.1 ∧ e.2 = f.2) := fun k => hne (Prod.ext k.1 k.2)
  unfold okE at he hf
  have key : ((e.1 = v ∧ e.2 = x) ∨ (e.2 = v ∧ e.1 = x)) ∧ ((f.1 = v ∧ f.2 = y) ∨ (f.2 = v ∧ f.1 = y)) ∧ x ≠ y := by
    unfold comV at h
    split at h
    · simp only [Option.some.injEq, Prod.mk.injEq] at h; omega
    · split at h
      · simp only [Option.some.injEq, Prod.mk.injEq] at h; omega
      · split at h
        · simp only [Option.some.injEq, Prod.mk.injEq] at h; omega
        · split at h
          · simp only [Option.some.injEq, Prod.mk.injEq] at h; omega
          · cases h
  obtain ⟨k1, k2, k3⟩ := key
  refine ⟨by omega, by omega, by omega, fun ⟨v', x', y', h1, h2, h3, h4⟩ => ?_, fun hc => ⟨v, x, y, k1, k2, k3, hc⟩⟩
  have e1 : v' = v ∧ x' = x ∧ y' = y := by omega
  obtain ⟨rfl, rfl, rfl⟩ := e1
  exact h4
theorem com_none {es : List (Int × Int)} {e f : Int × Int} (h : comV e f = none) : ¬ Near es e f := by
  rintro ⟨v, x, y, h1, h2, h3, h4⟩
  unfold comV at h
  split at h
  · cases h
  · split at h
    · cases h
    · split at h
      · cases h
      · split at h
        · cases h
        · omega
noncomputable def relK (es : List (Int × Int)) (i k : Int) : List (Int × Int) := (relL es).filter fun q => decide (q.2 < i ∨ (q.2 = i ∧ q.1 < k))
theorem mem_relK {es : List (Int × Int)} {i k : Int} {q : Int × Int} : q ∈ relK es i k ↔ q ∈ relL es ∧ (q.2 < i ∨ (q.2 = i ∧ q.1 < k)) := by
  unfold relK
  rw [List.mem_filter, decide_eq_true_eq]
theorem relK_ok {es : List (Int × Int)} {i k : Int} : ∀ q ∈ relK es i k, okE es.length q := fun q hq => rel_ok q (mem_relK.1 hq).1
theorem relK_zero (es : List (Int × Int)) : lab es.length (relK es 0 0) = iota es.length := by
  have h : relK es 0 0 = [] := by
    refine List.eq_nil_iff_forall_not_mem.2 fun q hq => ?_
    have h1 := mem_relK.1 hq
    have h2 := rel_ok q h1.1
    unfold okE at h2
    omega
  rw [h]
  exact (lab_of (es := []) (by simp) (iota_snd _ _) (by simp)).symm
theorem relK_next (es : List (Int × Int)) (i : Int) : relK es i i = relK es (i + 1) 0 := by
  unfold relK
  refine List.filter_congr fun q hq => ?_
  have h2 := rel_ok q hq
  unfold okE at h2
  rw [decide_eq_decide]
  omega
theorem relK_all (es : List (Int × Int)) : relK es es.length 0 = relL es := by
  unfold relK
  refine List.filter_eq_self.2 fun q hq => ?_
  have h2 := rel_ok q hq
  unfold okE at h2
  rw [decide_eq_true_eq]
  omega
theorem lab_step {es : List (Int × Int)} {i k : Int} (h0 : 0 ≤ k) (h1 : k < i) (h2 : i < es.length) :
    lab es.length (relK es i (k + 1)) = if Near es (eAt es i) (eAt es k) ∧ (lab es.length (relK es i k)).getD i.toNat 0 ≠ (lab es.length (relK es i k)).getD k.toNat 0 then joinL (lab es.length (relK es i k)) k i else lab es.length (relK es i k) := by
  by_cases hN : Near es (eAt es i) (eAt es k)
  · have hm : (k, i) ∈ relL es := mem_relL.2 ⟨h0, h1, h2, hN.symm⟩
    have hc : ∀ x y : Int, Conn (relK es i (k + 1)) x y ↔ Conn ((k, i) :: relK es i k) x y := fun x y => by
      constructor
      · refine fun h => h.mono fun q hq => ?_
        have hq' := mem_relK.1 hq
        by_cases he : q = (k, i)
        · rw [he]; simp
        · refine List.mem_cons_of_mem _ (mem_relK.2 ⟨hq'.1, ?_⟩)
          have : ¬ (q.1 = k ∧ q.2 = i) := fun h => he (Prod.ext h.1 h.2)
          have := hq'.2
          omega
      · refine fun h => h.mono fun q hq => ?_
        rcases List.mem_cons.1 hq with rfl | hq
        · exact mem_relK.2 ⟨hm, .inr ⟨rfl, by show k < k + 1; omega⟩⟩
        · have hq' := mem_relK.1 hq
          exact mem_relK.2 ⟨hq'.1, hq'.2.imp id fun h => ⟨h.1, by omega⟩⟩
    rw [lab_congr hc]
    by_cases hl : (lab es.length (relK es i k)).getD i.toNat 0 = (lab es.length (relK es i k)).getD k.toNat 0
    · rw [if_neg (fun h => h.2 hl)]
      have hck : Conn (relK es i k) k i := ((lab_iff (n := es.length) ⟨by omega, by omega⟩ ⟨by omega, by omega⟩).1 hl).symm
      refine lab_congr fun x y => ⟨fun h => h.via fun e he => ?_, fun h => h.mono fun q hq => List.mem_cons_of_mem _ hq⟩
      rcases List.mem_cons.1 he with rfl | he
      · exact hck
      · exact Conn.edge he
    · rw [if_pos ⟨hN, hl⟩]
      exact (joinL_lab relK_ok ⟨h0, h1, h2⟩).symm
  · rw [if_neg (fun h => hN h.1)]
    congr 1
    unfold relK
    refine List.filter_congr fun q hq => ?_
    have hne : ¬ (q.1 = k ∧ q.2 = i) := fun h => hN (by
      have h3 := mem_relL.1 (show (q.1, q.2) ∈ relL es from hq)
      rw [h.1, h.2] at h3
      exact h3.2.2.2.symm)
    rw [decide_eq_decide]
    omega
theorem map_step {out : List Int} {f : Int → Int} {j : Int} (h0 : 0 ≤ j) (h1 : j < out.length) : ((out.take j.toNat).map f ++ out.drop j.toNat).getD j.toNat 0 = out.getD j.toNat 0 ∧
    ((out.take j.toNat).map f ++ out.drop j.toNat).set j.toNat (f (out.getD j.toNat 0)) = (out.take (j + 1).toNat).map f ++ out.drop (j + 1).toNat := by
  have hj : j.toNat < out.length := by omega
  have hl : ((out.take j.toNat).map f).length = j.toNat := by simp; omega
  have hd : out.drop j.toNat = out.getD j.toNat 0 :: out.drop (j.toNat + 1) := by
    rw [List.drop_eq_getElem_cons hj]
    simp [hj]
  constructor
  · rw [hd]
    simp only [List.getD]
    rw [List.getElem?_append_right (by omega), hl]
    simp
  · rw [take_int 0 h0 h1, hd, List.map_append, show (j + 1).toNat = j.toNat + 1 by omega, List.set_append_right _ _ (by omega), hl]
    simp
end Go.Proofs.YtdjdgnabcecdlaaGreatDoor.X
