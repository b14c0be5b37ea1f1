/- What functions answer, and the plain laws behind it. -/
import Derived.Test.YtdlfdoicheakoaaGreatKAF
import Derived.Test.YtdlfdoicheakoaaGreatKAE
/- What functions compute: distances as the reference has them; paths. -/
set_option linter.unusedSimpArgs false
set_option linter.unusedVariables false
set_option maxHeartbeats 2000000
namespace Go.Proofs.YtdlfdoicheakoaaGreat.X
open Go Go.Proofs
theorem gpath_head (es : List (Int × Int)) (far : List Int) (k : Nat) (x : Int) : gpath es far k x = [x] ++ (gpath es far k x).tail := by
  cases k <;> rfl
theorem dst_le {n : Int} {es : List (Int × Int)} {t x : Int} (ho : ∀ e ∈ es, okE n e) (hn : 0 ≤ n) : dst n es t x ≤ n := by
  by_cases hc : Conn es t x
  · have ho' : ∀ e ∈ es, okE ((n.toNat : Nat) : Int) e := fun e he => by have := ho e he; unfold okE at this ⊢; omega
    have := (dst_spec ho hc).2.2 _ (Rk.all ho' hc)
    omega
  · unfold dst; rw [if_neg hc]; omega
@[go_sem] theorem c_PathBetween (n x y : Int) (es : List (Int × Int)) (hl : es.length ≤ 1048576) : KP 30 [GL n es, I x, I y] [] =
    some (if VG n es ∧ 0 ≤ x ∧ x < n ∧ 0 ≤ y ∧ y < n ∧ Conn es x y then (.tup [.ref 2000 0 0 (pathL n es x y).length, B true], [], [.arr 0 1 ((pathL n es x y).map encI)]) else (.tup [.i .emp, B false], [], [])) := by
  by_cases h : VG n es ∧ 0 ≤ x ∧ x < n ∧ 0 ≤ y ∧ y < n ∧ Conn es x y
  rotate_left
  · rw [if_neg h]
    refine xw_call (fn := Tryz.f30) rfl Tryz.func30 rfl ⟨Nat.le_of_ble_eq_true rfl, rfl, rfl⟩ ?_
    have Fz:=fz1 Tryz.results30
    repeat'(first|exact trivial|refine go1 ?_|(refine go2 ?_ ?_<;>intro _<;>try(exfalso;omega))|(refine go4 ?_;split<;>(try(exfalso;omega);try refine go3 ?_)))
    all_goals grind
  rw [if_pos h]
  obtain ⟨hV, hx0, hx1, hy0, hy1, hc⟩ := h
  have ho := hV.okg.ok
  have hn16 := hV.2.1
  have hle := hV.okg.len
  have hfar := c_far n y es hV ⟨hy0, hy1⟩
  have hdl : (dstL n es y).length = n.toNat := dstL_length
  have hdx := dst_le (t := y) (x := x) ho (show 0 ≤ n by omega)
  refine xw_call (fn := Tryz.f30) rfl Tryz.func30 rfl ⟨Nat.le_of_ble_eq_true rfl, rfl, rfl⟩ ?_
  have Fz:=fz2 Tryz.results30 hfar
  repeat'(first|exact trivial|refine go1 ?_|(refine go2 ?_ ?_<;>intro _<;>try(exfalso;omega))|(refine go4 ?_;split<;>(try(exfalso;omega);try refine go3 ?_)))
  refine xw_loopR (fun (u : Int × Nat × List Int) s => s.m 18 = some (.arr u.2.1 1 (u.2.2.map encI)) ∧ s.ρ 8 = .ref 18 u.2.1 0 u.2.2.length ∧ s.ρ 1 = I u.1 ∧ s.ρ 2 = I y ∧ s.ρ 9 = LI (dstL n es y) ∧ s.ρ 3 = .ptr 3 0 0 0 ∧ s.m 3 = some (.box 0 [I n, LE es]) ∧
    0 ≤ u.1 ∧ u.1 < n ∧ Conn es y u.1 ∧ (u.2.2.length : Int) + dst n es y u.1 = dst n es y x + 1 ∧ pathL n es x y = u.2.2 ++ (gpath es (dstL n es y) (dst n es y u.1).toNat u.1).tail) (fun u => (dst n es y u.1).toNat) (x, 0, [x]) ?_ ?_
  · refine ⟨by simp [upd, encI], by simp [upd], by simp [upd], by simp [upd], by simp [upd], by simp [upd], by simp [upd], hx0, hx1, hc.symm, by simp; omega, ?_⟩
    exact gpath_head ..
  rintro ⟨z, w, xs⟩ ⟨ρ, m⟩ ⟨m18, h8, h1, h2, h9, h3, m3, g0, g1, g2, g3, g4⟩
  simp only at m18 h8 h1 h2 h9 h3 m3 g0 g1 g2 g3 g4
  have hd0 := (dst_spec ho g2).1
  have hnb := c_neighbors n z es (by omega)
  have hnbl : (nbS z es).length ≤ 40 := by have := alone_length z es; omega
  by_cases hzy : z = y
  · subst hzy
    have h0 := dst_self (t := z) ho (show 0 ≤ n by omega)
    rw [h0] at g4
    have Fz:=fz8 Tryz.results30 m18 h8 h1 h2 h9 h3 m3
    repeat'(first|exact trivial|refine go1 ?_|(refine go2 ?_ ?_<;>intro _<;>try(exfalso;omega))|(refine go4 ?_;split<;>(try(exfalso;omega);try refine go3 ?_)))
    have e1 : pathL n es x z = xs := by rw [g4]; simp [gpath]
    rw [e1]
    exact ⟨rfl, rfl⟩
  have hne : dst n es y z ≠ 0 := fun h => hzy (dst_zero ho g2 h)
  obtain ⟨s1, s2, s3, s4⟩ := nxtN_spec ho (show 0 ≤ n by omega) g2 hne
  have hgz : (dstL n es y).getD z.toNat 0 = dst n es y z := dstL_get g0 g1
  have hlez := dst_le (t := y) (x := z) ho (show 0 ≤ n by omega)
  have Fz:=fz9 Tryz.results30 m18 h8 h1 h2 h9 h3 m3 hnb
  repeat'(first|exact trivial|refine go1 ?_|(refine go2 ?_ ?_<;>intro _<;>try(exfalso;omega))|(refine go4 ?_;split<;>(try(exfalso;omega);try refine go3 ?_)))
  refine xw_loopR (fun (i : Int) s => s.m 18 = some (.arr w 1 (xs.map encI)) ∧ s.ρ 8 = .ref 18 w 0 xs.length ∧ s.ρ 1 = I z ∧ s.ρ 2 = I y ∧ s.ρ 9 = LI (dstL n es y) ∧ s.ρ 3 = .ptr 3 0 0 0 ∧ s.m 3 = some (.box 0 [I n, LE es]) ∧
    s.ρ 27 = LI (nbS z es) ∧ s.ρ 28 = I (nbS z es).length ∧ s.ρ 29 = I i ∧ 0 ≤ i ∧ i ≤ (nbS z es).length ∧ ∀ e ∈ (nbS z es).take i.toNat, decide (gI (dstL n es y) e = gI (dstL n es y) z - 1) = false) (fun i => ((nbS z es).length - i).toNat) 0
    ⟨by simp [upd, m18], by simp [upd, h8], by simp [upd, h1], by simp [upd, h2], by simp [upd, h9], by simp [upd, h3], by simp [upd, m3], by simp [upd], by simp [upd], by simp [upd], by simp, by simp, by simp⟩ ?_
  rintro i ⟨ρ, m⟩ ⟨m18, h8, h1, h2, h9, h3, m3, h27, h28, h29, f0, f1, f2⟩
  simp only at m18 h8 h1 h2 h9 h3 m3 h27 h28 h29 f0 f1 f2
  by_cases hj : i < (nbS z es).length
  · have hadj := (mem_nbS ho).1 (getD_mem (d := 0) (show i.toNat < (nbS z es).length by omega))
    have hok := hadj.ok ho
    have hgi : (dstL n es y).getD ((nbS z es).getD i.toNat 0).toNat 0 = dst n es y ((nbS z es).getD i.toNat 0) := dstL_get (by omega) (by omega)
    have Fz:=fz12 Tryz.results30 m18 h8 h1 h2 h9 h3 m3 h27 h28 h29 hgz
    repeat'(first|exact trivial|refine go1 ?_|(refine go2 ?_ ?_<;>intro _<;>try(exfalso;omega))|(refine go4 ?_;split<;>(try(exfalso;omega);try refine go3 ?_)))
    · have hq : (dstL n es y).getD ((nbS z es).getD i.toNat 0).toNat 0 = dst n es y z - 1 := by assumption
      have hfi := find_at (p := fun e => decide (gI (dstL n es y) e = gI (dstL n es y) z - 1)) (show i.toNat < (nbS z es).length by omega) (by simp only [gI, hq, hgz, decide_eq_true_eq]) f2
      have hnx := s3 _ hfi
      rw [hgi] at hq
      refine ⟨by omega, by omega, g2.step hadj, by omega, ?_, by omega⟩
      have hk : (dst n es y z).toNat = (dst n es y ((nbS z es).getD i.toNat 0)).toNat + 1 := by omega
      rw [g4, hk, gpath, List.tail_cons, hnx, List.append_assoc, ← gpath_head]
    · refine ⟨by omega, by omega, ?_, by omega⟩
      rw [take_int 0 f0 hj]
      intro e he
      rcases List.mem_append.1 he with he | he
      · have := f2 e he
        simpa only [gI, hgz, decide_eq_false_iff_not] using this
      · rw [List.mem_singleton.1 he]; assumption
  · rw [take_all (by omega)] at f2
    obtain ⟨u, hu⟩ := s4
    have := List.find?_some hu
    rw [f2 u (List.mem_of_find?_eq_some hu)] at this
    cases this
end Go.Proofs.YtdlfdoicheakoaaGreat.X

/- What functions compute: drawing a graph and two nodes; comparing lists. -/
set_option linter.unusedSimpArgs false
set_option linter.unusedVariables false
set_option maxHeartbeats 2000000
namespace Go.Proofs.YtdlfdoicheakoaaGreat.X
open Go Go.Proofs
theorem c_dyInts (xs ys : List Int) (hl : xs.length ≤ 1048576) : KP 28 [LI xs, LI ys] [] = some (B (decide (xs = ys)), [], []) := by
  refine xw_call (fn := Tryz.f28) rfl Tryz.func28 rfl ⟨Nat.le_of_ble_eq_true rfl, rfl, rfl⟩ ?_
  by_cases hle : xs.length = ys.length
  rotate_left
  · have hne : xs ≠ ys := fun h => hle (by rw [h])
    have Fz:=fz1 Tryz.results28
    repeat'(first|exact trivial|refine go1 ?_|(refine go2 ?_ ?_<;>intro _<;>try(exfalso;omega))|(refine go4 ?_;split<;>(try(exfalso;omega);try refine go3 ?_)))
    simp [hne]
  have Fz:=fz1 Tryz.results28
  repeat'(first|exact trivial|refine go1 ?_|(refine go2 ?_ ?_<;>intro _<;>try(exfalso;omega))|(refine go4 ?_;split<;>(try(exfalso;omega);try refine go3 ?_)))
  refine xw_loopR (fun (i : Int) s => s.ρ 0 = LI xs ∧ s.ρ 1 = LI ys ∧ s.ρ 5 = I i ∧ 0 ≤ i ∧ i ≤ xs.length ∧ xs.take i.toNat = ys.take i.toNat) (fun i => (xs.length - i).toNat) 0 ⟨rfl, rfl, rfl, by simp, by simp, by simp⟩ ?_
  rintro i ⟨ρ, m⟩ ⟨h0, h1, h5, g0, g1, g2⟩
  simp only at h0 h1 h5
  have Fz:=fz4 Tryz.results28 h0 h1 h5
  repeat'(first|exact trivial|refine go1 ?_|(refine go2 ?_ ?_<;>intro _<;>try(exfalso;omega))|(refine go4 ?_;split<;>(try(exfalso;omega);try refine go3 ?_)))
  · refine ⟨by omega, by omega, ?_, by omega⟩
    rw [take_int 0 g0 (by omega), take_int 0 g0 (by omega), g2]
    grind
  · rename_i h
    symm; rw [decide_eq_false_iff_not]
    intro he
    exact h (by rw [he])
  · symm; rw [decide_eq_true_iff]
    rw [take_all (by omega), take_all (by omega)] at g2
    exact g2
end Go.Proofs.YtdlfdoicheakoaaGreat.X

/- The number of connected parts: plain law. -/
set_option linter.unusedVariables false
namespace Go.Proofs.YtdlfdoicheakoaaGreat.X
open Go
theorem conn_cons {es : List (Int × Int)} {a b x y : Int} : Conn ((a, b) :: es) x y ↔ Conn es x y ∨ (Conn es x a ∧ Conn es b y) ∨ (Conn es x b ∧ Conn es a y) := by
  constructor
  · intro h
    induction h with
    | refl => exact .inl (.refl _)
    | step _ ad ih =>
      have key : (∀ {y z : Int}, Adj ((a, b) :: es) y z → Adj es y z ∨ (y = a ∧ z = b) ∨ (y = b ∧ z = a)) := by
        intro y z h
        rcases h with h | h
        · rcases List.mem_cons.1 h with h | h
          · simp only [Prod.mk.injEq] at h; exact .inr (.inl h)
          · exact .inl (.inl h)
        · rcases List.mem_cons.1 h with h | h
          · simp only [Prod.mk.injEq] at h; exact .inr (.inr ⟨h.2, h.1⟩)
          · exact .inl (.inr h)
      rcases key ad with ad | ⟨rfl, rfl⟩ | ⟨rfl, rfl⟩
      · rcases ih with ih | ⟨i1, i2⟩ | ⟨i1, i2⟩
        · exact .inl (.step ih ad)
        · exact .inr (.inl ⟨i1, .step i2 ad⟩)
        · exact .inr (.inr ⟨i1, .step i2 ad⟩)
      · rcases ih with ih | ⟨i1, i2⟩ | ⟨i1, i2⟩
        · exact .inr (.inl ⟨ih, .refl _⟩)
        · exact .inr (.inl ⟨i1, .refl _⟩)
        · exact .inl i1
      · rcases ih with ih | ⟨i1, i2⟩ | ⟨i1, i2⟩
        · exact .inr (.inr ⟨ih, .refl _⟩)
        · exact .inl i1
        · exact .inr (.inr ⟨i1, .refl _⟩)
  · have hm : ∀ e ∈ es, e ∈ (a, b) :: es := fun e he => List.mem_cons_of_mem _ he
    have hab : Conn ((a, b) :: es) a b := .of (.inl (by simp))
    rintro (h | ⟨h1, h2⟩ | ⟨h1, h2⟩)
    · exact h.mono hm
    · exact ((h1.mono hm).trans hab).trans (h2.mono hm)
    · exact ((h1.mono hm).trans hab.symm).trans (h2.mono hm)
/-- Connected alike, if all edges join what is connected. -/
theorem Conn.via {es fs : List (Int × Int)} (h : ∀ e ∈ es, Conn fs e.1 e.2) {x y : Int} (hc : Conn es x y) : Conn fs x y := by
  induction hc with
  | refl => exact .refl _
  | step _ a ih =>
    rcases a with a | a
    · exact ih.trans (h _ a)
    · exact ih.trans (h _ a).symm
theorem Conn.edge {es : List (Int × Int)} {e : Int × Int} (h : e ∈ es) : Conn es e.1 e.2 := .of (.inl h)
def root (es : List (Int × Int)) (x : Nat) : Prop := ∀ y : Nat, y < x → ¬ Conn es (y : Nat) (x : Nat)
theorem least_root {es : List (Int × Int)} {x : Nat} : least es x = x ↔ root es x := by
  obtain ⟨h1, h2, h3⟩ := least_spec es x
  constructor
  · intro h y hy
    exact h3 y (by omega)
  · intro h
    refine Nat.le_antisymm h1 ?_
    refine Nat.le_of_not_lt fun hl => h _ hl h2
/-- The number of connected parts. -/
noncomputable def cnt (n : Int) (es : List (Int × Int)) : Nat := ((List.range n.toNat).filter fun x => decide (least es x = x)).length
theorem filter_without {α : Type} [DecidableEq α] {p : α → Bool} {m : α} : ∀ {l : List α}, l.Nodup → m ∈ l → p m = true → (l.filter fun x => p x && decide (x ≠ m)).length + 1 = (l.filter p).length
  | [], _, h, _ => by simp at h
  | x :: l, hn, hm, hp => by
    rw [List.nodup_cons] at hn
    by_cases hx : x = m
    · subst hx
      have : l.filter (fun y => p y && decide (y ≠ x)) = l.filter p := List.filter_congr fun y hy => by
        have : y ≠ x := fun e => hn.1 (e ▸ hy)
        simp [this]
      simp only [List.filter_cons, hp, ne_eq, not_true_eq_false, decide_false, Bool.and_false, Bool.false_eq_true, if_false, if_true, List.length_cons]
      rw [← this]
    · have hm' : m ∈ l := (List.mem_cons.1 hm).resolve_left fun e => hx e.symm
      have ih := filter_without hn.2 hm' hp
      simp only [List.filter_cons, ne_eq, hx, not_false_eq_true, decide_true, Bool.and_true]
      split
      · simp only [List.length_cons]
        simp only [ne_eq] at ih
        omega
      · simpa only [ne_eq] using ih
theorem cnt_congr {n : Int} {es fs : List (Int × Int)} (h : ∀ x y : Int, Conn es x y ↔ Conn fs x y) : cnt n es = cnt n fs := by
  unfold cnt
  congr 1
  refine List.filter_congr fun x _ => ?_
  rw [decide_eq_decide, least_root, least_root]
  unfold root
  exact forall_congr' fun y => imp_congr_right fun _ => not_congr (h _ _)
theorem filter_le {α : Type} {p q : α → Bool} : ∀ {l : List α}, (∀ x ∈ l, p x = true → q x = true) → (l.filter p).length ≤ (l.filter q).length
  | [], _ => by simp
  | x :: l, h => by
    have ih := filter_le (l := l) (p := p) (q := q) fun y hy => h y (List.mem_cons_of_mem _ hy)
    simp only [List.filter_cons]
    cases hp : p x with
    | true => rw [h x (by simp) hp]; simp only [if_true, List.length_cons]; omega
    | false => simp only [Bool.false_eq_true, if_false]; split <;> (try simp only [List.length_cons]) <;> omega
theorem Conn.nil {x y : Int} (h : Conn [] x y) : x = y := by
  induction h with
  | refl => rfl
  | step _ a _ => rcases a with a | a <;> simp at a
theorem cnt_nil (n : Int) : cnt n [] = n.toNat := by
  unfold cnt
  rw [List.filter_eq_self.2, List.length_range]
  intro x _
  rw [decide_eq_true_eq, least_root]
  intro y hy hc
  have := hc.nil
  omega
theorem cnt_same {n a b : Int} {es : List (Int × Int)} (h : Conn es a b) : cnt n ((a, b) :: es) = cnt n es := by
  refine cnt_congr fun x y => ⟨fun hc => ?_, fun hc => hc.mono fun e he => List.mem_cons_of_mem _ he⟩
  refine hc.via fun e he => ?_
  rcases List.mem_cons.1 he with rfl | he
  · exact h
  · exact .edge he
theorem cnt_less {n a b : Int} {es : List (Int × Int)} (ha : 0 ≤ a ∧ a < n) (hb : 0 ≤ b ∧ b < n) (h : ¬ Conn es a b) : cnt n ((a, b) :: es) + 1 = cnt n es := by
  obtain ⟨x, rfl⟩ := Int.eq_ofNat_of_zero_le ha.1
  obtain ⟨y, rfl⟩ := Int.eq_ofNat_of_zero_le hb.1
  obtain ⟨x1, x2, x3⟩ := least_spec es x
  obtain ⟨y1, y2, y3⟩ := least_spec es y
  have hne : least es x ≠ least es y := fun e => h (least_iff.1 e)
  have hroot : ∀ z : Nat, root ((((x : Nat) : Int), ((y : Nat) : Int)) :: es) z ↔ root es z ∧ z ≠ max (least es x) (least es y) := by
    intro z
    constructor
    · intro hz
      refine ⟨fun w hw hc => hz w hw (conn_cons.2 (.inl hc)), fun e => ?_⟩
      by_cases hl : least es x < least es y
      · have e' : z = least es y := by omega
        subst e'
        exact hz _ hl (conn_cons.2 (.inr (.inl ⟨x2, y2.symm⟩)))
      · have e' : z = least es x := by omega
        subst e'
        exact hz _ (by omega) (conn_cons.2 (.inr (.inr ⟨y2, x2.symm⟩)))
    · rintro ⟨hz, hm⟩ w hw hc
      have hzz := least_root.2 hz
      rcases conn_cons.1 hc with hc | ⟨c1, c2⟩ | ⟨c1, c2⟩
      · exact hz w hw hc
      · have e1 := least_conn c1
        have e2 := least_conn c2
        have := (least_spec es w).1
        omega
      · have e1 := least_conn c1
        have e2 := least_conn c2
        have := (least_spec es w).1
        omega
  have hmx : root es (max (least es x) (least es y)) := by
    by_cases hl : least es x < least es y
    · rw [show max (least es x) (least es y) = least es y by omega]
      exact fun w hw hc => y3 w hw (hc.trans y2)
    · rw [show max (least es x) (least es y) = least es x by omega]
      exact fun w hw hc => x3 w hw (hc.trans x2)
  have hf := filter_without (l := List.range n.toNat) (p := fun z => decide (least es z = z)) (m := max (least es x) (least es y)) List.nodup_range (List.mem_range.2 (by omega)) (decide_eq_true (least_root.2 hmx))
  have hq : ((List.range n.toNat).filter fun z => decide (least ((((x : Nat) : Int), ((y : Nat) : Int)) :: es) z = z)) = (List.range n.toNat).filter fun z => decide (least es z = z) && decide (z ≠ max (least es x) (least es y)) := by
    refine List.filter_congr fun z _ => ?_
    rw [Bool.eq_iff_iff]
    simp only [Bool.and_eq_true, decide_eq_true_eq]
    rw [least_root, least_root]
    exact hroot z
  unfold cnt
  rw [hq]
  exact hf
theorem cutE_mem {e0 e : Int × Int} {es : List (Int × Int)} : e ∈ cutE e0 es ↔ e ∈ es ∧ e ≠ e0 := by simp [cutE]
theorem conn_cut {e : Int × Int} {es : List (Int × Int)} (h : e ∈ es) (x y : Int) : Conn es x y ↔ Conn ((e.1, e.2) :: cutE e es) x y := by
  constructor
  · exact Conn.mono fun f hf => by
      by_cases hq : f = e
      · subst hq; simp
      · exact List.mem_cons_of_mem _ (cutE_mem.2 ⟨hf, hq⟩)
  · exact Conn.mono fun f hf => by
      rcases List.mem_cons.1 hf with rfl | hf
      · exact h
      · exact (cutE_mem.1 hf).1
theorem cnt_cut {n : Int} {e : Int × Int} {es : List (Int × Int)} (h : e ∈ es) (ho : okE n e) : (cnt n (cutE e es) = cnt n es + 1 ∧ ¬ Conn (cutE e es) e.1 e.2) ∨ (cnt n (cutE e es) = cnt n es ∧ Conn (cutE e es) e.1 e.2) := by
  unfold okE at ho
  have e1 := cnt_congr (n := n) (conn_cut h)
  by_cases hc : Conn (cutE e es) e.1 e.2
  · exact .inr ⟨by rw [e1, cnt_same hc], hc⟩
  · exact .inl ⟨by rw [e1, cnt_less (by omega) (by omega) hc], hc⟩
end Go.Proofs.YtdlfdoicheakoaaGreat.X

/- Shortest paths: plain law. -/
set_option linter.unusedVariables false
namespace Go.Proofs.YtdlfdoicheakoaaGreat.X
open Go
theorem Rk.one {es : List (Int × Int)} {x y : Int} (h : Adj es x y) : Rk es x 1 y := .inr ⟨x, rfl, h⟩
theorem Rk.comp {es : List (Int × Int)} {x y : Int} {j : Nat} (h : Rk es x j y) : ∀ (k : Nat) {z : Int}, Rk es y k z → Rk es x (j + k) z
  | 0, z, hk => by cases hk; exact h
  | k + 1, z, hk => by
    rcases hk with hk | ⟨w, hw, ha⟩
    · exact .inl (Rk.comp h k hk)
    · exact .inr ⟨w, Rk.comp h k hw, ha⟩
theorem Rk.symm {es : List (Int × Int)} {x : Int} : ∀ (k : Nat) {y : Int}, Rk es x k y → Rk es y k x
  | 0, y, h => by cases h; rfl
  | k + 1, y, h => by
    rcases h with h | ⟨z, h, a⟩
    · exact .inl (Rk.symm k h)
    · have := (Rk.one a.symm).comp k (Rk.symm k h)
      rwa [Nat.add_comm 1 k] at this
end Go.Proofs.YtdlfdoicheakoaaGreat.X

/- Bridges, forests, paths: plain law. -/
set_option linter.unusedVariables false
namespace Go.Proofs.YtdlfdoicheakoaaGreat.X
open Go
/-- An edge whose nodes are not connected without it. -/
def Brg (es : List (Int × Int)) (e : Int × Int) : Prop := ¬ Conn (cutE e es) e.1 e.2
noncomputable instance decBrg (es : List (Int × Int)) (e : Int × Int) : Decidable (Brg es e) := Classical.propDecidable _
theorem edgeOf_ends {x y : Int} : (edgeOf x y = (x, y)) ∨ (edgeOf x y = (y, x)) := by unfold edgeOf; split <;> simp
theorem adj_edge {n : Int} {es : List (Int × Int)} (ho : ∀ e ∈ es, okE n e) {x y : Int} : Adj es x y ↔ x ≠ y ∧ edgeOf x y ∈ es := by
  rw [← mem_edgeOf ho]
  have : edgeOf y x = edgeOf x y ∨ x = y := by
    unfold edgeOf
    by_cases h1 : x < y
    · rw [if_neg (by omega), if_pos h1]; exact .inl rfl
    · by_cases h2 : y < x
      · rw [if_pos h2, if_neg h1]; exact .inl rfl
      · exact .inr (by omega)
  constructor
  · rintro ⟨h1, h2⟩
    refine ⟨fun e => h1 e.symm, ?_⟩
    rcases this with h | h
    · rw [← h]; exact h2
    · exact absurd h.symm h1
  · rintro ⟨h1, h2⟩
    refine ⟨fun e => h1 e.symm, ?_⟩
    rcases this with h | h
    · rw [h]; exact h2
    · exact absurd h h1
theorem adj_cut {n : Int} {es : List (Int × Int)} (ho : ∀ e ∈ es, okE n e) {e : Int × Int} {x y : Int} (h : Adj es x y) (hn : ¬ Adj (cutE e es) x y) : (x = e.1 ∧ y = e.2) ∨ (x = e.2 ∧ y = e.1) := by
  rcases h with h | h
  · by_cases hq : (x, y) = e
    · subst hq; exact .inl ⟨rfl, rfl⟩
    · exact absurd (.inl (cutE_mem.2 ⟨h, hq⟩)) hn
  · by_cases hq : (y, x) = e
    · subst hq; exact .inr ⟨rfl, rfl⟩
    · exact absurd (.inr (cutE_mem.2 ⟨h, hq⟩)) hn
theorem alone_cut {v : Int} {es : List (Int × Int)} {e : Int × Int} (h : e.1 = v ∨ e.2 = v) : ∀ f ∈ alone v es, f ∈ cutE e es := by
  intro f hf
  have := List.mem_filter.1 hf
  simp only [decide_eq_true_eq] at this
  refine cutE_mem.2 ⟨this.1, fun he => ?_⟩
  subst he
  rcases h with h | h
  · exact this.2.1 h
  · exact this.2.2 h
noncomputable def fstep (acc : List (Int × Int)) (e : Int × Int) : List (Int × Int) := if Conn acc e.1 e.2 then acc else acc ++ [e]
noncomputable def forestL (es : List (Int × Int)) : List (Int × Int) := es.foldl fstep []
theorem fstep_sub {acc : List (Int × Int)} {e : Int × Int} : acc.Sublist (fstep acc e) := by
  unfold fstep; split
  · exact List.Sublist.refl _
  · exact List.sublist_append_left _ _
theorem fstep_conn {acc : List (Int × Int)} {e : Int × Int} : Conn (fstep acc e) e.1 e.2 := by
  unfold fstep; split
  · assumption
  · exact .edge (by simp)
theorem conn_snoc {es : List (Int × Int)} {e : Int × Int} {x y : Int} : Conn (es ++ [e]) x y ↔ Conn (e :: es) x y :=
  ⟨Conn.mono fun f hf => (by rcases List.mem_append.1 hf with h | h; exact List.mem_cons_of_mem _ h; exact List.mem_cons.2 (.inl (List.mem_singleton.1 h))), Conn.mono fun f hf => (by rcases List.mem_cons.1 hf with h | h; exact List.mem_append.2 (.inr (List.mem_singleton.2 h)); exact List.mem_append.2 (.inl h))⟩
theorem forest_facts {n : Int} : ∀ {fs acc : List (Int × Int)}, (∀ e ∈ fs, okE n e) → cnt n acc + acc.length = n.toNat →
    acc.Sublist (fs.foldl fstep acc) ∧ (fs.foldl fstep acc).Sublist (acc ++ fs) ∧ (∀ e ∈ fs, Conn (fs.foldl fstep acc) e.1 e.2) ∧ cnt n (fs.foldl fstep acc) + (fs.foldl fstep acc).length = n.toNat
  | [], acc, _, h => ⟨List.Sublist.refl _, by simp, by simp, h⟩
  | e :: fs, acc, ho, h => by
    have hok := ho e (by simp)
    unfold okE at hok
    have hc : cnt n (fstep acc e) + (fstep acc e).length = n.toNat := by
      unfold fstep
      split
      · exact h
      · rename_i hn
        have h1 := cnt_less (n := n) (a := e.1) (b := e.2) (es := acc) (by omega) (by omega) hn
        have h2 := cnt_congr (n := n) (es := acc ++ [e]) (fs := (e.1, e.2) :: acc) fun x y => conn_snoc
        simp only [List.length_append, List.length_cons, List.length_nil]
        omega
    obtain ⟨i1, i2, i3, i4⟩ := forest_facts (fs := fs) (acc := fstep acc e) (fun f hf => ho f (List.mem_cons_of_mem _ hf)) hc
    refine ⟨fstep_sub.trans i1, ?_, ?_, i4⟩
    · refine i2.trans ?_
      unfold fstep
      split
      · exact List.Sublist.append_left (List.sublist_cons_self _ _) _
      · simp
    · intro f hf
      rcases List.mem_cons.1 hf with rfl | hf
      · exact fstep_conn.mono fun g hg => i1.subset hg
      · exact i3 f hf
theorem forest_sub {n : Int} {es : List (Int × Int)} (ho : ∀ e ∈ es, okE n e) : (forestL es).Sublist es := by
  exact (forest_facts (fs := es) (acc := []) ho (by simp [cnt_nil])).2.1
theorem forest_cnt {n : Int} {es : List (Int × Int)} (ho : ∀ e ∈ es, okE n e) : cnt n (forestL es) + (forestL es).length = n.toNat :=
  (forest_facts (fs := es) (acc := []) ho (by simp [cnt_nil])).2.2.2
theorem forest_conn {n : Int} {es : List (Int × Int)} (ho : ∀ e ∈ es, okE n e) {x y : Int} : Conn (forestL es) x y ↔ Conn es x y :=
  ⟨fun h => h.mono fun e he => (forest_sub ho).subset he, fun h => h.via (forest_facts (fs := es) (acc := []) ho (by simp [cnt_nil])).2.2.1⟩
theorem forest_len {n : Int} {es : List (Int × Int)} (ho : ∀ e ∈ es, okE n e) : (forestL es).length + cnt n es = n.toNat := by
  have h1 := forest_cnt ho
  have h2 := cnt_congr (n := n) (es := forestL es) (fs := es) fun x y => forest_conn ho
  omega
theorem cnt_ge {n : Int} : ∀ {es : List (Int × Int)}, (∀ e ∈ es, okE n e) → n.toNat ≤ cnt n es + es.length
  | [], _ => by simp [cnt_nil]
  | e :: es, ho => by
    have ih := cnt_ge (es := es) fun f hf => ho f (List.mem_cons_of_mem _ hf)
    have hok := ho e (by simp)
    unfold okE at hok
    have e1 : ((e.1, e.2) : Int × Int) = e := rfl
    simp only [List.length_cons]
    by_cases hc : Conn es e.1 e.2
    · have := cnt_same (n := n) hc
      rw [e1] at this; omega
    · have := cnt_less (n := n) (a := e.1) (b := e.2) (by omega) (by omega) hc
      rw [e1] at this; omega
theorem cutE_lt {e : Int × Int} {es : List (Int × Int)} (h : e ∈ es) : (cutE e es).length < es.length := by
  have := filter_lt (l := es) (p := fun f => decide (f ≠ e)) (q := fun _ => true) (fun _ _ _ => rfl) ⟨e, h, rfl, by simp⟩
  rw [List.filter_eq_self.2 (fun _ _ => rfl)] at this
  exact this
/-- Where parts and edges together are as many as nodes, each edge is a bridge. -/
theorem tree_brg {n : Int} {es : List (Int × Int)} (ho : ∀ e ∈ es, okE n e) (h : cnt n es + es.length = n.toNat) {e : Int × Int} (he : e ∈ es) : Brg es e := by
  intro hc
  rcases cnt_cut (n := n) he (ho e he) with ⟨_, h2⟩ | ⟨h1, _⟩
  · exact h2 hc
  · have h3 := cnt_ge (n := n) (es := cutE e es) fun f hf => ho f (cutE_mem.1 hf).1
    have := cutE_lt he
    omega
/-- Edges all of which are bridges are their own forest. -/
theorem VG.sub {n : Int} {es fs : List (Int × Int)} (h : VG n es) (hs : fs.Sublist es) : VG n fs := by
  obtain ⟨h1, h2, h3, h4, h5⟩ := h
  have := hs.length_le
  exact ⟨h1, h2, by omega, fun e he => h4 e (hs.subset he), List.Pairwise.sublist hs h5⟩
def Walk (es : List (Int × Int)) (p : List Int) : Prop := ∀ i, i + 1 < p.length → Adj es (p.getD i 0) (p.getD (i + 1) 0)
theorem Walk.conn {es : List (Int × Int)} {p : List Int} (h : Walk es p) : ∀ i, i < p.length → Conn es (p.getD 0 0) (p.getD i 0)
  | 0, _ => .refl _
  | i + 1, hi => .step (h.conn i (by omega)) (h i hi)
theorem len_le_of_sub {α : Type} [DecidableEq α] : ∀ {l m : List α}, l.Nodup → (∀ x ∈ l, x ∈ m) → l.length ≤ m.length
  | [], m, _, _ => by simp
  | x :: l, m, hn, h => by
    rw [List.nodup_cons] at hn
    have hx := h x (by simp)
    have ih := len_le_of_sub (l := l) (m := m.erase x) hn.2 fun y hy => by
      have : y ≠ x := fun e => hn.1 (e ▸ hy)
      exact (List.mem_erase_of_ne this).2 (h y (List.mem_cons_of_mem _ hy))
    rw [List.length_erase_of_mem hx] at ih
    have := List.length_pos_of_mem hx
    simp only [List.length_cons]; omega
end Go.Proofs.YtdlfdoicheakoaaGreat.X

/- What functions compute: the number of parts. -/
set_option linter.unusedSimpArgs false
set_option linter.unusedVariables false
set_option maxHeartbeats 2000000
namespace Go.Proofs.YtdlfdoicheakoaaGreat.X
open Go Go.Proofs
end Go.Proofs.YtdlfdoicheakoaaGreat.X

/- Safe parts and the tree of bridges: plain law. -/
set_option linter.unusedVariables false
namespace Go.Proofs.YtdlfdoicheakoaaGreat.X
open Go
/-- A graph's edges without its bridges. -/
noncomputable def bare (es : List (Int × Int)) : List (Int × Int) := es.filter fun e => !decide (Brg es e)
/-- A graph's bridges. -/
noncomputable def brgs (es : List (Int × Int)) : List (Int × Int) := es.filter fun e => decide (Brg es e)
theorem mem_bare {es : List (Int × Int)} {e : Int × Int} : e ∈ bare es ↔ e ∈ es ∧ ¬ Brg es e := by simp [bare]
theorem VG.bare {n : Int} {es : List (Int × Int)} (h : VG n es) : VG n (X.bare es) := h.sub List.filter_sublist
theorem VG.brgs {n : Int} {es : List (Int × Int)} (h : VG n es) : VG n (X.brgs es) := h.sub List.filter_sublist
/-- The label of a node's safe part. -/
noncomputable def sl (es : List (Int × Int)) (x : Int) : Int := (least (bare es) x.toNat : Nat)
noncomputable def treeE (es : List (Int × Int)) (e : Int × Int) : Int × Int := edgeOf (sl es e.1) (sl es e.2)
/-- The edges between safe parts, in the order of bridges. -/
noncomputable def treeL (es : List (Int × Int)) : List (Int × Int) := (brgs es).map (treeE es)
theorem edgeOf_ok {n x y : Int} (hx : 0 ≤ x ∧ x < n) (hy : 0 ≤ y ∧ y < n) (h : x ≠ y) : okE n (edgeOf x y) := by
  unfold okE edgeOf
  split <;> simp only <;> omega
theorem nodup_map {α β : Type} {f : α → β} : ∀ {l : List α}, l.Nodup → (∀ x ∈ l, ∀ y ∈ l, f x = f y → x = y) → (l.map f).Nodup
  | [], _, _ => by simp
  | a :: l, hn, h => by
    rw [List.nodup_cons] at hn
    rw [List.map_cons, List.nodup_cons]
    refine ⟨fun hm => ?_, nodup_map hn.2 fun x hx y hy => h x (List.mem_cons_of_mem _ hx) y (List.mem_cons_of_mem _ hy)⟩
    obtain ⟨b, hb, he⟩ := List.mem_map.1 hm
    have := h a (by simp) b (List.mem_cons_of_mem _ hb) he.symm
    exact hn.1 (this ▸ hb)
end Go.Proofs.YtdlfdoicheakoaaGreat.X
