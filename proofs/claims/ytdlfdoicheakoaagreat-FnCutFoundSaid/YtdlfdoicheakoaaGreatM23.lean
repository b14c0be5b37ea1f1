/- Levels: plain law. -/
import Derived.Test.YtdlfdoicheakoaaGreatKAI
set_option linter.unusedVariables false
namespace Go.Proofs.YtdlfdoicheakoaaGreat.X
open Go
def Tree (n : Int) (es : List (Int × Int)) : Prop := cnt n es + es.length = n.toNat
theorem conn_mem {es fs : List (Int × Int)} (h : ∀ e, e ∈ es ↔ e ∈ fs) {x y : Int} : Conn es x y ↔ Conn fs x y := ⟨Conn.mono fun e => (h e).1, Conn.mono fun e => (h e).2⟩
theorem Tree.perm {n : Int} {es fs : List (Int × Int)} (h : Tree n es) (hp : es.Perm fs) : Tree n fs := by
  unfold Tree at *
  rw [← hp.length_eq, ← cnt_congr (es := es) fun x y => conn_mem fun e => hp.mem_iff]; exact h
theorem cnt_sublist {n : Int} {es fs : List (Int × Int)} (hs : fs.Sublist es) : (∀ e ∈ es, okE n e) → cnt n fs + fs.length ≤ cnt n es + es.length := by
  induction hs with
  | slnil => intro _; exact Nat.le_refl _
  | @cons fs es a hs ih =>
    intro ho
    have ih := ih fun e he => ho e (List.mem_cons_of_mem _ he)
    have ha := ho a (by simp)
    unfold okE at ha
    rw [List.length_cons]
    by_cases c : Conn es a.1 a.2
    · have := cnt_same (n := n) c
      have e : ((a.1, a.2) :: es) = a :: es := rfl
      rw [e] at this; omega
    · have := cnt_less (n := n) (by omega) (by omega) c
      have e : ((a.1, a.2) :: es) = a :: es := rfl
      rw [e] at this; omega
  | @cons_cons fs es a hs ih =>
    intro ho
    have ih := ih fun e he => ho e (List.mem_cons_of_mem _ he)
    have ha := ho a (by simp)
    unfold okE at ha
    rw [List.length_cons, List.length_cons]
    have e1 : ((a.1, a.2) :: es) = a :: es := rfl
    have e2 : ((a.1, a.2) :: fs) = a :: fs := rfl
    by_cases c : Conn es a.1 a.2
    · have h1 := cnt_same (n := n) c
      rw [e1] at h1
      by_cases d : Conn fs a.1 a.2
      · have h2 := cnt_same (n := n) d
        rw [e2] at h2; omega
      · have h2 := cnt_less (n := n) (by omega) (by omega) d
        rw [e2] at h2; omega
    · have h1 := cnt_less (n := n) (by omega) (by omega) c
      rw [e1] at h1
      have d : ¬ Conn fs a.1 a.2 := fun d => c (d.mono hs.subset)
      have h2 := cnt_less (n := n) (by omega) (by omega) d
      rw [e2] at h2; omega
theorem Tree.sub {n : Int} {es fs : List (Int × Int)} (h : Tree n es) (ho : ∀ e ∈ es, okE n e) (hs : fs.Sublist es) : Tree n fs := by
  have h1 := cnt_sublist hs ho
  have h2 := cnt_ge (n := n) (es := fs) fun e he => ho e (hs.subset he)
  unfold Tree at *
  omega
theorem Tree.add {n : Int} {es : List (Int × Int)} {a b : Int} (h : Tree n es) (ha : inN n a) (hb : inN n b) (hc : ¬ Conn es a b) : Tree n ((a, b) :: es) := by
  have := cnt_less ha hb hc
  unfold Tree at *
  rw [List.length_cons]; omega
theorem Tree.cut {n : Int} {es : List (Int × Int)} {e : Int × Int} (h : Tree n (e :: es)) (ho : ∀ f ∈ e :: es, okE n f) : Tree n es ∧ ¬ Conn es e.1 e.2 := by
  have h1 : Tree n es := h.sub ho (List.sublist_cons_self _ _)
  refine ⟨h1, fun hc => ?_⟩
  have h2 := cnt_same (n := n) hc
  have e1 : ((e.1, e.2) :: es) = e :: es := rfl
  rw [e1] at h2
  unfold Tree at *
  rw [List.length_cons] at h; omega
theorem tree_forest {n : Int} {es : List (Int × Int)} (ho : ∀ e ∈ es, okE n e) : (forestL es).length = es.length ↔ Tree n es := by
  have := forest_len ho
  unfold Tree
  omega
theorem tree_nil {n : Int} : Tree n [] := by unfold Tree; rw [cnt_nil]; simp
noncomputable def szC (n : Int) (es : List (Int × Int)) (x : Int) : Int := ((iota n).filter fun y => decide (Conn es x y)).length
theorem szC_mono {n : Int} {es fs : List (Int × Int)} {x y : Int} (h : ∀ z, Conn es x z → Conn fs y z) : szC n es x ≤ szC n fs y := by
  unfold szC
  have := filter_le (p := fun z => decide (Conn es x z)) (q := fun z => decide (Conn fs y z)) (l := iota n) fun z _ hz => decide_eq_true (h z (of_decide_eq_true hz))
  omega
theorem szC_two {n : Int} {es : List (Int × Int)} {x u v : Int} (hu : inN n u) (hv : inN n v) (huv : u ≠ v) (h1 : Conn es x u) (h2 : Conn es x v) : 2 ≤ szC n es x := by
  have := len_le_of_sub (l := [u, v]) (m := (iota n).filter fun y => decide (Conn es x y)) (by simpa using huv) fun z hz => by
    rw [List.mem_filter, decide_eq_true_eq]
    rcases List.mem_cons.1 hz with rfl | hz
    · exact ⟨mem_iota.2 hu, h1⟩
    · rw [List.mem_singleton.1 hz]; exact ⟨mem_iota.2 hv, h2⟩
  unfold szC
  simp only [List.length_cons, List.length_nil] at this
  omega
theorem szC_le {n : Int} {es : List (Int × Int)} {x : Int} (h : 0 ≤ n) : szC n es x ≤ n := by
  unfold szC
  have := List.length_filter_le (fun y => decide (Conn es x y)) (iota n)
  rw [iota_length] at this; omega
theorem szC_join {n : Int} {es : List (Int × Int)} {a b : Int} (hc : ¬ Conn es a b) : szC n es a + szC n es b ≤ szC n ((a, b) :: es) a := by
  unfold szC
  have hd : ((iota n).filter (fun y => decide (Conn es a y)) ++ (iota n).filter fun y => decide (Conn es b y)).Nodup := by
    rw [List.nodup_append]
    refine ⟨(nodup_iota n).sublist List.filter_sublist, (nodup_iota n).sublist List.filter_sublist, fun x hx y hy e => ?_⟩
    subst e
    simp only [List.mem_filter, decide_eq_true_eq] at hx hy
    exact hc (hx.2.trans hy.2.symm)
  have := len_le_of_sub (m := (iota n).filter fun y => decide (Conn ((a, b) :: es) a y)) hd fun x hx => by
    rw [List.mem_append] at hx
    simp only [List.mem_filter, decide_eq_true_eq] at hx ⊢
    rcases hx with ⟨h1, h2⟩ | ⟨h1, h2⟩
    · exact ⟨h1, h2.mono fun e he => List.mem_cons_of_mem _ he⟩
    · exact ⟨h1, (Conn.edge (e := (a, b)) (by simp)).trans (h2.mono fun e he => List.mem_cons_of_mem _ he)⟩
  rw [List.length_append] at this
  omega
/-- An edge, its level, whether it is in the forest. -/
abbrev Tl := (Int × Int) × Int × Bool
def esT (ts : List Tl) : List (Int × Int) := ts.map (·.1)
def abP (k : Int) (f : Bool) (t : Tl) : Bool := decide (k ≤ t.2.1) && (!f || t.2.2)
def abT (ts : List Tl) (k : Int) (f : Bool) : List (Int × Int) := (ts.filter (abP k f)).map (·.1)
theorem mem_abT {ts : List Tl} {k : Int} {f : Bool} {e : Int × Int} : e ∈ abT ts k f ↔ ∃ l b, (e, l, b) ∈ ts ∧ k ≤ l ∧ (f = true → b = true) := by
  unfold abT abP
  simp only [List.mem_map, List.mem_filter, Bool.and_eq_true, decide_eq_true_eq, Bool.or_eq_true, Bool.not_eq_true']
  constructor
  · rintro ⟨⟨e, l, b⟩, ⟨h1, h2, h3⟩, rfl⟩
    exact ⟨l, b, h1, h2, fun hf => h3.resolve_left (by rw [hf]; simp)⟩
  · rintro ⟨l, b, h1, h2, h3⟩
    refine ⟨(e, l, b), ⟨h1, h2, ?_⟩, rfl⟩
    cases f
    · exact .inl rfl
    · exact .inr (h3 rfl)
theorem abT_sub_es {ts : List Tl} {k : Int} {f : Bool} : ∀ e ∈ abT ts k f, e ∈ esT ts := fun e he => by
  obtain ⟨l, b, h, -⟩ := mem_abT.1 he
  exact List.mem_map.2 ⟨_, h, rfl⟩
theorem abT_tree {ts : List Tl} {k : Int} : ∀ e ∈ abT ts k true, e ∈ abT ts k false := fun e he => by
  obtain ⟨l, b, h, h2, -⟩ := mem_abT.1 he
  exact mem_abT.2 ⟨l, b, h, h2, fun h => by cases h⟩
theorem abT_le {ts : List Tl} {j k : Int} {f : Bool} (h : j ≤ k) : (abT ts k f).Sublist (abT ts j f) := by
  unfold abT
  refine List.Sublist.map _ ?_
  have e : ts.filter (abP k f) = (ts.filter (abP j f)).filter (abP k f) := by
    rw [List.filter_filter]
    refine List.filter_congr fun t _ => ?_
    unfold abP
    by_cases c : k ≤ t.2.1
    · have d : j ≤ t.2.1 := by omega
      simp [c, d]
    · simp [c]
  rw [e]
  exact List.filter_sublist
theorem abT_zero {ts : List Tl} (h : ∀ t ∈ ts, 0 ≤ t.2.1) : abT ts 0 false = esT ts := by
  unfold abT esT
  rw [List.filter_eq_self.2 fun t ht => by simp [abP, h t ht]]
/-- What is valid. -/
structure LV (n : Int) (ts : List Tl) : Prop where
  vg : VG n (esT ts)
  lv : ∀ t ∈ ts, 0 ≤ t.2.1 ∧ t.2.1 ≤ 4
  ac : ∀ j : Int, 0 ≤ j → j ≤ 4 → Tree n (abT ts j true)
  cn : ∀ j : Int, 0 ≤ j → j ≤ 4 → ∀ x y, Conn (abT ts j false) x y → Conn (abT ts j true) x y
  sz : ∀ j : Int, 0 ≤ j → j ≤ 4 → ∀ x, inN n x → 1 < szC n (abT ts j false) x → szC n (abT ts j false) x ≤ n / 2 ^ j.toNat
/-- What is valid while an edge between two nodes is being replaced, in front of a level. -/
structure MV (n : Int) (ts : List Tl) (a b k : Int) : Prop where
  vg : VG n (esT ts)
  lv : ∀ t ∈ ts, 0 ≤ t.2.1 ∧ t.2.1 ≤ 4
  ac : ∀ j : Int, 0 ≤ j → j ≤ 4 → Tree n (abT ts j true)
  hi : ∀ j : Int, 0 ≤ j → k < j → j ≤ 4 → ∀ x y, Conn (abT ts j false) x y → Conn (abT ts j true) x y
  lo : ∀ j : Int, 0 ≤ j → j ≤ k → ∀ x y, Conn (abT ts j false) x y → Conn ((a, b) :: abT ts j true) x y
  nc : ∀ j : Int, 0 ≤ j → j ≤ 4 → ¬ Conn (abT ts j true) a b
  sz : ∀ j : Int, 0 ≤ j → j ≤ 4 → ∀ x, inN n x → 1 < szC n (abT ts j false) x → szC n (abT ts j false) x ≤ n / 2 ^ j.toNat
  sk : ∀ j : Int, 0 ≤ j → j ≤ k → szC n ((a, b) :: abT ts j true) a ≤ n / 2 ^ j.toNat
  ra : inN n a
  rb : inN n b
  k4 : k ≤ 4
theorem MV.done {n : Int} {ts : List Tl} {a b : Int} (h : MV n ts a b (-1)) : LV n ts := ⟨h.vg, h.lv, h.ac, fun j j0 j4 => h.hi j j0 (by omega) j4, h.sz⟩
/-- Some edges of a level, with both ends among some nodes, are raised. -/
def raT (t : Tl) : Tl := (t.1, t.2.1 + 1, t.2.2)
structure Ra (S : Int → Prop) (k : Int) (t t' : Tl) : Prop where
  or : t' = t ∨ (t.2.1 = k ∧ S t.1.1 ∧ S t.1.2 ∧ t' = raT t)
  tr : t.2.2 = true → t.2.1 = k → S t.1.1 → S t.1.2 → t' = raT t
theorem Ra.fst {S : Int → Prop} {k : Int} {t t' : Tl} (h : Ra S k t t') : t'.1 = t.1 ∧ t'.2.2 = t.2.2 ∧ (t'.2.1 = t.2.1 ∨ t.2.1 = k ∧ t'.2.1 = k + 1) := by
  rcases h.or with rfl | ⟨h1, h2, h3, rfl⟩
  · exact ⟨rfl, rfl, .inl rfl⟩
  · exact ⟨rfl, rfl, .inr ⟨h1, by simp [raT, h1]⟩⟩
inductive RaL (S : Int → Prop) (k : Int) : List Tl → List Tl → Prop
  | nil : RaL S k [] []
  | cons {t t' : Tl} {ts ts' : List Tl} (h : Ra S k t t') (hl : RaL S k ts ts') : RaL S k (t :: ts) (t' :: ts')
theorem RaL.es {S : Int → Prop} {k : Int} {ts ts' : List Tl} (h : RaL S k ts ts') : esT ts' = esT ts := by
  induction h with
  | nil => rfl
  | cons h _ ih =>
    unfold esT at *
    rw [List.map_cons, List.map_cons, ih, h.fst.1]
theorem RaL.ab {S : Int → Prop} {k j : Int} {f : Bool} {ts ts' : List Tl} (h : RaL S k ts ts') (hj : j ≠ k + 1) : abT ts' j f = abT ts j f := by
  induction h with
  | nil => rfl
  | @cons t t' ts ts' h _ ih =>
    obtain ⟨h1, h2, h3⟩ := h.fst
    have e : abP j f t' = abP j f t := by
      unfold abP
      rw [h2]
      have : decide (j ≤ t'.2.1) = decide (j ≤ t.2.1) := decide_eq_decide.2 (by omega)
      rw [this]
    unfold abT at *
    rw [List.filter_cons, List.filter_cons, e]
    split
    · rw [List.map_cons, List.map_cons, ih, h1]
    · exact ih
theorem RaL.fw {S : Int → Prop} {k : Int} {ts ts' : List Tl} (h : RaL S k ts ts') {t : Tl} (ht : t ∈ ts) : ∃ t' ∈ ts', Ra S k t t' := by
  induction h with
  | nil => simp at ht
  | @cons s s' ts ts' h _ ih =>
    rcases List.mem_cons.1 ht with rfl | ht
    · exact ⟨s', by simp, h⟩
    · obtain ⟨t', h1, h2⟩ := ih ht
      exact ⟨t', List.mem_cons_of_mem _ h1, h2⟩
theorem RaL.bw {S : Int → Prop} {k : Int} {ts ts' : List Tl} (h : RaL S k ts ts') {t' : Tl} (ht : t' ∈ ts') : ∃ t ∈ ts, Ra S k t t' := by
  induction h with
  | nil => simp at ht
  | @cons s s' ts ts' h _ ih =>
    rcases List.mem_cons.1 ht with rfl | ht
    · exact ⟨s, by simp, h⟩
    · obtain ⟨t, h1, h2⟩ := ih ht
      exact ⟨t, List.mem_cons_of_mem _ h1, h2⟩
theorem halve {n s : Int} {k : Int} (hk : 0 ≤ k) (h : s + s ≤ n / 2 ^ k.toNat) : s ≤ n / 2 ^ (k + 1).toNat := by
  have e : (k + 1).toNat = k.toNat + 1 := by omega
  rw [e, Int.pow_succ, ← Int.ediv_ediv_of_nonneg (Int.le_of_lt (Int.pow_pos (by omega)))]
  omega
theorem lim_four {n k : Int} (h16 : n ≤ 16) (hk : 0 ≤ k) (h : 2 ≤ n / 2 ^ (k + 1).toNat) : k + 1 ≤ 4 := by
  refine Classical.byContradiction fun hn => ?_
  have h1 : n / 2 ^ (k + 1).toNat ≤ 1 := by
    have h32 : (32 : Int) ≤ 2 ^ (k + 1).toNat := by
      obtain ⟨m, hm⟩ : ∃ m : Nat, (k + 1).toNat = m + 5 := ⟨(k + 1).toNat - 5, by omega⟩
      rw [hm, Int.pow_add]
      have : (1 : Int) ≤ 2 ^ m := Int.pow_pos (by omega)
      omega
    have : n / 2 ^ (k + 1).toNat < 2 := Int.ediv_lt_of_lt_mul (by omega) (by omega)
    omega
  omega
/-- Raising within the lesser part. -/
theorem MV.raise {n : Int} {ts ts' : List Tl} {a b k c : Int} (h : MV n ts a b k) (hk : 0 ≤ k) (hc : c = a ∨ c = b) (hsm : szC n (abT ts k true) c + szC n (abT ts k true) c ≤ n / 2 ^ k.toNat) (hr : RaL (fun y => Conn (abT ts k true) c y) k ts ts') :
    (∀ t ∈ ts', 0 ≤ t.2.1 ∧ t.2.1 ≤ 4) ∧ (k + 1 ≤ 4 → Tree n (abT ts' (k + 1) true) ∧ (∀ x y, Conn (abT ts' (k + 1) false) x y → Conn (abT ts' (k + 1) true) x y) ∧ ¬ Conn (abT ts' (k + 1) true) a b ∧
      ∀ x, inN n x → 1 < szC n (abT ts' (k + 1) false) x → szC n (abT ts' (k + 1) false) x ≤ n / 2 ^ (k + 1).toNat) := by
  have ho := h.vg.2.2.2.1
  have hok : ∀ {e : Int × Int} {l : Int} {b : Bool}, (e, l, b) ∈ ts → okE n e := fun hm => ho _ (List.mem_map.2 ⟨_, hm, rfl⟩)
  have hF : abT ts' k true = abT ts k true := hr.ab (by omega)
  have hhalf := halve hk hsm
  have hsub : (abT ts' (k + 1) true).Sublist (abT ts k true) := by rw [← hF]; exact abT_le (by omega)
  refine ⟨fun t' ht' => ?_, fun h4 => ?_⟩
  · obtain ⟨t, ht, hR⟩ := hr.bw ht'
    have hb := h.lv t ht
    rcases hR.or with rfl | ⟨h1, h2, h3, rfl⟩
    · exact hb
    · have hoe := ho _ (List.mem_map.2 ⟨t, ht, rfl⟩)
      unfold okE at hoe
      have h2' := szC_two (n := n) (u := t.1.1) (v := t.1.2) (by omega) (by omega) (by omega) h2 h3
      have := lim_four h.vg.2.1 hk (by omega)
      show 0 ≤ t.2.1 + 1 ∧ t.2.1 + 1 ≤ 4
      omega
  -- what is connected among these nodes is so one level higher
  have hup : ∀ x y, Conn (abT ts k true) x y → Conn (abT ts k true) c x → Conn (abT ts' (k + 1) true) x y := fun x y hxy hx => by
    have : Conn (abT ts' (k + 1) true) x y ∧ Conn (abT ts k true) c y := by
      refine Conn.closed (es := abT ts k true) (p := fun y => Conn (abT ts' (k + 1) true) x y ∧ Conn (abT ts k true) c y) (fun u v huv hu => ?_) hxy ⟨.refl _, hx⟩
      have hv : Conn (abT ts k true) c v := hu.2.trans (.of huv)
      refine ⟨hu.1.trans (.of ?_), hv⟩
      have key : ∀ e, e ∈ abT ts k true → Conn (abT ts k true) c e.1 → Conn (abT ts k true) c e.2 → e ∈ abT ts' (k + 1) true := fun e he h1 h2 => by
        obtain ⟨l, q, hm, hl, hq⟩ := mem_abT.1 he
        have hq := hq rfl
        subst hq
        obtain ⟨t', ht', hR⟩ := hr.fw hm
        by_cases e2 : l = k
        · have := hR.tr rfl e2 h1 h2
          subst this
          exact mem_abT.2 ⟨l + 1, true, ht', by omega, fun _ => rfl⟩
        · rcases hR.or with rfl | ⟨h3, -⟩
          · exact mem_abT.2 ⟨l, true, ht', by omega, fun _ => rfl⟩
          · exact absurd h3 e2
      rcases huv with he | he
      · exact .inl (key _ he hu.2 hv)
      · exact .inr (key _ he hv hu.2)
    exact this.1
  have hold : ∀ x y, Conn (abT ts (k + 1) true) x y → Conn (abT ts' (k + 1) true) x y := fun x y hxy => hxy.mono fun e he => by
    obtain ⟨l, q, hm, hl, hq⟩ := mem_abT.1 he
    obtain ⟨t', ht', hR⟩ := hr.fw hm
    rcases hR.or with rfl | ⟨h3, -⟩
    · exact mem_abT.2 ⟨l, q, ht', hl, hq⟩
    · simp only at h3; omega
  -- an edge of the level above is an old one or a raised one
  have hed : ∀ e, e ∈ abT ts' (k + 1) false → e ∈ abT ts (k + 1) false ∨ (Conn (abT ts k true) c e.1 ∧ Conn (abT ts k true) c e.2) := fun e he => by
    obtain ⟨l, q, hm, hl, -⟩ := mem_abT.1 he
    obtain ⟨t, ht, hR⟩ := hr.bw hm
    rcases hR.or with e1 | ⟨h1, h2, h3, e1⟩
    · exact .inl (mem_abT.2 ⟨l, q, e1 ▸ ht, hl, fun h => by cases h⟩)
    · have : e = t.1 := congrArg Prod.fst e1
      rw [this]; exact .inr ⟨h2, h3⟩
  have hcn : ∀ x y, Conn (abT ts' (k + 1) false) x y → Conn (abT ts' (k + 1) true) x y := fun x y hxy => by
    refine Conn.via (fun e he => ?_) hxy
    rcases hed e he with h1 | ⟨h1, h2⟩
    · exact hold _ _ (h.hi (k + 1) (by omega) (by omega) h4 _ _ (Conn.edge h1))
    · exact hup _ _ (h1.symm.trans h2) h1
  refine ⟨(h.ac k hk h.k4).sub (fun e he => ho _ (abT_sub_es e he)) hsub, hcn, fun hab => h.nc k hk h.k4 (hab.mono hsub.subset), fun x hx h1 => ?_⟩
  by_cases hS : Conn (abT ts k true) c x
  · have := szC_mono (n := n) (es := abT ts' (k + 1) false) (fs := abT ts k true) (x := x) (y := c) fun z hz => hS.trans ((hcn x z hz).mono hsub.subset)
    omega
  · have hsame : ∀ z, Conn (abT ts' (k + 1) false) x z → Conn (abT ts (k + 1) false) x z := fun z hz => by
      have : Conn (abT ts (k + 1) false) x z ∧ ¬ Conn (abT ts k true) c z := by
        refine Conn.closed (es := abT ts' (k + 1) false) (p := fun z => Conn (abT ts (k + 1) false) x z ∧ ¬ Conn (abT ts k true) c z) (fun u v huv hu => ?_) hz ⟨.refl _, hS⟩
        have key : Adj (abT ts (k + 1) false) u v := by
          rcases huv with he | he
          · rcases hed _ he with h1 | ⟨h1, h2⟩
            · exact .inl h1
            · exact absurd h1 hu.2
          · rcases hed _ he with h1 | ⟨h1, h2⟩
            · exact .inr h1
            · exact absurd h2 hu.2
        refine ⟨hu.1.trans (.of key), fun hv => hu.2 ?_⟩
        have := (h.hi (k + 1) (by omega) (by omega) h4 _ _ (Conn.of key)).mono (abT_le (ts := ts) (f := true) (show k ≤ k + 1 by omega)).subset
        exact hv.trans this.symm
      exact this.1
    have hm := szC_mono (n := n) (fs := abT ts (k + 1) false) (y := x) hsame
    have := h.sz (k + 1) (by omega) h4 x hx (by omega)
    omega
/-- Does an edge cross? -/
def crossT (S : Int → Prop) (t : Tl) : Prop := (S t.1.1 ∧ ¬ S t.1.2) ∨ (¬ S t.1.1 ∧ S t.1.2)
/-- No edge takes the place: on to the level below. -/
theorem MV.next {n : Int} {ts ts' : List Tl} {a b k c : Int} (h : MV n ts a b k) (hk : 0 ≤ k) (hc : c = a ∨ c = b) (hsm : szC n (abT ts k true) c + szC n (abT ts k true) c ≤ n / 2 ^ k.toNat) (hr : RaL (fun y => Conn (abT ts k true) c y) k ts ts')
    (hno : ∀ t ∈ ts, t.2.2 = false → t.2.1 = k → ¬ crossT (fun y => Conn (abT ts k true) c y) t) : MV n ts' a b (k - 1) := by
  obtain ⟨hlv, hup⟩ := h.raise hk hc hsm hr
  have hes := hr.es
  have hne : ∀ {j : Int} {f : Bool}, j ≠ k + 1 → abT ts' j f = abT ts j f := fun hj => hr.ab hj
  refine ⟨by rw [hes]; exact h.vg, hlv, fun j j0 j4 => ?_, fun j j0 jk j4 => ?_, fun j j0 jk => ?_, fun j j0 j4 => ?_, fun j j0 j4 => ?_, fun j j0 jk => ?_, h.ra, h.rb, by have := h.k4; omega⟩
  · by_cases e : j = k + 1
    · subst e; exact (hup j4).1
    · rw [hne e]; exact h.ac j j0 j4
  · by_cases e : j = k + 1
    · subst e; exact (hup j4).2.1
    · rw [hne e, hne e]
      by_cases e2 : j = k
      · subst e2
        intro x y hxy
        refine Conn.via (fun e he => ?_) hxy
        obtain ⟨l, q, hm, hl, -⟩ := mem_abT.1 he
        by_cases hq : q = true
        · exact Conn.edge (mem_abT.2 ⟨l, q, hm, hl, fun _ => hq⟩)
        · have hq : q = false := by simpa using hq
          by_cases hlj : l = j
          · have hx := hno _ hm hq hlj
            rcases conn_cons.1 (h.lo j j0 (Int.le_refl _) _ _ (Conn.edge he)) with h1 | ⟨h1, h2⟩ | ⟨h1, h2⟩
            · exact h1
            · exfalso
              rcases hc with rfl | rfl
              · exact hx (.inl ⟨h1.symm, fun h3 => h.nc j j0 j4 (h3.trans h2.symm)⟩)
              · exact hx (.inr ⟨fun h3 => h.nc j j0 j4 ((h3.trans h1).symm), h2⟩)
            · exfalso
              rcases hc with rfl | rfl
              · exact hx (.inr ⟨fun h3 => h.nc j j0 j4 (h3.trans h1), h2⟩)
              · exact hx (.inl ⟨h1.symm, fun h3 => h.nc j j0 j4 (h2.trans h3.symm)⟩)
          · have : e ∈ abT ts (j + 1) false := mem_abT.2 ⟨l, q, hm, by omega, fun h => by cases h⟩
            by_cases j3 : j + 1 ≤ 4
            · exact (h.hi (j + 1) (by omega) (by omega) j3 _ _ (Conn.edge this)).mono (abT_le (by omega)).subset
            · have := h.lv _ hm
              simp only at this; omega
      · exact h.hi j j0 (by omega) j4
  · rw [hne (by omega), hne (by omega)]; exact h.lo j j0 (by omega)
  · by_cases e : j = k + 1
    · subst e; exact (hup j4).2.2.1
    · rw [hne e]; exact h.nc j j0 j4
  · by_cases e : j = k + 1
    · subst e; exact (hup j4).2.2.2
    · rw [hne e]; exact h.sz j j0 j4
  · rw [hne (by omega)]; exact h.sk j j0 (by omega)
theorem abT_split {p r : List Tl} {t : Tl} {j : Int} {f : Bool} : abT (p ++ t :: r) j f = abT p j f ++ ((if abP j f t = true then [t.1] else []) ++ abT r j f) := by
  unfold abT
  rw [List.filter_append, List.map_append, List.filter_cons]
  split <;> rfl
theorem abT_app {p r : List Tl} {j : Int} {f : Bool} : abT (p ++ r) j f = abT p j f ++ abT r j f := by
  unfold abT
  rw [List.filter_append, List.map_append]
/-- One edge more in the forest. -/
theorem abT_flag {p r : List Tl} {e : Int × Int} {l j : Int} {f : Bool} : (f = false ∨ l < j → abT (p ++ (e, l, true) :: r) j f = abT (p ++ (e, l, false) :: r) j f) ∧ (f = true → j ≤ l → (abT (p ++ (e, l, true) :: r) j f).Perm (e :: abT (p ++ (e, l, false) :: r) j f)) := by
  rw [abT_split, abT_split]
  constructor
  · intro h
    have : abP j f (e, l, true) = abP j f (e, l, false) := by
      unfold abP
      rcases h with h | h
      · subst h; rfl
      · rw [show decide (j ≤ (e, l, true).2.1) = false from decide_eq_false (by show ¬ j ≤ l; omega)]
        rfl
    rw [this]
  · intro h1 h2
    subst h1
    have a1 : abP j true (e, l, true) = true := by unfold abP; rw [show decide (j ≤ (e, l, true).2.1) = true from decide_eq_true h2]; rfl
    have a2 : ¬ abP j true (e, l, false) = true := by unfold abP; simp
    rw [if_pos a1, if_neg a2]
    exact List.perm_middle
/-- An edge takes the place. -/
theorem MV.found {n : Int} {ts p r : List Tl} {a b k c : Int} {e : Int × Int} (h : MV n ts a b k) (hk : 0 ≤ k) (hc : c = a ∨ c = b) (hsm : szC n (abT ts k true) c + szC n (abT ts k true) c ≤ n / 2 ^ k.toNat)
    (hr : RaL (fun y => Conn (abT ts k true) c y) k ts (p ++ (e, k, false) :: r)) (hx : crossT (fun y => Conn (abT ts k true) c y) (e, k, false)) : LV n (p ++ (e, k, true) :: r) ∧ Conn (esT ts) a b ∧ abT (p ++ (e, k, true) :: r) 0 true = abT (p ++ (e, k, true) :: r) 0 true := by
  obtain ⟨hlv, hup⟩ := h.raise hk hc hsm hr
  have hes := hr.es
  have hes2 : esT (p ++ (e, k, true) :: r) = esT (p ++ (e, k, false) :: r) := by simp [esT]
  have hne : ∀ {j : Int} {f : Bool}, j ≠ k + 1 → abT (p ++ (e, k, false) :: r) j f = abT ts j f := fun hj => hr.ab hj
  have hsame : ∀ {j : Int} {f : Bool}, f = false ∨ k < j → abT (p ++ (e, k, true) :: r) j f = abT (p ++ (e, k, false) :: r) j f := fun hj => abT_flag.1 hj
  have hperm : ∀ {j : Int}, j ≤ k → (abT (p ++ (e, k, true) :: r) j true).Perm (e :: abT ts j true) := fun {j} hj => by
    have := (abT_flag (p := p) (r := r) (e := e) (l := k) (j := j) (f := true)).2 rfl hj
    rwa [hne (by omega)] at this
  have hee : e ∈ esT ts := by rw [← hes]; simp [esT]
  have hoe := h.vg.2.2.2.1 e hee
  unfold okE at hoe
  have heA : ∀ j : Int, j ≤ k → e ∈ abT ts j false := fun j hj => by
    rw [← hne (j := j) (by omega)]; exact mem_abT.2 ⟨k, false, by simp, hj, fun h => by cases h⟩
  -- the edge joins both sides
  have hsides : ∀ j : Int, 0 ≤ j → j ≤ k → (Conn (abT ts j true) e.1 a ∧ Conn (abT ts j true) b e.2) ∨ (Conn (abT ts j true) e.1 b ∧ Conn (abT ts j true) a e.2) := fun j j0 jk => by
    have hk' : (Conn (abT ts k true) e.1 a ∧ Conn (abT ts k true) b e.2) ∨ (Conn (abT ts k true) e.1 b ∧ Conn (abT ts k true) a e.2) := by
      rcases conn_cons.1 (h.lo k hk (Int.le_refl _) _ _ (Conn.edge (heA k (Int.le_refl _)))) with h1 | h1 | h1
      · exfalso
        rcases hx with ⟨h2, h3⟩ | ⟨h2, h3⟩
        · exact h3 (h2.trans h1)
        · exact h2 (h3.trans h1.symm)
      · exact .inl h1
      · exact .inr h1
    have hm : ∀ {x y}, Conn (abT ts k true) x y → Conn (abT ts j true) x y := fun hxy => hxy.mono (abT_le jk).subset
    exact hk'.imp (fun h => ⟨hm h.1, hm h.2⟩) fun h => ⟨hm h.1, hm h.2⟩
  have hk4 := h.k4
  have hjoin : ∀ j : Int, 0 ≤ j → j ≤ k → Conn (e :: abT ts j true) a b := fun j j0 jk => by
    have hm : ∀ {x y}, Conn (abT ts j true) x y → Conn (e :: abT ts j true) x y := fun hxy => hxy.mono fun f hf => List.mem_cons_of_mem _ hf
    have h12 : Conn (e :: abT ts j true) e.1 e.2 := Conn.edge (by simp)
    rcases hsides j j0 jk with ⟨h1, h2⟩ | ⟨h1, h2⟩
    · exact (hm h1).symm.trans (h12.trans (hm h2).symm)
    · exact (hm h2).trans (h12.symm.trans (hm h1))
  refine ⟨⟨by rw [hes2, hes]; exact h.vg, fun t ht => ?_, fun j j0 j4 => ?_, fun j j0 j4 => ?_, fun j j0 j4 => ?_⟩, ?_, rfl⟩
  · rw [List.mem_append, List.mem_cons] at ht
    rcases ht with ht | rfl | ht
    · exact hlv t (by simp [ht])
    · have := hlv (e, k, false) (by simp)
      exact this
    · exact hlv t (by simp [ht])
  · by_cases jk : j ≤ k
    · refine Tree.perm (es := e :: abT ts j true) ?_ (hperm jk).symm
      refine Tree.add (a := e.1) (b := e.2) (h.ac j j0 j4) (by omega) (by omega) fun hcc => h.nc j j0 j4 ?_
      rcases hsides j j0 jk with ⟨h1, h2⟩ | ⟨h1, h2⟩
      · exact h1.symm.trans (hcc.trans h2.symm)
      · exact h2.trans (hcc.symm.trans h1)
    · rw [hsame (.inr (by omega))]
      by_cases e1 : j = k + 1
      · subst e1; exact (hup j4).1
      · rw [hne e1]; exact h.ac j j0 j4
  · by_cases jk : j ≤ k
    · intro x y hxy
      rw [hsame (.inl rfl), hne (by omega)] at hxy
      rw [conn_mem fun f => (hperm jk).mem_iff]
      have hm : ∀ {x y}, Conn (abT ts j true) x y → Conn (e :: abT ts j true) x y := fun hxy => hxy.mono fun f hf => List.mem_cons_of_mem _ hf
      have hj := hjoin j j0 jk
      rcases conn_cons.1 (h.lo j j0 jk x y hxy) with h1 | ⟨h1, h2⟩ | ⟨h1, h2⟩
      · exact hm h1
      · exact (hm h1).trans (hj.trans (hm h2))
      · exact (hm h1).trans (hj.symm.trans (hm h2))
    · rw [hsame (.inr (by omega)), hsame (.inr (by omega))]
      by_cases e1 : j = k + 1
      · subst e1; exact (hup j4).2.1
      · rw [hne e1, hne e1]; exact h.hi j j0 (by omega) j4
  · rw [hsame (.inl rfl)]
    by_cases e1 : j = k + 1
    · subst e1; exact (hup j4).2.2.2
    · rw [hne e1]; exact h.sz j j0 j4
  · exact (hjoin 0 (Int.le_refl _) hk).mono fun f hf => by
      rcases List.mem_cons.1 hf with rfl | hf
      · exact hee
      · exact abT_sub_es f hf
section
variable (S : Int → Prop) [DecidablePred S] (k : Int)
/-- Edges of the forest within the nodes are raised. -/
def up1 (t : Tl) : Tl := if t.2.2 = true ∧ t.2.1 = k ∧ S t.1.1 ∧ S t.1.2 then raT t else t
/-- Then the others, up to one that crosses. -/
def scanT : List Tl → List Tl × Int × Bool
  | [] => ([], 0, false)
  | t :: r =>
    if t.2.2 = true ∨ t.2.1 ≠ k ∨ (¬ S t.1.1 ∧ ¬ S t.1.2) then (t :: (scanT r).1, (scanT r).2)
    else if S t.1.1 ∧ S t.1.2 then (raT t :: (scanT r).1, (scanT r).2.1 + 1, (scanT r).2.2)
    else ((t.1, t.2.1, true) :: r, 0, true)
theorem scanT_spec : ∀ ts : List Tl, ((scanT S k ts).2.2 = false ∧ (∀ t ∈ ts, t.2.2 = false → t.2.1 = k → ¬ crossT S t) ∧ ∃ f : Tl → Tl, (scanT S k ts).1 = ts.map f ∧ ∀ t ∈ ts, f t = if t.2.2 = false ∧ t.2.1 = k ∧ S t.1.1 ∧ S t.1.2 then raT t else t) ∨
    ((scanT S k ts).2.2 = true ∧ ∃ p e r, ts = p ++ (e, k, false) :: r ∧ crossT S (e, k, false) ∧ ∃ f : Tl → Tl, (scanT S k ts).1 = p.map f ++ (e, k, true) :: r ∧ ∀ t ∈ p, f t = if t.2.2 = false ∧ t.2.1 = k ∧ S t.1.1 ∧ S t.1.2 then raT t else t)
  | [] => .inl ⟨rfl, by simp, id, rfl, by simp⟩
  | t :: r => by
    have g : ∀ t : Tl, (if t.2.2 = false ∧ t.2.1 = k ∧ S t.1.1 ∧ S t.1.2 then raT t else t) = (fun t : Tl => if t.2.2 = false ∧ t.2.1 = k ∧ S t.1.1 ∧ S t.1.2 then raT t else t) t := fun t => rfl
    have ih := scanT_spec r
    rw [scanT]
    by_cases c1 : t.2.2 = true ∨ t.2.1 ≠ k ∨ (¬ S t.1.1 ∧ ¬ S t.1.2)
    · rw [if_pos c1]
      have ft : (if t.2.2 = false ∧ t.2.1 = k ∧ S t.1.1 ∧ S t.1.2 then raT t else t) = t := if_neg fun h => by
        rcases c1 with h1 | h1 | h1
        · rw [h.1] at h1; cases h1
        · exact h1 h.2.1
        · exact h1.1 h.2.2.1
      rcases ih with ⟨h1, h2, f, h3, h4⟩ | ⟨h1, p, e, q, h2, h3, f, h4, h5⟩
      · refine .inl ⟨h1, fun s hs hs1 hs2 => ?_, fun t => if t.2.2 = false ∧ t.2.1 = k ∧ S t.1.1 ∧ S t.1.2 then raT t else t, ?_, fun _ _ => rfl⟩
        · rcases List.mem_cons.1 hs with rfl | hs
          · rintro (⟨h5, h6⟩ | ⟨h5, h6⟩)
            · rcases c1 with c | c | c
              · rw [hs1] at c; cases c
              · exact c hs2
              · exact c.1 h5
            · rcases c1 with c | c | c
              · rw [hs1] at c; cases c
              · exact c hs2
              · exact c.2 h6
          · exact h2 s hs hs1 hs2
        · rw [List.map_cons, ft, h3]
          exact congrArg _ (List.map_congr_left h4)
      · refine .inr ⟨h1, t :: p, e, q, by rw [h2]; rfl, h3, fun t => if t.2.2 = false ∧ t.2.1 = k ∧ S t.1.1 ∧ S t.1.2 then raT t else t, ?_, fun _ _ => rfl⟩
        rw [List.map_cons, ft, h4, List.map_congr_left h5]; rfl
    · rw [if_neg c1]
      have c2 : t.2.2 = false ∧ t.2.1 = k := ⟨by
        cases h : t.2.2 with
        | false => rfl
        | true => exact absurd (.inl h) c1, Classical.byContradiction fun h => c1 (.inr (.inl h))⟩
      by_cases c3 : S t.1.1 ∧ S t.1.2
      · rw [if_pos c3]
        have ft : (if t.2.2 = false ∧ t.2.1 = k ∧ S t.1.1 ∧ S t.1.2 then raT t else t) = raT t := if_pos ⟨c2.1, c2.2, c3⟩
        rcases ih with ⟨h1, h2, f, h3, h4⟩ | ⟨h1, p, e, q, h2, h3, f, h4, h5⟩
        · refine .inl ⟨h1, fun s hs hs1 hs2 => ?_, fun t => if t.2.2 = false ∧ t.2.1 = k ∧ S t.1.1 ∧ S t.1.2 then raT t else t, ?_, fun _ _ => rfl⟩
          · rcases List.mem_cons.1 hs with rfl | hs
            · rintro (⟨h5, h6⟩ | ⟨h5, h6⟩)
              · exact h6 c3.2
              · exact h5 c3.1
            · exact h2 s hs hs1 hs2
          · rw [List.map_cons, ft, h3]
            exact congrArg _ (List.map_congr_left h4)
        · refine .inr ⟨h1, t :: p, e, q, by rw [h2]; rfl, h3, fun t => if t.2.2 = false ∧ t.2.1 = k ∧ S t.1.1 ∧ S t.1.2 then raT t else t, ?_, fun _ _ => rfl⟩
          rw [List.map_cons, ft, h4, List.map_congr_left h5]; rfl
      · rw [if_neg c3]
        obtain ⟨e, l, b⟩ := t
        simp only at c1 c2 c3
        obtain ⟨rfl, rfl⟩ := c2
        refine .inr ⟨rfl, [], e, r, rfl, ?_, id, rfl, by simp⟩
        by_cases s1 : S e.1
        · exact .inl ⟨s1, fun s2 => c3 ⟨s1, s2⟩⟩
        · exact .inr ⟨s1, Classical.byContradiction fun s2 => c1 (.inr (.inr ⟨s1, s2⟩))⟩
end
section
variable (S : Int → Prop) (k : Int)
theorem raL_map {ts : List Tl} {f : Tl → Tl} (h : ∀ t ∈ ts, Ra S k t (f t)) : RaL S k ts (ts.map f) := by
  induction ts with
  | nil => exact .nil
  | cons t ts ih => exact .cons (h t (by simp)) (ih fun s hs => h s (List.mem_cons_of_mem _ hs))
theorem RaL.app {ts ts' us us' : List Tl} (h1 : RaL S k ts ts') (h2 : RaL S k us us') : RaL S k (ts ++ us) (ts' ++ us') := by
  induction h1 with
  | nil => exact h2
  | cons h _ ih => exact .cons h ih
end
/-- The lesser side. -/
noncomputable def lessC (n : Int) (F : List (Int × Int)) (a b : Int) : Int := if szC n F b < szC n F a then b else a
noncomputable def replL (n : Int) (a b : Int) (k : Int) (ts : List Tl) : List Tl × Int × Bool :=
  let S := fun y => Conn (abT ts k true) (lessC n (abT ts k true) a b) y
  ((scanT S k (ts.map (up1 S k))).1, ((ts.filter fun t => decide (t.2.2 = true ∧ t.2.1 = k ∧ S t.1.1 ∧ S t.1.2)).length : Int) + (scanT S k (ts.map (up1 S k))).2.1, (scanT S k (ts.map (up1 S k))).2.2)
theorem repl_ra {S : Int → Prop} [DecidablePred S] {k : Int} {ts : List Tl} :
    ((scanT S k (ts.map (up1 S k))).2.2 = false ∧ RaL S k ts (scanT S k (ts.map (up1 S k))).1 ∧ ∀ t ∈ ts, t.2.2 = false → t.2.1 = k → ¬ crossT S t) ∨
    ((scanT S k (ts.map (up1 S k))).2.2 = true ∧ ∃ p e r, (scanT S k (ts.map (up1 S k))).1 = p ++ (e, k, true) :: r ∧ RaL S k ts (p ++ (e, k, false) :: r) ∧ crossT S (e, k, false)) := by
  have h1 : ∀ t : Tl, t.2.2 = false → up1 S k t = t := fun t ht => if_neg fun h => by rw [ht] at h; cases h.1
  have h2 : ∀ t : Tl, Ra S k t (up1 S k t) := fun t => by
    unfold up1
    split
    · rename_i h; exact ⟨.inr ⟨h.2.1, h.2.2.1, h.2.2.2, rfl⟩, fun _ _ _ _ => rfl⟩
    · rename_i h; exact ⟨.inl rfl, fun a b c d => absurd ⟨a, b, c, d⟩ h⟩
  have h3 : ∀ (f : Tl → Tl) (t : Tl), (f (up1 S k t) = if (up1 S k t).2.2 = false ∧ (up1 S k t).2.1 = k ∧ S (up1 S k t).1.1 ∧ S (up1 S k t).1.2 then raT (up1 S k t) else up1 S k t) → Ra S k t (f (up1 S k t)) := fun f t hf => by
    rw [hf]
    by_cases ht : t.2.2 = true
    · rw [if_neg fun h => by
        have : (up1 S k t).2.2 = t.2.2 := by unfold up1; split <;> rfl
        rw [this, ht] at h; cases h.1]
      exact h2 t
    · have ht : t.2.2 = false := by simpa using ht
      rw [h1 t ht]
      split
      · rename_i h; exact ⟨.inr ⟨h.2.1, h.2.2.1, h.2.2.2, rfl⟩, fun q => by rw [ht] at q; cases q⟩
      · exact ⟨.inl rfl, fun q => by rw [ht] at q; cases q⟩
  rcases scanT_spec S k (ts.map (up1 S k)) with ⟨a1, a2, f, a3, a4⟩ | ⟨a1, p, e, r, a2, a3, f, a4, a5⟩
  · refine .inl ⟨a1, ?_, fun t ht ht1 ht2 => ?_⟩
    · rw [a3, List.map_map]
      exact raL_map S k fun t ht => h3 f t (a4 _ (List.mem_map.2 ⟨t, ht, rfl⟩))
    · exact a2 t (List.mem_map.2 ⟨t, ht, h1 t ht1⟩) ht1 ht2
  · obtain ⟨p0, q0, rfl, hp, hq⟩ := List.map_eq_append_iff.1 a2
    obtain ⟨t0, r0, rfl, ht, hr⟩ := List.map_eq_cons_iff.1 hq
    have ht0 : t0.2.2 = false := by
      have : (up1 S k t0).2.2 = t0.2.2 := by unfold up1; split <;> rfl
      rw [← this, ht]
    have hte : t0 = (e, k, false) := by rw [← h1 t0 ht0]; exact ht
    subst hte
    refine .inr ⟨a1, p.map f, e, r, a4, ?_, a3⟩
    rw [← hp, List.map_map, ← hr]
    refine RaL.app S k (raL_map S k fun t ht => h3 f t (a5 _ (by rw [← hp]; exact List.mem_map.2 ⟨t, ht, rfl⟩))) (.cons ⟨.inl rfl, fun q => by cases q⟩ (raL_map S k fun t _ => h2 t))
theorem abT_count {p r : List Tl} {e : Int × Int} {l : Int} (h : 0 ≤ l) : (abT (p ++ (e, l, true) :: r) 0 true).length = (abT (p ++ (e, l, false) :: r) 0 true).length + 1 := by
  have := ((abT_flag (p := p) (r := r) (e := e) (l := l) (j := 0) (f := true)).2 rfl h).length_eq
  rw [this, List.length_cons]
theorem scanT_bd {S : Int → Prop} [DecidablePred S] {k : Int} : ∀ ts : List Tl, 0 ≤ (scanT S k ts).2.1 ∧ (scanT S k ts).2.1 ≤ ts.length
  | [] => by simp [scanT]
  | t :: r => by
    have ih := scanT_bd (S := S) (k := k) r
    rw [scanT, List.length_cons]
    split
    · simp only; omega
    · split
      · simp only; omega
      · simp only; omega
theorem replL_bd {n a b k : Int} {ts : List Tl} : 0 ≤ (replL n a b k ts).2.1 ∧ (replL n a b k ts).2.1 ≤ 2 * ts.length := by
  unfold replL
  simp only
  have h1 := scanT_bd (S := fun y => Conn (abT ts k true) (lessC n (abT ts k true) a b) y) (k := k) (ts.map (up1 (fun y => Conn (abT ts k true) (lessC n (abT ts k true) a b) y) k))
  have h2 := List.length_filter_le (fun t : Tl => decide (t.2.2 = true ∧ t.2.1 = k ∧ Conn (abT ts k true) (lessC n (abT ts k true) a b) t.1.1 ∧ Conn (abT ts k true) (lessC n (abT ts k true) a b) t.1.2)) ts
  rw [List.length_map] at h1
  omega
/-- One level. -/
theorem replL_spec {n a b k : Int} {ts : List Tl} (h : MV n ts a b k) (hk : 0 ≤ k) : esT (replL n a b k ts).1 = esT ts ∧
    (((replL n a b k ts).2.2 = false ∧ MV n (replL n a b k ts).1 a b (k - 1) ∧ abT (replL n a b k ts).1 0 true = abT ts 0 true) ∨
     ((replL n a b k ts).2.2 = true ∧ LV n (replL n a b k ts).1 ∧ Conn (esT ts) a b ∧ (abT (replL n a b k ts).1 0 true).length = (abT ts 0 true).length + 1)) := by
  have hc : lessC n (abT ts k true) a b = a ∨ lessC n (abT ts k true) a b = b := by unfold lessC; split <;> simp
  have hj := szC_join (n := n) (h.nc k hk h.k4)
  have hs := h.sk k hk (Int.le_refl _)
  have hsm : szC n (abT ts k true) (lessC n (abT ts k true) a b) + szC n (abT ts k true) (lessC n (abT ts k true) a b) ≤ n / 2 ^ k.toNat := by
    unfold lessC
    split <;> omega
  unfold replL
  simp only
  generalize lessC n (abT ts k true) a b = c at hc hsm
  rcases repl_ra (S := fun y => Conn (abT ts k true) c y) (k := k) (ts := ts) with ⟨a1, a2, a3⟩ | ⟨a1, p, e, r, a2, a3, a4⟩
  · exact ⟨a2.es, .inl ⟨a1, h.next hk hc hsm a2 a3, a2.ab (by omega)⟩⟩
  · obtain ⟨b1, b2, -⟩ := h.found hk hc hsm a3 a4
    rw [a2]
    refine ⟨?_, .inr ⟨a1, b1, b2, ?_⟩⟩
    · rw [← a3.es]; simp [esT]
    · rw [abT_count hk, a3.ab (by omega)]
noncomputable def cutR (n a b : Int) : Nat → List Tl → List Tl × Int × Bool
  | 0, ts => (ts, 0, false)
  | k + 1, ts => if (replL n a b k ts).2.2 = true then replL n a b k ts else ((cutR n a b k (replL n a b k ts).1).1, (replL n a b k ts).2.1 + (cutR n a b k (replL n a b k ts).1).2.1, (cutR n a b k (replL n a b k ts).1).2.2)
theorem esT_len {ts us : List Tl} (h : esT ts = esT us) : ts.length = us.length := by
  have := congrArg List.length h
  unfold esT at this
  simpa using this
theorem cutR_spec {n a b : Int} : ∀ (k : Nat) {ts : List Tl}, MV n ts a b ((k : Int) - 1) → esT (cutR n a b k ts).1 = esT ts ∧ LV n (cutR n a b k ts).1 ∧ ((cutR n a b k ts).2.2 = true ↔ Conn (esT ts) a b) ∧ ((abT (cutR n a b k ts).1 0 true).length = (abT ts 0 true).length + if (cutR n a b k ts).2.2 then 1 else 0) ∧ 0 ≤ (cutR n a b k ts).2.1 ∧ (cutR n a b k ts).2.1 ≤ 2 * ts.length * k
  | 0, ts, h0 => by
    have h : LV n ts := MV.done h0
    refine ⟨rfl, h, Iff.intro (fun q => by cases q) (fun q => ?_), rfl, Int.le_refl _, by simp [cutR]⟩
    exfalso
    refine h0.nc 0 (Int.le_refl _) (by omega) (h.cn 0 (Int.le_refl _) (by omega) a b ?_)
    rw [abT_zero fun t ht => (h.lv t ht).1]; exact q
  | k + 1, ts, h => by
    have h : MV n ts a b k := by
      have e : ((k + 1 : Nat) : Int) - 1 = k := by omega
      rwa [e] at h
    obtain ⟨he, h2⟩ := replL_spec h (by omega)
    have hb := replL_bd (n := n) (a := a) (b := b) (k := k) (ts := ts)
    have hm : 2 * (ts.length : Int) * ((k + 1 : Nat) : Int) = 2 * ts.length * k + 2 * ts.length := by rw [Int.natCast_add, Int.mul_add]; simp
    have hnn : (0 : Int) ≤ 2 * ts.length * k := Int.mul_nonneg (by omega) (by omega)
    rw [cutR]
    rcases h2 with ⟨a1, a2, a3⟩ | ⟨a1, a2, a3, a4⟩
    · rw [if_neg (by rw [a1]; simp)]
      obtain ⟨b1, b2, b3, b4, b5, b6⟩ := cutR_spec k a2
      rw [he] at b1 b3
      rw [a3] at b4
      rw [esT_len he] at b6
      exact ⟨b1, b2, b3, b4, by simp only; omega, by simp only; omega⟩
    · rw [if_pos a1]
      exact ⟨he, a2, ⟨fun _ => a3, fun _ => a1⟩, by rw [a4, a1]; rfl, hb.1, by omega⟩
theorem abT_mid {p r : List Tl} {e : Int × Int} {l j : Int} {b f : Bool} : (j ≤ l ∧ (f = true → b = true) → (abT (p ++ (e, l, b) :: r) j f).Perm (e :: abT (p ++ r) j f)) ∧ (¬ (j ≤ l ∧ (f = true → b = true)) → abT (p ++ (e, l, b) :: r) j f = abT (p ++ r) j f) := by
  rw [abT_split, abT_app]
  constructor
  · rintro ⟨h1, h2⟩
    have : abP j f (e, l, b) = true := by
      unfold abP
      rw [show decide (j ≤ (e, l, b).2.1) = true from decide_eq_true h1]
      cases f
      · rfl
      · rw [show (e, l, b).2.2 = true from h2 rfl]; rfl
    rw [if_pos this]
    exact List.perm_middle
  · intro h
    have : ¬ abP j f (e, l, b) = true := fun q => h (by
      unfold abP at q
      rw [Bool.and_eq_true, decide_eq_true_eq, Bool.or_eq_true] at q
      exact ⟨q.1, fun hf => q.2.resolve_left (by rw [hf]; simp)⟩)
    rw [if_neg this, List.nil_append]
theorem esT_mid {p r : List Tl} {t : Tl} : (esT (p ++ r)).Sublist (esT (p ++ t :: r)) := by
  unfold esT
  refine List.Sublist.map _ ?_
  exact List.Sublist.append_left (List.sublist_cons_self _ _) _
theorem szC_sub {n : Int} {es fs : List (Int × Int)} {x : Int} (h : ∀ e ∈ es, e ∈ fs) : szC n es x ≤ szC n fs x := szC_mono fun z hz => hz.mono h
theorem LV.cutF {n : Int} {p r : List Tl} {e : Int × Int} {l : Int} (h : LV n (p ++ (e, l, false) :: r)) : LV n (p ++ r) := by
  have hT : ∀ j : Int, abT (p ++ (e, l, false) :: r) j true = abT (p ++ r) j true := fun j => abT_mid.2 fun q => by cases q.2 rfl
  have hA : ∀ j : Int, ∀ f ∈ abT (p ++ r) j false, f ∈ abT (p ++ (e, l, false) :: r) j false := fun j f hf => by
    obtain ⟨l', b, hm, h1, h2⟩ := mem_abT.1 hf
    exact mem_abT.2 ⟨l', b, by simp only [List.mem_append, List.mem_cons] at hm ⊢; exact hm.imp id .inr, h1, h2⟩
  refine ⟨h.vg.sub esT_mid, fun t ht => h.lv t (by simp only [List.mem_append, List.mem_cons] at ht ⊢; exact ht.imp id .inr), fun j j0 j4 => ?_, fun j j0 j4 x y hxy => ?_, fun j j0 j4 x hx h1 => ?_⟩
  · rw [← hT]; exact h.ac j j0 j4
  · rw [← hT]; exact h.cn j j0 j4 x y (hxy.mono (hA j))
  · have := szC_sub (n := n) (x := x) (hA j)
    have := h.sz j j0 j4 x hx (by omega)
    omega
theorem LV.cutT {n : Int} {p r : List Tl} {e : Int × Int} {l : Int} (h : LV n (p ++ (e, l, true) :: r)) : MV n (p ++ r) e.1 e.2 l ∧ 0 ≤ l := by
  have hel := h.lv (e, l, true) (by simp)
  simp only at hel
  have hoe := h.vg.2.2.2.1 e (by simp [esT])
  unfold okE at hoe
  have hP : ∀ {j : Int} {f : Bool}, j ≤ l → (abT (p ++ (e, l, true) :: r) j f).Perm (e :: abT (p ++ r) j f) := fun hj => abT_mid.1 ⟨hj, fun _ => rfl⟩
  have hE : ∀ {j : Int} {f : Bool}, ¬ j ≤ l → abT (p ++ (e, l, true) :: r) j f = abT (p ++ r) j f := fun hj => abT_mid.2 fun q => hj q.1
  have hA : ∀ {j : Int} {f : Bool}, ∀ g ∈ abT (p ++ r) j f, g ∈ abT (p ++ (e, l, true) :: r) j f := fun {j f} g hg => by
    obtain ⟨l', b, hm, h1, h2⟩ := mem_abT.1 hg
    exact mem_abT.2 ⟨l', b, by simp only [List.mem_append, List.mem_cons] at hm ⊢; exact hm.imp id .inr, h1, h2⟩
  have hcut : ∀ j : Int, 0 ≤ j → j ≤ 4 → j ≤ l → Tree n (abT (p ++ r) j true) ∧ ¬ Conn (abT (p ++ r) j true) e.1 e.2 := fun j j0 j4 jl => by
    refine Tree.cut ((h.ac j j0 j4).perm (hP jl)) fun f hf => h.vg.2.2.2.1 f ?_
    exact abT_sub_es f ((hP jl).mem_iff.2 hf)
  refine ⟨⟨h.vg.sub esT_mid, fun t ht => h.lv t (by simp only [List.mem_append, List.mem_cons] at ht ⊢; exact ht.imp id .inr), fun j j0 j4 => ?_, fun j j0 jk j4 => ?_, fun j j0 jk x y hxy => ?_, fun j j0 j4 hc => ?_, fun j j0 j4 x hx h1 => ?_, fun j j0 jk => ?_, ⟨hoe.1, by omega⟩, ⟨by omega, hoe.2.2⟩, hel.2⟩, hel.1⟩
  · by_cases jl : j ≤ l
    · exact (hcut j j0 j4 jl).1
    · rw [← hE jl]; exact h.ac j j0 j4
  · have := h.cn j j0 j4
    rwa [hE (by omega), hE (by omega)] at this
  · have := h.cn j j0 (by omega) x y (hxy.mono hA)
    rw [conn_mem fun f => (hP jk).mem_iff] at this
    exact this
  · by_cases jl : j ≤ l
    · exact (hcut j j0 j4 jl).2 hc
    · exact (hcut l hel.1 hel.2 (Int.le_refl _)).2 (hc.mono (abT_le (by omega)).subset)
  · have := szC_sub (n := n) (x := x) (hA (j := j) (f := false))
    have := h.sz j j0 j4 x hx (by omega)
    omega
  · have h1 : szC n ((e.1, e.2) :: abT (p ++ r) j true) e.1 ≤ szC n (abT (p ++ (e, l, true) :: r) j false) e.1 := szC_sub fun f hf => abT_tree f ((hP jk).mem_iff.2 hf)
    have h2 := szC_two (n := n) (es := abT (p ++ (e, l, true) :: r) j false) (x := e.1) (u := e.1) (v := e.2) ⟨hoe.1, by omega⟩ ⟨by omega, hoe.2.2⟩ (by omega) (.refl _) (Conn.edge ((hP jk).mem_iff.2 (by simp)))
    have := h.sz j j0 (by omega) e.1 ⟨hoe.1, by omega⟩ (by omega)
    omega
/-- An edge of level 0 comes in. -/
theorem LV.put {n : Int} {p r : List Tl} {e : Int × Int} (h : LV n (p ++ r)) (hV : VG n (esT (p ++ (e, 0, true) :: r))) : LV n (p ++ (e, 0, !decide (Conn (esT (p ++ r)) e.1 e.2)) :: r) := by
  have hes : ∀ b : Bool, esT (p ++ (e, 0, b) :: r) = esT (p ++ (e, 0, true) :: r) := fun b => by simp [esT]
  have hoe := hV.2.2.2.1 e (by simp [esT])
  unfold okE at hoe
  have hz : ∀ t ∈ p ++ r, 0 ≤ t.2.1 := fun t ht => (h.lv t ht).1
  generalize hb : (!decide (Conn (esT (p ++ r)) e.1 e.2)) = b
  have hE : ∀ {j : Int} {f : Bool}, ¬ j = 0 → 0 ≤ j → abT (p ++ (e, 0, b) :: r) j f = abT (p ++ r) j f := fun hj h0 => abT_mid.2 fun q => by omega
  have hA : (abT (p ++ (e, 0, b) :: r) 0 false).Perm (e :: abT (p ++ r) 0 false) := abT_mid.1 ⟨Int.le_refl _, fun q => by cases q⟩
  have h0 := abT_zero hz
  have hcn0 := h.cn 0 (Int.le_refl _) (by omega)
  refine ⟨by rw [hes]; exact hV, fun t ht => ?_, fun j j0 j4 => ?_, fun j j0 j4 x y hxy => ?_, fun j j0 j4 x hx h1 => ?_⟩
  · rw [List.mem_append, List.mem_cons] at ht
    rcases ht with ht | rfl | ht
    · exact h.lv t (by simp [ht])
    · simp
    · exact h.lv t (by simp [ht])
  · by_cases j1 : j = 0
    · subst j1
      cases b with
      | false =>
        rw [(abT_mid (p := p) (r := r) (e := e) (l := 0) (j := 0) (b := false) (f := true)).2 fun q => by cases q.2 rfl]
        exact h.ac 0 j0 j4
      | true =>
        have hp := (abT_mid (p := p) (r := r) (e := e) (l := 0) (j := 0) (b := true) (f := true)).1 ⟨Int.le_refl _, fun _ => rfl⟩
        refine Tree.perm (es := e :: abT (p ++ r) 0 true) ?_ hp.symm
        refine Tree.add (a := e.1) (b := e.2) (h.ac 0 j0 j4) ⟨hoe.1, by omega⟩ ⟨by omega, hoe.2.2⟩ fun hc => ?_
        have : Conn (esT (p ++ r)) e.1 e.2 := hc.mono abT_sub_es
        rw [decide_eq_true this] at hb; cases hb
    · rw [hE j1 j0]; exact h.ac j j0 j4
  · by_cases j1 : j = 0
    · subst j1
      rw [conn_mem fun f => hA.mem_iff] at hxy
      cases b with
      | false =>
        rw [(abT_mid (p := p) (r := r) (e := e) (l := 0) (j := 0) (b := false) (f := true)).2 fun q => by cases q.2 rfl]
        have hc : Conn (esT (p ++ r)) e.1 e.2 := by simpa using hb
        refine Conn.via (fun f hf => ?_) hxy
        rcases List.mem_cons.1 hf with rfl | hf
        · exact hcn0 _ _ (by rw [h0]; exact hc)
        · exact hcn0 _ _ (Conn.edge hf)
      | true =>
        have hp := (abT_mid (p := p) (r := r) (e := e) (l := 0) (j := 0) (b := true) (f := true)).1 ⟨Int.le_refl _, fun _ => rfl⟩
        rw [conn_mem fun f => hp.mem_iff]
        refine Conn.via (fun f hf => ?_) hxy
        rcases List.mem_cons.1 hf with rfl | hf
        · exact Conn.edge (by simp)
        · exact (hcn0 _ _ (Conn.edge hf)).mono fun g hg => List.mem_cons_of_mem _ hg
    · rw [hE j1 j0] at hxy ⊢; exact h.cn j j0 j4 x y hxy
  · by_cases j1 : j = 0
    · subst j1
      have := szC_le (n := n) (es := abT (p ++ (e, 0, b) :: r) 0 false) (x := x) (by have := hV.1; omega)
      simpa using this
    · rw [hE j1 j0] at h1 ⊢; exact h.sz j j0 j4 x hx h1
theorem LV.nil {n : Int} (h1 : 1 ≤ n) (h2 : n ≤ 16) : LV n [] := by
  refine ⟨⟨h1, h2, by simp [esT], by simp [esT], by simp [esT, Ord]⟩, by simp, fun j _ _ => tree_nil, fun j _ _ x y h => h, fun j _ _ x hx h => ?_⟩
  exfalso
  have : szC n (abT [] j false) x ≤ 1 := by
    unfold szC
    have := len_le_of_sub (l := (iota n).filter fun y => decide (Conn (abT [] j false) x y)) (m := [x]) ((nodup_iota n).sublist List.filter_sublist) fun z hz => by
      simp only [List.mem_filter, decide_eq_true_eq] at hz
      rw [Conn.nil hz.2]; simp
    simp only [List.length_singleton] at this
    omega
  omega
end Go.Proofs.YtdlfdoicheakoaaGreat.X
