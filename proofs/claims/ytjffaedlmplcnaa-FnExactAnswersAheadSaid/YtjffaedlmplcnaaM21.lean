/- Sets that are put together, spans of time: plain law. -/
import Derived.Test.YtjffaedlmplcnaaKF
set_option linter.unusedVariables false
namespace Go.Proofs.Ytjffaedlmplcnaa.X
open Go
abbrev inN (n x : Int) : Prop := 0 ≤ x ∧ x < n
inductive Rt (par : List Int) : Int → Int → Prop
  | top {x : Int} (h : gI par x < 0) : Rt par x x
  | up {x r : Int} (h : 0 ≤ gI par x) (k : Rt par (gI par x) r) : Rt par x r
theorem Rt.det {par : List Int} {x r s : Int} (h : Rt par x r) (k : Rt par x s) : r = s := by
  induction h with
  | top h1 =>
    cases k with
    | top _ => rfl
    | up h2 _ => omega
  | up h1 _ ih =>
    cases k with
    | top h2 => omega
    | up _ k2 => exact ih k2
theorem Rt.neg {par : List Int} {x r : Int} (h : Rt par x r) : gI par r < 0 := by
  induction h with
  | top h => exact h
  | up _ _ ih => exact ih
theorem sum_upd {f : Int → Int} {a v : Int} : ∀ {l : List Int}, l.Nodup → a ∈ l → (l.map fun x => if x = a then v else f x).sum = (l.map f).sum + v - f a
  | [], _, h => by simp at h
  | x :: l, hn, h => by
    rw [List.nodup_cons] at hn
    rw [List.map_cons, List.sum_cons, List.map_cons, List.sum_cons]
    by_cases hx : x = a
    · subst hx
      have : (l.map fun y => if y = x then v else f y) = l.map f := List.map_congr_left fun y hy => if_neg fun (e : y = x) => hn.1 (e ▸ hy)
      rw [if_pos rfl, this]; omega
    · have h' : a ∈ l := by
        rcases List.mem_cons.1 h with e | e
        · exact absurd e.symm hx
        · exact e
      rw [if_neg hx, sum_upd hn.2 h']; omega
theorem sum_ge {f : Int → Int} {a : Int} {l : List Int} (hn : l.Nodup) (ha : a ∈ l) (hf : ∀ x ∈ l, 0 ≤ f x) : f a ≤ (l.map f).sum := by
  have h := sum_upd (f := f) (v := 0) hn ha
  have : 0 ≤ (l.map fun x => if x = a then (0 : Int) else f x).sum := sum_nonneg fun y hy => by
    obtain ⟨x, hx, rfl⟩ := List.mem_map.1 hy
    split
    · omega
    · exact hf x hx
  omega
theorem sum_ge2 {f : Int → Int} {a b : Int} {l : List Int} (hn : l.Nodup) (ha : a ∈ l) (hb : b ∈ l) (hab : a ≠ b) (hf : ∀ x ∈ l, 0 ≤ f x) : f a + f b ≤ (l.map f).sum := by
  have h := sum_upd (f := f) (v := 0) hn ha
  have h2 := sum_ge (f := fun x => if x = a then (0 : Int) else f x) hn hb fun x hx => by
    show 0 ≤ if x = a then (0 : Int) else f x
    split
    · omega
    · exact hf x hx
  have e : (if b = a then (0 : Int) else f b) = f b := if_neg (Ne.symm hab)
  have h3 : (if b = a then (0 : Int) else f b) ≤ (l.map fun x => if x = a then (0 : Int) else f x).sum := h2
  omega
def rsz (par sz : List Int) (x : Int) : Int := if gI par x < 0 then gI sz x else 0
theorem nodup_iota (n : Int) : (iota n).Nodup := (sorted_iota n).imp fun h => by omega
/-- Sets that hold together what edges hold together. -/
structure US (n : Int) (es : List (Int × Int)) (par sz : List Int) : Prop where
  lp : par.length = n.toNat
  ls : sz.length = n.toNat
  rg : ∀ x, inN n x → gI par x = -1 ∨ (inN n (gI par x) ∧ gI sz x < gI sz (gI par x))
  pos : ∀ x, inN n x → 1 ≤ gI sz x
  bd : ∀ x, inN n x → gI sz x ≤ n
  sum : ((iota n).map (rsz par sz)).sum = n
  cn : ∀ x y r s, inN n x → inN n y → Rt par x r → Rt par y s → (r = s ↔ Conn es x y)
theorem US.root {n : Int} {es : List (Int × Int)} {par sz : List Int} (h : US n es par sz) : ∀ (k : Nat) (x : Int), inN n x → (n - gI sz x).toNat ≤ k → ∃ r, inN n r ∧ Rt par x r
  | k, x, hx, hk => by
    rcases h.rg x hx with h1 | ⟨h1, h2⟩
    · exact ⟨x, hx, .top (by omega)⟩
    · have h3 := h.bd _ h1
      cases k with
      | zero => omega
      | succ k =>
        obtain ⟨r, r1, r2⟩ := h.root k (gI par x) h1 (by omega)
        exact ⟨r, r1, .up h1.1 r2⟩
theorem US.root' {n : Int} {es : List (Int × Int)} {par sz : List Int} (h : US n es par sz) {x : Int} (hx : inN n x) : ∃ r, inN n r ∧ Rt par x r := h.root _ x hx (Nat.le_refl _)
theorem gI_rep {n x v : Int} (hx : inN n x) : gI (List.replicate n.toNat v) x = v := by
  obtain ⟨h0, h1⟩ := hx
  have : x.toNat < n.toNat := by omega
  simp only [gI, List.getD_eq_getElem?_getD, List.getElem?_replicate, if_pos this, Option.getD_some]
theorem US.new {n : Int} (h1 : 1 ≤ n) : US n [] (List.replicate n.toNat (-1)) (List.replicate n.toNat 1) := by
  refine ⟨by simp, by simp, fun x hx => .inl (gI_rep hx), fun x hx => by rw [gI_rep hx]; omega, fun x hx => by rw [gI_rep hx]; omega, ?_, fun x y r s hx hy hr hs => ?_⟩
  · have e : (iota n).map (rsz (List.replicate n.toNat (-1)) (List.replicate n.toNat 1)) = (iota n).map fun _ => (1 : Int) := List.map_congr_left fun x hx => by
      have hx' : inN n x := mem_iota.1 hx
      rw [rsz, gI_rep hx', gI_rep hx', if_pos (by omega)]
    have : ∀ l : List Int, (l.map fun _ => (1 : Int)).sum = l.length := by
      intro l
      induction l with
      | nil => rfl
      | cons a l ih => rw [List.map_cons, List.sum_cons, ih, List.length_cons]; omega
    rw [e, this, iota_length]; omega
  · have e1 : r = x := hr.det (.top (by rw [gI_rep hx]; omega))
    have e2 : s = y := hs.det (.top (by rw [gI_rep hy]; omega))
    subst e1 e2
    exact ⟨fun e => e ▸ .refl _, fun h => h.nil⟩
/-- Two nodes of one set. -/
theorem US.same {n : Int} {es : List (Int × Int)} {par sz : List Int} (h : US n es par sz) {x y r : Int} (hx : inN n x) (hy : inN n y) (hr : Rt par x r) (hs : Rt par y r) : US n ((x, y) :: es) par sz := by
  refine ⟨h.lp, h.ls, h.rg, h.pos, h.bd, h.sum, fun u v a b hu hv ha hb => ?_⟩
  have hxy := (h.cn x y r r hx hy hr hs).1 rfl
  rw [h.cn u v a b hu hv ha hb, conn_cons]
  constructor
  · exact .inl
  · rintro (h | ⟨h1, h2⟩ | ⟨h1, h2⟩)
    · exact h
    · exact h1.trans (hxy.trans h2)
    · exact h1.trans (hxy.symm.trans h2)
theorem Rt.link {n : Int} {par : List Int} {a b x r : Int} (hl : par.length = n.toNat) (hrg : ∀ x, inN n x → gI par x = -1 ∨ inN n (gI par x)) (ha : inN n a) (hb : inN n b) (hab : a ≠ b) (hna : gI par a < 0) (hnb : gI par b < 0) (h : Rt par x r) (hx : inN n x) :
    Rt (par.set b.toNat a) x (if r = b then a else r) := by
  have hs : ∀ y, inN n y → gI (par.set b.toNat a) y = if b = y then a else gI par y := fun y hy => gI_set hb.1 hy.1 (by obtain ⟨p, q⟩ := hy; omega)
  induction h with
  | @top x h1 =>
    by_cases e : x = b
    · subst e
      rw [if_pos rfl]
      refine .up ?_ ?_
      · rw [hs x hx, if_pos rfl]; exact ha.1
      · rw [hs x hx, if_pos rfl]
        exact .top (by rw [hs a ha, if_neg (Ne.symm hab)]; exact hna)
    · rw [if_neg e]
      exact .top (by rw [hs x hx, if_neg (Ne.symm e)]; exact h1)
  | @up x r h1 h2 ih =>
    have e : x ≠ b := fun e => by rw [e] at h1; omega
    have hp : inN n (gI par x) := (hrg x hx).resolve_left (by omega)
    refine .up ?_ ?_
    · rw [hs x hx, if_neg (Ne.symm e)]; exact h1
    · rw [hs x hx, if_neg (Ne.symm e)]; exact ih hp
/-- Two nodes of different sets: the root of the one becomes the parent of the other one. -/
theorem US.link {n : Int} {es : List (Int × Int)} {par sz : List Int} (h : US n es par sz) {x y a b : Int} (hx : inN n x) (hy : inN n y) (ha : inN n a) (hb : inN n b) (hr : Rt par x a ∧ Rt par y b ∨ Rt par x b ∧ Rt par y a) (hab : a ≠ b) :
    US n ((x, y) :: es) (par.set b.toNat a) (sz.set a.toNat (gI sz a + gI sz b)) ∧ gI sz a + gI sz b ≤ n := by
  have hna : gI par a < 0 := by rcases hr with h | h <;> first | exact h.1.neg | exact h.2.neg
  have hnb : gI par b < 0 := by rcases hr with h | h <;> first | exact h.2.neg | exact h.1.neg
  have hP : ∀ z, inN n z → gI (par.set b.toNat a) z = if b = z then a else gI par z := fun z hz => gI_set hb.1 hz.1 (by rw [h.lp]; obtain ⟨p, q⟩ := hz; omega)
  have hZ : ∀ z, inN n z → gI (sz.set a.toNat (gI sz a + gI sz b)) z = if a = z then gI sz a + gI sz b else gI sz z := fun z hz => gI_set ha.1 hz.1 (by rw [h.ls]; obtain ⟨p, q⟩ := hz; omega)
  have pa := h.pos a ha
  have pb := h.pos b hb
  have hnn : ∀ z ∈ iota n, 0 ≤ rsz par sz z := fun z hz => by
    have := h.pos z (mem_iota.1 hz)
    unfold rsz; split <;> omega
  have hsum : gI sz a + gI sz b ≤ n := by
    have := sum_ge2 (f := rsz par sz) (nodup_iota n) (mem_iota.2 ha) (mem_iota.2 hb) hab hnn
    rw [h.sum] at this
    unfold rsz at this
    rwa [if_pos hna, if_pos hnb] at this
  refine ⟨⟨by rw [List.length_set]; exact h.lp, by rw [List.length_set]; exact h.ls, fun z hz => ?_, fun z hz => ?_, fun z hz => ?_, ?_, fun u v r s hu hv hru hsv => ?_⟩, hsum⟩
  · rw [hP z hz, hZ z hz]
    by_cases e : b = z
    · subst e
      rw [if_pos rfl, if_neg hab]
      refine .inr ⟨ha, ?_⟩
      rw [hZ a ha, if_pos rfl]; omega
    · rw [if_neg e]
      rcases h.rg z hz with h1 | ⟨h1, h2⟩
      · exact .inl h1
      · refine .inr ⟨h1, ?_⟩
        rw [hZ _ h1, if_neg (fun q : a = z => by rw [q] at hna; omega)]
        split
        · rename_i q; rw [← q] at h2; omega
        · exact h2
  · rw [hZ z hz]; have := h.pos z hz; split <;> omega
  · rw [hZ z hz]; have := h.bd z hz; split <;> omega
  · have e : (iota n).map (rsz (par.set b.toNat a) (sz.set a.toNat (gI sz a + gI sz b))) = (iota n).map fun z => if z = b then 0 else (if z = a then gI sz a + gI sz b else rsz par sz z) := List.map_congr_left fun z hz => by
      have hz' : inN n z := mem_iota.1 hz
      unfold rsz
      rw [hP z hz', hZ z hz']
      by_cases e1 : b = z
      · rw [if_pos e1, if_pos e1.symm, if_neg (by have := ha.1; omega)]
      · rw [if_neg e1, if_neg (Ne.symm e1)]
        by_cases e2 : a = z
        · subst e2; rw [if_pos rfl, if_pos rfl, if_pos hna]
        · rw [if_neg e2, if_neg (Ne.symm e2)]
    rw [e, sum_upd (f := fun z => if z = a then gI sz a + gI sz b else rsz par sz z) (nodup_iota n) (mem_iota.2 hb), sum_upd (nodup_iota n) (mem_iota.2 ha), h.sum, if_neg (Ne.symm hab)]
    simp only [rsz, if_pos hna, if_pos hnb]; omega
  · obtain ⟨r0, -, hr0⟩ := h.root' hu
    obtain ⟨s0, -, hs0⟩ := h.root' hv
    have hrg : ∀ x, inN n x → gI par x = -1 ∨ inN n (gI par x) := fun x hx => (h.rg x hx).imp id And.left
    have e1 := hru.det (hr0.link h.lp hrg ha hb hab hna hnb hu)
    have e2 := hsv.det (hs0.link h.lp hrg ha hb hab hna hnb hv)
    subst e1 e2
    have c1 := h.cn u v r0 s0 hu hv hr0 hs0
    rw [conn_cons, ← c1]
    have key : ∀ {p q : Int}, inN n p → inN n q → Rt par p a → Rt par q b → ((if r0 = b then a else r0) = (if s0 = b then a else s0) ↔ r0 = s0 ∨ (Conn es u p ∧ Conn es q v) ∨ (Conn es u q ∧ Conn es p v)) := fun {p q} hp hq ra rb => by
      rw [← h.cn u p r0 a hu hp hr0 ra, ← h.cn q v b s0 hq hv rb hs0, ← h.cn u q r0 b hu hq hr0 rb, ← h.cn p v a s0 hp hv ra hs0]
      by_cases c : r0 = b
      · by_cases d : s0 = b
        · rw [if_pos c, if_pos d]; exact ⟨fun _ => .inl (c.trans d.symm), fun _ => rfl⟩
        · rw [if_pos c, if_neg d]
          exact ⟨fun e => .inr (.inr ⟨c, e⟩), fun e => by rcases e with e | ⟨e, f⟩ | ⟨e, f⟩ <;> omega⟩
      · by_cases d : s0 = b
        · rw [if_neg c, if_pos d]
          exact ⟨fun e => .inr (.inl ⟨e, d.symm⟩), fun e => by rcases e with e | ⟨e, f⟩ | ⟨e, f⟩ <;> omega⟩
        · rw [if_neg c, if_neg d]
          exact ⟨.inl, fun e => by rcases e with e | ⟨e, f⟩ | ⟨e, f⟩ <;> omega⟩
    rcases hr with ⟨h1, h2⟩ | ⟨h1, h2⟩
    · exact key hx hy h1 h2
    · rw [key hy hx h2 h1]
      exact or_congr Iff.rfl ⟨fun h => h.symm, fun h => h.symm⟩
/-- How many spans a time has. -/
def spanN : Nat → Int → Int → Int → Int → Int
  | 0, _, _, _, _ => 0
  | f + 1, lo, hi, fr, to => if fr ≤ lo ∧ hi ≤ to then 1 else if hi ≤ fr ∨ to ≤ lo then 0 else spanN f lo ((lo + hi) / 2) fr to + spanN f ((lo + hi) / 2) hi fr to
theorem spanN_bd : ∀ {f : Nat} {lo hi fr to : Int}, lo < hi → (hi - lo).toNat ≤ f → 0 ≤ spanN f lo hi fr to ∧ spanN f lo hi fr to ≤ hi - lo
  | 0, lo, hi, fr, to, h, hf => by omega
  | f + 1, lo, hi, fr, to, h, hf => by
    unfold spanN
    split
    · omega
    · split
      · omega
      · have a := spanN_bd (f := f) (lo := lo) (hi := (lo + hi) / 2) (fr := fr) (to := to) (by omega) (by omega)
        have b := spanN_bd (f := f) (lo := (lo + hi) / 2) (hi := hi) (fr := fr) (to := to) (by omega) (by omega)
        omega
theorem spanN_fuel : ∀ {f g : Nat} {lo hi fr to : Int}, lo < hi → fr < to → (hi - lo).toNat ≤ f → (hi - lo).toNat ≤ g → spanN f lo hi fr to = spanN g lo hi fr to
  | 0, g, lo, hi, fr, to, h, _, hf, hg => by omega
  | f + 1, 0, lo, hi, fr, to, h, _, hf, hg => by omega
  | f + 1, g + 1, lo, hi, fr, to, h, h2, hf, hg => by
    unfold spanN
    split
    · rfl
    · split
      · rfl
      · rw [spanN_fuel (f := f) (g := g) (by omega) h2 (by omega) (by omega), spanN_fuel (f := f) (g := g) (lo := (lo + hi) / 2) (by omega) h2 (by omega) (by omega)]
end Go.Proofs.Ytjffaedlmplcnaa.X
