/- Sets that are put together, spans of time: plain law. -/
import Derived.Test.YtmocnnknnbalkaaGreatDoorKAG
set_option linter.unusedVariables false
namespace Go.Proofs.YtmocnnknnbalkaaGreatDoor.X
open Go
abbrev inN (n x : Int) : Prop := 0 ≤ x ∧ x < n
inductive Rt (par : List Int) : Int → Int → Prop
  | top {x : Int} (h : gI par x < 0) : Rt par x x
  | up {x r : Int} (h : 0 ≤ gI par x) (k : Rt par (gI par x) r) : Rt par x r
theorem Rt.det {par : List Int} {x r s : Int} (h : Rt par x r) (k : Rt par x s) : r = s := by
  induction h with
  | top h1 =>
    cases k with
    | top _ => rfl
    | up h2 _ => omega
  | up h1 _ ih =>
    cases k with
    | top h2 => omega
    | up _ k2 => exact ih k2
theorem Rt.neg {par : List Int} {x r : Int} (h : Rt par x r) : gI par r < 0 := by
  induction h with
  | top h => exact h
  | up _ _ ih => exact ih
def rsz (par sz : List Int) (x : Int) : Int := if gI par x < 0 then gI sz x else 0
theorem nodup_iota (n : Int) : (iota n).Nodup := (sorted_iota n).imp fun h => by omega
/-- Sets that hold together what edges hold together. -/
structure US (n : Int) (es : List (Int × Int)) (par sz : List Int) : Prop where
  lp : par.length = n.toNat
  ls : sz.length = n.toNat
  rg : ∀ x, inN n x → gI par x = -1 ∨ (inN n (gI par x) ∧ gI sz x < gI sz (gI par x))
  pos : ∀ x, inN n x → 1 ≤ gI sz x
  bd : ∀ x, inN n x → gI sz x ≤ n
  sum : ((iota n).map (rsz par sz)).sum = n
  cn : ∀ x y r s, inN n x → inN n y → Rt par x r → Rt par y s → (r = s ↔ Conn es x y)
theorem US.root {n : Int} {es : List (Int × Int)} {par sz : List Int} (h : US n es par sz) : ∀ (k : Nat) (x : Int), inN n x → (n - gI sz x).toNat ≤ k → ∃ r, inN n r ∧ Rt par x r
  | k, x, hx, hk => by
    rcases h.rg x hx with h1 | ⟨h1, h2⟩
    · exact ⟨x, hx, .top (by omega)⟩
    · have h3 := h.bd _ h1
      cases k with
      | zero => omega
      | succ k =>
        obtain ⟨r, r1, r2⟩ := h.root k (gI par x) h1 (by omega)
        exact ⟨r, r1, .up h1.1 r2⟩
theorem gI_rep {n x v : Int} (hx : inN n x) : gI (List.replicate n.toNat v) x = v := by
  obtain ⟨h0, h1⟩ := hx
  have : x.toNat < n.toNat := by omega
  simp only [gI, List.getD_eq_getElem?_getD, List.getElem?_replicate, if_pos this, Option.getD_some]
theorem US.new {n : Int} (h1 : 1 ≤ n) : US n [] (List.replicate n.toNat (-1)) (List.replicate n.toNat 1) := by
  refine ⟨by simp, by simp, fun x hx => .inl (gI_rep hx), fun x hx => by rw [gI_rep hx]; omega, fun x hx => by rw [gI_rep hx]; omega, ?_, fun x y r s hx hy hr hs => ?_⟩
  · have e : (iota n).map (rsz (List.replicate n.toNat (-1)) (List.replicate n.toNat 1)) = (iota n).map fun _ => (1 : Int) := List.map_congr_left fun x hx => by
      have hx' : inN n x := mem_iota.1 hx
      rw [rsz, gI_rep hx', gI_rep hx', if_pos (by omega)]
    have : ∀ l : List Int, (l.map fun _ => (1 : Int)).sum = l.length := by
      intro l
      induction l with
      | nil => rfl
      | cons a l ih => rw [List.map_cons, List.sum_cons, ih, List.length_cons]; omega
    rw [e, this, iota_length]; omega
  · have e1 : r = x := hr.det (.top (by rw [gI_rep hx]; omega))
    have e2 : s = y := hs.det (.top (by rw [gI_rep hy]; omega))
    subst e1 e2
    exact ⟨fun e => e ▸ .refl _, fun h => h.nil⟩
/-- Two nodes of one set. -/
theorem US.same {n : Int} {es : List (Int × Int)} {par sz : List Int} (h : US n es par sz) {x y r : Int} (hx : inN n x) (hy : inN n y) (hr : Rt par x r) (hs : Rt par y r) : US n ((x, y) :: es) par sz := by
  refine ⟨h.lp, h.ls, h.rg, h.pos, h.bd, h.sum, fun u v a b hu hv ha hb => ?_⟩
  have hxy := (h.cn x y r r hx hy hr hs).1 rfl
  rw [h.cn u v a b hu hv ha hb, conn_cons]
  constructor
  · exact .inl
  · rintro (h | ⟨h1, h2⟩ | ⟨h1, h2⟩)
    · exact h
    · exact h1.trans (hxy.trans h2)
    · exact h1.trans (hxy.symm.trans h2)
/-- How many spans a time has. -/
def spanN : Nat → Int → Int → Int → Int → Int
  | 0, _, _, _, _ => 0
  | f + 1, lo, hi, fr, to => if fr ≤ lo ∧ hi ≤ to then 1 else if hi ≤ fr ∨ to ≤ lo then 0 else spanN f lo ((lo + hi) / 2) fr to + spanN f ((lo + hi) / 2) hi fr to
end Go.Proofs.YtmocnnknnbalkaaGreatDoor.X
