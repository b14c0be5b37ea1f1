/- Graphs are loaded: the edges are put one after another, in order. The plain law. -/
import Derived.Test.YtdjdgnabcecdlaaGreatDoorC76
set_option linter.unusedSimpArgs false
set_option linter.unusedVariables false
set_option maxHeartbeats 8000000
set_option maxRecDepth 100000
namespace Go.Proofs.YtdjdgnabcecdlaaGreatDoor.X
open Go Go.Proofs
/-- What comes of the edges. -/
noncomputable def ldT (es : List (Int × Int)) : List Tl := es.foldl (fun ts e => plL ts e) []
theorem ldT_snoc (xs : List (Int × Int)) (e : Int × Int) : ldT (xs ++ [e]) = plL (ldT xs) e := by simp [ldT, List.foldl_append]
theorem putE_end {e : Int × Int} : ∀ {es : List (Int × Int)}, (∀ x ∈ es, lessE e x = false) → putE e es = es ++ [e]
  | [], _ => rfl
  | x :: r, h => by
    have h1 := h x (by simp)
    rw [putE, if_neg (by simp [h1]), putE_end fun y hy => h y (by simp [hy])]; rfl
theorem putT_end {e : Int × Int} {b : Bool} : ∀ {ts : List Tl}, (∀ x ∈ esT ts, lessE e x = false) → putT e b ts = ts ++ [(e, 0, b)]
  | [], _ => rfl
  | t :: r, h => by
    have h1 := h t.1 (by simp [esT])
    rw [putT, if_neg (by simp [h1]), putT_end fun y hy => h y (by simp only [esT, List.map_cons, List.mem_cons]; exact .inr hy)]; rfl
theorem ord_end {xs : List (Int × Int)} {e : Int × Int} (h : Ord (xs ++ [e])) : ∀ x ∈ xs, lessE e x = false := fun x hx => by
  simp only [Ord, List.pairwise_append, List.mem_singleton] at h
  have h1 := h.2.2 x hx e rfl
  cases h2 : lessE e x with
  | false => rfl
  | true =>
    rw [lessE_iff] at h1 h2
    omega
structure LD (n : Int) (es : List (Int × Int)) : Prop where
  es' : esT (ldT es) = es
  lv : LV n (ldT es)
  z : ∀ t ∈ ldT es, t.2.1 = 0
  fo : abT (ldT es) 0 true = forestL es
theorem LD.put {n : Int} {xs : List (Int × Int)} {e : Int × Int} (h : LD n xs) (hV : VG n (xs ++ [e])) : PlOK n (ldT xs) e := by
  have hd := ord_end hV.2.2.2.2
  refine ⟨h.lv, ?_, ?_, ?_⟩
  · rw [h.es']; exact hV.sub (List.sublist_append_left _ _)
  · rw [h.es']
    have := hV.2.2.2.2.nodup
    rw [List.nodup_append] at this
    exact fun hm => this.2.2 e hm e (by simp) rfl
  · rw [h.es', putE_end hd]; exact hV
theorem ld_spec {n : Int} : ∀ (k : Nat) (es : List (Int × Int)), es.length = k → VG n es → LD n es
  | 0, es, hk, hV => by
    obtain rfl := List.length_eq_zero_iff.1 hk
    exact ⟨rfl, LV.nil hV.1 hV.2.1, fun t ht => by simp [ldT] at ht, rfl⟩
  | k + 1, es, hk, hV => by
    obtain ⟨xs, e, rfl⟩ : ∃ xs e, es = xs ++ [e] := ⟨es.dropLast, es.getLast (by intro h; rw [h] at hk; simp at hk), (List.dropLast_concat_getLast _).symm⟩
    have hVx : VG n xs := hV.sub (List.sublist_append_left _ _)
    have h := ld_spec k xs (by simpa using hk) hVx
    have hP := h.put hV
    have hd := ord_end hV.2.2.2.2
    have ho := hVx.2.2.2.1
    have hpt : plL (ldT xs) e = ldT xs ++ [(e, 0, !decide (Conn (esT (ldT xs)) e.1 e.2))] := putT_end (by rw [h.es']; exact hd)
    refine ⟨?_, ?_, ?_, ?_⟩
    · rw [ldT_snoc]
      have := putT_es e (!decide (Conn (esT (ldT xs)) e.1 e.2)) (ldT xs)
      rw [this, h.es', putE_end hd]
    · rw [ldT_snoc]; exact h.lv.putT hP.2
    · rw [ldT_snoc, hpt]
      intro t ht
      rcases List.mem_append.1 ht with ht | ht
      · exact h.z t ht
      · rw [List.mem_singleton.1 ht]
    · rw [ldT_snoc, hpt, abT_app, h.fo, h.es']
      have hf : forestL (xs ++ [e]) = fstep (forestL xs) e := by simp [forestL, List.foldl_append]
      rw [hf, fstep]
      by_cases hc : Conn xs e.1 e.2
      · rw [if_pos ((forest_conn ho).2 hc)]
        simp [abT, abP, hc]
      · rw [if_neg (fun q => hc ((forest_conn ho).1 q))]
        simp [abT, abP, hc]
theorem ld {n : Int} {es : List (Int × Int)} (hV : VG n es) : LD n es := ld_spec _ es rfl hV
end Go.Proofs.YtdjdgnabcecdlaaGreatDoor.X
