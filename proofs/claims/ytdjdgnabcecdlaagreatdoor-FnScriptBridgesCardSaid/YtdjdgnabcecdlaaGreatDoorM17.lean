/- Search in depth: the tree that it leaves. -/
import Derived.Test.YtdjdgnabcecdlaaGreatDoorM13
set_option linter.unusedVariables false
namespace Go.Proofs.YtdjdgnabcecdlaaGreatDoor.X
open Go
/-- A node above another one, by parents. -/
inductive Anc (n : Int) (par : List Int) (a : Int) : Int → Prop
  | refl : Anc n par a a
  | up {u : Int} : inR n u → inR n (gI par u) → Anc n par a (gI par u) → Anc n par a u
theorem Anc.trans {n : Int} {par : List Int} {a b c : Int} (h1 : Anc n par a b) (h2 : Anc n par b c) : Anc n par a c := by
  induction h2 with
  | refl => exact h1
  | up hu hp _ ih => exact .up hu hp ih
structure TreeS (n : Int) (es : List (Int × Int)) (st : Sr × Int) : Prop where
  pa : ∀ u, inR n u → gI st.1.num u ≠ 0 → gI st.1.par u = -1 ∨ (inR n (gI st.1.par u) ∧ gI st.1.num (gI st.1.par u) ≠ 0 ∧ gI st.1.num (gI st.1.par u) < gI st.1.num u ∧ u ∈ nbS (gI st.1.par u) es)
  inj : ∀ u w, inR n u → inR n w → gI st.1.num u ≠ 0 → gI st.1.num u = gI st.1.num w → u = w
structure PostT (n : Int) (es : List (Int × Int)) (v : Int) (st st' : Sr × Int) : Prop where
  tr : TreeS n es st'
  d : ∀ u, inR n u → gI st.1.num u = 0 → gI st'.1.num u ≠ 0 → Anc n st'.1.par v u
  e : ∀ x, inR n x → gI st.1.num x = 0 → gI st'.1.num x ≠ 0 → ∀ w ∈ nbS x es, gI st'.1.num x < gI st'.1.num w → Anc n st'.1.par x w
structure LoopT (n : Int) (es : List (Int × Int)) (v : Int) (st s : Sr × Int) : Prop where
  tr : TreeS n es s
  d : ∀ u, inR n u → gI st.1.num u = 0 → gI s.1.num u ≠ 0 → Anc n s.1.par v u
  e : ∀ x, inR n x → x ≠ v → gI st.1.num x = 0 → gI s.1.num x ≠ 0 → ∀ w ∈ nbS x es, gI s.1.num x < gI s.1.num w → Anc n s.1.par x w
section
variable {n : Int} {es : List (Int × Int)}
theorem Anc.mono {s s' : Sr × Int} (hs : OkS n es s) (old : ∀ u, inR n u → gI s.1.num u ≠ 0 → gI s'.1.num u = gI s.1.num u ∧ gI s'.1.par u = gI s.1.par u ∧ gI s'.1.low u = gI s.1.low u) {a u : Int} (h : Anc n s.1.par a u) : gI s.1.num u ≠ 0 → Anc n s'.1.par a u := by
  induction h with
  | refl => exact fun _ => .refl
  | @up u hu hp _ ih =>
    intro h0
    have e := (old u hu h0).2.1
    have hq : gI s.1.num (gI s.1.par u) ≠ 0 := by
      rcases hs.pr u hu h0 with h | h
      · obtain ⟨h1, h2⟩ := hp; omega
      · exact h.2
    exact .up hu (by rw [e]; exact hp) (by rw [e]; exact ih hq)
end
end Go.Proofs.YtdjdgnabcecdlaaGreatDoor.X
