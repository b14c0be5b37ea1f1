/- Search in depth, and low points: plain law. -/
import Derived.Test.YtdjdgnabcecdlaaGreatDoorKAF
set_option linter.unusedVariables false
namespace Go.Proofs.YtdjdgnabcecdlaaGreatDoor.X
open Go
structure Sr where
  num : List Int
  par : List Int
  low : List Int
def enterS (st : Sr × Int) (v p : Int) : Sr × Int := (⟨st.1.num.set v.toNat (st.2 + 1), st.1.par.set v.toNat p, st.1.low.set v.toNat (st.2 + 1)⟩, st.2 + 1)
def lowerS (st : Sr × Int) (v x : Int) : Sr × Int := (⟨st.1.num, st.1.par, st.1.low.set v.toNat (min (gI st.1.low v) x)⟩, st.2)
def vstep (rec : Int → Int → Sr × Int → Sr × Int) (v p : Int) (st : Sr × Int) (u : Int) : Sr × Int :=
  if gI st.1.num u = 0 then lowerS (rec u v st) v (gI (rec u v st).1.low u) else if u = p then st else lowerS st v (gI st.1.num u)
/-- What follows from a node that is found. -/
def visit (es : List (Int × Int)) : Nat → Int → Int → Sr × Int → Sr × Int
  | 0, _, _, st => st
  | f + 1, v, p, st => (nbS v es).foldl (vstep (visit es f) v p) (enterS st v p)
def zeros (l : List Int) : Nat := (l.filter fun d => decide (d = 0)).length
def inR (n u : Int) : Prop := 0 ≤ u ∧ u < n
/-- One neighbour more in the least of a node's row. -/
def lstep (s : Sr) (u a w : Int) : Int :=
  if gI s.par w = u ∧ gI s.low w < (if w ≠ gI s.par u ∧ gI s.num w < a then gI s.num w else a) then gI s.low w else (if w ≠ gI s.par u ∧ gI s.num w < a then gI s.num w else a)
def lowOf (s : Sr) (u : Int) (ws : List Int) : Int := ws.foldl (lstep s u) (gI s.num u)
def FinS (es : List (Int × Int)) (s : Sr) (u : Int) : Prop := (∀ w ∈ nbS u es, gI s.num w ≠ 0) ∧ gI s.low u = lowOf s u (nbS u es)
structure OkS (n : Int) (es : List (Int × Int)) (st : Sr × Int) : Prop where
  ln : st.1.num.length = n.toNat
  lp : st.1.par.length = n.toNat
  ll : st.1.low.length = n.toNat
  c0 : 0 ≤ st.2
  nn : ∀ u, inR n u → 0 ≤ gI st.1.num u ∧ gI st.1.num u ≤ st.2
  pr : ∀ u, inR n u → gI st.1.num u ≠ 0 → gI st.1.par u = -1 ∨ (inR n (gI st.1.par u) ∧ gI st.1.num (gI st.1.par u) ≠ 0)
/-- What a visit does. -/
structure PostS (n : Int) (es : List (Int × Int)) (v p : Int) (st st' : Sr × Int) : Prop where
  ok : OkS n es st'
  cc : st.2 ≤ st'.2
  old : ∀ u, inR n u → gI st.1.num u ≠ 0 → gI st'.1.num u = gI st.1.num u ∧ gI st'.1.par u = gI st.1.par u ∧ gI st'.1.low u = gI st.1.low u
  vn : gI st'.1.num v = st.2 + 1
  vp : gI st'.1.par v = p
  new : ∀ u, inR n u → gI st.1.num u = 0 → gI st'.1.num u ≠ 0 → st.2 < gI st'.1.num u ∧ (u = v ∨ (inR n (gI st'.1.par u) ∧ gI st.1.num (gI st'.1.par u) = 0))
  fin : ∀ u, inR n u → gI st.1.num u = 0 → gI st'.1.num u ≠ 0 → FinS es st'.1 u
  zz : zeros st'.1.num < zeros st.1.num
/-- Within the row of a node. -/
structure LoopS (n : Int) (es : List (Int × Int)) (v p : Int) (st s : Sr × Int) (pre : List Int) : Prop where
  ok : OkS n es s
  cc : st.2 < s.2
  old : ∀ u, inR n u → gI st.1.num u ≠ 0 → gI s.1.num u = gI st.1.num u ∧ gI s.1.par u = gI st.1.par u ∧ gI s.1.low u = gI st.1.low u
  vn : gI s.1.num v = st.2 + 1
  vp : gI s.1.par v = p
  new : ∀ u, inR n u → gI st.1.num u = 0 → gI s.1.num u ≠ 0 → st.2 < gI s.1.num u ∧ (u = v ∨ (inR n (gI s.1.par u) ∧ gI st.1.num (gI s.1.par u) = 0))
  fin : ∀ u, inR n u → u ≠ v → gI st.1.num u = 0 → gI s.1.num u ≠ 0 → FinS es s.1 u
  zz : zeros s.1.num < zeros st.1.num
  pf : ∀ w ∈ pre, gI s.1.num w ≠ 0
  kid : ∀ u, inR n u → gI s.1.num u ≠ 0 → gI s.1.par u = v → u ∈ pre
  lv : gI s.1.low v = lowOf s.1 v pre
section
variable {n : Int} {es : List (Int × Int)}
end
/-- The search of a graph: from each node that is not found yet. -/
def seekS (n : Int) (es : List (Int × Int)) : Nat → Sr × Int
  | 0 => (⟨List.replicate n.toNat 0, List.replicate n.toNat 0, List.replicate n.toNat 0⟩, 0)
  | k + 1 => if gI (seekS n es k).1.num (k : Int) = 0 then visit es n.toNat (k : Int) (-1) (seekS n es k) else seekS n es k
def seek (n : Int) (es : List (Int × Int)) : Sr := (seekS n es n.toNat).1
end Go.Proofs.YtdjdgnabcecdlaaGreatDoor.X
