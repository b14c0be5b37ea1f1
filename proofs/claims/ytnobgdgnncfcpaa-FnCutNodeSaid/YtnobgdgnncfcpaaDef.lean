/- An abstract interpreter of loaded code over values without addresses: definitions alone. -/
import Derived.WalkKit
namespace Go.Proofs.Ytnobgdgnncfcpaa.X
open Go

/-- What cannot change: plain values, lists (slices that are only read), a place that is only read, functions. -/
inductive IV where
  | v (x : Value)
  | emp
  | lst (xs : List (List IV))
  | eptr (e : List IV) (off : Nat)
  | fn (f : FuncId) (first caps : List IV)
  deriving Inhabited

inductive PV where
  | i (x : IV)
  | ref (s ver off len : Nat)
  | ptr (s ver i off : Nat)
  | agg (cs : List PV)
  | tup (cs : List PV)
  | fn (f : FuncId) (first caps : List PV)
  | bad
  deriving Inhabited

/-- A site: an array of the call's own (k cells an element), a variable, or nothing that can be used. -/
inductive Arr where
  | arr (ver k : Nat) (xs : List (List IV))
  | box (ver : Nat) (cs : List PV)
  | dead (ver : Nat)
  deriving Inhabited

def Arr.ver : Arr → Nat
  | .arr v _ _ | .box v _ | .dead v => v

abbrev Mem := Nat → Option Arr

def upd {α : Type} (f : Nat → α) (i : Nat) (v : α) : Nat → α := fun j => if j = i then v else f j

inductive Mm (α : Type) where
  | ret (a : α)
  | fail
  | get (s : Nat) (k : Option Arr → Mm α)

namespace Mm
def bind {α β : Type} : Mm α → (α → Mm β) → Mm β
  | .ret a, f => f a
  | .fail, _ => .fail
  | .get s k, f => .get s fun x => (k x).bind f
def run {α : Type} (m : Mem) : Mm α → Option (α × List Nat)
  | .ret a => some (a, [])
  | .fail => none
  | .get s k =>
    match (k (m s)).run m with
    | some (a, r) => some (a, s :: r)
    | none => none
def opt {α : Type} : Option α → Mm α
  | some a => .ret a
  | none => .fail
def chk {α : Type} (b : Bool) (x : Mm α) : Mm α := if b then x else .fail
def map {α β : Type} (f : α → β) (x : Mm α) : Mm β := x.bind fun a => .ret (f a)
def mapL {α β : Type} (f : α → Mm β) : List α → Mm (List β)
  | [] => .ret []
  | a :: r => (f a).bind fun b => (mapL f r).bind fun bs => .ret (b :: bs)
end Mm

def PV.cells : PV → List PV
  | .agg cs => cs
  | p => [p]

def IV.flat : IV → Bool
  | .v x => x.oneCell'
  | _ => true

def PV.scalar : PV → Bool
  | .i x => x.flat
  | .ref .. | .ptr .. | .fn .. => true
  | _ => false

def splice {α : Type} (e : List α) (off : Nat) (cs : List α) : List α := e.take off ++ cs ++ e.drop (off + cs.length)

section
variable (P : Program)

def szOf (t : TypeId) : Option Nat := (P.info? t).map (·.size)
def isAggT (t : TypeId) : Option Bool := (P.underlying t).map fun | .struct _ | .array _ _ => true | _ => false
def constC : Value → IV
  | .slice none 0 0 => .emp
  | x => .v x
def constP : Value → PV
  | .agg cs => .agg (cs.toList.map fun c => .i (constC c))
  | .tuple _ => .bad
  | .func (.func f) first caps => if first.size = 0 ∧ caps.size = 0 then .fn f [] [] else .bad
  | x => .i (constC x)
def zeroC (t : TypeId) : Option (List IV) := ((P.info? t).bind (·.zero)).map fun z => z.cells.toList.map constC
def elemT (t : TypeId) : Option TypeId :=
  match P.underlying t with
  | some (.slice e) => some e
  | _ => none
def fieldT (t : TypeId) (f : Nat) : Option Field :=
  match P.underlying t with
  | some (.struct fs) => fs[f]?
  | _ => none

def opnd (ρ : Nat → PV) : Operand → PV
  | .tmp t => ρ t
  | .const v => constP v
  | .func f => .fn f [] []
  | .global _ => .bad

def asInt : PV → Option Int
  | .i (.v (.int _ n)) => some n
  | _ => none
def asBoolP : PV → Option Bool
  | .i (.v (.bool b)) => some b
  | _ => none

/-- The cells behind a place. -/
def rdAt : PV → Mm (List PV × Nat)
  | .ptr s ver i off => .get s fun
    | some (.arr v _ xs) => Mm.chk (v == ver) (match xs[i]? with | some e => .ret (e.map .i, off) | none => .fail)
    | some (.box v cs) => Mm.chk (v == ver && i == 0) (.ret (cs, off))
    | _ => .fail
  | .i (.eptr e off) => .ret (e.map .i, off)
  | _ => .fail
def takeT (t : TypeId) (cs : List PV) (off : Nat) : Mm PV :=
  match isAggT P t, szOf P t with
  | some true, some n => Mm.chk (decide (off + n ≤ cs.length)) (.ret (.agg ((cs.drop off).take n)))
  | some false, _ => Mm.opt cs[off]?
  | _, _ => .fail

def ownSite (s : Nat) : Bool := decide (s < 1000) || decide (3000 ≤ s)

/-- A value that goes into an array: what is the call's own is given up. -/
def cons1 : PV → Mm (IV × List (Nat × Arr))
  | .i x => Mm.chk x.flat (.ret (x, []))
  | .ref s ver off len => .get s fun
    | some (.arr v _ xs) => Mm.chk (v == ver && ownSite s) (.ret (.lst ((xs.drop off).take len), [(s, .dead (v + 1))]))
    | _ => .fail
  | _ => .fail
def consL (cs : List PV) : Mm (List IV × List (Nat × Arr)) :=
  (Mm.mapL cons1 cs).bind fun l => .ret (l.map (·.1), l.flatMap (·.2))

/-- A slice's elements. -/
def elems (k : Nat) : PV → Mm (List (List IV))
  | .ref s ver off len => .get s fun
    | some (.arr v k' xs) => Mm.chk (v == ver && k' == k) (.ret ((xs.drop off).take len))
    | _ => .fail
  | .i (.lst xs) => Mm.chk (xs.all (·.length == k)) (.ret xs)
  | .i .emp => .ret []
  | _ => .fail

def lenP : PV → Option Nat
  | .ref _ _ _ len => some len
  | .i (.lst xs) => some xs.length
  | .i .emp => some 0
  | _ => none

def semPure {α : Type} : Sem α → Option α
  | .pure a => some a
  | _ => none

/-- A struct of integers, one cell each. -/
def flatS (t : TypeId) (n : Nat) : Bool :=
  match P.underlying t with
  | some (.struct fs) => fs.size == n && !P.stoodInHeld t && !P.eqGuardType P.depth t &&
      (fs.toList.zipIdx.all fun (f, i) => f.offset == i && f.name != "_" && (match P.underlying f.type with | some (.int _) => true | _ => false))
  | _ => false
def eqCells : List PV → List PV → Option Bool
  | [], [] => some true
  | .i (.v (.int k a)) :: r, .i (.v (.int k' b)) :: r' =>
    if k = k' then (eqCells r r').map fun x => a == b && x else none
  | _, _ => none
def binV (op : BinOp) (t : TypeId) (a b : PV) : Option Value :=
  match a, b with
  | .i (.v (.int k x)), .i (.v (.int k' y)) => semPure (binOp op t (.int k x) (.int k' y))
  | .i (.v (.string x)), .i (.v (.string y)) => semPure (binOp op t (.string x) (.string y))
  | .i (.v (.bool x)), .i (.v (.bool y)) =>
    match P.underlying t, op with
    | some .bool, .eql => some (.bool (x == y))
    | some .bool, .neq => some (.bool (!(x == y)))
    | _, _ => none
  | .agg xs, .agg ys =>
    if flatS P t xs.length then
      match op with
      | .eql => (eqCells xs ys).map .bool
      | .neq => (eqCells xs ys).map fun r => .bool !r
      | _ => none
    else none
  | _, _ => none

def fillP (fs : Array Field) : List PV → List (Nat × PV) → Option (List PV)
  | cs, [] => some cs
  | cs, (i, p) :: r =>
    match fs[i]? with
    | some f => if szOf P f.type = some p.cells.length ∧ f.offset + p.cells.length ≤ cs.length ∧ p.cells.all (·.scalar) then fillP fs (splice cs f.offset p.cells) r else none
    | none => none
def fillE (k : Nat) : List (List IV) → List (Nat × List IV) → Option (List (List IV))
  | xs, [] => some xs
  | xs, (i, e) :: r => if e.length = k ∧ i < xs.length then fillE k (xs.set i e) r else none

def newVer (d : Nat) : Mm Nat := .get d fun
  | some A => .ret (A.ver + 1)
  | none => .ret 0

/-- What a callee that keeps nothing may read. -/
def frz : Nat → PV → Mm IV
  | _, .i .emp => .ret (.lst [])
  | _, .i x => .ret x
  | _, .ref s ver off len => .get s fun
    | some (.arr v _ xs) => Mm.chk (v == ver) (.ret (.lst ((xs.drop off).take len)))
    | _ => .fail
  | n + 1, .ptr s ver i off => .get s fun
    | some (.arr v _ xs) => Mm.chk (v == ver) (match xs[i]? with | some e => .ret (.eptr e off) | none => .fail)
    | some (.box v cs) => Mm.chk (v == ver && i == 0) ((Mm.mapL (frz n) cs).bind fun e => .ret (.eptr e off))
    | _ => .fail
  | n + 1, .fn f a b => (Mm.mapL (frz n) a).bind fun a' => (Mm.mapL (frz n) b).bind fun b' => .ret (.fn f a' b')
  | _, _ => .fail
def frzA : PV → Mm PV
  | .agg cs => (Mm.mapL (frz 3) cs).bind fun l => .ret (.agg (l.map .i))
  | p => (frz 3 p).bind fun x => .ret (.i x)

/-- Sites given new numbers; 'look s ver': the new site and version. -/
def ren (look : Nat → Nat → Mm (Nat × Nat)) : Nat → PV → Mm PV
  | _, .i x => .ret (.i x)
  | _, .ref s ver off len => (look s ver).bind fun (s', v') => .ret (.ref s' v' off len)
  | _, .ptr s ver i off => (look s ver).bind fun (s', v') => .ret (.ptr s' v' i off)
  | n + 1, .agg cs => (Mm.mapL (ren look n) cs).bind fun l => .ret (.agg l)
  | n + 1, .tup cs => (Mm.mapL (ren look n) cs).bind fun l => .ret (.tup l)
  | n + 1, .fn f a b => (Mm.mapL (ren look n) a).bind fun a' => (Mm.mapL (ren look n) b).bind fun b' => .ret (.fn f a' b')
  | _, _ => .fail

end
end Go.Proofs.Ytnobgdgnncfcpaa.X
