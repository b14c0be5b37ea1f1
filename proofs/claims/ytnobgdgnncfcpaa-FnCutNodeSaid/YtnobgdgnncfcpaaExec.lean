/- The abstract interpreter: operations, regions, code, calls. Definitions alone. -/
import Derived.Test.YtnobgdgnncfcpaaDef
namespace Go.Proofs.Ytnobgdgnncfcpaa.X
open Go

abbrev CallS := FuncId → List PV → List Arr → Option (PV × List Arr × List Arr)

structure Cfg where
  mutF : FuncId → Bool
  own : FuncId → Nat → Bool
  prim : FuncId → Option (List PV → List Arr → Option (PV × List Arr × List Arr))

section
variable (P : Program)

/-- The sites that values lead to, in order. -/
def coll : Nat → (keep : Nat → Bool) → List PV → List Nat → Mm (List Nat)
  | _, _, [], acc => .ret acc
  | 0, _, _ :: _, _ => .fail
  | n + 1, keep, p :: r, acc =>
    match p with
    | .i _ => coll n keep r acc
    | .ref s _ _ _ => if keep s && !acc.contains s then coll n keep r (acc ++ [s]) else coll n keep r acc
    | .ptr s _ _ _ => if keep s && !acc.contains s then .get s fun
        | some (.box _ cs) => (coll n keep cs (acc ++ [s])).bind fun a => coll n keep r a
        | _ => coll n keep r (acc ++ [s])
      else coll n keep r acc
    | .agg cs => (coll n keep cs acc).bind fun a => coll n keep r a
    | .tup cs => (coll n keep cs acc).bind fun a => coll n keep r a
    | .fn _ a b => (coll n keep a acc).bind fun x => (coll n keep b x).bind fun y => coll n keep r y
    | .bad => .fail

def renArr (look : Nat → Nat → Mm (Nat × Nat)) (ver : Nat) : Arr → Mm Arr
  | .arr _ k xs => .ret (.arr ver k xs)
  | .box _ cs => (Mm.mapL (ren look 3) cs).bind fun l => .ret (.box ver l)
  | .dead _ => .fail

def lookIn (base : Nat) (L : List Nat) (s ver : Nat) : Mm (Nat × Nat) := .get s fun
  | some A => Mm.chk (A.ver == ver && L.contains s) (.ret (base + L.idxOf s, 0))
  | none => .fail

/-- Into a callee that may change its arguments. -/
def sendM (args : List PV) : Mm (List Nat × List PV × List Arr × List Nat) :=
  (coll 12 (fun _ => true) args []).bind fun L =>
  (Mm.mapL (ren (lookIn 1000 L) 3) args).bind fun args' =>
  (Mm.mapL (fun s => .get s fun | some A => (renArr (lookIn 1000 L) 0 A).bind fun B => .ret (B, A.ver) | none => .fail) L).bind fun ps =>
  Mm.chk (decide L.Nodup && decide (L.length ≤ 1000)) (.ret (L, args', ps.map (·.1), ps.map (·.2)))

def siteOf (d j : Nat) : Nat := 3000 + d * 8 + j

def lookOut (d : Nat) (L vs nv : List Nat) (s ver : Nat) : Mm (Nat × Nat) :=
  if s < 1000 then .fail
  else if s < 2000 then
    match L[s - 1000]?, vs[s - 1000]? with
    | some s', some v => .ret (s', v + ver)
    | _, _ => .fail
  else
    match nv[s - 2000]? with
    | some v => .ret (siteOf d (s - 2000), v + ver)
    | none => .fail

/-- Back out of a callee: its own arrays become sites of this function. -/
def backO (d : Nat) (L vs : List Nat) (r : PV) (ps own : List Arr) : Mm (PV × List (Nat × Arr)) :=
  (Mm.mapL (fun j => newVer (siteOf d j)) (List.range own.length)).bind fun nv =>
  (ren (lookOut d L vs nv) 3 r).bind fun r' =>
  (Mm.mapL (fun (x : (Nat × Nat) × Arr) => (renArr (lookOut d L vs nv) (x.1.2 + x.2.ver) x.2).bind fun B => .ret (x.1.1, B)) ((L.zip vs).zip ps)).bind fun w1 =>
  (Mm.mapL (fun (x : (Nat × Nat) × Arr) => (renArr (lookOut d L vs nv) (x.1.2 + x.2.ver) x.2).bind fun B => .ret (siteOf d x.1.1, B)) (((List.range own.length).zip nv).zip own)).bind fun w2 =>
  Mm.chk (decide (own.length ≤ 8) && (L.all fun s => (List.range own.length).all fun j => siteOf d j != s)) (.ret (r', w1 ++ w2))

/-- Back out of a callee that has kept nothing: its own arrays become lists. -/
def imm1 (own : List Arr) : PV → Option PV
  | .i x => some (.i x)
  | .ref s ver off len =>
    if s < 2000 then some (.ref s ver off len)
    else match own[s - 2000]? with
      | some (.arr v _ xs) => if v = ver then some (.i (.lst ((xs.drop off).take len))) else none
      | _ => none
  | _ => none
def mapO {α β : Type} (f : α → Option β) : List α → Option (List β)
  | [] => some []
  | a :: r =>
    match f a, mapO f r with
    | some b, some l => some (b :: l)
    | _, _ => none
def imm : Nat → List Arr → PV → Option PV
  | n + 1, own, .agg cs => (mapO (imm n own) cs).map .agg
  | n + 1, own, .tup cs => (mapO (imm n own) cs).map .tup
  | _, own, p => imm1 own p

/-- Does a value lead to sites? -/
def hasRef : Nat → PV → Bool
  | _, .i _ => false
  | n + 1, .agg cs => cs.any (hasRef n)
  | n + 1, .fn _ a b => a.any (hasRef n) || b.any (hasRef n)
  | _, _ => true
def flatIV : IV → Bool
  | .v _ | .emp => true
  | _ => false
def flatC : PV → Bool
  | .i x => flatIV x
  | .ref .. | .ptr .. => true
  | _ => false
def flatP : Nat → PV → Bool
  | n + 1, .agg cs => cs.all (flatP n)
  | n + 1, .tup cs => cs.all (flatP n)
  | _, p => flatC p
def flatA : Arr → Bool
  | .arr _ _ xs => xs.all fun e => e.all flatIV
  | .box _ cs => cs.all flatC
  | .dead _ => true

def callP (cf : Cfg) (C : CallS) (me : FuncId) (dst : Option Nat) (f : FuncId) (args : List PV) : Mm (PV × List (Nat × Arr)) :=
  if cf.mutF f then
    (sendM args).bind fun (L, args', ps, vs) =>
    match C f args' ps with
    | some (r, ps', own) =>
      match dst with
      | some d => if cf.own me d then backO d L vs r ps' own else (Mm.opt (imm 2 own r)).bind fun r' => backO d L vs r' ps' []
      | none => (Mm.opt (imm 2 own r)).bind fun r' => backO 0 L vs r' ps' []
    | none => .fail
  else
    (Mm.mapL frzA args).bind fun args' =>
    match C f args' [] with
    | some (r, ps', own) =>
      Mm.chk (ps'.isEmpty && (!(args.any (hasRef 4)) || (flatP 3 r && own.all flatA)))
      (match dst with
      | some d => if cf.own me d then backO d [] [] r [] own else (Mm.opt (imm 2 own r)).bind fun r' => backO d [] [] r' [] []
      | none => (Mm.opt (imm 2 own r)).bind fun r' => backO 0 [] [] r' [] [])
    | none => .fail

def lenB (ts : Array TypeId) (x : PV) : Mm (PV × List (Nat × Arr)) :=
  match ts[0]?.bind P.underlying with
  | some (.slice _) => match lenP x with
    | some n => .ret (.i (.v (.int .i64 n)), [])
    | none => .fail
  | some .string => match x with
    | .i (.v (.string s)) => .ret (.i (.v (.int .i64 s.size)), [])
    | _ => .fail
  | _ => .fail
def intP : PV → Option (IntKind × Int)
  | .i (.v (.int k n)) => some (k, n)
  | _ => none
def minB (x y : PV) : Mm (PV × List (Nat × Arr)) :=
  match intP x, intP y with
  | some (k, a), some (_, b) => .ret (.i (.v (.int k (if b < a then b else a))), [])
  | _, _ => .fail
def maxB (x y : PV) : Mm (PV × List (Nat × Arr)) :=
  match intP x, intP y with
  | some (k, a), some (_, b) => .ret (.i (.v (.int k (if b > a then b else a))), [])
  | _, _ => .fail
def appB (ts : Array TypeId) (d : Option Nat) (s x : PV) : Mm (PV × List (Nat × Arr)) :=
  (Mm.opt (ts[0]?.bind (elemT P))).bind fun e =>
  (Mm.opt d).bind fun d =>
  (Mm.opt (P.info? e)).bind fun inf =>
  (elems inf.size x).bind fun ys =>
  Mm.chk (ts.size == 2 && ts[0]? == ts[1]? && decide (0 < inf.size) && decide (inf.bytes ≤ 128) && (match zeroC P e with | some z => z.length == inf.size | none => false))
  (match s with
  | .i .emp => match ys with
    | [] => .ret (.i .emp, [])
    | y :: r => (newVer d).bind fun v => Mm.chk (decide (r.length + 1 ≤ 1000000000000)) (.ret (.ref d v 0 (r.length + 1), [(d, .arr v inf.size (y :: r))]))
  | .ref s0 ver off len => .get s0 fun
    | some (.arr v k xs) =>
      Mm.chk (v == ver && k == inf.size && off + len == xs.length && decide (len + ys.length ≤ 1000000000000))
        (.ret (.ref s0 (v + 1) 0 (len + ys.length), [(s0, .arr (v + 1) k (xs.drop off ++ ys))]))
    | _ => .fail
  | _ => .fail)
def clearB (ts : Array TypeId) (x : PV) : Mm (PV × List (Nat × Arr)) :=
  match x with
  | .ref s ver off len =>
    match ts[0]?.bind (elemT P) with
    | some e =>
      match szOf P e, zeroC P e with
      | some k', some z => .get s fun
        | some (.arr v k xs) => Mm.chk (v == ver && k == k' && z.length == k && z.all (·.flat)) (.ret (.i (.v undef), [(s, .arr v k (splice xs off (List.replicate len z)))]))
        | _ => .fail
      | _, _ => .fail
    | none => .fail
  | _ => .fail
def builtinP (b : Builtin) (ts : Array TypeId) (d : Option Nat) (args : List PV) : Mm (PV × List (Nat × Arr)) :=
  match b, args with
  | .len, [x] => lenB P ts x
  | .min, [x, y] => minB x y
  | .max, [x, y] => maxB x y
  | .append, [s, x] => appB P ts d s x
  | .clear, [x] => clearB P ts x
  | _, _ => .fail

def boundsP (n : Nat) (lo hi : Option Int) : Option (Nat × Nat) :=
  let h : Int := hi.getD n
  let l : Int := lo.getD 0
  if 0 ≤ l ∧ l ≤ h ∧ h ≤ n then some (l.toNat, h.toNat) else none

def optInt : Option PV → Option (Option Int)
  | none => some none
  | some p => (asInt p).map some

/-- Is a slice nil? Of one that has elements it is known. -/
def nilT (d : Option TypeDesc) (op : BinOp) (y : Operand) (p : PV) : Option Bool :=
  match d, op, y, p with
  | some (.slice _), .eql, .const (.slice none 0 0), .i (.lst (_ :: _)) => some false
  | some (.slice _), .neq, .const (.slice none 0 0), .i (.lst (_ :: _)) => some true
  | _, _, _, _ => none

def opSem (cf : Cfg) (C : CallS) (me : FuncId) (o : Oper) (ρ : Nat → PV) : Mm (PV × List (Nat × Arr)) :=
  let e := opnd ρ
  match o.op with
  | .move x | .assign x => .ret (e x, [])
  | .pick c a b =>
    match asBoolP (e c) with
    | some t => .ret (if t then e a else e b, [])
    | none => .fail
  | .alloc t =>
    match o.dst, zeroC P t with
    | some d, some z => (newVer d).bind fun v => Mm.chk (z.all (·.flat)) (.ret (.ptr d v 0 0, [(d, .box v (z.map .i))]))
    | _, _ => .fail
  | .box _ x =>
    match o.dst with
    | some d => (newVer d).bind fun v => Mm.chk ((e x).cells.all (·.scalar)) (.ret (.ptr d v 0 0, [(d, .box v (e x).cells)]))
    | none => .fail
  | .build t parts =>
    match zeroC P t, P.underlying t with
    | some z, some (.struct fs) =>
      match fillP P fs (z.map .i) (parts.toList.map fun (i, x) => (i, e x)) with
      | some cs => Mm.chk (fs.toList.all fun f => (szOf P f.type).isSome) (.ret (.agg cs, []))
      | none => .fail
    | _, _ => .fail
  | .buildSlice t n parts =>
    match elemT P t, o.dst with
    | some el, some d =>
      match szOf P el, zeroC P el with
      | some k, some z =>
        (Mm.mapL (fun (x : Nat × Operand) => (consL (e x.2).cells).bind fun c => .ret ((x.1, c.1), c.2)) parts.toList).bind fun l =>
        match fillE k (List.replicate n z) (l.map (·.1)) with
        | some xs => (newVer d).bind fun v => Mm.chk (decide (n * k ≤ 16777216) && z.length == k && z.all (·.flat) && decide (0 < k) && (l.flatMap (·.2)).all (·.1 != d)) (.ret (.ref d v 0 n, l.flatMap (·.2) ++ [(d, .arr v k xs)]))
        | none => .fail
      | _, _ => .fail
    | _, _ => .fail
  | .load t a => (rdAt (e a)).bind fun (cs, off) => (takeT P t cs off).bind fun p => .ret (p, [])
  | .store t a x =>
    match e a, szOf P t with
    | .ptr s ver i off, some n => .get s fun
      | some (.arr v k xs) =>
        (consL (e x).cells).bind fun c =>
        match xs[i]? with
        | some el => Mm.chk (v == ver && c.1.length == n && decide (off + n ≤ el.length) && c.2.all (·.1 != s)) (.ret (.bad, c.2 ++ [(s, .arr v k (xs.set i (splice el off c.1)))]))
        | none => .fail
      | some (.box v cs) => Mm.chk (v == ver && i == 0 && (e x).cells.length == n && decide (off + n ≤ cs.length) && (e x).cells.all (·.scalar)) (.ret (.bad, [(s, .box v (splice cs off (e x).cells))]))
      | _ => .fail
    | _, _ => .fail
  | .nilCheck x =>
    match e x with
    | .ptr s ver i off => .ret (.ptr s ver i off, [])
    | .i (.eptr c off) => .ret (.i (.eptr c off), [])
    | _ => .fail
  | .binOp op t x y _ =>
    match nilT (P.underlying t) op y (e x) with
    | some r => .ret (.i (.v (.bool r)), [])
    | none => (Mm.opt (binV P op t (e x) (e y))).bind fun v => .ret (.i (.v v), [])
  | .unOp op _ x =>
    match e x with
    | .i (.v a) => (Mm.opt (semPure (Op.unary op a))).bind fun v => .ret (.i (.v v), [])
    | _ => .fail
  | .convert s t x =>
    match P.underlying s, P.underlying t, e x with
    | some (.int _), some (.int k), .i (.v (.int _ n)) => .ret (.i (.v (.int k (k.wrap n))), [])
    | _, _, _ => .fail
  | .makeFunc (.func f) a b => .ret (.fn f (a.toList.map e) (b.toList.map e), [])
  | .makeSlice t l c =>
    match elemT P t, o.dst, asInt (e l), asInt (e c) with
    | some el, some d, some n, some m =>
      match P.info? el, zeroC P el with
      | some inf, some z =>
        (newVer d).bind fun v => Mm.chk (decide (0 ≤ n) && n == m && decide (n ≤ 1000000) && decide (inf.bytes ≤ 128) && z.length == inf.size && decide (0 < inf.size) && z.all (·.flat))
          (.ret (.ref d v 0 n.toNat, [(d, .arr v inf.size (List.replicate n.toNat z))]))
      | _, _ => .fail
    | _, _, _, _ => .fail
  | .slice t x lo hi none =>
    match optInt (lo.map e), optInt (hi.map e) with
    | some l, some h =>
      match e x, P.underlying t with
      | .ref s ver off len, some (.slice el) =>
        match boundsP len l h, szOf P el with
        | some (a, b), some k => .get s fun
          | some (.arr v k' _) => Mm.chk (v == ver && k == k') (.ret (.ref s ver (off + a) (b - a), []))
          | _ => .fail
        | _, _ => .fail
      | .i (.lst xs), some (.slice el) =>
        match boundsP xs.length l h, szOf P el with
        | some (a, b), some k => Mm.chk (xs.all (·.length == k)) (.ret (.i (.lst ((xs.drop a).take (b - a))), []))
        | _, _ => .fail
      | .i (.v (.string s)), some .string =>
        match boundsP s.size l h with
        | some (a, b) => .ret (.i (.v (.string (s.extract a b))), [])
        | none => .fail
      | _, _ => .fail
    | _, _ => .fail
  | .fieldAddr t x f =>
    match fieldT P t f with
    | some fd =>
      match szOf P fd.type, e x with
      | some (_ + 1), .ptr s ver i off => .ret (.ptr s ver i (off + fd.offset), [])
      | some (_ + 1), .i (.eptr c off) => .ret (.i (.eptr c (off + fd.offset)), [])
      | _, _ => .fail
    | none => .fail
  | .field t x f =>
    match fieldT P t f, e x with
    | some fd, .agg cs => (takeT P fd.type cs fd.offset).bind fun p => .ret (p, [])
    | _, _ => .fail
  | .indexAddr t x ix =>
    match P.underlying t, asInt (e ix) with
    | some (.slice el), some n =>
      match szOf P el, e x with
      | some k, .ref s ver off len => .get s fun
        | some (.arr v k' _) => Mm.chk (v == ver && k == k' && decide (0 ≤ n) && decide (n < len)) (.ret (.ptr s ver (off + n.toNat) 0, []))
        | _ => .fail
      | some k, .i (.lst xs) =>
        match (if 0 ≤ n then xs[n.toNat]? else none) with
        | some el => Mm.chk (el.length == k) (.ret (.i (.eptr el 0), []))
        | none => .fail
      | _, _ => .fail
    | some (.array len el), some n =>
      match szOf P el, e x with
      | some k, .ptr s ver i off => Mm.chk (decide (0 ≤ n) && decide (n < len)) (.ret (.ptr s ver i (off + n.toNat * k), []))
      | some k, .i (.eptr c off) => Mm.chk (decide (0 ≤ n) && decide (n < len)) (.ret (.i (.eptr c (off + n.toNat * k)), []))
      | _, _ => .fail
    | _, _ => .fail
  | .index t x ix =>
    match P.underlying t, e x, asInt (e ix) with
    | some .string, .i (.v (.string s)), some n =>
      match (if 0 ≤ n then s[n.toNat]? else none) with
      | some b => .ret (.i (.v (.int .u8 b.toNat)), [])
      | none => .fail
    | some (.array len el), .agg cs, some n =>
      match szOf P el with
      | some k => Mm.chk (decide (0 ≤ n) && decide (n < len)) ((takeT P el cs (n.toNat * k)).bind fun p => .ret (p, []))
      | none => .fail
    | _, _, _ => .fail
  | .extract x j =>
    match e x with
    | .tup cs => (Mm.opt cs[j]?).bind fun p => .ret (p, [])
    | _ => .fail
  | .call c =>
    match c.callee with
    | .builtin b => builtinP P b c.argTypes o.dst (c.args.toList.map e)
    | .value fv =>
      match e fv with
      | .fn f first caps => callP cf C me o.dst f (first ++ c.args.toList.map e ++ caps)
      | .i (.fn f first caps) => callP cf C me o.dst f (first.map .i ++ c.args.toList.map e ++ caps.map .i)
      | _ => .fail
    | _ => .fail
  | _ => .fail

structure Rec where
  dst : Option Nat
  out : PV
  rd : List Nat
  wr : List (Nat × Arr)

structure St where
  ρ : Nat → PV
  m : Mem

def updL (m : Mem) : List (Nat × Arr) → Mem
  | [] => m
  | (s, A) :: r => updL (upd m s (some A)) r

def putρ (ρ : Nat → PV) (dst : Option Nat) (out : PV) : Nat → PV :=
  match dst with
  | some d => upd ρ d out
  | none => ρ
def St.step (st : St) (r : Rec) : St := { ρ := putρ st.ρ r.dst r.out, m := updL st.m r.wr }

def wantedP (ops : Array Oper) (o : Oper) (ρ : Nat → PV) : Option Bool :=
  match o.guard with
  | none => some true
  | some (j, want) =>
    match (ops[j]?).bind (·.dst) with
    | some d =>
      match ρ d with
      | .i (.v (.bool b)) => some (b == want)
      | .i (.v (.tuple _)) => some false
      | _ => none
    | none => none

def stepOp (cf : Cfg) (C : CallS) (me : FuncId) (ops : Array Oper) (o : Oper) (st : St) : Option Rec :=
  match wantedP ops o st.ρ with
  | some true => ((opSem P cf C me o st.ρ).run st.m).map fun x => ⟨o.dst, x.1.1, x.2, x.1.2⟩
  | some false => some ⟨o.dst, .i (.v undef), [], []⟩
  | none => none

def runOps (cf : Cfg) (C : CallS) (me : FuncId) (ops : Array Oper) : List Oper → St → Option (St × List Rec)
  | [], st => some (st, [])
  | o :: l, st =>
    match stepOp P cf C me ops o st with
    | some r =>
      match runOps cf C me ops l (st.step r) with
      | some (st', rs) => some (st', r :: rs)
      | none => none
    | none => none

/-- May the two operations change places? -/
def clash (ops : Array Oper) (x y : Oper) (r q : Rec) : Bool :=
  !(x.apart ops y) || r.wr.any (fun a => q.rd.contains a.1 || q.wr.any (·.1 == a.1)) || q.wr.any (fun a => r.rd.contains a.1)

def orderOk (ops : Array Oper) (rs : List Rec) : Bool :=
  let b := Region.before ops
  (ops.toList.zipIdx.all fun (o, i) => o.after.toList.all fun e => !Region.binds .any e || decide (e.on < i)) &&
  (List.range ops.size).all fun j => (List.range j).all fun i =>
    (b.getD j 0).testBit i || !(match ops[i]?, ops[j]?, rs[i]?, rs[j]? with | some x, some y, some r, some q => clash ops x y r q | _, _, _, _ => true)

inductive Ex where
  | normal
  | exit (id : Nat)
  | ret
  deriving Inhabited

def regionP (cf : Cfg) (C : CallS) (me : FuncId) (ops : Array Oper) (draw : Bool) (st : St) : Option St :=
  match runOps P cf C me ops ops.toList st with
  | some (st', rs) => if draw then (if orderOk ops rs then some st' else none) else some st'
  | none => none

def resP (st : St) : ResultVar → Mm PV
  | .tmp t => .ret (st.ρ t)
  | .cell a t => (rdAt (st.ρ a)).bind fun (cs, off) => takeT P t cs off

def tupR : List PV → PV
  | [x] => x
  | xs => .tup xs

def lookBack (np : Nat) (L : List Nat) (s ver : Nat) : Mm (Nat × Nat) := .get s fun
  | some A => Mm.chk (A.ver == ver) (if 1000 ≤ s ∧ s < 1000 + np then .ret (s, ver) else if L.contains s then .ret (2000 + L.idxOf s, 0) else .fail)
  | none => .fail

def dstOk (n : Nat) (o : Oper) : Bool := match o.dst with | some d => decide (d < n) | none => true
def codeOk (n : Nat) : Code → Bool
  | .region _ ops _ => ops.toList.all (dstOk n)
  | .seq a b => codeOk n a && codeOk n b
  | .cond _ a b => codeOk n a && codeOk n b
  | .block _ a => codeOk n a
  | .loop a => codeOk n a
  | _ => true

/-- Out of a function: what it hands back, its parameters' sites, its own. -/
def outP (fn : Func) (np : Nat) (st : St) : Mm (PV × List Arr × List Arr) :=
  (Mm.mapL (resP P st) fn.results.toList).bind fun rs =>
  let r : PV := tupR rs
  (Mm.mapL (fun j => .get (1000 + j) fun | some A => .ret A | none => .fail) (List.range np)).bind fun ps =>
  (coll 16 ownSite (r :: ps.flatMap fun | .box _ cs => cs | _ => []) []).bind fun L =>
  (ren (lookBack np L) 3 r).bind fun r' =>
  (Mm.mapL (fun A => renArr (lookBack np L) A.ver A) ps).bind fun ps' =>
  (Mm.mapL (fun s => .get s fun | some A => renArr (lookBack np L) 0 A | none => .fail) L).bind fun own =>
  Mm.chk (decide L.Nodup && L.all ownSite) (.ret (r', ps', own))

def initP (args : List PV) (ps : List Arr) : St :=
  { ρ := fun t => args.getD t (.i (.v undef)), m := fun s => if 1000 ≤ s then ps[s - 1000]? else none }

def primC (cf : Cfg) : CallS := fun f a p => match cf.prim f with | some g => g a p | none => none

def callWith (cf : Cfg) (E : FuncId → Code → St → Option (Ex × St)) (f : FuncId) (args : List PV) (ps : List Arr) : Option (PV × List Arr × List Arr) :=
  match primC cf f args ps with
  | some r => some r
  | none =>
    match P.funcs[f]? with
    | some fn =>
      match fn.body with
      | some c =>
        if args.length ≤ fn.ntmps ∧ (fn.name == "runtime.NumGoroutine") = false ∧ codeOk fn.ntmps c = true then
          match E f c (initP args ps) with
          | some (.normal, st) | some (.ret, st) => ((outP P fn ps.length st).run st.m).map (·.1)
          | _ => none
        else none
      | none => none
    | none => none

def exec (cf : Cfg) : Nat → FuncId → Code → St → Option (Ex × St)
  | 0, _, _, _ => none
  | n + 1, me, c, st =>
    match c with
    | .skip | .label _ => some (.normal, st)
    | .region _ ops draw => (regionP P cf (callWith P cf (exec cf n)) me ops draw st).map fun s => (.normal, s)
    | .seq a b =>
      match exec cf n me a st with
      | some (.normal, st') => exec cf n me b st'
      | r => r
    | .cond x a b =>
      match asBoolP (opnd st.ρ x) with
      | some t => if t then exec cf n me a st else exec cf n me b st
      | none => none
    | .block id b =>
      match exec cf n me b st with
      | some (.exit id', st') => if id' = id then some (.normal, st') else some (.exit id', st')
      | r => r
    | .loop b =>
      match exec cf n me b st with
      | some (.normal, st') => exec cf n me (.loop b) st'
      | r => r
    | .exit id => some (.exit id, st)
    | .ret => some (.ret, st)
    | _ => none
end
end Go.Proofs.Ytnobgdgnncfcpaa.X
