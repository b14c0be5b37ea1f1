/- An interpreter of loaded code over values without addresses, and what its values stand for. -/
import Derived.WalkKit
import Derived.Test.YtnaaceooknghjaaGreatDoorProg
import Derived.Lib.LaidTab
import Derived.Lib.ItoaNum
import Derived.Laws.StructEq
set_option linter.unusedSimpArgs false
set_option linter.unusedVariables false
namespace Go.Proofs.YtnaaceooknghjaaGreatDoor.X
open Go
inductive IV where
 | v (x:Value)
 | emp
 | lst (xs:List (List IV))
 | eptr (e:List IV) (off:Nat)
 | fn (f:FuncId) (first caps:List IV)
 | ag (cs:List IV)
 | err
 deriving Inhabited
inductive PV where
 | i (x:IV)
 | ref (s ver off len:Nat)
 | ptr (s ver i off:Nat)
 | agg (cs:List PV)
 | tup (cs:List PV)
 | fn (f:FuncId) (first caps:List PV)
 | bad
 deriving Inhabited
inductive Arr where
 | arr (ver k:Nat) (xs:List (List IV))
 | box (ver:Nat) (cs:List PV)
 | dead (ver:Nat)
 deriving Inhabited
def Arr.ver:Arr→Nat
 | .arr v _ _ | .box v _ | .dead v=>v
abbrev Mem:=Nat→Option Arr
def upd {α:Type} (f:Nat→α) (i:Nat) (v:α):Nat→α:=fun j=>if j=i then v else f j
inductive Mm (α:Type) where
 | ret (a:α)
 | fail
 | get (s:Nat) (k:Option Arr→Mm α)
namespace Mm
def bind {α β:Type}:Mm α→(α→Mm β)→Mm β
 | .ret a,f=>f a
 | .fail,_=>.fail
 | .get s k,f=>.get s fun x=>(k x).bind f
def run {α:Type} (m:Mem):Mm α→Option (α×List Nat)
 | .ret a=>some (a,[])
 | .fail=>none
 | .get s k=>
  match(k (m s)).run m with
  | some (a,r)=>some (a,s::r)
  | none=>none
def opt {α:Type}:Option α→Mm α
 | some a=>.ret a
 | none=>.fail
def chk {α:Type} (b:Bool) (x:Mm α):Mm α:=if b then x else .fail
def map {α β:Type} (f:α→β) (x:Mm α):Mm β:=x.bind fun a=>.ret (f a)
def mapL {α β:Type} (f:α→Mm β):List α→Mm (List β)
 | []=>.ret []
 | a::r=>(f a).bind fun b=>(mapL f r).bind fun bs=>.ret (b::bs)
end Mm
def PV.cells:PV→List PV
 | .agg cs=>cs
 | p=>[p]
def IV.flat:IV→Bool
 | .v x=>x.oneCell'
 | .ag _=>false
 | _=>true
def toP:IV→PV
 | .ag cs=>.agg (cs.map .i)
 | x=>.i x
def PV.scalar:PV→Bool
 | .i x=>x.flat
 | .ref .. | .ptr .. | .fn ..=>true
 | _=>false
def splice {α:Type} (e:List α) (off:Nat) (cs:List α):List α:=e.take off++cs++e.drop (off+cs.length)
section
variable (P:Program)
def szOf (t:TypeId):Option Nat:=(P.info? t).map (·.size)
def jaf (t:TypeId):Option Bool:=(P.underlying t).map fun | .struct _ | .array _ _=>true|_=>false
def constC:Value→IV
 | .slice none 0 0=>.emp
 | x=>.v x
def jwo:Value→PV
 | .agg cs=>.agg (cs.toList.map fun c=>.i (constC c))
 | .tuple _=>.bad
 | .func (.func f) first caps=>if first.size=0∧caps.size=0 then .fn f [] [] else .bad
 | x=>.i (constC x)
def jam (t:TypeId):Option (List IV):=((P.info? t).bind (·.zero)).map fun z=>z.cells.toList.map constC
def jcj (t:TypeId):Option TypeId:=
 match P.underlying t with
 | some (.slice e)=>some e
 | _=>none
def jar (t:TypeId) (f:Nat):Option Field:=
 match P.underlying t with
 | some (.struct fs)=>fs[f]?
 | _=>none
def opnd (ρ:Nat→PV):Operand→PV
 | .tmp t=>ρ t
 | .const v=>jwo v
 | .func f=>.fn f [] []
 | .global _=>.bad
def jeb:PV→Option Int
 | .i (.v (.int _ n))=>some n
 | _=>none
def asBoolP:PV→Option Bool
 | .i (.v (.bool b))=>some b
 | _=>none
def rdAt:PV→Mm (List PV×Nat)
 | .ptr s ver i off=>.get s fun
  | some (.arr v _ xs)=>Mm.chk (v == ver) (match xs[i]? with|some e=>.ret (e.map .i,off)|none=>.fail)
  | some (.box v cs)=>Mm.chk (v == ver && i == 0) (.ret (cs,off))
  | _=>.fail
 | .i (.eptr e off)=>.ret (e.map .i,off)
 | _=>.fail
def jj9 (t:TypeId) (cs:List PV) (off:Nat):Mm PV:=
 match jaf P t,szOf P t with
 | some true,some n=>Mm.chk (decide (off+n≤cs.length)) (.ret (.agg ((cs.drop off).take n)))
 | some false,_=>Mm.opt cs[off]?
 | _,_=>.fail
def ownSite (s:Nat):Bool:=decide (s<1000) || decide (3000≤s)
def jlc:PV→Mm (IV×List (Nat×Arr))
 | .i x=>Mm.chk x.flat (.ret (x,[]))
 | .ref s ver off len=>.get s fun
  | some (.arr v _ xs)=>Mm.chk (v == ver && ownSite s) (.ret (.lst ((xs.drop off).take len),[(s,.dead (v+1))]))
  | _=>.fail
 | _=>.fail
def jpf (cs:List PV):Mm (List IV×List (Nat×Arr)):=
 (Mm.mapL jlc cs).bind fun l=>.ret (l.map (·.1),l.flatMap (·.2))
def jdt (k:Nat):PV→Mm (List (List IV))
 | .ref s ver off len=>.get s fun
  | some (.arr v k' xs)=>Mm.chk (v == ver && k' == k) (.ret ((xs.drop off).take len))
  | _=>.fail
 | .i (.lst xs)=>Mm.chk (xs.all (·.length == k)) (.ret xs)
 | .i .emp=>.ret []
 | _=>.fail
def lenP:PV→Option Nat
 | .ref _ _ _ len=>some len
 | .i (.lst xs)=>some xs.length
 | .i .emp=>some 0
 | _=>none
def jc4 {α:Type}:Sem α→Option α
 | .pure a=>some a
 | _=>none
def jru (t:TypeId) (n:Nat):Bool:=
 match P.underlying t with
 | some (.struct fs)=>fs.size == n && !P.stoodInHeld t && !P.eqGuardType P.depth t &&
  (fs.toList.zipIdx.all fun(f,i)=>f.offset == i && f.name != "_" && (match P.underlying f.type with|some (.int _)=>true|_=>false))
 | _=>false
def jcn:List PV→List PV→Option Bool
 | [],[]=>some true
 | .i (.v (.int k a))::r,.i (.v (.int k' b))::r'=>
  if k=k' then(jcn r r').map fun x=>a == b && x else none
 | _,_=>none
def binV (op:BinOp) (t:TypeId) (a b:PV):Option Value:=
 match a,b with
 | .i (.v (.int k x)),.i (.v (.int k' y))=>jc4 (binOp op t (.int k x) (.int k' y))
 | .i (.v (.string x)),.i (.v (.string y))=>jc4 (binOp op t (.string x) (.string y))
 | .i (.v (.bool x)),.i (.v (.bool y))=>
  match P.underlying t,op with
  | some .bool,.eql=>some (.bool (x == y))
  | some .bool,.neq=>some (.bool (!(x == y)))
  | _,_=>none
 | .agg xs,.agg ys=>
  if jru P t xs.length then
   match op with
   | .eql=>(jcn xs ys).map .bool
   | .neq=>(jcn xs ys).map fun r=>.bool !r
   | _=>none
  else none
 | _,_=>none
def jus (fs:Array Field):List PV→List (Nat×PV)→Option (List PV)
 | cs,[]=>some cs
 | cs,(i,p)::r=>
  match fs[i]? with
  | some f=>if szOf P f.type=some p.cells.length∧f.offset+p.cells.length≤cs.length∧p.cells.all (·.scalar) then jus fs (splice cs f.offset p.cells) r else none
  | none=>none
def jur (k:Nat):List PV→List (Nat×PV)→Option (List PV)
 | cs,[]=>some cs
 | cs,(i,p)::r=>if p.cells.length=k∧i*k+p.cells.length≤cs.length∧p.cells.all (·.scalar) then jur k (splice cs (i*k) p.cells) r else none
def jm8 (k:Nat):List (List IV)→List (Nat×List IV)→Option (List (List IV))
 | xs,[]=>some xs
 | xs,(i,e)::r=>if e.length=k∧i<xs.length then jm8 k (xs.set i e) r else none
def jdy (d:Nat):Mm Nat:=.get d fun
 | some A=>.ret (A.ver+1)
 | none=>.ret 0
def frz:Nat→PV→Mm IV
 | _,.i .emp=>.ret (.lst [])
 | _,.i x=>.ret x
 | _,.ref s ver off len=>.get s fun
  | some (.arr v _ xs)=>Mm.chk (v == ver) (.ret (.lst ((xs.drop off).take len)))
  | _=>.fail
 | n+1,.ptr s ver i off=>.get s fun
  | some (.arr v _ xs)=>Mm.chk (v == ver) (match xs[i]? with|some e=>.ret (.eptr e off)|none=>.fail)
  | some (.box v cs)=>Mm.chk (v == ver && i == 0) ((Mm.mapL (frz n) cs).bind fun e=>.ret (.eptr e off))
  | _=>.fail
 | n+1,.fn f a b=>(Mm.mapL (frz n) a).bind fun a'=>(Mm.mapL (frz n) b).bind fun b'=>.ret (.fn f a' b')
 | n+1,.agg cs=>(Mm.mapL (frz n) cs).bind fun l=>.ret (.ag l)
 | _,_=>.fail
def frzA:PV→Mm PV
 | .agg cs=>(Mm.mapL (frz 4) cs).bind fun l=>.ret (.agg (l.map .i))
 | p=>(frz 4 p).bind fun x=>.ret (.i x)
def ren (look:Nat→Nat→Mm (Nat×Nat)):Nat→PV→Mm PV
 | _,.i x=>.ret (.i x)
 | _,.ref s ver off len=>(look s ver).bind fun(s',v')=>.ret (.ref s' v' off len)
 | _,.ptr s ver i off=>(look s ver).bind fun(s',v')=>.ret (.ptr s' v' i off)
 | n+1,.agg cs=>(Mm.mapL (ren look n) cs).bind fun l=>.ret (.agg l)
 | n+1,.tup cs=>(Mm.mapL (ren look n) cs).bind fun l=>.ret (.tup l)
 | n+1,.fn f a b=>(Mm.mapL (ren look n) a).bind fun a'=>(Mm.mapL (ren look n) b).bind fun b'=>.ret (.fn f a' b')
 | _,_=>.fail
end
end Go.Proofs.YtnaaceooknghjaaGreatDoor.X
namespace Go.Proofs.YtnaaceooknghjaaGreatDoor.X
open Go
abbrev jci:=FuncId→List PV→List Arr→Option (PV×List Arr×List Arr)
structure Cfg where
 mutF:FuncId→Bool
 own:FuncId→Nat→Bool
 prim:FuncId→Option (List PV→List Arr→Option (PV×List Arr×List Arr))
 give:FuncId→Nat→Bool:=fun _ _=>false
section
variable (P:Program)
def PV.isI:PV→Bool
 | .i _=>true
 | _=>false
def coll:Nat→(keep:Nat→Bool)→List PV→List Nat→Mm (List Nat)
 | _,_,[],acc=>.ret acc
 | 0,_,_::_,_=>.fail
 | n+1,keep,p::r,acc=>
  match p with
  | .i _=>coll n keep r acc
  | .ref s _ _ _=>if keep s && !acc.contains s then coll n keep r (acc++[s]) else coll n keep r acc
  | .ptr s _ _ _=>if keep s && !acc.contains s then .get s fun
   | some (.box _ cs)=>if cs.all PV.isI then coll n keep r (acc++[s]) else(coll n keep cs (acc++[s])).bind fun a=>coll n keep r a
   | _=>coll n keep r (acc++[s])
   else coll n keep r acc
  | .agg cs=>if cs.all PV.isI then coll n keep r acc else(coll n keep cs acc).bind fun a=>coll n keep r a
  | .tup cs=>(coll n keep cs acc).bind fun a=>coll n keep r a
  | .fn _ a b=>(coll n keep a acc).bind fun x=>(coll n keep b x).bind fun y=>coll n keep r y
  | .bad=>.fail
def jbf (look:Nat→Nat→Mm (Nat×Nat)) (ver:Nat):Arr→Mm Arr
 | .arr _ k xs=>.ret (.arr ver k xs)
 | .box _ cs=>(Mm.mapL (ren look 3) cs).bind fun l=>.ret (.box ver l)
 | .dead _=>.fail
def jl4 (base:Nat) (L:List Nat) (s ver:Nat):Mm (Nat×Nat):=.get s fun
 | some A=>Mm.chk (A.ver == ver && L.contains s) (.ret (base+L.idxOf s,0))
 | none=>.fail
def j99 (args:List PV):Mm (List Nat×List PV×List Arr×List Nat):=
 (coll 12 (fun _=>true) args []).bind fun L=>
 (Mm.mapL (ren (jl4 1000 L) 3) args).bind fun args'=>
 (Mm.mapL (fun s=>.get s fun|some A=>(jbf (jl4 1000 L) 0 A).bind fun B=>.ret (B,A.ver)|none=>.fail) L).bind fun ps=>
 Mm.chk (decide L.Nodup && decide (L.length≤1000)) (.ret (L,args',ps.map (·.1),ps.map (·.2)))
def siteOf (d j:Nat):Nat:=3000+d*8+j
def jdf (d:Nat) (L vs nv:List Nat) (s ver:Nat):Mm (Nat×Nat):=
 if s<1000 then .fail
 else if s<2000 then
  match L[s-1000]?,vs[s-1000]? with
  | some s',some v=>.ret (s',v+ver)
  | _,_=>.fail
 else
  match nv[s-2000]? with
  | some v=>.ret (siteOf d (s-2000),v+ver)
  | none=>.fail
def jix (d:Nat) (L vs:List Nat) (r:PV) (ps own:List Arr):Mm (PV×List (Nat×Arr)):=
 (Mm.mapL (fun j=>jdy (siteOf d j)) (List.range own.length)).bind fun nv=>
 (ren (jdf d L vs nv) 3 r).bind fun r'=>
 (Mm.mapL (fun(x:(Nat×Nat)×Arr)=>(jbf (jdf d L vs nv) (x.1.2+x.2.ver) x.2).bind fun B=>.ret (x.1.1,B)) ((L.zip vs).zip ps)).bind fun w1=>
 (Mm.mapL (fun(x:(Nat×Nat)×Arr)=>(jbf (jdf d L vs nv) (x.1.2+x.2.ver) x.2).bind fun B=>.ret (siteOf d x.1.1,B)) (((List.range own.length).zip nv).zip own)).bind fun w2=>
 Mm.chk (decide (own.length≤8) && (L.all fun s=>(List.range own.length).all fun j=>siteOf d j != s)) (.ret (r',w1++w2))
def imm1 (own:List Arr):PV→Option PV
 | .i x=>some (.i x)
 | .ref s ver off len=>
  if s<2000 then some (.ref s ver off len)
  else match own[s-2000]? with
   | some (.arr v _ xs)=>if v=ver then some (.i (.lst ((xs.drop off).take len))) else none
   | _=>none
 | _=>none
def mapO {α β:Type} (f:α→Option β):List α→Option (List β)
 | []=>some []
 | a::r=>
  match f a,mapO f r with
  | some b,some l=>some (b::l)
  | _,_=>none
def imm:Nat→List Arr→PV→Option PV
 | n+1,own,.agg cs=>(mapO (imm n own) cs).map .agg
 | n+1,own,.tup cs=>(mapO (imm n own) cs).map .tup
 | _,own,p=>imm1 own p
def jbx:Nat→PV→Bool
 | _,.i _=>false
 | n+1,.agg cs=>cs.any (jbx n)
 | n+1,.fn _ a b=>a.any (jbx n) || b.any (jbx n)
 | _,_=>true
def jd5:IV→Bool
 | .v _ | .emp=>true
 | _=>false
def j30:PV→Bool
 | .i x=>jd5 x
 | .ref .. | .ptr ..=>true
 | _=>false
def flatP:Nat→PV→Bool
 | n+1,.agg cs=>cs.all (flatP n)
 | n+1,.tup cs=>cs.all (flatP n)
 | _,p=>j30 p
def ji6:Arr→Bool
 | .arr _ _ xs=>xs.all fun e=>e.all jd5
 | .box _ cs=>cs.all j30
 | .dead _=>true
def jhz (cf:Cfg) (C:jci) (me:FuncId) (dst:Option Nat) (f:FuncId) (args:List PV):Mm (PV×List (Nat×Arr)):=
 if cf.mutF f then
  (j99 args).bind fun(L,args',ps,vs)=>
  match C f args' ps with
  | some (r,ps',own)=>
   match dst with
   | some d=>if cf.own me d then jix d L vs r ps' own else(Mm.opt (imm 2 own r)).bind fun r'=>jix d L vs r' ps' []
   | none=>(Mm.opt (imm 2 own r)).bind fun r'=>jix 0 L vs r' ps' []
  | none=>.fail
 else
  (Mm.mapL frzA args).bind fun args'=>
  match C f args' [] with
  | some (r,ps',own)=>
   Mm.chk (ps'.isEmpty && (!(args.any (jbx 4)) || (flatP 3 r && own.all ji6)))
   (match dst with
   | some d=>if cf.own me d then jix d [] [] r [] own else(Mm.opt (imm 2 own r)).bind fun r'=>jix d [] [] r' [] []
   | none=>(Mm.opt (imm 2 own r)).bind fun r'=>jix 0 [] [] r' [] [])
  | none=>.fail
def lenB (ts:Array TypeId) (x:PV):Mm (PV×List (Nat×Arr)):=
 match ts[0]?.bind P.underlying with
 | some (.slice _)=>match lenP x with
  | some n=>.ret (.i (.v (.int .i64 n)),[])
  | none=>.fail
 | some .string=>match x with
  | .i (.v (.string s))=>.ret (.i (.v (.int .i64 s.size)),[])
  | _=>.fail
 | _=>.fail
def intP:PV→Option (IntKind×Int)
 | .i (.v (.int k n))=>some (k,n)
 | _=>none
def minB (x y:PV):Mm (PV×List (Nat×Arr)):=
 match intP x,intP y with
 | some (k,a),some (_,b)=>.ret (.i (.v (.int k (if b<a then b else a))),[])
 | _,_=>.fail
def maxB (x y:PV):Mm (PV×List (Nat×Arr)):=
 match intP x,intP y with
 | some (k,a),some (_,b)=>.ret (.i (.v (.int k (if b > a then b else a))),[])
 | _,_=>.fail
def appB (ts:Array TypeId) (d:Option Nat) (s x:PV):Mm (PV×List (Nat×Arr)):=
 (Mm.opt (ts[0]?.bind (jcj P))).bind fun e=>
 (Mm.opt d).bind fun d=>
 (Mm.opt (P.info? e)).bind fun inf=>
 (jdt inf.size x).bind fun ys=>
 Mm.chk (ts.size == 2 && ts[0]? == ts[1]? && decide (0<inf.size) && decide (inf.bytes≤128) && (match jam P e with|some z=>z.length == inf.size|none=>false))
 (match s with
 | .i .emp=>match ys with
  | []=>.ret (.i .emp,[])
  | y::r=>(jdy d).bind fun v=>Mm.chk (decide (r.length+1≤1000000000000)) (.ret (.ref d v 0 (r.length+1),[(d,.arr v inf.size (y::r))]))
 | .ref s0 ver off len=>.get s0 fun
  | some (.arr v k xs)=>
   match off+len == xs.length with
   | true=>Mm.chk (v == ver && k == inf.size && decide (len+ys.length≤1000000000000))
    (.ret (.ref s0 (v+1) 0 (len+ys.length),[(s0,.arr (v+1) k (xs.drop off++ys))]))
   | false=>Mm.chk (v == ver && k == inf.size && decide (off+len+ys.length≤xs.length))
    (.ret (.ref s0 v off (len+ys.length),[(s0,.arr v k (splice xs (off+len) ys))]))
  | _=>.fail
 | _=>.fail)
def jn4:Option TypeDesc→Bool
 | some (.int _)=>true
 | _=>false
def kaq (ts:Array TypeId) (d:Option Nat) (s x:PV):Mm (PV×List (Nat×Arr)):=
 (Mm.opt (ts[0]?.bind (jcj P))).bind fun e=>
 (Mm.opt d).bind fun d=>
 (Mm.opt (P.info? e)).bind fun inf=>
 match s,jeb x,jam P e with
 | .i .emp,some n,some z=>(jdy d).bind fun v=>Mm.chk (ts.size == 2 && decide (0<n) && decide (n≤4000000) && decide (inf.bytes≤128) && z.length == inf.size && decide (0<inf.size) && z.all (·.flat))
  (.ret (.ref d v 0 n.toNat,[(d,.arr v inf.size (List.replicate n.toNat z))]))
 | _,_,_=>.fail
def jwh (ts:Array TypeId) (x:PV):Mm (PV×List (Nat×Arr)):=
 match x with
 | .ref s ver off len=>
  match ts[0]?.bind (jcj P) with
  | some e=>
   match szOf P e,jam P e with
   | some k',some z=>.get s fun
    | some (.arr v k xs)=>Mm.chk (v == ver && k == k' && z.length == k && z.all (·.flat)) (.ret (.i (.v undef),[(s,.arr v k (splice xs off (List.replicate len z)))]))
    | _=>.fail
   | _,_=>.fail
  | none=>.fail
 | _=>.fail
def j74 (ts:Array TypeId) (dst src:PV):Mm (PV×List (Nat×Arr)):=
 match dst with
 | .ref s ver off len=>
  match ts[0]?.bind (jcj P) with
  | some e=>
   match szOf P e with
   | some k=>(jdt k src).bind fun ys=>.get s fun
    | some (.arr v k' xs)=>Mm.chk (v == ver && k' == k && decide (0<k)) (.ret (.i (.v (.int .i64 ((min ys.length len:Nat):Int))),[(s,.arr v k' (splice xs off (ys.take len)))]))
    | _=>.fail
   | none=>.fail
  | none=>.fail
 | _=>.fail
def capB (ts:Array TypeId) (x:PV):Mm (PV×List (Nat×Arr)):=
 match ts[0]?.bind P.underlying,x with
 | some (.slice _),.i .emp=>.ret (.i (.v (.int .i64 0)),[])
 | _,_=>.fail
def jhr (b:Builtin) (ts:Array TypeId) (d:Option Nat) (args:List PV):Mm (PV×List (Nat×Arr)):=
 match b,args with
 | .len,[x]=>lenB P ts x
 | .min,[x,y]=>minB x y
 | .max,[x,y]=>maxB x y
 | .append,[s,x]=>if jn4 (ts[1]?.bind P.underlying)=true then kaq P ts d s x else appB P ts d s x
 | .clear,[x]=>jwh P ts x
 | .copy,[x,y]=>j74 P ts x y
 | .cap,[x]=>capB P ts x
 | _,_=>.fail
def jbw (n:Nat) (lo hi:Option Int):Option (Nat×Nat):=
 let h:Int:=hi.getD n
 let l:Int:=lo.getD 0
 if 0≤l∧l≤h∧h≤n then some (l.toNat,h.toNat) else none
def ji0 (n lim:Nat) (lo hi:Option Int):Option (Nat×Nat):=
 let h:Int:=hi.getD n
 let l:Int:=lo.getD 0
 if 0≤l∧l≤h∧h≤lim then some (l.toNat,h.toNat) else none
def jcs:Option PV→Option (Option Int)
 | none=>some none
 | some p=>(jeb p).map some
def nilT (d:Option TypeDesc) (op:BinOp) (y:Operand) (p:PV):Option Bool:=
 match d,op,y,p with
 | some (.slice _),.eql,.const (.slice none 0 0),.i (.lst (_::_))=>some false
 | some (.slice _),.neq,.const (.slice none 0 0),.i (.lst (_::_))=>some true
 | some (.interface _),.eql,.const .nilIface,.i (.v .nilIface)=>some true
 | some (.interface _),.neq,.const .nilIface,.i (.v .nilIface)=>some false
 | some (.interface _),.eql,.const .nilIface,.i .err=>some false
 | some (.interface _),.neq,.const .nilIface,.i .err=>some true
 | _,_,_,_=>none
def j0f:List (List IV)→Option (List Int)
 | []=>some []
 | [.v (.int .u8 n)]::r=>(j0f r).map (n::·)
 | _=>none
def cvtB (el:TypeId) (p:PV):Mm (PV×List (Nat×Arr)):=
 match P.underlying el with
 | some (.int .u8)=>(jdt 1 p).bind fun ys=>(Mm.opt (j0f ys)).bind fun l=>.ret (.i (.v (.string ⟨(l.map fun n=>UInt8.ofNat n.toNat).toArray⟩)),[])
 | _=>.fail
def kb6 (cf:Cfg) (me:FuncId):Option Nat→Bool
 | some d=>cf.give me d
 | none=>false
def ja0 (cf:Cfg) (C:jci) (me:FuncId) (o:Oper) (ρ:Nat→PV):Mm (PV×List (Nat×Arr)):=
 let e:=opnd ρ
 match o.op with
 | .move x=>.ret (e x,[])
 | .assign x=>
  match o.dst with
  | some d=>if cf.give me d=true then(jlc (e x)).bind fun c=>.ret (.i c.1,c.2) else .ret (e x,[])
  | none=>.ret (e x,[])
 | .pick c a b=>
  match asBoolP (e c) with
  | some t=>.ret (if t then e a else e b,[])
  | none=>.fail
 | .alloc t=>
  match o.dst,jam P t with
  | some d,some z=>(jdy d).bind fun v=>Mm.chk (z.all (·.flat)) (.ret (.ptr d v 0 0,[(d,.box v (z.map .i))]))
  | _,_=>.fail
 | .box _ x=>
  match o.dst with
  | some d=>(jdy d).bind fun v=>Mm.chk ((e x).cells.all (·.scalar)) (.ret (.ptr d v 0 0,[(d,.box v (e x).cells)]))
  | none=>.fail
 | .build t parts=>
  match jam P t,P.underlying t with
  | some z,some (.struct fs)=>
   match jus P fs (z.map .i) (parts.toList.map fun(i,x)=>(i,e x)) with
   | some cs=>Mm.chk (fs.toList.all fun f=>(szOf P f.type).isSome) (.ret (.agg cs,[]))
   | none=>.fail
  | some z,some (.array _ el)=>
   match szOf P el with
   | some k=>
    match jur k (z.map .i) (parts.toList.map fun(i,x)=>(i,e x)) with
    | some cs=>.ret (.agg cs,[])
    | none=>.fail
   | none=>.fail
  | _,_=>.fail
 | .buildSlice t n parts=>
  match jcj P t,o.dst with
  | some el,some d=>
   match szOf P el,jam P el with
   | some k,some z=>
    (Mm.mapL (fun(x:Nat×Operand)=>(jpf (e x.2).cells).bind fun c=>.ret ((x.1,c.1),c.2)) parts.toList).bind fun l=>
    match jm8 k (List.replicate n z) (l.map (·.1)) with
    | some xs=>(jdy d).bind fun v=>Mm.chk (decide (n*k≤16777216) && z.length == k && z.all (·.flat) && decide (0<k) && (l.flatMap (·.2)).all (·.1 != d)) (.ret (.ref d v 0 n,l.flatMap (·.2)++[(d,.arr v k xs)]))
    | none=>.fail
   | _,_=>.fail
  | _,_=>.fail
 | .load t a=>(rdAt (e a)).bind fun(cs,off)=>(jj9 P t cs off).bind fun p=>.ret (p,[])
 | .store t a x=>
  match e a,szOf P t with
  | .ptr s ver i off,some n=>.get s fun
   | some (.arr v k xs)=>
    (jpf (e x).cells).bind fun c=>
    match xs[i]? with
    | some el=>Mm.chk (v == ver && c.1.length == n && decide (off+n≤el.length) && c.2.all (·.1 != s)) (.ret (.bad,c.2++[(s,.arr v k (xs.set i (splice el off c.1)))]))
    | none=>.fail
   | some (.box v cs)=>Mm.chk (v == ver && i == 0 && (e x).cells.length == n && decide (off+n≤cs.length) && (e x).cells.all (·.scalar)) (.ret (.bad,[(s,.box v (splice cs off (e x).cells))]))
   | _=>.fail
  | _,_=>.fail
 | .nilCheck x=>
  match e x with
  | .ptr s ver i off=>.ret (.ptr s ver i off,[])
  | .i (.eptr c off)=>.ret (.i (.eptr c off),[])
  | _=>.fail
 | .binOp op t x y _=>
  match nilT (P.underlying t) op y (e x) with
  | some r=>.ret (.i (.v (.bool r)),[])
  | none=>(Mm.opt (binV P op t (e x) (e y))).bind fun v=>.ret (.i (.v v),[])
 | .unOp op _ x=>
  match e x with
  | .i (.v a)=>(Mm.opt (jc4 (Op.unary op a))).bind fun v=>.ret (.i (.v v),[])
  | _=>.fail
 | .convert s t x=>
  match P.underlying s,P.underlying t,e x with
  | some (.int _),some (.int k),.i (.v (.int _ n))=>.ret (.i (.v (.int k (k.wrap n))),[])
  | some (.slice el),some .string,p=>cvtB P el p
  | _,_,_=>.fail
 | .makeFunc (.func f) a b=>.ret (.fn f (a.toList.map e) (b.toList.map e),[])
 | .makeSlice t l c=>
  match jcj P t,o.dst,jeb (e l),jeb (e c) with
  | some el,some d,some n,some m=>
   match P.info? el,jam P el with
   | some inf,some z=>
    (jdy d).bind fun v=>Mm.chk (decide (0≤n) && n == m && decide (n≤4000000) && decide (inf.bytes≤128) && z.length == inf.size && decide (0<inf.size) && z.all (·.flat))
      (.ret (.ref d v 0 n.toNat,[(d,.arr v inf.size (List.replicate n.toNat z))]))
   | _,_=>.fail
  | _,_,_,_=>.fail
 | .slice t x lo hi none=>
  match jcs (lo.map e),jcs (hi.map e) with
  | some l,some h=>
   match e x,P.underlying t with
   | .ref s ver off len,some (.slice el)=>
    match jbw len l h,szOf P el with
    | some (a,b),some k=>.get s fun
     | some (.arr v k' _)=>Mm.chk (v == ver && k == k') (.ret (.ref s ver (off+a) (b-a),[]))
     | _=>.fail
    | none,some k=>.get s fun
     | some (.arr v k' xs)=>
      match ji0 len (xs.length-off) l h with
      | some (a,b)=>Mm.chk (v == ver && k == k') (.ret (.ref s ver (off+a) (b-a),[]))
      | none=>.fail
     | _=>.fail
    | _,_=>.fail
   | .i .emp,some (.slice el)=>
    match jbw 0 l h,szOf P el with
    | some _,some _=>.ret (.i .emp,[])
    | _,_=>.fail
   | .i (.lst xs),some (.slice el)=>
    match jbw xs.length l h,szOf P el with
    | some (a,b),some k=>Mm.chk (xs.all (·.length == k)) (.ret (.i (.lst ((xs.drop a).take (b-a))),[]))
    | _,_=>.fail
   | .i (.v (.string s)),some .string=>
    match jbw s.size l h with
    | some (a,b)=>.ret (.i (.v (.string (s.extract a b))),[])
    | none=>.fail
   | _,_=>.fail
  | _,_=>.fail
 | .slice t x lo hi (some mx)=>
  match jcs (lo.map e),jcs (hi.map e),jeb (e mx) with
  | some l,some (some h),some c=>
   match e x,P.underlying t with
   | .ref s ver off len,some (.slice el)=>
    match jbw len l (some h),szOf P el with
    | some (a,b),some k=>.get s fun
     | some (.arr v k' xs)=>
      match kb6 cf me o.dst with
      | true=>Mm.chk (v == ver && k == k' && c == h) (.ret (.ref s (v+1) (off+a) (b-a),[(s,.arr (v+1) k (xs.take (off+b)))]))
      | false=>Mm.chk (v == ver && k == k' && decide (h≤c) && decide (c≤len)) (.ret (.bad,[]))
     | _=>.fail
    | _,_=>.fail
   | .i .emp,some (.slice el)=>
    match jbw 0 l (some h),szOf P el with
    | some _,some _=>Mm.chk (c == h) (.ret (.i .emp,[]))
    | _,_=>.fail
   | _,_=>.fail
  | _,_,_=>.fail
 | .fieldAddr t x f=>
  match jar P t f with
  | some fd=>
   match szOf P fd.type,e x with
   | some (_+1),.ptr s ver i off=>.ret (.ptr s ver i (off+fd.offset),[])
   | some (_+1),.i (.eptr c off)=>.ret (.i (.eptr c (off+fd.offset)),[])
   | _,_=>.fail
  | none=>.fail
 | .field t x f=>
  match jar P t f,e x with
  | some fd,.agg cs=>(jj9 P fd.type cs fd.offset).bind fun p=>.ret (p,[])
  | _,_=>.fail
 | .indexAddr t x ix=>
  match P.underlying t,jeb (e ix) with
  | some (.slice el),some n=>
   match szOf P el,e x with
   | some k,.ref s ver off len=>.get s fun
    | some (.arr v k' _)=>Mm.chk (v == ver && k == k' && decide (0≤n) && decide (n<len)) (.ret (.ptr s ver (off+n.toNat) 0,[]))
    | _=>.fail
   | some k,.i (.lst xs)=>
    match(if 0≤n then xs[n.toNat]? else none) with
    | some el=>Mm.chk (el.length == k) (.ret (.i (.eptr el 0),[]))
    | none=>.fail
   | _,_=>.fail
  | some (.array len el),some n=>
   match szOf P el,e x with
   | some k,.ptr s ver i off=>Mm.chk (decide (0≤n) && decide (n<len)) (.ret (.ptr s ver i (off+n.toNat*k),[]))
   | some k,.i (.eptr c off)=>Mm.chk (decide (0≤n) && decide (n<len)) (.ret (.i (.eptr c (off+n.toNat*k)),[]))
   | _,_=>.fail
  | _,_=>.fail
 | .index t x ix=>
  match P.underlying t,e x,jeb (e ix) with
  | some .string,.i (.v (.string s)),some n=>
   match(if 0≤n then s[n.toNat]? else none) with
   | some b=>.ret (.i (.v (.int .u8 b.toNat)),[])
   | none=>.fail
  | some (.array len el),.agg cs,some n=>
   match szOf P el with
   | some k=>Mm.chk (decide (0≤n) && decide (n<len)) ((jj9 P el cs (n.toNat*k)).bind fun p=>.ret (p,[]))
   | none=>.fail
  | _,_,_=>.fail
 | .extract x j=>
  match e x with
  | .tup cs=>(Mm.opt cs[j]?).bind fun p=>.ret (p,[])
  | _=>.fail
 | .call c=>
  match c.callee with
  | .builtin b=>jhr P b c.argTypes o.dst (c.args.toList.map e)
  | .value fv=>
   match e fv with
   | .fn f first caps=>jhz cf C me o.dst f (first++c.args.toList.map e++caps)
   | .i (.fn f first caps)=>jhz cf C me o.dst f (first.map toP++c.args.toList.map e++caps.map .i)
   | _=>.fail
  | _=>.fail
 | _=>.fail
structure Rec where
 dst:Option Nat
 out:PV
 rd:List Nat
 wr:List (Nat×Arr)
structure St where
 ρ:Nat→PV
 m:Mem
def updL (m:Mem):List (Nat×Arr)→Mem
 | []=>m
 | (s,A)::r=>updL (upd m s (some A)) r
def putρ (ρ:Nat→PV) (dst:Option Nat) (out:PV):Nat→PV:=
 match dst with
 | some d=>upd ρ d out
 | none=>ρ
def St.step (st:St) (r:Rec):St:={ ρ:=putρ st.ρ r.dst r.out,m:=updL st.m r.wr }
def jfd (ops:Array Oper) (o:Oper) (ρ:Nat→PV):Option Bool:=
 match o.guard with
 | none=>some true
 | some (j,want)=>
  match(ops[j]?).bind (·.dst) with
  | some d=>
   match ρ d with
   | .i (.v (.bool b))=>some (b == want)
   | .i (.v (.tuple _))=>some false
   | _=>none
  | none=>none
def jcv (cf:Cfg) (C:jci) (me:FuncId) (ops:Array Oper) (o:Oper) (st:St):Option Rec:=
 match jfd ops o st.ρ with
 | some true=>((ja0 P cf C me o st.ρ).run st.m).map fun x=>⟨o.dst,x.1.1,x.2,x.1.2⟩
 | some false=>some ⟨o.dst,.i (.v undef),[],[]⟩
 | none=>none
def runOps (cf:Cfg) (C:jci) (me:FuncId) (ops:Array Oper):List Oper→St→Option (St×List Rec)
 | [],st=>some (st,[])
 | o::l,st=>
  match jcv P cf C me ops o st with
  | some r=>
   match runOps cf C me ops l (st.step r) with
   | some (st',rs)=>some (st',r::rs)
   | none=>none
  | none=>none
def jzm (ops:Array Oper) (x y:Oper) (r q:Rec):Bool:=
 !(x.apart ops y) || r.wr.any (fun a=>q.rd.contains a.1 || q.wr.any (·.1 == a.1)) || q.wr.any (fun a=>r.rd.contains a.1)
def jeh (ops:Array Oper) (rs:List Rec):Bool:=
 let b:=Region.before ops
 (ops.toList.zipIdx.all fun(o,i)=>o.after.toList.all fun e=>!Region.binds .any e || decide (e.on<i)) &&
 (List.range ops.size).all fun j=>(List.range j).all fun i=>
   (b.getD j 0).testBit i || !(match ops[i]?,ops[j]?,rs[i]?,rs[j]? with|some x,some y,some r,some q=>jzm ops x y r q|_,_,_,_=>true)
inductive Ex where
 | normal
 | exit (id:Nat)
 | ret
 deriving Inhabited
def jfc (cf:Cfg) (C:jci) (me:FuncId) (ops:Array Oper) (draw:Bool) (st:St):Option St:=
 match runOps P cf C me ops ops.toList st with
 | some (st',rs)=>if draw then(if jeh ops rs then some st' else none) else some st'
 | none=>none
def resP (st:St):ResultVar→Mm PV
 | .tmp t=>.ret (st.ρ t)
 | .cell a t=>(rdAt (st.ρ a)).bind fun(cs,off)=>jj9 P t cs off
def tupR:List PV→PV
 | [x]=>x
 | xs=>.tup xs
def jb6 (np:Nat) (L:List Nat) (s ver:Nat):Mm (Nat×Nat):=.get s fun
 | some A=>Mm.chk (A.ver == ver) (if 1000≤s∧s<1000+np then .ret (s,ver) else if L.contains s then .ret (2000+L.idxOf s,0) else .fail)
 | none=>.fail
def dstOk (n:Nat) (o:Oper):Bool:=match o.dst with|some d=>decide (d<n)|none=>true
def jcm (n:Nat):Code→Bool
 | .region _ ops _=>ops.toList.all (dstOk n)
 | .seq a b=>jcm n a && jcm n b
 | .cond _ a b=>jcm n a && jcm n b
 | .block _ a=>jcm n a
 | .loop a=>jcm n a
 | _=>true
def outP (fn:Func) (np:Nat) (st:St):Mm (PV×List Arr×List Arr):=
 (Mm.mapL (resP P st) fn.results.toList).bind fun rs=>
 let r:PV:=tupR rs
 (Mm.mapL (fun j=>.get (1000+j) fun|some A=>.ret A|none=>.fail) (List.range np)).bind fun ps=>
 (coll 16 ownSite (r::ps.flatMap fun | .box _ cs=>cs|_=>[]) []).bind fun L=>
 (ren (jb6 np L) 3 r).bind fun r'=>
 (Mm.mapL (fun A=>jbf (jb6 np L) A.ver A) ps).bind fun ps'=>
 (Mm.mapL (fun s=>.get s fun|some A=>jbf (jb6 np L) 0 A|none=>.fail) L).bind fun own=>
 Mm.chk (decide L.Nodup && L.all ownSite) (.ret (r',ps',own))
def jdk (args:List PV) (ps:List Arr):St:=
 { ρ:=fun t=>args.getD t (.i (.v undef)),m:=fun s=>if 1000≤s then ps[s-1000]? else none }
def primC (cf:Cfg):jci:=fun f a p=>match cf.prim f with|some g=>g a p|none=>none
def jda (cf:Cfg) (E:FuncId→Code→St→Option (Ex×St)) (f:FuncId) (args:List PV) (ps:List Arr):Option (PV×List Arr×List Arr):=
 match primC cf f args ps with
 | some r=>some r
 | none=>
  match P.funcs[f]? with
  | some fn=>
   match fn.body with
   | some c=>
    if args.length≤fn.ntmps∧(fn.name == "runtime.NumGoroutine")=false∧jcm fn.ntmps c=true then
     match E f c (jdk args ps) with
     | some (.normal,st)|some (.ret,st)=>((outP P fn ps.length st).run st.m).map (·.1)
     | _=>none
    else none
   | none=>none
  | none=>none
def exec (cf:Cfg):Nat→FuncId→Code→St→Option (Ex×St)
 | 0,_,_,_=>none
 | n+1,me,c,st=>
  match c with
  | .skip | .label _=>some (.normal,st)
  | .region _ ops draw=>(jfc P cf (jda P cf (exec cf n)) me ops draw st).map fun s=>(.normal,s)
  | .seq a b=>
   match exec cf n me a st with
   | some (.normal,st')=>exec cf n me b st'
   | r=>r
  | .cond x a b=>
   match asBoolP (opnd st.ρ x) with
   | some t=>if t then exec cf n me a st else exec cf n me b st
   | none=>none
  | .block id b=>
   match exec cf n me b st with
   | some (.exit id',st')=>if id'=id then some (.normal,st') else some (.exit id',st')
   | r=>r
  | .loop b=>
   match exec cf n me b st with
   | some (.normal,st')=>exec cf n me (.loop b) st'
   | r=>r
  | .exit id=>some (.exit id,st)
  | .ret=>some (.ret,st)
  | _=>none
end
end Go.Proofs.YtnaaceooknghjaaGreatDoor.X
namespace Go.Proofs.YtnaaceooknghjaaGreatDoor.X
open Go
def VB (b:Nat):Prop:=Tryz.prog.globalNamed "strconv.ErrSyntax"=some b∨Tryz.prog.globalNamed "strconv.ErrRange"=some b∨Tryz.prog.globalNamed "internal/strconv.uint64pow10"=some b
structure VW (w:World):Prop where
 syn:∃tp p,w.var? Tryz.prog "strconv.ErrSyntax"=some #[.iface tp p]
 rng:∃tp p,w.var? Tryz.prog "strconv.ErrRange"=some #[.iface tp p]
 pow:Lib.TabIs Tryz.prog w "internal/strconv.uint64pow10" .u64 Lib.pow10Tab
theorem jms {P:Program} {n:String} {w w':World} (h:∀b,P.globalNamed n=some b→w'.heap[b]?=w.heap[b]?):w'.var? P n=w.var? P n:=by
 unfold World.var?
 cases hg:P.globalNamed n with
 | none=>rfl
 | some g=>simp only[Option.bind_some,h g hg]
theorem VW.agree {w w':World} (h:∀b,VB b→w'.heap[b]?=w.heap[b]?) (hw:VW w):VW w' where
 syn:=by rw[jms fun b hb=>h b (.inl hb)];exact hw.syn
 rng:=by rw[jms fun b hb=>h b (.inr (.inl hb))];exact hw.rng
 pow:=by unfold Lib.TabIs;rw[jms fun b hb=>h b (.inr (.inr hb))];exact hw.pow
end Go.Proofs.YtnaaceooknghjaaGreatDoor.X
namespace Go.Proofs.YtnaaceooknghjaaGreatDoor.X
open Go
theorem jal {α:Type} (f:Nat→α) (i:Nat) (v:α):upd f i v i=v:=by simp[upd]
theorem jbm {α:Type} (f:Nat→α) {i j:Nat} (v:α) (h:j≠i):upd f i v j=f j:=by simp[upd,h]
structure GB where
 g:Nat
 b:Nat
 cap:Nat
inductive RepI (F:Nat→Prop) (w:World):IV→Value→Prop
 | v (x:Value):RepI F w (.v x) x
 | emp (ao:Option Addr):RepI F w .emp (.slice ao 0 0)
 | lst (xs:List (List IV)) (ao:Option Addr) (cap k:Nat) (c:Nat→Nat→Value) (h1:xs.length≤cap) (h2:cap≤maxLen)
  (h3:∀(i:Nat) (e:List IV),xs[i]?=some e→e.length=k)
  (h4:∀(i:Nat) (e:List IV),xs[i]?=some e→∃a:Addr,ao=some a∧a.spot=none∧F a.block∧∀(j:Nat) (p:IV),e[j]?=some p→w.cell? ⟨a.block,a.off+(i*k+j),none⟩=some (c i j))
  (h5:∀(i:Nat) (e:List IV) (j:Nat) (p:IV),xs[i]?=some e→e[j]?=some p→RepI F w p (c i j))
  (h6:∀(i:Nat) (e:List IV) (j:Nat) (p:IV),xs[i]?=some e→e[j]?=some p→(c i j).oneCell'=true) :
  RepI F w (.lst xs) (.slice ao xs.length cap)
 | eptr (e:List IV) (off g o:Nat) (c:Nat→Value) (h1:F g) (h2:∀(j:Nat) (p:IV),e[j]?=some p→w.cell? ⟨g,o+j,none⟩=some (c j))
  (h3:∀(j:Nat) (p:IV),e[j]?=some p→RepI F w p (c j)) (h4:∀(j:Nat) (p:IV),e[j]?=some p→(c j).oneCell'=true):RepI F w (.eptr e off) (.pointer (some ⟨g,o+off,none⟩))
 | fn (f:FuncId) (a b:List IV) (ca cb:List Value) (h1:a.length=ca.length) (h2:b.length=cb.length)
  (h3:∀(j:Nat) (p:IV) (v:Value),a[j]?=some p→ca[j]?=some v→RepI F w p v) (h4:∀(j:Nat) (p:IV) (v:Value),b[j]?=some p→cb[j]?=some v→RepI F w p v) :
  RepI F w (.fn f a b) (.func (.func f) ca.toArray cb.toArray)
 | ag (cs:List IV) (c:List Value) (h1:cs.length=c.length) (h2:∀(j:Nat) (p:IV) (v:Value),cs[j]?=some p→c[j]?=some v→RepI F w p v):RepI F w (.ag cs) (.agg c.toArray)
 | err (t:TypeId) (v:Value):RepI F w .err (.iface t v)
def jfi (F:Nat→Prop) (w w':World):Prop:=∀b,F b→w'.heap[b]?=w.heap[b]?
theorem RepI.mono {F F':Nat→Prop} {w w':World} (hF:∀b,F b→F' b) (hw:jfi F w w') {p:IV} {v:Value} (h:RepI F w p v):RepI F' w' p v:=by
 induction h with
 | v x=>exact .v x
 | emp ao=>exact .emp ao
 | lst xs ao cap k c h1 h2 h3 h4 h5 h6 ih=>
  refine .lst xs ao cap k c h1 h2 h3 (fun i e he=>?_) ih h6
  obtain⟨a,ha,hs,hb,hc⟩:=h4 i e he
  exact⟨a,ha,hs,hF _ hb,fun j p hp=>(World.cell?_of_block (a:=⟨a.block,a.off+(i*k+j),none⟩) (hw a.block hb)).trans (hc j p hp)⟩
 | eptr e off g o c h1 h2 h3 h4 ih=>
  exact .eptr e off g o c (hF _ h1) (fun j p hp=>(World.cell?_of_block (a:=⟨g,o+j,none⟩) (hw g h1)).trans (h2 j p hp)) ih h4
 | fn f a b ca cb h1 h2 h3 h4 ih3 ih4=>exact .fn f a b ca cb h1 h2 ih3 ih4
 | ag cs c h1 h2 ih=>exact .ag cs c h1 ih
 | err t v=>exact .err t v
structure Glob (F:Nat→Prop) (w:World):Prop where
 look:∀b,VB b→F b
 holds:VW w
theorem Glob.mono {F F':Nat→Prop} {w w':World} (hF:∀b,F b→F' b) (hw:jfi F w w') (h:Glob F w):Glob F' w':=
 ⟨fun b hb=>hF b (h.look b hb),VW.agree (fun b hb=>hw b (h.look b hb)) h.holds⟩
def Arr.live:Arr→Prop
 | .dead _=>False
 | _=>True
def jpz (G:GB) (i off:Nat):Arr→Addr→Prop
 | .arr _ k xs,a=>i<xs.length∧a=⟨G.g,(G.b+i)*k+off,none⟩
 | .box _ _,a=>i=0∧a=⟨G.g,off,none⟩
 | .dead _,_=>False
def jhk (G:GB) (off len cap:Nat) (ao:Option Addr):Arr→Prop
 | .arr _ k xs=>off+len≤xs.length∧off≤G.cap∧cap=G.cap-off∧(off<G.cap→ao=some ⟨G.g,(G.b+off)*k,none⟩)
 | _=>False
inductive RepP (m:Mem) (γ:Nat→GB) (F:Nat→Prop) (w:World):PV→Value→Prop
 | i {x:IV} {v:Value} (h:RepI F w x v):RepP m γ F w (.i x) v
 | ref (s ver off len:Nat) (ao:Option Addr) (cap:Nat) (A:Arr) (h1:m s=some A) (h2:ver≤A.ver) (h3:ver=A.ver→jhk (γ s) off len cap ao A) :
  RepP m γ F w (.ref s ver off len) (.slice ao len cap)
 | ptr (s ver i off:Nat) (a:Addr) (A:Arr) (h1:m s=some A) (h2:ver≤A.ver) (h3:ver=A.ver→jpz (γ s) i off A a) :
  RepP m γ F w (.ptr s ver i off) (.pointer (some a))
 | agg (cs:List PV) (c:List Value) (h1:cs.length=c.length) (h2:∀(j:Nat) (p:PV) (v:Value),cs[j]?=some p→c[j]?=some v→RepP m γ F w p v) :
  RepP m γ F w (.agg cs) (.agg c.toArray)
 | tup (cs:List PV) (c:List Value) (h1:cs.length=c.length) (h2:∀(j:Nat) (p:PV) (v:Value),cs[j]?=some p→c[j]?=some v→RepP m γ F w p v) :
  RepP m γ F w (.tup cs) (.tuple c.toArray)
 | fn (f:FuncId) (a b:List PV) (ca cb:List Value) (h1:a.length=ca.length) (h2:b.length=cb.length)
  (h3:∀(j:Nat) (p:PV) (v:Value),a[j]?=some p→ca[j]?=some v→RepP m γ F w p v) (h4:∀(j:Nat) (p:PV) (v:Value),b[j]?=some p→cb[j]?=some v→RepP m γ F w p v) :
  RepP m γ F w (.fn f a b) (.func (.func f) ca.toArray cb.toArray)
 | bad (v:Value):RepP m γ F w .bad v
theorem keb {m:Mem} {γ:Nat→GB} {F:Nat→Prop} {w:World} {x:IV} {v:Value} (h:RepI F w x v):RepP m γ F w (toP x) v:=by
 cases h with
 | ag cs c h1 h2=>
  refine .agg _ c (by simp[h1]) fun j p v hp hv=>?_
  simp only[List.getElem?_map,Option.map_eq_some_iff] at hp
  obtain⟨x,hx,rfl⟩:=hp
  exact .i (h2 j x v hx hv)
 | v=>exact .i (.v _)
 | emp ao=>exact .i (.emp ao)
 | lst xs ao cap k c h1 h2 h3 h4 h5 h6=>exact .i (.lst xs ao cap k c h1 h2 h3 h4 h5 h6)
 | eptr e off g o c h1 h2 h3 h4=>exact .i (.eptr e off g o c h1 h2 h3 h4)
 | fn f a b ca cb h1 h2 h3 h4=>exact .i (.fn f a b ca cb h1 h2 h3 h4)
 | err t v=>exact .i (.err t v)
def Arr.like:Arr→Arr→Prop
 | .arr _ k xs,.arr _ k' xs'=>k=k'∧xs.length=xs'.length
 | .box _ _,.box _ _=>True
 | .dead _,.dead _=>True
 | _,_=>False
theorem Arr.like_refl (A:Arr):A.like A:=by cases A<;>simp[Arr.like]
theorem jj2 {G:GB} {off len cap:Nat} {ao:Option Addr} {A A':Arr} (h:A.like A') (hs:jhk G off len cap ao A):jhk G off len cap ao A':=by
 cases A<;>cases A'<;>simp only[Arr.like,jhk] at h hs ⊢
 obtain⟨rfl,hl⟩:=h
 rw[←hl];exact hs
theorem jjz {G:GB} {i off:Nat} {a:Addr} {A A':Arr} (h:A.like A') (hs:jpz G i off A a):jpz G i off A' a:=by
 cases A<;>cases A'<;>simp only[Arr.like,jpz] at h hs ⊢
 ·obtain⟨rfl,hl⟩:=h
  rw[←hl];exact hs
 ·exact hs
def MemStep (m:Mem) (γ:Nat→GB) (m':Mem) (γ':Nat→GB):Prop:=
 ∀s A,m s=some A→∃A',m' s=some A'∧A.ver≤A'.ver∧(A.ver=A'.ver→A.like A'∧γ' s=γ s)
theorem MemStep.refl (m:Mem) (γ:Nat→GB):MemStep m γ m γ:=fun _ A h=>⟨A,h,Nat.le_refl _,fun _=>⟨A.like_refl,rfl⟩⟩
theorem Arr.like_trans {A B C:Arr} (h:A.like B) (k:B.like C):A.like C:=by
 cases A<;>cases B<;>cases C<;>simp_all[Arr.like]
theorem MemStep.trans {m m1 m2:Mem} {γ γ1 γ2:Nat→GB} (h:MemStep m γ m1 γ1) (k:MemStep m1 γ1 m2 γ2):MemStep m γ m2 γ2:=by
 intro s A hA
 obtain⟨A1,h1,l1,e1⟩:=h s A hA
 obtain⟨A2,h2,l2,e2⟩:=k s A1 h1
 refine⟨A2,h2,Nat.le_trans l1 l2,fun e=>?_⟩
 obtain⟨x1,y1⟩:=e1 (by omega)
 obtain⟨x2,y2⟩:=e2 (by omega)
 exact⟨Arr.like_trans x1 x2,y2.trans y1⟩
theorem RepP.step {m m':Mem} {γ γ':Nat→GB} {F F':Nat→Prop} {w w':World} (hm:MemStep m γ m' γ') (hF:∀b,F b→F' b) (hw:jfi F w w')
 {p:PV} {v:Value} (h:RepP m γ F w p v):RepP m' γ' F' w' p v:=by
 induction h with
 | i h=>exact .i (h.mono hF hw)
 | ref s ver off len ao cap A h1 h2 h3=>
  obtain⟨A',hA',hl,he⟩:=hm s A h1
  refine .ref s ver off len ao cap A' hA' (Nat.le_trans h2 hl) fun e=>?_
  obtain⟨hk,hg⟩:=he (by omega)
  rw[hg]
  exact jj2 hk (h3 (by omega))
 | ptr s ver i off a A h1 h2 h3=>
  obtain⟨A',hA',hl,he⟩:=hm s A h1
  refine .ptr s ver i off a A' hA' (Nat.le_trans h2 hl) fun e=>?_
  obtain⟨hk,hg⟩:=he (by omega)
  rw[hg]
  exact jjz hk (h3 (by omega))
 | agg cs c h1 h2 ih=>exact .agg cs c h1 ih
 | tup cs c h1 h2 ih=>exact .tup cs c h1 ih
 | fn f a b ca cb h1 h2 h3 h4 ih3 ih4=>exact .fn f a b ca cb h1 h2 ih3 ih4
 | bad v=>exact .bad v
def Holds (m:Mem) (γ:Nat→GB) (F:Nat→Prop) (w:World) (G:GB):Arr→Prop
 | .arr _ k xs=>∃cur E,w.heap[G.g]?=some (.cells cur E (0,0))∧(G.b+G.cap)*k≤cur.size∧xs.length≤G.cap∧G.b+G.cap≤maxLen∧
  ∀(i:Nat) (e:List IV),xs[i]?=some e→e.length=k∧∀(j:Nat) (p:IV),e[j]?=some p→∃x:Value,cur[(G.b+i)*k+j]?=some x∧x.oneCell'=true∧RepI F w p x
 | .box _ cs=>∃cur E,w.heap[G.g]?=some (.cells cur E (0,0))∧cur.size=cs.length∧
  ∀(j:Nat) (p:PV),cs[j]?=some p→∃x:Value,cur[j]?=some x∧x.oneCell'=true∧RepP m γ F w p x
 | .dead _=>True
structure Inv (m:Mem) (γ:Nat→GB) (F:Nat→Prop) (w:World):Prop where
 holds:∀s A,m s=some A→Holds m γ F w (γ s) A
 notF:∀s A,m s=some A→A.live→¬F (γ s).g
 dist:∀s s' A A',m s=some A→m s'=some A'→A.live→A'.live→(γ s).g=(γ s').g→s=s'
 bound:∀b,F b→b<w.heap.size
 glob:Glob F w
theorem Holds.lt {m:Mem} {γ:Nat→GB} {F:Nat→Prop} {w:World} {G:GB} {A:Arr} (h:Holds m γ F w G A) (hl:A.live):G.g<w.heap.size:=by
 cases A with
 | arr v k xs=>obtain⟨cur,E,hh,_⟩:=h;exact(Array.getElem?_eq_some_iff.1 hh).1
 | box v cs=>obtain⟨cur,E,hh,_⟩:=h;exact(Array.getElem?_eq_some_iff.1 hh).1
 | dead v=>exact hl.elim
theorem Holds.step {m m':Mem} {γ γ':Nat→GB} {F F':Nat→Prop} {w w':World} (hm:MemStep m γ m' γ') (hF:∀b,F b→F' b) (hw:jfi F w w')
 {G:GB} {A:Arr} (hb:w'.heap[G.g]?=w.heap[G.g]?) (h:Holds m γ F w G A):Holds m' γ' F' w' G A:=by
 cases A with
 | arr v k xs=>
  obtain⟨cur,E,hh,h1,h2,h3,h4⟩:=h
  refine⟨cur,E,hb.trans hh,h1,h2,h3,fun i e he=>⟨(h4 i e he).1,fun j p hp=>?_⟩⟩
  obtain⟨x,hx,ho,hr⟩:=(h4 i e he).2 j p hp
  exact⟨x,hx,ho,hr.mono hF hw⟩
 | box v cs=>
  obtain⟨cur,E,hh,h1,h2⟩:=h
  refine⟨cur,E,hb.trans hh,h1,fun j p hp=>?_⟩
  obtain⟨x,hx,ho,hr⟩:=h2 j p hp
  exact⟨x,hx,ho,hr.step hm hF hw⟩
 | dead v=>trivial
structure Stp (m:Mem) (γ:Nat→GB) (w:World) (m':Mem) (γ':Nat→GB) (w':World):Prop where
 os:w'.os=w.os
 tape:w'.tape=w.tape
 output:w'.output=w.output
 size:w.heap.size≤w'.heap.size
 frame:∀b,b<w.heap.size→(∀s A,m s=some A→A.live→(γ s).g≠b)→w'.heap[b]?=w.heap[b]?
 blocks:∀s A,m' s=some A→A.live→(∃A0,m s=some A0∧A0.live∧(γ s).g=(γ' s).g)∨w.heap.size≤(γ' s).g
theorem Stp.refl (m:Mem) (γ:Nat→GB) (w:World):Stp m γ w m γ w:=
 ⟨rfl,rfl,rfl,Nat.le_refl _,fun _ _ _=>rfl,fun s A h hl=>.inl ⟨A,h,hl,rfl⟩⟩
theorem Stp.trans {m m1 m2:Mem} {γ γ1 γ2:Nat→GB} {w w1 w2:World} (h:Stp m γ w m1 γ1 w1) (k:Stp m1 γ1 w1 m2 γ2 w2):Stp m γ w m2 γ2 w2:=by
 refine⟨k.os.trans h.os,k.tape.trans h.tape,k.output.trans h.output,Nat.le_trans h.size k.size,fun b hb hn=>?_,fun s A hA hl=>?_⟩
 ·refine(k.frame b (by have:=h.size;omega) fun s A hA hl e=>?_).trans (h.frame b hb hn)
  rcases h.blocks s A hA hl with⟨A0,h0,l0,e0⟩ | h0
  ·exact hn s A0 h0 l0 (e0.trans e)
  ·omega
 ·rcases k.blocks s A hA hl with⟨A0,h0,l0,e0⟩ | h0
  ·rcases h.blocks s A0 h0 l0 with⟨A1,h1,l1,e1⟩ | h1
   ·exact .inl ⟨A1,h1,l1,e1.trans e0⟩
   ·exact .inr (by omega)
  ·exact .inr (by have:=h.size;omega)
theorem Stp.drew {m m':Mem} {γ γ':Nat→GB} {w w':World} (h:Stp m γ w m' γ' w'):Stp m γ w m' γ' w'.drew:=⟨h.os,h.tape,h.output,h.size,h.frame,h.blocks⟩
structure FStep (m:Mem) (γ:Nat→GB) (F:Nat→Prop) (w:World) (F':Nat→Prop):Prop where
 sub:∀b,F b→F' b
 grow:∀b,F' b→F b∨w.heap.size≤b∨∃s A,m s=some A∧A.live∧ownSite s=true∧b=(γ s).g
theorem FStep.refl (m:Mem) (γ:Nat→GB) (F:Nat→Prop) (w:World):FStep m γ F w F:=⟨fun _ h=>h,fun _ h=>.inl h⟩
theorem FStep.trans {m m1:Mem} {γ γ1:Nat→GB} {F F1 F2:Nat→Prop} {w w1:World} (hs:Stp m γ w m1 γ1 w1) (h:FStep m γ F w F1) (k:FStep m1 γ1 F1 w1 F2):FStep m γ F w F2:=by
 refine⟨fun b hb=>k.sub b (h.sub b hb),fun b hb=>?_⟩
 rcases k.grow b hb with h1|h1 | ⟨s,A,hA,hl,ho,rfl⟩
 ·exact h.grow b h1
 ·exact .inr (.inl (Nat.le_trans hs.size h1))
 ·rcases hs.blocks s A hA hl with⟨A0,h0,l0,e0⟩ | h0
  ·exact .inr (.inr ⟨s,A0,h0,l0,ho,e0.symm⟩)
  ·exact .inr (.inl h0)
theorem Inv.agree {m m':Mem} {γ γ':Nat→GB} {F:Nat→Prop} {w w':World} (hi:Inv m γ F w) (h:Stp m γ w m' γ' w'):jfi F w w':=
 fun b hb=>h.frame b (hi.bound b hb) fun s A hA hl e=>hi.notF s A hA hl (e▸hb)
structure Good (ρ:Nat→PV) (m:Mem) (γ:Nat→GB) (F:Nat→Prop) (tm:Nat→Value) (w:World):Prop where
 inv:Inv m γ F w
 slots:∀t,RepP m γ F w (ρ t) (tm t)
end Go.Proofs.YtnaaceooknghjaaGreatDoor.X
namespace Go.Proofs.YtnaaceooknghjaaGreatDoor.X
open Go
def Mm.gives {α:Type} (x:Mm α) (m:Mem) (a:α):Prop:=∃rd,x.run m=some (a,rd)
namespace Mm
variable {α β:Type} {m:Mem}
theorem gives_ret {a b:α}:(Mm.ret a).gives m b↔a=b:=by simp[gives,run]
theorem gives_fail {b:α}:(Mm.fail:Mm α).gives m b↔False:=by simp[gives,run]
theorem run_bind (x:Mm α) (f:α→Mm β):(x.bind f).run m=match x.run m with|some (a,r)=>(match(f a).run m with|some (b,r')=>some (b,r++r')|none=>none)|none=>none:=by
 induction x with
 | ret a=>simp only[bind,run];cases (f a).run m<;>simp
 | fail=>rfl
 | get s k ih=>
  simp only[bind,run,ih]
  cases (k (m s)).run m with
  | none=>rfl
  | some ar=>cases hh:(f ar.1).run m<;>simp[hh]
theorem gives_bind {x:Mm α} {f:α→Mm β} {b:β}:(x.bind f).gives m b↔∃a,x.gives m a∧(f a).gives m b:=by
 simp only[gives,run_bind]
 constructor
 ·rintro⟨rd,h⟩
  cases hx:x.run m with
  | none=>simp[hx] at h
  | some ar=>
   cases hf:(f ar.1).run m with
   | none=>simp[hx,hf] at h
   | some br=>refine⟨ar.1,⟨ar.2,rfl⟩,br.2,?_⟩;simp[hx,hf] at h;rw[hf,←h.1]
 ·rintro⟨a,⟨r,hr⟩,r',hr'⟩
  exact⟨r++r',by simp[hr,hr']⟩
theorem gives_get {s:Nat} {k:Option Arr→Mm α} {b:α}:(Mm.get s k).gives m b↔(k (m s)).gives m b:=by
 simp only[gives,run]
 constructor
 ·rintro⟨rd,h⟩
  cases hx:(k (m s)).run m with
  | none=>simp[hx] at h
  | some ar=>simp[hx] at h;exact⟨ar.2,by rw[←h.1]⟩
 ·rintro⟨r,hr⟩;exact⟨s::r,by simp[hr]⟩
theorem gives_chk {c:Bool} {x:Mm α} {b:α}:(chk c x).gives m b↔c=true∧x.gives m b:=by cases c<;>simp[chk,gives_fail]
theorem gives_opt {o:Option α} {b:α}:(opt o).gives m b↔o=some b:=by cases o<;>simp[opt,gives_fail,gives_ret]
theorem gives_mapL_nil {f:α→Mm β} {l:List β}:(mapL f []).gives m l↔l=[]:=by simp[mapL,gives_ret,eq_comm]
theorem gives_mapL_cons {f:α→Mm β} {a:α} {r:List α} {l:List β}:(mapL f (a::r)).gives m l↔∃b bs,(f a).gives m b∧(mapL f r).gives m bs∧l=b::bs:=by
 simp only[mapL,gives_bind,gives_ret]
 constructor
 ·rintro⟨b,h1,bs,h2,rfl⟩;exact⟨b,bs,h1,h2,rfl⟩
 ·rintro⟨b,bs,h1,h2,rfl⟩;exact⟨b,h1,bs,h2,rfl⟩
theorem mapL_length {f:α→Mm β}:∀{a:List α} {l:List β},(mapL f a).gives m l→l.length=a.length
 | [],l,h=>by rw[gives_mapL_nil] at h;simp[h]
 | x::r,l,h=>by
  obtain⟨b,bs,_,h2,rfl⟩:=gives_mapL_cons.1 h
  simp[mapL_length h2]
theorem mapL_get {f:α→Mm β}:∀{a:List α} {l:List β},(mapL f a).gives m l→∀(j:Nat) (x:α),a[j]?=some x→∃y,l[j]?=some y∧(f x).gives m y
 | [],l,h,j,x,hx=>by simp at hx
 | y::r,l,h,j,x,hx=>by
  obtain⟨b,bs,h1,h2,rfl⟩:=gives_mapL_cons.1 h
  cases j with
  | zero=>simp at hx;subst hx;exact⟨b,by simp,h1⟩
  | succ j=>simp at hx;obtain⟨z,hz,hf⟩:=mapL_get h2 j x hx;exact⟨z,by simpa using hz,hf⟩
theorem mapL_get' {f:α→Mm β} {a:List α} {l:List β} (h:(mapL f a).gives m l) (j:Nat) (y:β) (hy:l[j]?=some y):∃x,a[j]?=some x∧(f x).gives m y:=by
 have hl:=mapL_length h
 have hj:j<a.length:=by rw[←hl];exact(List.getElem?_eq_some_iff.1 hy).1
 obtain⟨z,hz,hf⟩:=mapL_get h j a[j] (by simp[hj])
 rw[hy] at hz;cases hz
 exact⟨a[j],by simp[hj],hf⟩
end Mm
section
variable {P:Program}
theorem jc2 {F:Nat→Prop} {w:World} (v:Value):RepI F w (constC v) v:=by
 unfold constC
 split
 ·exact .emp none
 ·exact .v _
theorem jvb {m:Mem} {γ:Nat→GB} {F:Nat→Prop} {w:World} (v:Value):RepP m γ F w (jwo v) v:=by
 unfold jwo
 split
 ·rename_i cs
  have:RepP m γ F w (.agg (cs.toList.map fun c=>.i (constC c))) (.agg cs.toList.toArray):=by
   refine .agg _ cs.toList (by simp) fun j p v hp hv=>?_
   simp only[List.getElem?_map,hv,Option.map_some,Option.some.injEq] at hp
   subst hp
   exact .i (jc2 v)
  simpa using this
 ·exact .bad _
 ·rename_i f first caps
  split
  ·rename_i h
   have h1:first=#[]:=Array.eq_empty_of_size_eq_zero h.1
   have h2:caps=#[]:=Array.eq_empty_of_size_eq_zero h.2
   subst h1;subst h2
   exact .fn f [] [] [] [] rfl rfl (by simp) (by simp)
  ·exact .bad _
 ·exact .i (jc2 _)
theorem jah {m:Mem} {γ:Nat→GB} {F:Nat→Prop} {w:World} {ρ:Nat→PV} {a:Act} (h:∀t,RepP m γ F w (ρ t) (a.tmps.getD t undef)) (x:Operand) :
 RepP m γ F w (opnd ρ x) (a.eval x):=by
 cases x with
 | tmp t=>exact h t
 | const v=>exact jvb v
 | func f=>exact .fn f [] [] [] [] rfl rfl (by simp) (by simp)
 | global g=>exact .bad _
def Does (P:Program) (o:Oper) (a:Act) (w:World) (m:Mem) (γ:Nat→GB) (F:Nat→Prop) (out:PV) (wr:List (Nat×Arr)):Prop:=
 ∀(K:Act→World→Prop) (Q:Exit→Act→World→Prop),
  (∀v γ' F' w',Inv (updL m wr) γ' F' w'→MemStep m γ (updL m wr) γ'→FStep m γ F w F'→Stp m γ w (updL m wr) γ' w'→RepP (updL m wr) γ' F' w' out v→K (a.put o.dst v) w')→o.wp P a w K Q
theorem ja3 {o:Oper} {a:Act} {w w':World} {m:Mem} {γ γ':Nat→GB} {F F':Nat→Prop} {out:PV} {wr:List (Nat×Arr)} {v:Value}
 (h:(execOp a.eval o).run P w=.ok (.value v) w') (hi:Inv (updL m wr) γ' F' w') (hm:MemStep m γ (updL m wr) γ') (hF:FStep m γ F w F')
 (hs:Stp m γ w (updL m wr) γ' w') (hr:RepP (updL m wr) γ' F' w' out v):Does P o a w m γ F out wr:=by
 intro K Q hK
 simp only[Oper.wp,Oper.upon,h]
 exact hK v γ' F' w' hi hm hF hs hr
theorem jag {o:Oper} {a:Act} {w:World} {m:Mem} {γ:Nat→GB} {F:Nat→Prop} {out:PV} {v:Value} (hi:Inv m γ F w)
 (h:(execOp a.eval o).run P w=.ok (.value v) w) (hr:RepP m γ F w out v):Does P o a w m γ F out []:=
 ja3 h hi (MemStep.refl _ _) (FStep.refl ..) (Stp.refl _ _ _) hr
theorem jbl {t:TypeId} {n:Nat} (h:szOf P t=some n) (w:World):(sizeOf t).run P w=.ok n w:=by
 simp only[szOf,Option.map_eq_some_iff] at h
 obtain⟨i,hi,rfl⟩:=h
 simp[sizeOf,typeInfo,hi]
theorem jih {t:TypeId} {z:List IV} (h:jam P t=some z) (w:World):∃v,(zeroValue t).run P w=.ok v w∧v.cells.toList.map constC=z:=by
 simp only[jam,Option.map_eq_some_iff,Option.bind_eq_some_iff] at h
 obtain⟨v,⟨i,hi,hz⟩,rfl⟩:=h
 exact⟨v,by simp[zeroValue,typeInfo,hi,hz],rfl⟩
theorem kh6 {t:TypeId} {d:TypeDesc} (h:P.underlying t=some d) (w:World):(underlying t).run P w=.ok d w:=run_underlying h w
theorem jmk {t:TypeId} {b:Bool} (h:jaf P t=some b) (w:World):(isAgg t).run P w=.ok b w:=by
 simp only[jaf,Option.map_eq_some_iff] at h
 obtain⟨d,hd,rfl⟩:=h
 cases d<;>simp[isAgg,run_underlying hd]
theorem jge {t e:TypeId} (h:jcj P t=some e):P.underlying t=some (.slice e):=by
 unfold jcj at h
 split at h
 ·rename_i e' he;cases h;exact he
 ·cases h
theorem jc7 {m:Mem} {γ:Nat→GB} {F:Nat→Prop} {w:World} {p:PV} {v:Value} {n:Int} (h:jeb p=some n) (hr:RepP m γ F w p v):∃k,v=.int k n:=by
 unfold jeb at h
 split at h
 ·cases h;cases hr with|i hr=>cases hr;exact⟨_,rfl⟩
 ·cases h
theorem jnb {m:Mem} {γ:Nat→GB} {F:Nat→Prop} {w:World} {p:PV} {v:Value} {b:Bool} (h:asBoolP p=some b) (hr:RepP m γ F w p v):v=.bool b:=by
 unfold asBoolP at h
 split at h
 ·cases h;cases hr with|i hr=>cases hr;rfl
 ·cases h
theorem jbe (g o n:Nat):(⟨g,o,none⟩:Addr).add n=⟨g,o+n,none⟩:=by unfold Addr.add;split<;>simp_all
def j0v (m:Mem) (γ:Nat→GB) (F:Nat→Prop) (w:World) (g o:Nat) (cs:List PV):Prop:=
 ∀(j:Nat) (p:PV),cs[j]?=some p→∃x:Value,w.cell? ⟨g,o+j,none⟩=some x∧x.oneCell'=true∧RepP m γ F w p x
theorem joa {m:Mem} {γ:Nat→GB} {F:Nat→Prop} {w:World} (hi:Inv m γ F w) {p:PV} {v:Value} {cs:List PV} {off:Nat}
 (h:(rdAt p).gives m (cs,off)) (hr:RepP m γ F w p v):∃g o,v=.pointer (some ⟨g,o+off,none⟩)∧j0v m γ F w g o cs:=by
 cases hr with
 | ptr s ver i off' a A h1 h2 h3=>
  simp only[rdAt,Mm.gives_get,h1] at h
  have hh:=hi.holds s A h1
  cases A with
  | arr v k xs=>
   simp only[Mm.gives_chk,beq_iff_eq] at h
   obtain⟨rfl,h⟩:=h
   cases he:xs[i]? with
   | none=>simp[he,Mm.gives_fail] at h
   | some e=>
    simp only[he,Mm.gives_ret,Prod.mk.injEq] at h
    obtain⟨rfl,rfl⟩:=h
    obtain⟨hi',rfl⟩:=h3 rfl
    obtain⟨cur,E,hb,_,_,_,hc⟩:=hh
    refine⟨_,_,rfl,fun j p hp=>?_⟩
    simp only[List.getElem?_map,Option.map_eq_some_iff] at hp
    obtain⟨q,hq,rfl⟩:=hp
    obtain⟨x,hx,ho,hr⟩:=(hc i e he).2 j q hq
    exact⟨x,by rw[cell_of_row w _ _ cur E (0,0) hb];exact hx,ho,.i hr⟩
  | box v cs'=>
   simp only[Mm.gives_chk,Bool.and_eq_true,beq_iff_eq,Mm.gives_ret,Prod.mk.injEq] at h
   obtain⟨⟨rfl,rfl⟩,rfl,rfl⟩:=h
   obtain⟨_,rfl⟩:=h3 rfl
   obtain⟨cur,E,hb,_,hc⟩:=hh
   refine⟨(γ s).g,0,by simp,fun j p hp=>?_⟩
   obtain⟨x,hx,ho,hr⟩:=hc j p hp
   exact⟨x,by rw[cell_of_row w _ _ cur E (0,0) hb];simpa using hx,ho,hr⟩
  | dead v=>simp[Mm.gives_fail] at h
 | i hr=>
  cases hr with
  | eptr e off' g o c h1 h2 h3 h4=>
   simp only[rdAt,Mm.gives_ret,Prod.mk.injEq] at h
   obtain⟨rfl,rfl⟩:=h
   refine⟨g,o,rfl,fun j p hp=>?_⟩
   simp only[List.getElem?_map,Option.map_eq_some_iff] at hp
   obtain⟨q,hq,rfl⟩:=hp
   exact⟨c j,h2 j q hq,h4 j q hq,.i (h3 j q hq)⟩
  | _=>simp[rdAt,Mm.gives_fail] at h
 | _=>simp[rdAt,Mm.gives_fail] at h
theorem jok {m:Mem} {γ:Nat→GB} {F:Nat→Prop} {w:World} {t:TypeId} {cs:List PV} {off g o:Nat} {p:PV}
 (h:(jj9 P t cs off).gives m p) (hc:j0v m γ F w g o cs) :
 ∃v,(loadVar t ⟨g,o+off,none⟩).run P w=.ok v w∧RepP m γ F w p v:=by
 unfold jj9 at h
 split at h
 ·rename_i n ha hs
  simp only[Mm.gives_chk,decide_eq_true_eq,Mm.gives_ret] at h
  obtain⟨hn,rfl⟩:=h
  have hx:∀j,∃x:Value,j<n→w.cell? ⟨g,o+off+j,none⟩=some x∧RepP m γ F w (((cs.drop off).take n).getD j .bad) x:=fun j=>by
   by_cases hj:j<n
   ·have hlt:off+j<cs.length:=by omega
    obtain⟨x,hx,_,hr⟩:=hc (off+j) cs[off+j] (by simp[hlt])
    refine⟨x,fun _=>⟨by rw[←hx];congr 2;omega,?_⟩⟩
    have:((cs.drop off).take n).getD j .bad=cs[off+j]:=by simp[List.getD,hj,List.getElem?_drop,hlt]
    rw[this];exact hr
   ·exact⟨undef,fun h=>absurd h hj⟩
  obtain⟨x,hx⟩:=Classical.axiomOfChoice hx
  refine⟨.agg ((List.range n).map x).toArray,?_,?_⟩
  ·simp only[loadVar,Sem.run_bind,jmk ha,Result.andThen_ok,if_true,jbl hs]
   rw[run_loadCells w _ n x fun j hj=>by rw[jbe];exact(hx j hj).1]
   rfl
  ·refine .agg _ _ (by simp;omega) fun j p v hp hv=>?_
   have hj:j<n:=by
    have:=(List.getElem?_eq_some_iff.1 hv).1
    simpa using this
   simp only[List.getElem?_map,List.getElem?_range hj,Option.map_some,Option.some.injEq] at hv
   subst hv
   have:=(hx j hj).2
   simp only[List.getD,hp,Option.getD_some] at this
   exact this
 ·rename_i ha
  rw[Mm.gives_opt] at h
  obtain⟨x,hx,_,hr⟩:=hc off p h
  refine⟨x,?_,hr⟩
  simp only[loadVar,Sem.run_bind,jmk ha,Result.andThen_ok,Bool.false_eq_true,if_false,run_load,hx]
 ·simp[Mm.gives_fail] at h
end
end Go.Proofs.YtnaaceooknghjaaGreatDoor.X
namespace Go.Proofs.YtnaaceooknghjaaGreatDoor.X
open Go
section
variable {P:Program} {o:Oper} {a:Act} {w:World} {m:Mem} {γ:Nat→GB} {F:Nat→Prop} {ρ:Nat→PV} {out:PV} {wr:List (Nat×Arr)} {cf:Cfg} {C:jci} {me:FuncId}
abbrev ja7 (P:Program) (cf:Cfg) (C:jci) (me:FuncId) (o:Oper) (ρ:Nat→PV) (m:Mem) (out:PV) (wr:List (Nat×Arr)):Prop:=(ja0 P cf C me o ρ).gives m (out,wr)
abbrev Slots (m:Mem) (γ:Nat→GB) (F:Nat→Prop) (w:World) (ρ:Nat→PV) (a:Act):Prop:=∀t,RepP m γ F w (ρ t) (a.tmps.getD t undef)
theorem j3a {x:Operand} (ho:o.op=.move x) (h:ja7 P cf C me o ρ m out wr) (hi:Inv m γ F w) (hs:Slots m γ F w ρ a):Does P o a w m γ F out wr:=by
 have hh:out=opnd ρ x∧wr=[]:=by simpa[ja7,ja0,ho,Mm.gives_ret,Prod.mk.injEq,eq_comm] using h
 obtain⟨rfl,rfl⟩:=hh
 refine jag hi ?_ (jah hs x)
 simp[execOp,ho]
theorem j3c {c x y:Operand} (ho:o.op=.pick c x y) (h:ja7 P cf C me o ρ m out wr) (hi:Inv m γ F w) (hs:Slots m γ F w ρ a):Does P o a w m γ F out wr:=by
 simp only[ja7,ja0,ho] at h
 split at h
 ·rename_i t ht
  simp only[Mm.gives_ret,Prod.mk.injEq] at h
  obtain⟨rfl,rfl⟩:=h
  have hc:=jnb ht (jah hs c)
  refine jag hi (v:=if t then a.eval x else a.eval y) ?_ ?_
  ·simp[execOp,ho,hc,asBool]
  ·cases t
   ·exact jah hs y
   ·exact jah hs x
 ·simp[Mm.gives_fail] at h
theorem jpj {x:Operand} (ho:o.op=.nilCheck x) (h:ja7 P cf C me o ρ m out wr) (hi:Inv m γ F w) (hs:Slots m γ F w ρ a):Does P o a w m γ F out wr:=by
 simp only[ja7,ja0,ho] at h
 have hx:=jah hs x
 split at h
 ·rename_i s ver i off he
  simp only[Mm.gives_ret,Prod.mk.injEq] at h
  obtain⟨rfl,rfl⟩:=h
  rw[he] at hx
  generalize hv:a.eval x=v at hx
  cases hx with
  | ptr s ver i off ad A h1 h2 h3=>exact jag hi (by simp[execOp,ho,hv]) (.ptr s ver i off ad A h1 h2 h3)
 ·rename_i c off he
  simp only[Mm.gives_ret,Prod.mk.injEq] at h
  obtain⟨rfl,rfl⟩:=h
  rw[he] at hx
  generalize hv:a.eval x=v at hx
  cases hx with
  | i hr=>cases hr with
   | eptr e off g o' c h1 h2 h3 h4=>exact jag hi (by simp[execOp,ho,hv]) (.i (.eptr _ off g o' c h1 h2 h3 h4))
 ·simp[Mm.gives_fail] at h
theorem jhj {α:Type} {s:Sem α} {x:α} (h:jc4 s=some x) (w:World):s.run P w=.ok x w:=by
 cases s<;>simp[jc4] at h
 subst h;rfl
theorem j3d {u:UnOp} {t:TypeId} {x:Operand} (ho:o.op=.unOp u t x) (h:ja7 P cf C me o ρ m out wr) (hi:Inv m γ F w) (hs:Slots m γ F w ρ a):Does P o a w m γ F out wr:=by
 simp only[ja7,ja0,ho] at h
 have hx:=jah hs x
 split at h
 ·rename_i v he
  simp only[Mm.gives_bind,Mm.gives_opt,Mm.gives_ret,Prod.mk.injEq] at h
  obtain⟨r,hr,rfl,rfl⟩:=h
  rw[he] at hx
  generalize hv:a.eval x=v' at hx
  cases hx with
  | i hx=>cases hx;exact jag hi (by simp[execOp,ho,hv,jhj hr]) (.i (.v _))
 ·simp[Mm.gives_fail] at h
theorem jpi {f:FuncId} {x y:Array Operand} (ho:o.op=.makeFunc (.func f) x y) (h:ja7 P cf C me o ρ m out wr) (hi:Inv m γ F w) (hs:Slots m γ F w ρ a):Does P o a w m γ F out wr:=by
 simp only[ja7,ja0,ho,Mm.gives_ret,Prod.mk.injEq] at h
 obtain⟨rfl,rfl⟩:=h
 refine jag hi (v:=.func (.func f) (x.toList.map a.eval).toArray (y.toList.map a.eval).toArray) ?_ ?_
 ·simp only[execOp,ho,Instr.makeFunc,Sem.run_bind,Sem.run_pure,Result.andThen_ok]
  rw[←Array.toList_map,←Array.toList_map]
 ·refine .fn f _ _ _ _ (by simp) (by simp) ?_ ?_<;>
  ·intro j p v hp hv
   simp only[List.getElem?_map,Option.map_eq_some_iff] at hp hv
   obtain⟨q,hq,rfl⟩:=hp
   obtain⟨q',hq',rfl⟩:=hv
   rw[hq] at hq';cases hq'
   exact jah hs q
theorem jrg {x:Operand} {j:Nat} (ho:o.op=.extract x j) (h:ja7 P cf C me o ρ m out wr) (hi:Inv m γ F w) (hs:Slots m γ F w ρ a):Does P o a w m γ F out wr:=by
 simp only[ja7,ja0,ho] at h
 have hx:=jah hs x
 split at h
 ·rename_i cs he
  simp only[Mm.gives_bind,Mm.gives_opt,Mm.gives_ret,Prod.mk.injEq] at h
  obtain⟨r,hr,rfl,rfl⟩:=h
  rw[he] at hx
  generalize hv:a.eval x=v' at hx
  cases hx with
  | tup cs c h1 h2=>
   have hj:j<c.length:=by rw[←h1];exact(List.getElem?_eq_some_iff.1 hr).1
   exact jag hi (v:=c[j]) (by simp[execOp,ho,hv,Instr.extract,hj]) (h2 j _ _ hr (by simp[hj]))
 ·simp[Mm.gives_fail] at h
theorem j29 {t:TypeId} {x:Operand} (ho:o.op=.load t x) (h:ja7 P cf C me o ρ m out wr) (hi:Inv m γ F w) (hs:Slots m γ F w ρ a):Does P o a w m γ F out wr:=by
 simp only[ja7,ja0,ho,Mm.gives_bind,Mm.gives_ret,Prod.mk.injEq] at h
 obtain⟨⟨cs,off⟩,h1,p,h2,rfl,rfl⟩:=h
 obtain⟨g,b,hv,hc⟩:=joa hi h1 (jah hs x)
 obtain⟨v,hl,hr⟩:=jok h2 hc
 exact jag hi (by simp[execOp,ho,hv,Instr.loadAt,Instr.sureAddr,hl]) hr
theorem jrq {t:TypeId} {f:Nat} {fd:Field} (h:jar P t f=some fd):∃fs,P.underlying t=some (.struct fs)∧fs[f]?=some fd:=by
 unfold jar at h
 split at h
 ·rename_i fs he;exact⟨fs,he,h⟩
 ·cases h
theorem jm5 {t:TypeId} {x:Operand} {f:Nat} (ho:o.op=.fieldAddr t x f) (h:ja7 P cf C me o ρ m out wr) (hi:Inv m γ F w) (hs:Slots m γ F w ρ a):Does P o a w m γ F out wr:=by
 simp only[ja7,ja0,ho] at h
 have hx:=jah hs x
 split at h
 ·rename_i fd hf
  obtain⟨fs,hu,hfs⟩:=jrq hf
  split at h
  ·rename_i n s ver i off hz he
   simp only[Mm.gives_ret,Prod.mk.injEq] at h
   obtain⟨rfl,rfl⟩:=h
   rw[he] at hx
   generalize hv:a.eval x=v at hx
   cases hx with
   | ptr s ver i off ad A h1 h2 h3=>
    refine jag hi (v:=.pointer (some (ad.add fd.offset))) (by simp[execOp,ho,hv,Instr.fieldAt,run_underlying hu,hfs,Instr.sureAddr,fieldPlace,jbl hz]) ?_
    refine .ptr s ver i _ _ A h1 h2 fun e=>?_
    have:=h3 e
    cases A with
    | arr v k xs=>obtain⟨hi,rfl⟩:=this;exact⟨hi,by rw[jbe];simp⟩
    | box v cs=>obtain⟨hi,rfl⟩:=this;exact⟨hi,by rw[jbe]⟩
    | dead v=>exact this
  ·rename_i n c off hz he
   simp only[Mm.gives_ret,Prod.mk.injEq] at h
   obtain⟨rfl,rfl⟩:=h
   rw[he] at hx
   generalize hv:a.eval x=v at hx
   cases hx with
   | i hr=>cases hr with
    | eptr e off g o' c h1 h2 h3 h4=>
     refine jag hi (v:=.pointer (some ((⟨g,o'+off,none⟩:Addr).add fd.offset))) (by simp[execOp,ho,hv,Instr.fieldAt,run_underlying hu,hfs,Instr.sureAddr,fieldPlace,jbl hz]) ?_
     rw[jbe,Nat.add_assoc]
     exact .i (.eptr _ _ g o' c h1 h2 h3 h4)
  ·simp[Mm.gives_fail] at h
 ·simp[Mm.gives_fail] at h
theorem jol {t:TypeId} {cs:List PV} {off:Nat} {p:PV} {c:List Value} (h:(jj9 P t cs off).gives m p) (hl:cs.length=c.length)
 (hc:∀(j:Nat) (p:PV) (v:Value),cs[j]?=some p→c[j]?=some v→RepP m γ F w p v):∃v,(part t c.toArray off).run P w=.ok v w∧RepP m γ F w p v:=by
 unfold jj9 at h
 split at h
 ·rename_i n ha hs
  simp only[Mm.gives_chk,decide_eq_true_eq,Mm.gives_ret] at h
  obtain⟨hn,rfl⟩:=h
  refine⟨.agg ((c.drop off).take n).toArray,?_,.agg _ _ (by simp[hl]) fun j p v hp hv=>?_⟩
  ·simp[part,jmk ha,jbl hs,List.extract_eq_take_drop]
  ·rw[List.getElem?_take] at hp hv
   split at hp
   ·rename_i hj
    simp only[hj,if_true,List.getElem?_drop] at hp hv
    exact hc _ _ _ hp hv
   ·cases hp
 ·rename_i ha
  rw[Mm.gives_opt] at h
  have hj:off<c.length:=by rw[←hl];exact(List.getElem?_eq_some_iff.1 h).1
  exact⟨c[off],by simp[part,jmk ha,hj],hc _ _ _ h (by simp[hj])⟩
 ·simp[Mm.gives_fail] at h
theorem jzx {t:TypeId} {x:Operand} {f:Nat} (ho:o.op=.field t x f) (h:ja7 P cf C me o ρ m out wr) (hi:Inv m γ F w) (hs:Slots m γ F w ρ a):Does P o a w m γ F out wr:=by
 simp only[ja7,ja0,ho] at h
 have hx:=jah hs x
 split at h
 ·rename_i fd cs hf he
  obtain⟨fs,hu,hfs⟩:=jrq hf
  simp only[Mm.gives_bind,Mm.gives_ret,Prod.mk.injEq] at h
  obtain⟨p,hp,rfl,rfl⟩:=h
  rw[he] at hx
  generalize hv:a.eval x=v at hx
  cases hx with
  | agg cs c h1 h2=>
   obtain⟨v,hpv,hr⟩:=jol hp h1 h2
   exact jag hi (by simp[execOp,ho,hv,Instr.field,run_underlying hu,hfs,asAgg,hpv]) hr
 ·simp[Mm.gives_fail] at h
end
end Go.Proofs.YtnaaceooknghjaaGreatDoor.X
namespace Go.Proofs.YtnaaceooknghjaaGreatDoor.X
open Go
section
variable {P:Program} {o:Oper} {a:Act} {w:World} {m:Mem} {γ:Nat→GB} {F:Nat→Prop} {ρ:Nat→PV} {out:PV} {wr:List (Nat×Arr)} {cf:Cfg} {C:jci} {me:FuncId}
theorem jhn {ad:Addr} (h:ad.spot=none):ad=⟨ad.block,ad.off,none⟩:=by cases ad;simp at h;subst h;rfl
theorem jhp {m:Mem} {s:Nat} {A:Arr} {v k:Nat} {xs:List (List IV)} (h1:m s=some A) (h:m s=some (.arr v k xs)):A=.arr v k xs:=by
 rw[h1] at h;cases h;rfl
theorem jm6 {t:TypeId} {x y:Operand} (ho:o.op=.indexAddr t x y) (h:ja7 P cf C me o ρ m out wr) (hi:Inv m γ F w) (hs:Slots m γ F w ρ a):Does P o a w m γ F out wr:=by
 simp only[ja7,ja0,ho] at h
 have hx:=jah hs x
 have hy:=jah hs y
 split at h
 ·rename_i el n hu hn
  obtain⟨kk,hyv⟩:=jc7 hn hy
  split at h
  ·rename_i k s ver off len hz he
   simp only[Mm.gives_get] at h
   split at h
   ·rename_i v k' xs hA
    simp only[Mm.gives_chk,Bool.and_eq_true,beq_iff_eq,decide_eq_true_eq,Mm.gives_ret,Prod.mk.injEq] at h
    obtain⟨⟨⟨⟨rfl,rfl⟩,h0⟩,hlt⟩,rfl,rfl⟩:=h
    rw[he] at hx
    generalize hv:a.eval x=v' at hx
    cases hx with
    | ref s ver off len ao cap A h1 h2 h3=>
     have:=jhp h1 hA;subst this
     obtain⟨hl,hc,rfl,had⟩:=h3 rfl
     obtain⟨cur,E,hb,hsz,hxc,_,_⟩:=hi.holds s _ h1
     obtain rfl:=had (by omega)
     refine jag hi (v:=.pointer (some ((⟨(γ s).g,((γ s).b+off)*k,none⟩:Addr).add (n.toNat*k)))) ?_ (.ptr s _ _ _ _ _ h1 (Nat.le_refl _) fun _=>⟨by omega,?_⟩)
     ·simp[execOp,ho,hv,hyv,Instr.indexAt,run_underlying hu,asIntOf,jbl hz,h0,hlt]
     ·rw[jbe,Nat.add_zero,←Nat.add_mul,Nat.add_assoc]
   ·simp[Mm.gives_fail] at h
  ·rename_i k xs hz he
   split at h
   ·rename_i e hxe
    simp only[Mm.gives_chk,beq_iff_eq,Mm.gives_ret,Prod.mk.injEq] at h
    obtain⟨hk,rfl,rfl⟩:=h
    split at hxe
    ·rename_i h0
     rw[he] at hx
     generalize hv:a.eval x=v' at hx
     cases hx with
     | i hr=>cases hr with
      | lst xs ao cap k' c h1 h2 h3 h4 h5 h6=>
       obtain⟨ad,rfl,hsp,hF,hc⟩:=h4 _ _ hxe
       have hkk:k=k':=by rw[←hk,h3 _ _ hxe]
       subst hkk
       have hlt:n.toNat<xs.length:=(List.getElem?_eq_some_iff.1 hxe).1
       refine jag hi (v:=.pointer (some (ad.add (n.toNat*k)))) ?_ ?_
       ·have:n<xs.length:=by omega
        simp[execOp,ho,hv,hyv,Instr.indexAt,run_underlying hu,asIntOf,jbl hz,h0,this]
       ·rw[jhn hsp,jbe]
        refine .i (.eptr e 0 ad.block (ad.off+n.toNat*k) (c n.toNat) hF (fun j p hp=>?_) (fun j p hp=>h5 _ _ _ _ hxe hp) (fun j p hp=>h6 _ _ _ _ hxe hp))
        rw[Nat.add_assoc];exact hc j p hp
    ·cases hxe
   ·simp[Mm.gives_fail] at h
  ·simp[Mm.gives_fail] at h
 ·rename_i len el n hu hn
  obtain⟨kk,hyv⟩:=jc7 hn hy
  split at h
  ·rename_i k s ver i off hz he
   simp only[Mm.gives_chk,Bool.and_eq_true,decide_eq_true_eq,Mm.gives_ret,Prod.mk.injEq] at h
   obtain⟨⟨h0,hlt⟩,rfl,rfl⟩:=h
   rw[he] at hx
   generalize hv:a.eval x=v' at hx
   cases hx with
   | ptr s ver i off ad A h1 h2 h3=>
    refine jag hi (v:=.pointer (some (ad.add (n.toNat*k)))) (by simp[execOp,ho,hv,hyv,Instr.indexAt,run_underlying hu,asIntOf,Instr.sureAddr,jbl hz,h0,hlt]) ?_
    refine .ptr s ver i _ _ A h1 h2 fun e=>?_
    have:=h3 e
    cases A with
    | arr v k xs=>obtain⟨hi,rfl⟩:=this;exact⟨hi,by rw[jbe];simp⟩
    | box v cs=>obtain⟨hi,rfl⟩:=this;exact⟨hi,by rw[jbe]⟩
    | dead v=>exact this
  ·rename_i k c off hz he
   simp only[Mm.gives_chk,Bool.and_eq_true,decide_eq_true_eq,Mm.gives_ret,Prod.mk.injEq] at h
   obtain⟨⟨h0,hlt⟩,rfl,rfl⟩:=h
   rw[he] at hx
   generalize hv:a.eval x=v' at hx
   cases hx with
   | i hr=>cases hr with
    | eptr e off g o' c h1 h2 h3 h4=>
     refine jag hi (v:=.pointer (some ((⟨g,o'+off,none⟩:Addr).add (n.toNat*k)))) (by simp[execOp,ho,hv,hyv,Instr.indexAt,run_underlying hu,asIntOf,Instr.sureAddr,jbl hz,h0,hlt]) ?_
     rw[jbe,Nat.add_assoc]
     exact .i (.eptr _ _ g o' c h1 h2 h3 h4)
  ·simp[Mm.gives_fail] at h
 ·simp[Mm.gives_fail] at h
theorem jzy {t:TypeId} {x y:Operand} (ho:o.op=.index t x y) (h:ja7 P cf C me o ρ m out wr) (hi:Inv m γ F w) (hs:Slots m γ F w ρ a):Does P o a w m γ F out wr:=by
 simp only[ja7,ja0,ho] at h
 have hx:=jah hs x
 have hy:=jah hs y
 split at h
 ·rename_i s n hu he hn
  obtain⟨kk,hyv⟩:=jc7 hn hy
  rw[he] at hx
  generalize hv:a.eval x=v' at hx
  cases hx with
  | i hr=>cases hr with
   | v x=>
    split at h
    ·rename_i b hb
     simp only[Mm.gives_ret,Prod.mk.injEq] at h
     obtain⟨rfl,rfl⟩:=h
     exact jag hi (by simp[execOp,ho,hv,hyv,Instr.index,run_underlying hu,asIntOf,hb]) (.i (.v _))
    ·simp[Mm.gives_fail] at h
 ·rename_i len el cs n hu he hn
  obtain⟨kk,hyv⟩:=jc7 hn hy
  rw[he] at hx
  generalize hv:a.eval x=v' at hx
  cases hx with
  | agg cs c h1 h2=>
   split at h
   ·rename_i k hz
    simp only[Mm.gives_chk,Bool.and_eq_true,decide_eq_true_eq,Mm.gives_bind,Mm.gives_ret,Prod.mk.injEq] at h
    obtain⟨⟨h0,hlt⟩,p,hp,rfl,rfl⟩:=h
    obtain⟨v,hpv,hr⟩:=jol (m:=m) (γ:=γ) (F:=F) (w:=w) hp h1 h2
    exact jag hi (by simp[execOp,ho,hv,hyv,Instr.index,run_underlying hu,asIntOf,jbl hz,h0,hlt,hpv]) hr
   ·simp[Mm.gives_fail] at h
 ·simp[Mm.gives_fail] at h
theorem jau (k:IntKind) (i:Int) (y:Nat) (code:BoundsCode) (h0:0≤i) (h1:i≤y) (w:World):(Instr.sliceBound (.int k i) y code).run P w=.ok i.toNat w:=by
 simp[Instr.sliceBound,asIntOf,h0,h1]
theorem jf2 {ρ:Nat→PV} {a:Act} (hs:Slots m γ F w ρ a) {lo:Option Operand} {l:Option Int} (h:jcs (lo.map (opnd ρ))=some l) :
 (lo=none∧l=none)∨∃x n k,lo=some x∧l=some n∧a.eval x=.int k n:=by
 cases lo with
 | none=>simp[jcs] at h;exact .inl ⟨rfl,h.symm⟩
 | some x=>
  simp only[Option.map_some,jcs,Option.map_eq_some_iff] at h
  obtain⟨n,hn,rfl⟩:=h
  obtain⟨k,hk⟩:=jc7 hn (jah hs x)
  exact .inr ⟨x,n,k,rfl,rfl,hk⟩
theorem jcw {n:Nat} {l h:Option Int} {i j:Nat} (hb:jbw n l h=some (i,j)):(l.getD 0)=i∧(h.getD n)=j∧i≤j∧j≤n:=by
 unfold jbw at hb
 simp only at hb
 split at hb
 ·rename_i hh
  simp only[Option.some.injEq,Prod.mk.injEq] at hb
  obtain⟨rfl,rfl⟩:=hb
  omega
 ·cases hb
theorem jgm (hs:Slots m γ F w ρ a) {lo hi:Option Operand} {l h:Option Int} (hl:jcs (lo.map (opnd ρ))=some l) (hh:jcs (hi.map (opnd ρ))=some h)
 {n cap i j:Nat} (hb:jbw n l h=some (i,j)) (hc:n≤cap) (sl:Bool) :
 (Instr.sliceBounds sl n cap (lo.map a.eval) (hi.map a.eval) none).run P w=.ok (i,j,cap) w:=by
 obtain⟨h1,h2,h3,h4⟩:=jcw hb
 rcases jf2 hs hl with⟨rfl,rfl⟩ | ⟨x,nx,kx,rfl,rfl,hx⟩<;>rcases jf2 hs hh with⟨rfl,rfl⟩ | ⟨y,ny,ky,rfl,rfl,hy⟩<;>
  simp only[Option.getD_none,Option.getD_some] at h1 h2
 ·have:i=0:=by omega
  have:j=n:=by omega
  subst_vars
  simp[Instr.sliceBounds]
 ·have:i=0:=by omega
  subst this
  simp only[Option.map_none,Option.map_some,Instr.sliceBounds,hy,Sem.run_bind,Sem.run_pure,Result.andThen_ok]
  rw[jau _ _ _ _ (by omega) (by omega)]
  simp;omega
 ·have:j=n:=by omega
  subst this
  simp only[Option.map_none,Option.map_some,Instr.sliceBounds,hx,Sem.run_bind,Sem.run_pure,Result.andThen_ok]
  rw[jau _ _ _ _ (by omega) (by omega)]
  simp;omega
 ·simp only[Option.map_some,Instr.sliceBounds,hx,hy,Sem.run_bind,Sem.run_pure,Result.andThen_ok]
  rw[jau _ _ _ _ (by omega) (by omega)]
  simp only[Result.andThen_ok]
  rw[jau _ _ _ _ (by omega) (by omega)]
  simp;omega
theorem jng {n lim:Nat} {l h:Option Int} {i j:Nat} (hb:ji0 n lim l h=some (i,j)):(l.getD 0)=i∧(h.getD n)=j∧i≤j∧j≤lim:=by
 unfold ji0 at hb
 simp only at hb
 split at hb
 ·rename_i hh
  simp only[Option.some.injEq,Prod.mk.injEq] at hb
  obtain⟨rfl,rfl⟩:=hb
  omega
 ·cases hb
theorem jvd (hs:Slots m γ F w ρ a) {lo hi:Option Operand} {l h:Option Int} (hl:jcs (lo.map (opnd ρ))=some l) (hh:jcs (hi.map (opnd ρ))=some h)
 {n lim cap i j:Nat} (hb:ji0 n lim l h=some (i,j)) (hc:n≤cap) (hc':lim≤cap) :
 (Instr.sliceBounds true n cap (lo.map a.eval) (hi.map a.eval) none).run P w=.ok (i,j,cap) w:=by
 obtain⟨h1,h2,h3,h4⟩:=jng hb
 rcases jf2 hs hl with⟨rfl,rfl⟩ | ⟨x,nx,kx,rfl,rfl,hx⟩<;>rcases jf2 hs hh with⟨rfl,rfl⟩ | ⟨y,ny,ky,rfl,rfl,hy⟩<;>
  simp only[Option.getD_none,Option.getD_some] at h1 h2
 ·have:i=0:=by omega
  have:j=n:=by omega
  subst_vars
  simp[Instr.sliceBounds]
 ·have:i=0:=by omega
  subst this
  simp only[Option.map_none,Option.map_some,Instr.sliceBounds,hy,Sem.run_bind,Sem.run_pure,Result.andThen_ok]
  rw[jau _ _ _ _ (by omega) (by omega)]
  simp;omega
 ·have:j=n:=by omega
  subst this
  simp only[Option.map_none,Option.map_some,Instr.sliceBounds,hx,Sem.run_bind,Sem.run_pure,Result.andThen_ok]
  rw[jau _ _ _ _ (by omega) (by omega)]
  simp;omega
 ·simp only[Option.map_some,Instr.sliceBounds,hx,hy,Sem.run_bind,Sem.run_pure,Result.andThen_ok]
  rw[jau _ _ _ _ (by omega) (by omega)]
  simp only[Result.andThen_ok]
  rw[jau _ _ _ _ (by omega) (by omega)]
  simp;omega
theorem jzz {t:TypeId} {x:Operand} {lo hi:Option Operand} (ho:o.op=.slice t x lo hi none) (h:ja7 P cf C me o ρ m out wr) (hin:Inv m γ F w) (hs:Slots m γ F w ρ a):Does P o a w m γ F out wr:=by
 simp only[ja7,ja0,ho] at h
 have hx:=jah hs x
 split at h
 ·rename_i l h' hl hh
  split at h
  ·rename_i s ver off len el he hu
   split at h
   ·rename_i i j k hb hz
    simp only[Mm.gives_get] at h
    split at h
    ·rename_i v k' xs hA
     simp only[Mm.gives_chk,Bool.and_eq_true,beq_iff_eq,Mm.gives_ret,Prod.mk.injEq] at h
     obtain⟨⟨rfl,rfl⟩,rfl,rfl⟩:=h
     obtain⟨_,_,hij,hjn⟩:=jcw hb
     rw[he] at hx
     generalize hv:a.eval x=v' at hx
     cases hx with
     | ref s ver off len ao cap A h1 h2 h3=>
      have:=jhp h1 hA;subst this
      obtain⟨hl1,hc1,rfl,had⟩:=h3 rfl
      obtain⟨cur,E,hbk,hsz,hxc,_,_⟩:=hin.holds s _ h1
      have hrun:=jgm (P:=P) hs hl hh hb (show len≤(γ s).cap-off by omega) true
      refine jag hin (v:=.slice (if(γ s).cap-off=i then ao else ao.map (·.add (i*k))) (j-i) ((γ s).cap-off-i)) ?_ ?_
      ·simp[execOp,ho,hv,Instr.sliceAt,Instr.slice,run_underlying hu,hrun,jbl hz]
      ·refine .ref s _ _ _ _ _ _ h1 (Nat.le_refl _) fun _=>⟨by omega,by omega,by omega,fun hlt=>?_⟩
       rw[if_neg (by omega),had (by omega)]
       simp[jbe,←Nat.add_mul,Nat.add_assoc]
    ·simp[Mm.gives_fail] at h
   ·rename_i k hbn hz
    simp only[Mm.gives_get] at h
    split at h
    ·rename_i v k' xs hA
     split at h
     ·rename_i i j hb
      simp only[Mm.gives_chk,Bool.and_eq_true,beq_iff_eq,Mm.gives_ret,Prod.mk.injEq] at h
      obtain⟨⟨rfl,rfl⟩,rfl,rfl⟩:=h
      rw[he] at hx
      generalize hv:a.eval x=v' at hx
      cases hx with
      | ref s ver off len ao cap A h1 h2 h3=>
       have:=jhp h1 hA;subst this
       obtain⟨hl1,hc1,rfl,had⟩:=h3 rfl
       obtain⟨cur,E,hbk,hsz,hxc,_,_⟩:=hin.holds s _ h1
       obtain⟨_,_,hij,hjn⟩:=jng hb
       have hrun:=jvd (P:=P) hs hl hh hb (show len≤(γ s).cap-off by omega) (show xs.length-off≤(γ s).cap-off by omega)
       refine jag hin (v:=.slice (if(γ s).cap-off=i then ao else ao.map (·.add (i*k))) (j-i) ((γ s).cap-off-i)) ?_ ?_
       ·simp[execOp,ho,hv,Instr.sliceAt,Instr.slice,run_underlying hu,hrun,jbl hz]
       ·refine .ref s _ _ _ _ _ _ h1 (Nat.le_refl _) fun _=>⟨by omega,by omega,by omega,fun hlt=>?_⟩
        rw[if_neg (by omega),had (by omega)]
        simp[jbe,←Nat.add_mul,Nat.add_assoc]
     ·simp[Mm.gives_fail] at h
    ·simp[Mm.gives_fail] at h
   ·simp[Mm.gives_fail] at h
  ·rename_i el he hu
   split at h
   ·rename_i ij k hb hz
    simp only[Mm.gives_ret,Prod.mk.injEq] at h
    obtain⟨rfl,rfl⟩:=h
    obtain⟨i,j⟩:=ij
    obtain⟨_,_,hij,hjn⟩:=jcw hb
    have hj0:j=0:=by omega
    have hi0:i=0:=by omega
    subst hj0 hi0
    rw[he] at hx
    generalize hv:a.eval x=v' at hx
    cases hx with
    | i hx=>
     cases hx with
     | emp ao=>
      have hrun:=jgm (P:=P) hs hl hh hb (Nat.le_refl 0) true
      refine jag hin (v:=.slice ao 0 0) ?_ (.i (.emp ao))
      simp[execOp,ho,hv,Instr.sliceAt,Instr.slice,run_underlying hu,hrun,jbl hz]
   ·simp[Mm.gives_fail] at h
  ·rename_i xs el he hu
   split at h
   ·rename_i i j k hb hz
    simp only[Mm.gives_chk,Mm.gives_ret,Prod.mk.injEq] at h
    obtain⟨hall,rfl,rfl⟩:=h
    obtain⟨_,_,hij,hjn⟩:=jcw hb
    rw[he] at hx
    generalize hv:a.eval x=v' at hx
    cases hx with
    | i hr=>cases hr with
     | lst xs ao cap k' c h1 h2 h3 h4 h5 h6=>
      have hrun:=jgm (P:=P) hs hl hh hb (show xs.length≤cap by omega) true
      have hlen:((xs.drop i).take (j-i)).length=j-i:=by simp;omega
      refine jag hin (v:=.slice (if cap=i then ao else ao.map (·.add (i*k))) (j-i) (cap-i)) ?_ ?_
      ·simp[execOp,ho,hv,Instr.sliceAt,Instr.slice,run_underlying hu,hrun,jbl hz]
      ·have hget:∀(q:Nat) (e:List IV),((xs.drop i).take (j-i))[q]?=some e→xs[i+q]?=some e:=fun q e hq=>by
        rw[List.getElem?_take] at hq
        split at hq
        ·simpa using hq
        ·cases hq
       suffices hgoal:RepI F w (.lst ((xs.drop i).take (j-i))) (.slice (if cap=i then ao else ao.map (·.add (i*k))) ((xs.drop i).take (j-i)).length (cap-i)) by rw[hlen] at hgoal;exact .i hgoal
       refine(.lst _ _ _ k' (fun q r=>c (i+q) r) (by omega) (by omega) (fun q e hq=>h3 _ _ (hget q e hq)) (fun q e hq=>?_) (fun q e r p hq hp=>h5 _ _ _ _ (hget q e hq) hp) (fun q e r p hq hp=>h6 _ _ _ _ (hget q e hq) hp))
       have hq':=hget q e hq
       obtain⟨ad,rfl,hsp,hF,hc⟩:=h4 _ _ hq'
       have hlt:i+q<xs.length:=(List.getElem?_eq_some_iff.1 hq').1
       have hk:k=k':=by
        rw[←h3 _ _ hq']
        have:=List.all_eq_true.1 hall e (List.mem_of_getElem? hq')
        simp only[beq_iff_eq] at this
        exact this.symm
       subst hk
       have hne:¬cap=i:=by omega
       rw[if_neg hne]
       refine⟨ad.add (i*k),rfl,?_,?_,fun r p hp=>?_⟩
       ·unfold Addr.add;split<;>simp[hsp]
       ·unfold Addr.add;split<;>exact hF
       ·rw[jhn hsp,jbe,←hc r p hp]
        rw[show ad.off+i*k+(q*k+r)=ad.off+((i+q)*k+r) from by rw[Nat.add_mul];omega]
   ·simp[Mm.gives_fail] at h
  ·rename_i s he hu
   split at h
   ·rename_i i j hb
    simp only[Mm.gives_ret,Prod.mk.injEq] at h
    obtain⟨rfl,rfl⟩:=h
    rw[he] at hx
    generalize hv:a.eval x=v' at hx
    cases hx with
    | i hr=>cases hr with
     | v y=>
      have hrun:=jgm (P:=P) hs hl hh hb (Nat.le_refl _) false
      exact jag hin (by simp[execOp,ho,hv,Instr.sliceAt,Instr.slice,run_underlying hu,hrun]) (.i (.v _))
   ·simp[Mm.gives_fail] at h
  ·simp[Mm.gives_fail] at h
 ·simp[Mm.gives_fail] at h
theorem jh9 (d:Nat) (w:World):∀(fs:List Field) (i:Nat) (xs ys:List PV) (cx cy px py:List Value) (r:Bool),
 (∀f j,(f,j)∈fs.zipIdx i→f.offset=j∧f.name≠ "_"∧∃k,P.underlying f.type=some (.int k))→
 px.length=i→py.length=i→xs.length=cx.length→ys.length=cy.length→xs.length=fs.length→ys.length=fs.length→
 (∀(j:Nat) (p:PV) (v:Value),xs[j]?=some p→cx[j]?=some v→RepP m γ F w p v)→(∀(j:Nat) (p:PV) (v:Value),ys[j]?=some p→cy[j]?=some v→RepP m γ F w p v)→
 jcn xs ys=some r→(Op.eqFields (d+1) (px++cx).toArray (py++cy).toArray fs).run P w=.ok r w
 | [],i,xs,ys,cx,cy,px,py,r,_,_,_,_,_,hxl,hyl,_,_,he=>by
  have h1:=List.eq_nil_of_length_eq_zero hxl
  have h2:=List.eq_nil_of_length_eq_zero hyl
  subst h1;subst h2
  simp[jcn] at he
  subst he
  simp[Op.eqFields]
 | f::fs,i,x::xs,y::ys,vx::cx,vy::cy,px,py,r,hf,hpx,hpy,hx,hy,hxl,hyl,hrx,hry,he=>by
  have hx0:=hrx 0 x vx rfl rfl
  have hy0:=hry 0 y vy rfl rfl
  obtain⟨hoff,hname,k,hu⟩:=hf f i (by simp)
  unfold jcn at he
  split at he
  ·rename_i hh;simp at hh
  ·rename_i k1 va xs' k2 vb ys' h1 h2
   cases h1;cases h2
   cases hx0 with
   | i q1=>
   cases q1
   cases hy0 with
   | i q2=>
   cases q2
   split at he
   ·rename_i hkk
    subst hkk
    simp only[Option.map_eq_some_iff] at he
    obtain⟨r',hr',rfl⟩:=he
    have ih:=jh9 d w fs (i+1) xs ys cx cy (px++[.int k1 va]) (py++[.int k1 vb]) r'
     (fun g j hg=>hf g j (by simp[hg])) (by simp[hpx]) (by simp[hpy]) (by simpa using hx) (by simpa using hy) (by simpa using hxl) (by simpa using hyl)
     (fun j p v hp hv=>hrx (j+1) p v hp hv) (fun j p v hp hv=>hry (j+1) p v hp hv) hr'
    have hag:jaf P f.type=some false:=by simp[jaf,hu]
    have pa:∀(pre rest:List Value) (v:Value),pre.length=i→(part f.type (pre++v::rest).toArray f.offset).run P w=.ok v w:=fun pre rest v hpre=>by
     simp[part,jmk hag,hoff,←hpre]
    simp only[Op.eqFields,ne_eq,hname,not_false_eq_true,if_true,Sem.run_bind,pa _ _ _ hpx,pa _ _ _ hpy,Result.andThen_ok,run_equalIn_int w d f.type k1 k _ _ hu]
    cases hab:(va == vb)
    ·simp
    ·simp only[Bool.not_true,Bool.false_eq_true,if_false,Bool.true_and]
     simpa using ih
   ·cases he
  ·cases he
 | _::_,_,[],_,_,_,_,_,_,_,_,_,_,_,hxl,_,_,_,_=>by simp at hxl
 | _::_,_,_::_,[],_,_,_,_,_,_,_,_,_,_,_,hyl,_,_,_=>by simp at hyl
 | _::_,_,_::_,_::_,[],_,_,_,_,_,_,_,hx,_,_,_,_,_,_=>by simp at hx
 | _::_,_,_::_,_::_,_::_,[],_,_,_,_,_,_,_,hy,_,_,_,_,_=>by simp at hy
theorem jwv {t:TypeId} {n:Nat} (h:jru P t n=true):P.underlying t=some (.struct (P.fieldsOf t))∧(P.fieldsOf t).size=n∧P.stoodInHeld t=false∧P.eqGuardType P.depth t=false∧
 ∀f j,(f,j)∈(P.fieldsOf t).toList.zipIdx 0→f.offset=j∧f.name≠ "_"∧∃k,P.underlying f.type=some (.int k):=by
 unfold jru at h
 split at h
 ·rename_i fs hu
  have hfs:P.fieldsOf t=fs:=by simp[Program.fieldsOf,hu]
  rw[hfs]
  simp only[Bool.and_eq_true,beq_iff_eq,Bool.not_eq_true',List.all_eq_true] at h
  obtain⟨⟨⟨h1,h2⟩,h3⟩,h4⟩:=h
  refine⟨hu,h1,h2,h3,fun f j hf=>?_⟩
  have:=h4 (f,j) hf
  simp only[bne_iff_ne,ne_eq] at this
  obtain⟨⟨h5,h6⟩,h7⟩:=this
  refine⟨h5,h6,?_⟩
  split at h7
  ·rename_i k hk;exact⟨k,hk⟩
  ·cases h7
 ·cases h
theorem jlk:∀(xs ys:List PV) (r:Bool),jcn xs ys=some r→ys.length=xs.length
 | [],[],_,_=>rfl
 | [],_::_,_,h=>by simp[jcn] at h
 | x::xs,[],r,h=>by
  unfold jcn at h
  split at h<;>simp_all
 | x::xs,y::ys,r,h=>by
  unfold jcn at h
  split at h
  ·rename_i e1 e2;cases e1
  ·rename_i e1 e2
   cases e1;cases e2
   split at h
   ·simp only[Option.map_eq_some_iff] at h
    obtain⟨r',hr',_⟩:=h
    simp[jlk _ _ _ hr']
   ·cases h
  ·cases h
theorem jml {t:TypeId} {xs ys:List PV} {cx cy:List Value} {r:Bool} (hf:jru P t xs.length=true) (hx:xs.length=cx.length) (hy:ys.length=cy.length)
 (hrx:∀(j:Nat) (p:PV) (v:Value),xs[j]?=some p→cx[j]?=some v→RepP m γ F w p v) (hry:∀(j:Nat) (p:PV) (v:Value),ys[j]?=some p→cy[j]?=some v→RepP m γ F w p v)
 (he:jcn xs ys=some r):(Op.equal t (.agg cx.toArray) (.agg cy.toArray)).run P w=.ok r w:=by
 obtain⟨h1,h2,h3,h4,h5⟩:=jwv hf
 show(Op.equalIn (9998+1+1) t _ _).run P w=_
 rw[run_equalIn_struct w _ t _ _ h1 h3]
 have:=jh9 (P:=P) (m:=m) (γ:=γ) (F:=F) 9998 w (P.fieldsOf t).toList 0 xs ys cx cy [] [] r h5 rfl rfl hx hy (by simp[h2]) (by rw[jlk _ _ _ he];simp[h2]) hrx hry he
 simpa using this
theorem jj8 (d:Nat) {t e:TypeId} (a:Option Addr) (l c:Nat) (h:P.underlying t=some (.slice e)) (w:World):(Op.equalIn (d+1) t (.slice a l c) (.slice none 0 0)).run P w=.ok a.isNone w:=by
 cases a<;>simp[Op.equalIn,run_underlying h]
theorem jg3 {t e:TypeId} (a:Option Addr) (l c:Nat) (h:P.underlying t=some (.slice e)) (w:World):(Op.equal t (.slice a l c) (.slice none 0 0)).run P w=.ok a.isNone w:=jj8 9999 a l c h w
theorem jd9 {t e:TypeId} (a:Option Addr) (l c:Nat) (h:P.underlying t=some (.slice e)) (w:World):(binOp .eql t (.slice a l c) (.slice none 0 0)).run P w=.ok (.bool a.isNone) w:=by
 simp[binOp,jg3 a l c h w]
theorem js6 {t e:TypeId} (a:Option Addr) (l c:Nat) (h:P.underlying t=some (.slice e)) (w:World):(binOp .neq t (.slice a l c) (.slice none 0 0)).run P w=.ok (.bool (!a.isNone)) w:=by
 simp[binOp,jg3 a l c h w]
theorem jn3 {op:BinOp} {t:TypeId} {x y:Operand} (a:Option Addr) (l c:Nat):eqGuard op t x y (.slice a l c) (.slice none 0 0)=pure ():=by
 unfold eqGuard
 split<;>rfl
theorem jg2 {t:TypeId} {ms:Array (String×TypeId)} (h:P.underlying t=some (.interface ms)) (w:World):(Op.equal t .nilIface .nilIface).run P w=.ok true w:=by
 have h0:∀d:Nat,(Op.equalIn (d+1) t .nilIface .nilIface).run P w=.ok true w:=fun d=>by simp[Op.equalIn,run_underlying h]
 exact h0 9999
theorem js3 {t:TypeId} {ms:Array (String×TypeId)} (h:P.underlying t=some (.interface ms)) (w:World):(binOp .eql t .nilIface .nilIface).run P w=.ok (.bool true) w:=by
 simp[binOp,jg2 h w]
theorem js5 {t:TypeId} {ms:Array (String×TypeId)} (h:P.underlying t=some (.interface ms)) (w:World):(binOp .neq t .nilIface .nilIface).run P w=.ok (.bool false) w:=by
 simp[binOp,jg2 h w]
theorem jn2 {op:BinOp} {t:TypeId} {x:Operand}:eqGuard op t x (.const .nilIface) .nilIface .nilIface=pure ():=by
 unfold eqGuard
 cases op<;>simp
theorem jg1 {t t':TypeId} {v:Value} {ms:Array (String×TypeId)} (h:P.underlying t=some (.interface ms)) (w:World):(Op.equal t (.iface t' v) .nilIface).run P w=.ok false w:=by
 have h0:∀d:Nat,(Op.equalIn (d+1) t (.iface t' v) .nilIface).run P w=.ok false w:=fun d=>by simp[Op.equalIn,run_underlying h]
 exact h0 9999
theorem js2 {t t':TypeId} {v:Value} {ms:Array (String×TypeId)} (h:P.underlying t=some (.interface ms)) (w:World):(binOp .eql t (.iface t' v) .nilIface).run P w=.ok (.bool false) w:=by
 simp[binOp,jg1 h w]
theorem js4 {t t':TypeId} {v:Value} {ms:Array (String×TypeId)} (h:P.underlying t=some (.interface ms)) (w:World):(binOp .neq t (.iface t' v) .nilIface).run P w=.ok (.bool true) w:=by
 simp[binOp,jg1 h w]
theorem jn1 {op:BinOp} {t t':TypeId} {v:Value} {x:Operand}:eqGuard op t x (.const .nilIface) (.iface t' v) .nilIface=pure ():=by
 unfold eqGuard
 cases op<;>simp
theorem j3b {op:BinOp} {t t':TypeId} {x y:Operand} {r:Bool} (ho:o.op=.binOp op t x y t') (hn:nilT (P.underlying t) op y (opnd ρ x)=some r)
 (h:(Mm.ret (PV.i (.v (.bool r)),([]:List (Nat×Arr)))).gives m (out,wr)) (hi:Inv m γ F w) (hs:Slots m γ F w ρ a):Does P o a w m γ F out wr:=by
 simp only[Mm.gives_ret,Prod.mk.injEq] at h
 obtain⟨rfl,rfl⟩:=h
 have hx:=jah hs x
 unfold nilT at hn
 split at hn
 ·rename_i el z zs hu hz
  cases hn
  rw[hz] at hx
  generalize hvx:a.eval x=vx at hx
  cases hx with
  | i hx=>
   cases hx with
   | lst xs ao cap k c h1 h2 h3 h4 h5 h6=>
    obtain⟨ad,rfl,_⟩:=h4 0 z (by simp)
    refine jag hi ?_ (.i (.v _))
    have hy:a.eval (.const (.slice none 0 0))=.slice none 0 0:=rfl
    simp only[execOp,ho,hvx,hy,jn3,Sem.run_bind,Sem.run_pure,Result.andThen_ok,jd9 _ _ _ hu]
    rfl
 ·rename_i el z zs hu hz
  cases hn
  rw[hz] at hx
  generalize hvx:a.eval x=vx at hx
  cases hx with
  | i hx=>
   cases hx with
   | lst xs ao cap k c h1 h2 h3 h4 h5 h6=>
    obtain⟨ad,rfl,_⟩:=h4 0 z (by simp)
    refine jag hi ?_ (.i (.v _))
    have hy:a.eval (.const (.slice none 0 0))=.slice none 0 0:=rfl
    simp only[execOp,ho,hvx,hy,jn3,Sem.run_bind,Sem.run_pure,Result.andThen_ok,js6 _ _ _ hu]
    rfl
 ·rename_i ms hu hz
  cases hn
  rw[hz] at hx
  generalize hvx:a.eval x=vx at hx
  cases hx with
  | i hx=>
   cases hx
   refine jag hi ?_ (.i (.v _))
   have hy:a.eval (.const .nilIface)=.nilIface:=rfl
   simp only[execOp,ho,hvx,hy,jn2,Sem.run_bind,Sem.run_pure,Result.andThen_ok,js3 hu]
 ·rename_i ms hu hz
  cases hn
  rw[hz] at hx
  generalize hvx:a.eval x=vx at hx
  cases hx with
  | i hx=>
   cases hx
   refine jag hi ?_ (.i (.v _))
   have hy:a.eval (.const .nilIface)=.nilIface:=rfl
   simp only[execOp,ho,hvx,hy,jn2,Sem.run_bind,Sem.run_pure,Result.andThen_ok,js5 hu]
 ·rename_i ms hu hz
  cases hn
  rw[hz] at hx
  generalize hvx:a.eval x=vx at hx
  cases hx with
  | i hx=>
   cases hx
   refine jag hi ?_ (.i (.v _))
   have hy:a.eval (.const .nilIface)=.nilIface:=rfl
   simp only[execOp,ho,hvx,hy,jn1,Sem.run_bind,Sem.run_pure,Result.andThen_ok,js2 hu]
 ·rename_i ms hu hz
  cases hn
  rw[hz] at hx
  generalize hvx:a.eval x=vx at hx
  cases hx with
  | i hx=>
   cases hx
   refine jag hi ?_ (.i (.v _))
   have hy:a.eval (.const .nilIface)=.nilIface:=rfl
   simp only[execOp,ho,hvx,hy,jn1,Sem.run_bind,Sem.run_pure,Result.andThen_ok,js4 hu]
 ·cases hn
theorem jzu {op:BinOp} {t t':TypeId} {x y:Operand} (ho:o.op=.binOp op t x y t') (h:ja7 P cf C me o ρ m out wr) (hi:Inv m γ F w) (hs:Slots m γ F w ρ a):Does P o a w m γ F out wr:=by
 simp only[ja7,ja0,ho] at h
 cases hnil:nilT (P.underlying t) op y (opnd ρ x) with
 | some r=>rw[hnil] at h;exact j3b ho hnil h hi hs
 | none=>
 rw[hnil] at h
 simp only[Mm.gives_bind,Mm.gives_opt,Mm.gives_ret,Prod.mk.injEq] at h
 obtain⟨v,hv,rfl,rfl⟩:=h
 have hx:=jah hs x
 have hy:=jah hs y
 generalize hvx:a.eval x=vx at hx
 generalize hvy:a.eval y=vy at hy
 have hexec:∀g:Sem Value,(∀w,((do eqGuard op t x y vx vy;binOp op t vx vy:Sem Value)).run P w=g.run P w)→(g.run P w=.ok v w)→(execOp a.eval o).run P w=.ok (.value v) w:=by
  intro g hg hr
  simp only[execOp,ho,hvx,hvy]
  have:=hg w
  simp only[Sem.run_bind] at this ⊢
  rw[this,hr]
  rfl
 have hplain:eqGuard op t x y vx vy=pure ()→(binOp op t vx vy).run P w=.ok v w→Does P o a w m γ F (.i (.v v)) []:=fun hg hr=>
  jag hi (hexec (binOp op t vx vy) (fun w=>by rw[hg];simp) hr) (.i (.v _))
 have hng:∀{u u':Value},vx=u→vy=u'→(∀z,u≠.agg z)→u≠.nilIface→eqGuard op t x y vx vy=pure ():=by
  rintro u u' rfl rfl h1 h2
  unfold eqGuard
  split<;>(try simp only[Bool.not_true,Bool.not_false,Bool.false_eq_true,if_false,if_true])<;>first|rfl | (cases vx<;>first|rfl|simp_all)
 unfold binV at hv
 split at hv
 ·rename_i k1 n1 k2 n2 e1 e2
  rw[e1] at hx;rw[e2] at hy
  cases hx with
  | i hx=>
  cases hx
  cases hy with
  | i hy=>
  cases hy
  exact hplain (hng rfl rfl (by simp) (by simp)) (jhj hv w)
 ·rename_i n1 n2 e1 e2
  rw[e1] at hx;rw[e2] at hy
  cases hx with
  | i hx=>
  cases hx
  cases hy with
  | i hy=>
  cases hy
  exact hplain (hng rfl rfl (by simp) (by simp)) (jhj hv w)
 ·rename_i n1 n2 e1 e2
  rw[e1] at hx;rw[e2] at hy
  cases hx with
  | i hx=>
  cases hx
  cases hy with
  | i hy=>
  cases hy
  split at hv
  ·rename_i hu
   cases hv
   refine hplain (hng rfl rfl (by simp) (by simp)) ?_
   have hb:(Op.equal t (.bool n1) (.bool n2)).run P w=.ok (n1 == n2) w:=run_equalIn_bool w 9999 t n1 n2 hu
   show((do pure (.bool (←Op.equal t (.bool n1) (.bool n2))):Sem Value)).run P w=_
   simp only[Sem.run_bind,hb,Result.andThen_ok,Sem.run_pure]
  ·rename_i hu
   cases hv
   refine hplain (hng rfl rfl (by simp) (by simp)) ?_
   have hb:(Op.equal t (.bool n1) (.bool n2)).run P w=.ok (n1 == n2) w:=run_equalIn_bool w 9999 t n1 n2 hu
   show((do pure (.bool (!(←Op.equal t (.bool n1) (.bool n2)))):Sem Value)).run P w=_
   simp only[Sem.run_bind,hb,Result.andThen_ok,Sem.run_pure]
  ·cases hv
 ·rename_i xs ys e1 e2
  rw[e1] at hx;rw[e2] at hy
  split at hv
  ·rename_i hf
   cases hx with
   | agg _ cx hlx hrx=>
   cases hy with
   | agg _ cy hly hry=>
   obtain⟨h1,h2,h3,h4,h5⟩:=jwv hf
   have hgd:∀w,(eqGuard op t x y (.agg cx.toArray) (.agg cy.toArray)).run P w=.ok () w:=fun w=>by
    unfold eqGuard
    split<;>simp[h4]
   split at hv
   ·simp only[Option.map_eq_some_iff] at hv
    obtain⟨r,hr,rfl⟩:=hv
    refine jag hi (hexec (do pure (.bool (←Op.equal t (.agg cx.toArray) (.agg cy.toArray)))) (fun w=>?_) ?_) (.i (.v _))
    ·have hb:binOp .eql t (.agg cx.toArray) (.agg cy.toArray)=(do pure (.bool (←Op.equal t (.agg cx.toArray) (.agg cy.toArray)))):=rfl
     rw[←hb];simp only[Sem.run_bind,hgd,Result.andThen_ok]
    ·simp only[Sem.run_bind,jml hf hlx hly hrx hry hr,Result.andThen_ok,Sem.run_pure]
   ·simp only[Option.map_eq_some_iff] at hv
    obtain⟨r,hr,rfl⟩:=hv
    refine jag hi (hexec (do pure (.bool (!(←Op.equal t (.agg cx.toArray) (.agg cy.toArray))))) (fun w=>?_) ?_) (.i (.v _))
    ·have hb:binOp .neq t (.agg cx.toArray) (.agg cy.toArray)=(do pure (.bool (!(←Op.equal t (.agg cx.toArray) (.agg cy.toArray))))):=rfl
     rw[←hb];simp only[Sem.run_bind,hgd,Result.andThen_ok]
    ·simp only[Sem.run_bind,jml hf hlx hly hrx hry hr,Result.andThen_ok,Sem.run_pure]
   ·cases hv
  ·cases hv
 ·cases hv
end
end Go.Proofs.YtnaaceooknghjaaGreatDoor.X
namespace Go.Proofs.YtnaaceooknghjaaGreatDoor.X
open Go
theorem jcb (m:Mem) (a b:List (Nat×Arr)):updL m (a++b)=updL (updL m a) b:=by
 induction a generalizing m with
 | nil=>rfl
 | cons x r ih=>obtain⟨s,A⟩:=x;simp only[List.cons_append,updL];exact ih _
theorem ja4 {m:Mem} {wr:List (Nat×Arr)} {s:Nat} (h:∀A,(s,A)∉wr):updL m wr s=m s:=by
 induction wr generalizing m with
 | nil=>rfl
 | cons x r ih=>
  obtain⟨t,B⟩:=x
  simp only[updL]
  rw[ih (fun A hA=>h A (List.mem_cons_of_mem _ hA)),jbm]
  rintro rfl
  exact h B (List.mem_cons_self ..)
theorem jqc {m:Mem} {wr:List (Nat×Arr)} {s:Nat} {A:Arr} (h:(s,A)∈wr) (hu:∀B,(s,B)∈wr→B=A):updL m wr s=some A:=by
 induction wr generalizing m with
 | nil=>cases h
 | cons x r ih=>
  obtain⟨t,B⟩:=x
  simp only[updL]
  by_cases hr:∃C,(s,C)∈r
  ·obtain⟨C,hC⟩:=hr
   have:=hu C (List.mem_cons_of_mem _ hC)
   subst this
   exact ih hC (fun B hB=>hu B (List.mem_cons_of_mem _ hB))
  ·rw[ja4 (fun A hA=>hr ⟨A,hA⟩)]
   rcases List.mem_cons.1 h with h|h
   ·cases h;rw[jal]
   ·exact absurd ⟨A,h⟩ hr
section
variable {P:Program} {w:World} {m:Mem} {γ:Nat→GB} {F:Nat→Prop}
theorem jbk {d v:Nat} (h:(jdy d).gives m v):∀A0,m d=some A0→A0.ver<v:=by
 intro A0 h0
 simp only[jdy,Mm.gives_get,h0,Mm.gives_ret] at h
 omega
theorem jc0 (w:World) (o:Obj):(w.alloc o).heap=w.heap.push o:=rfl
theorem je8 (hi:Inv m γ F w) {d:Nat} {A:Arr} (hv:∀A0,m d=some A0→A0.ver<A.ver) (_hl:A.live) (cur:Array Value) (E:TypeId) (cap:Nat)
 (hA:MemStep m γ (upd m d (some A)) (upd γ d ⟨w.heap.size,0,cap⟩)→jfi F w (w.alloc (.cells cur E))→
   Holds (upd m d (some A)) (upd γ d ⟨w.heap.size,0,cap⟩) F (w.alloc (.cells cur E)) ⟨w.heap.size,0,cap⟩ A) :
 Inv (upd m d (some A)) (upd γ d ⟨w.heap.size,0,cap⟩) F (w.alloc (.cells cur E))∧MemStep m γ (upd m d (some A)) (upd γ d ⟨w.heap.size,0,cap⟩)∧
  Stp m γ w (upd m d (some A)) (upd γ d ⟨w.heap.size,0,cap⟩) (w.alloc (.cells cur E))∧jfi F w (w.alloc (.cells cur E)):=by
 have hold:∀b,b<w.heap.size→(w.alloc (.cells cur E)).heap[b]?=w.heap[b]?:=fun b hb=>by
  rw[jc0,Array.getElem?_push,if_neg (by omega)]
 have hms:MemStep m γ (upd m d (some A)) (upd γ d ⟨w.heap.size,0,cap⟩):=by
  intro s B hB
  by_cases hs:s=d
  ·subst hs
   exact⟨A,jal ..,Nat.le_of_lt (hv B hB),fun e=>absurd e (Nat.ne_of_lt (hv B hB))⟩
  ·exact⟨B,by rw[jbm _ _ hs];exact hB,Nat.le_refl _,fun _=>⟨B.like_refl,jbm _ _ hs⟩⟩
 have hag:jfi F w (w.alloc (.cells cur E)):=fun b hb=>hold b (hi.bound b hb)
 refine⟨⟨fun s B hB=>?_,fun s B hB hBl=>?_,fun s s' B B' hB hB' hBl hBl' e=>?_,fun b hb=>by have:=hi.bound b hb;rw[jc0];simp;omega,hi.glob.mono (fun _ h=>h) hag⟩,hms,
  ⟨rfl,rfl,rfl,by rw[jc0];simp,fun b hb _=>hold b hb,fun s B hB hBl=>?_⟩,hag⟩
 ·by_cases hs:s=d
  ·subst hs
   rw[jal] at hB ⊢
   cases hB
   exact hA hms hag
  ·rw[jbm _ _ hs] at hB ⊢
   by_cases hBl:B.live
   ·exact(hi.holds s B hB).step hms (fun _ h=>h) hag (hold _ ((hi.holds s B hB).lt hBl))
   ·cases B<;>simp[Arr.live,Holds] at hBl ⊢
 ·by_cases hs:s=d
  ·subst hs
   rw[jal]
   intro hF
   exact absurd (hi.bound _ hF) (by simp)
  ·rw[jbm _ _ hs] at hB ⊢
   exact hi.notF s B hB hBl
 ·by_cases hs:s=d<;>by_cases hs':s'=d
  ·rw[hs,hs']
  ·subst hs
   rw[jal,jbm _ _ hs'] at e
   rw[jbm _ _ hs'] at hB'
   have:=(hi.holds s' B' hB').lt hBl'
   simp only at e
   omega
  ·subst hs'
   rw[jal,jbm _ _ hs] at e
   rw[jbm _ _ hs] at hB
   have:=(hi.holds s B hB).lt hBl
   simp only at e
   omega
  ·rw[jbm _ _ hs] at hB e
   rw[jbm _ _ hs'] at hB' e
   exact hi.dist s s' B B' hB hB' hBl hBl' e
 ·by_cases hs:s=d
  ·subst hs;rw[jal];exact .inr (Nat.le_refl _)
  ·rw[jbm _ _ hs] at hB ⊢
   exact .inl ⟨B,hB,hBl,rfl⟩
theorem jhh {F1:Nat→Prop} {G:GB} {v k off len cap:Nat} {xs:List (List IV)} {ao:Option Addr} (hF:F1 G.g) (hh:Holds m γ F1 w G (.arr v k xs))
 (hs:jhk G off len cap ao (.arr v k xs)):RepI F1 w (.lst ((xs.drop off).take len)) (.slice ao len cap):=by
 obtain⟨cur,E,hb,hsz,hxc,hmax,hc⟩:=hh
 obtain⟨hl,hoc,rfl,had⟩:=hs
 have hlen:((xs.drop off).take len).length=len:=by simp;omega
 have hget:∀(q:Nat) (e:List IV),((xs.drop off).take len)[q]?=some e→xs[off+q]?=some e∧q<len:=fun q e hq=>by
  rw[List.getElem?_take] at hq
  split at hq
  ·rename_i h;exact⟨by simpa using hq,h⟩
  ·cases hq
 suffices h:RepI F1 w (.lst ((xs.drop off).take len)) (.slice ao ((xs.drop off).take len).length (G.cap-off)) by rwa [hlen] at h
 have hcell:∀(i:Nat) (e:List IV) (j:Nat) (p:IV),((xs.drop off).take len)[i]?=some e→e[j]?=some p→
  ∃x,cur[(G.b+(off+i))*k+j]?=some x∧x.oneCell'=true∧RepI F1 w p x:=fun i e j p he hp=>(hc _ e (hget i e he).1).2 j p hp
 refine .lst _ _ _ k (fun i j=>(cur[(G.b+(off+i))*k+j]?).getD undef) (by rw[hlen];omega) (by omega) (fun i e he=>(hc _ e (hget i e he).1).1) (fun i e he=>?_)
  (fun i e j p he hp=>?_) (fun i e j p he hp=>?_)
 ·have hlt:=(hget i e he).2
  refine⟨_,had (by omega),rfl,hF,fun j p hp=>?_⟩
  obtain⟨x,hx,_,_⟩:=hcell i e j p he hp
  show w.cell? ⟨G.g,(G.b+off)*k+(i*k+j),none⟩=_
  rw[show(G.b+off)*k+(i*k+j)=(G.b+(off+i))*k+j from by rw[←Nat.add_assoc,←Nat.add_mul,Nat.add_assoc],cell_of_row w _ _ cur E (0,0) hb,hx]
  rfl
 ·obtain⟨x,hx,_,hr⟩:=hcell i e j p he hp
  simp only[hx,Option.getD_some];exact hr
 ·obtain⟨x,hx,ho,_⟩:=hcell i e j p he hp
  simp only[hx,Option.getD_some];exact ho
theorem ji7 (hi:Inv m γ F w) {wr:List (Nat×Arr)} (hwr:∀s A,(s,A)∈wr→∃v k xs,m s=some (.arr v k xs)∧A=.dead (v+1)) :
 let F1:Nat→Prop:=fun b=>F b∨∃s A,(s,A)∈wr∧b=(γ s).g
 Inv (updL m wr) γ F1 w∧MemStep m γ (updL m wr) γ∧Stp m γ w (updL m wr) γ w∧(∀s B,updL m wr s=some B→B.live→m s=some B∧∀A,(s,A)∉wr):=by
 intro F1
 have hval:∀s A,(s,A)∈wr→updL m wr s=some A:=fun s A h=>jqc h fun B hB=>by
  obtain⟨v,k,xs,h1,rfl⟩:=hwr s A h
  obtain⟨v',k',xs',h2,rfl⟩:=hwr s B hB
  rw[h1] at h2;cases h2;rfl
 have hlive:∀s B,updL m wr s=some B→B.live→m s=some B∧∀A,(s,A)∉wr:=fun s B hB hl=>by
  have hn:∀A,(s,A)∉wr:=fun A hA=>by
   obtain⟨v,k,xs,h1,rfl⟩:=hwr s A hA
   rw[hval s _ hA] at hB
   cases hB
   exact hl
  exact⟨by rwa [ja4 hn] at hB,hn⟩
 have hms:MemStep m γ (updL m wr) γ:=fun s A hA=>by
  by_cases hx:∃B,(s,B)∈wr
  ·obtain⟨B,hB⟩:=hx
   obtain⟨v,k,xs,h1,rfl⟩:=hwr s B hB
   rw[h1] at hA
   cases hA
   exact⟨_,hval s _ hB,by simp[Arr.ver],fun e=>absurd e (by simp[Arr.ver])⟩
  ·exact⟨A,by rw[ja4 fun B hB=>hx ⟨B,hB⟩];exact hA,Nat.le_refl _,fun _=>⟨A.like_refl,rfl⟩⟩
 refine⟨⟨fun s B hB=>?_,fun s B hB hl=>?_,fun s s' B B' hB hB' hl hl' e=>?_,fun b hb=>?_,hi.glob.mono (fun _ h=>.inl h) (fun _ _=>rfl)⟩,hms,?_,hlive⟩
 ·by_cases hl:B.live
  ·exact(hi.holds s B (hlive s B hB hl).1).step hms (fun _ h=>.inl h) (fun _ _=>rfl) rfl
  ·cases B<;>simp[Arr.live,Holds] at hl ⊢
 ·obtain⟨h1,hn⟩:=hlive s B hB hl
  rintro(hF | ⟨s',A,hA,e⟩)
  ·exact hi.notF s B h1 hl hF
  ·obtain⟨v,k,xs,h2,rfl⟩:=hwr s' A hA
   have:=hi.dist s s' B _ h1 h2 hl trivial e
   subst this
   exact hn _ hA
 ·exact hi.dist s s' B B' (hlive s B hB hl).1 (hlive s' B' hB' hl').1 hl hl' e
 ·rcases hb with hb | ⟨s,A,hA,rfl⟩
  ·exact hi.bound b hb
  ·obtain⟨v,k,xs,h2,rfl⟩:=hwr s A hA
   exact(hi.holds s _ h2).lt trivial
 ·exact⟨rfl,rfl,rfl,Nat.le_refl _,fun _ _ _=>rfl,fun s B hB hl=>.inl ⟨B,(hlive s B hB hl).1,hl,rfl⟩⟩
theorem jlx {wr:List (Nat×Arr)} (hwr:∀s A,(s,A)∈wr→ownSite s=true∧∃v k xs,m s=some (.arr v k xs)∧A=.dead (v+1)) :
 FStep m γ F w (fun b=>F b∨∃s A,(s,A)∈wr∧b=(γ s).g):=by
 refine⟨fun _ h=>.inl h,fun b hb=>?_⟩
 rcases hb with hb | ⟨s,A,hA,rfl⟩
 ·exact .inl hb
 ·obtain⟨ho,v,k,xs,h1,_⟩:=hwr s A hA
  exact .inr (.inr ⟨s,_,h1,trivial,ho,rfl⟩)
theorem jh5 {p:PV} {x:IV} {wr:List (Nat×Arr)} (h:(jlc p).gives m (x,wr)) :
 (p=.i x∧x.flat=true∧wr=[])∨∃s v k xs off len,p=.ref s v off len∧m s=some (.arr v k xs)∧x=.lst ((xs.drop off).take len)∧wr=[(s,.dead (v+1))]∧ownSite s=true:=by
 cases p with
 | i y=>simp only[jlc,Mm.gives_chk,Mm.gives_ret,Prod.mk.injEq] at h;obtain⟨h1,rfl,rfl⟩:=h;exact .inl ⟨rfl,h1,rfl⟩
 | ref s ver off len=>
  simp only[jlc,Mm.gives_get] at h
  split at h
  ·rename_i v k xs hA
   simp only[Mm.gives_chk,Bool.and_eq_true,beq_iff_eq,Mm.gives_ret,Prod.mk.injEq] at h
   obtain⟨⟨rfl,ho⟩,rfl,rfl⟩:=h
   exact .inr ⟨s,v,k,xs,off,len,rfl,hA,rfl,rfl,ho⟩
  ·simp[Mm.gives_fail] at h
 | _=>simp[jlc,Mm.gives_fail] at h
theorem jpg {cs:List PV} {xs:List IV} {wr:List (Nat×Arr)} (h:(jpf cs).gives m (xs,wr)) :
 xs.length=cs.length∧(∀s A,(s,A)∈wr→ownSite s=true∧∃v k ys,m s=some (.arr v k ys)∧A=.dead (v+1))∧
  ∀(j:Nat) (p:PV),cs[j]?=some p→∃x wj,xs[j]?=some x∧(jlc p).gives m (x,wj)∧∀y,y∈wj→y∈wr:=by
 simp only[jpf,Mm.gives_bind,Mm.gives_ret,Prod.mk.injEq] at h
 obtain⟨l,hl,rfl,rfl⟩:=h
 refine⟨by simp[Mm.mapL_length hl],fun s A hA=>?_,fun j p hp=>?_⟩
 ·simp only[List.mem_flatMap] at hA
  obtain⟨⟨x,wj⟩,hx,hy⟩:=hA
  obtain⟨j,hj⟩:=List.getElem?_of_mem hx
  obtain⟨p,_,hg⟩:=Mm.mapL_get' hl j _ hj
  rcases jh5 hg with⟨_,_,rfl⟩ | ⟨s',v,k,ys,off,len,_,h1,_,rfl,h2⟩
  ·cases hy
  ·simp only[List.mem_singleton,Prod.mk.injEq] at hy
   obtain⟨rfl,rfl⟩:=hy
   exact⟨h2,v,k,ys,h1,rfl⟩
 ·obtain⟨⟨x,wj⟩,hx,hg⟩:=Mm.mapL_get hl j p hp
  refine⟨x,wj,by simp[hx],hg,fun y hy=>?_⟩
  simp only[List.mem_flatMap]
  exact⟨(x,wj),List.mem_of_getElem? hx,hy⟩
theorem jld (hi:Inv m γ F w) {p:PV} {x:IV} {wj wr:List (Nat×Arr)} {v:Value} (h:(jlc p).gives m (x,wj)) (hsub:∀y,y∈wj→y∈wr) (hr:RepP m γ F w p v) :
 RepI (fun b=>F b∨∃s A,(s,A)∈wr∧b=(γ s).g) w x v∧v.oneCell'=true:=by
 rcases jh5 h with⟨rfl,hf,rfl⟩ | ⟨s,ver,k,xs,off,len,rfl,hA,rfl,rfl,_⟩
 ·cases hr with
  | i hr=>
   refine⟨hr.mono (fun _ h=>.inl h) (fun _ _=>rfl),?_⟩
   cases hr<;>simp_all[IV.flat,Value.oneCell']
 ·cases hr with
  | ref _ _ _ _ ao cap A h1 h2 h3=>
   have:=jhp h1 hA;subst this
   refine⟨jhh (m:=m) (γ:=γ) (F1:=_) (.inr ⟨s,_,hsub _ (List.mem_singleton.2 rfl),rfl⟩)
    ((hi.holds s _ h1).step (MemStep.refl m γ) (fun _ h=>.inl h) (fun _ _=>rfl) rfl) (h3 rfl),rfl⟩
theorem jun {P:Program} {o:Oper} {a:Act} {ρ:Nat→PV} {out:PV} {wr:List (Nat×Arr)} {cf:Cfg} {C:jci} {me:FuncId} {x:Operand} (ho:o.op=.assign x) (h:ja7 P cf C me o ρ m out wr) (hi:Inv m γ F w) (hs:Slots m γ F w ρ a):Does P o a w m γ F out wr:=by
 have hrun:(execOp a.eval o).run P w=.ok (.value (a.eval x)) w:=by simp[execOp,ho]
 have hplain:(opnd ρ x,([]:List (Nat×Arr)))=(out,wr)→Does P o a w m γ F out wr:=by
  intro e
  cases e
  exact jag hi hrun (jah hs x)
 simp only[ja7,ja0,ho] at h
 split at h
 ·split at h
  ·simp only[Mm.gives_bind,Mm.gives_ret,Prod.mk.injEq] at h
   obtain⟨⟨y,wj⟩,hc,h1,h2⟩:=h
   subst h1
   subst h2
   obtain⟨hr,_⟩:=jld (wr:=wj) hi hc (fun _ h=>h) (jah hs x)
   have hwr:∀s A,(s,A)∈wj→ownSite s=true∧∃v k xs,m s=some (.arr v k xs)∧A=.dead (v+1):=by
    intro s A hA
    rcases jh5 hc with⟨_,_,rfl⟩ | ⟨s',v,k,ys,off,len,_,h1,_,rfl,h2⟩
    ·cases hA
    ·simp only[List.mem_singleton,Prod.mk.injEq] at hA
     obtain⟨rfl,rfl⟩:=hA
     exact⟨h2,v,k,ys,h1,rfl⟩
   obtain⟨k1,k2,k3,k4⟩:=ji7 hi fun s A hA=>(hwr s A hA).2
   exact ja3 hrun k1 k2 (jlx hwr) k3 (.i hr)
  ·rw[Mm.gives_ret] at h;exact hplain h
 ·rw[Mm.gives_ret] at h;exact hplain h
end
end Go.Proofs.YtnaaceooknghjaaGreatDoor.X
