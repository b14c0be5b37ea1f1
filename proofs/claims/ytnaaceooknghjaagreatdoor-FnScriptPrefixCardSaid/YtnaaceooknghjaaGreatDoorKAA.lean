/- What functions answer, and the plain laws behind it. -/
import Derived.Test.YtnaaceooknghjaaGreatDoorSD
import Derived.IntWalk
import Derived.Test.YtnaaceooknghjaaGreatDoorProg
import Derived.Lib.Atoi
import Derived.Lib.AtoiAll
import Derived.Lib.ItoaNum
import Derived.Lib.Bytealg
set_option maxRecDepth 100000
namespace Go.Proofs.YtnaaceooknghjaaGreatDoor.X
open Go Go.Proofs Tryz
section
abbrev I (n:Int):PV:=.i (.v (.int .i64 n))
abbrev B (b:Bool):PV:=.i (.v (.bool b))
section
variable {P:Program} {cf:Cfg} {C:jci} {me:FuncId} {ops:Array Oper} {dst:Option Nat} {ty:TypeId} {pos:String} {aft:Array Edge} {st:St} {g:Option (Nat×Bool)}
theorem jtr {id:Nat} {Q:Ex→St→Prop} (h:∃st' rs,runOps P cf (KK P cf) me ops ops.toList st=some (st',rs)∧Q .normal st'):XW P cf me (.region id ops false) st Q:=by
 obtain⟨st',rs,h1,h2⟩:=h
 exact jts (by unfold jfc;rw[h1];rfl) h2
theorem jmv {id:Nat} {Q:Ex→St→Prop} (h:∃st' rs,runOps P cf (KK P cf) me ops ops.toList st=some (st',rs)∧jeh ops rs=true∧Q .normal st'):XW P cf me (.region id ops true) st Q:=by
 obtain⟨st',rs,h1,h3,h2⟩:=h
 exact jts (by unfold jfc;rw[h1];simp only[h3,if_true]) h2
theorem j6k {x:Operand} {a b:Code} {Q:Ex→St→Prop} (h:∃t,asBoolP (opnd st.ρ x)=some t∧if t=true then XW P cf me a st Q else XW P cf me b st Q):XW P cf me (.cond x a b) st Q:=
 let ⟨_,h1,h2⟩:=h;kel h1 h2
def fin1 (dst:Option Nat) (x:Option ((PV×List (Nat×Arr))×List Nat)):Option Rec:=x.map fun x=>⟨dst,x.1.1,x.2,x.1.2⟩
theorem j3w {out:PV} {wr:List (Nat×Arr)} {rd:List Nat}:fin1 dst (some ((out,wr),rd))=some ⟨dst,out,rd,wr⟩:=rfl
def gvv (p:PV) (want:Bool):Option Bool:=
 match p with
 | .i (.v (.bool b))=>some (b == want)
 | .i (.v (.tuple _))=>some false
 | _=>none
theorem j8q {b want:Bool}:gvv (.i (.v (.bool b))) want=some (b == want):=rfl
theorem j4f {want:Bool}:gvv (.i (.v undef)) want=some false:=rfl
def gv (ops:Array Oper) (j:Nat) (ρ:Nat→PV) (want:Bool):Option Bool:=
 match(ops[j]?).bind (·.dst) with
 | some d=>gvv (ρ d) want
 | none=>none
def gdo (P:Program) (cf:Cfg) (C:jci) (me:FuncId) (w:Option Bool) (o:Oper) (st:St):Option Rec:=
 match w with
 | some true=>fin1 o.dst ((ja0 P cf C me o st.ρ).run st.m)
 | some false=>some ⟨o.dst,.i (.v undef),[],[]⟩
 | none=>none
theorem j8m {o:Oper}:gdo P cf C me (some true) o st=fin1 o.dst ((ja0 P cf C me o st.ρ).run st.m):=rfl
theorem j4c {o:Oper}:gdo P cf C me (some false) o st=some ⟨o.dst,.i (.v undef),[],[]⟩:=rfl
def ro (P:Program) (cf:Cfg) (C:jci) (me:FuncId) (ops:Array Oper) (x:Option Rec) (l:List Oper) (st:St):Option (St×List Rec):=
 match x with
 | some r=>match runOps P cf C me ops l (st.step r) with
  | some (st',rs)=>some (st',r::rs)
  | none=>none
 | none=>none
def rp (r:Rec) (x:Option (St×List Rec)):Option (St×List Rec):=
 match x with
 | some (st',rs)=>some (st',r::rs)
 | none=>none
theorem kd2 {r:Rec} {rs:List Rec} {st':St}:rp r (some (st',rs))=some (st',r::rs):=rfl
theorem b_tf:(true == false)=false:=rfl
theorem b_ft:(false == true)=false:=rfl
theorem j0o:runOps P cf C me ops [] st=some (st,[]):=rfl
theorem jvc {o:Oper} {l:List Oper}:runOps P cf C me ops (o::l) st=ro P cf C me ops (jcv P cf C me ops o st) l st:=rfl
theorem kd0 {r:Rec} {l:List Oper}:ro P cf C me ops (some r) l st=rp r (runOps P cf C me ops l (st.step r)):=rfl
theorem kh7 {op:Op}:jcv P cf C me ops ⟨dst,op,ty,pos,aft,none⟩ st=fin1 dst ((ja0 P cf C me ⟨dst,op,ty,pos,aft,none⟩ st.ρ).run st.m):=rfl
theorem so_g {op:Op} {j:Nat} {want:Bool}:jcv P cf C me ops ⟨dst,op,ty,pos,aft,some (j,want)⟩ st=gdo P cf C me (gv ops j st.ρ want) ⟨dst,op,ty,pos,aft,some (j,want)⟩ st:=by
 unfold jcv gdo gv jfd
 rfl
variable {ρ:Nat→PV}
theorem kdl {x:Operand}:ja0 P cf C me ⟨dst,.move x,ty,pos,aft,g⟩ ρ=.ret (opnd ρ x,[]):=rfl
theorem j5o {x:Operand} {d:Nat}:ja0 P cf C me ⟨some d,.assign x,ty,pos,aft,g⟩ ρ=if cf.give me d=true then(jlc (opnd ρ x)).bind fun c=>.ret (.i c.1,c.2) else .ret (opnd ρ x,[]):=rfl
theorem kdm {c a b:Operand}:ja0 P cf C me ⟨dst,.pick c a b,ty,pos,aft,g⟩ ρ=match asBoolP (opnd ρ c) with
 | some t=>.ret (if t then opnd ρ a else opnd ρ b,[])
 | none=>.fail:=rfl
theorem kf6 {t:TypeId} {x:Operand} {d:Nat}:ja0 P cf C me ⟨some d,.box t x,ty,pos,aft,g⟩ ρ=(jdy d).bind fun v=>Mm.chk ((opnd ρ x).cells.all (·.scalar)) (.ret (.ptr d v 0 0,[(d,.box v (opnd ρ x).cells)])):=rfl
theorem j9w {t:TypeId} {d:Nat}:ja0 P cf C me ⟨some d,.alloc t,ty,pos,aft,g⟩ ρ=match jam P t with
 | some z=>(jdy d).bind fun v=>Mm.chk (z.all (·.flat)) (.ret (.ptr d v 0 0,[(d,.box v (z.map .i))]))
 | none=>.fail:=by
 unfold ja0;cases h:jam P t<;>simp only[h]
theorem j9y {t:TypeId} {ps:Array (Nat×Operand)}:ja0 P cf C me ⟨dst,.build t ps,ty,pos,aft,g⟩ ρ=match jam P t,P.underlying t with
 | some z,some (.struct fs)=>
  match jus P fs (z.map .i) (ps.toList.map fun x=>(x.1,opnd ρ x.2)) with
  | some cs=>Mm.chk (fs.toList.all fun f=>(szOf P f.type).isSome) (.ret (.agg cs,[]))
  | none=>.fail
 | some z,some (.array _ el)=>
  match szOf P el with
  | some k=>
   match jur k (z.map .i) (ps.toList.map fun x=>(x.1,opnd ρ x.2)) with
   | some cs=>.ret (.agg cs,[])
   | none=>.fail
  | none=>.fail
 | _,_=>.fail:=rfl
theorem jpw {t:TypeId} {n d:Nat} {ps:Array (Nat×Operand)}:ja0 P cf C me ⟨some d,.buildSlice t n ps,ty,pos,aft,g⟩ ρ=match jcj P t with
 | some el=>
  match szOf P el,jam P el with
  | some k,some z=>
   (Mm.mapL (fun(x:Nat×Operand)=>(jpf (opnd ρ x.2).cells).bind fun c=>.ret ((x.1,c.1),c.2)) ps.toList).bind fun l=>
   match jm8 k (List.replicate n z) (l.map (·.1)) with
   | some xs=>(jdy d).bind fun v=>Mm.chk (decide (n*k≤16777216) && z.length == k && z.all (·.flat) && decide (0<k) && (l.flatMap (·.2)).all (·.1 != d)) (.ret (.ref d v 0 n,l.flatMap (·.2)++[(d,.arr v k xs)]))
   | none=>.fail
  | _,_=>.fail
 | none=>.fail:=by
 show(match jcj P t,some d with|some el,some d=>_|_,_=>_)=_
 generalize jcj P t=a
 cases a<;>rfl
theorem kdk {t:TypeId} {x:Operand}:ja0 P cf C me ⟨dst,.load t x,ty,pos,aft,g⟩ ρ=(rdAt (opnd ρ x)).bind fun y=>(jj9 P t y.1 y.2).bind fun p=>.ret (p,[]):=rfl
def stR (a:PV) (n:Option Nat) (x:PV):Mm (PV×List (Nat×Arr)):=
 match a,n with
 | .ptr s ver i off,some n=>.get s fun
  | some (.arr v k xs)=>
   (jpf x.cells).bind fun c=>
   match xs[i]? with
   | some el=>Mm.chk (v == ver && c.1.length == n && decide (off+n≤el.length) && c.2.all (·.1 != s)) (.ret (.bad,c.2++[(s,.arr v k (xs.set i (splice el off c.1)))]))
   | none=>.fail
  | some (.box v cs)=>Mm.chk (v == ver && i == 0 && x.cells.length == n && decide (off+n≤cs.length) && x.cells.all (·.scalar)) (.ret (.bad,[(s,.box v (splice cs off x.cells))]))
  | _=>.fail
 | _,_=>.fail
theorem j92 {t:TypeId} {a x:Operand}:ja0 P cf C me ⟨dst,.store t a x,ty,pos,aft,g⟩ ρ=stR (opnd ρ a) (szOf P t) (opnd ρ x):=rfl
theorem ju9 {x:Operand}:ja0 P cf C me ⟨dst,.nilCheck x,ty,pos,aft,g⟩ ρ=match opnd ρ x with
 | .ptr s ver i off=>.ret (.ptr s ver i off,[])
 | .i (.eptr c off)=>.ret (.i (.eptr c off),[])
 | _=>.fail:=rfl
theorem j9x {op:BinOp} {t t':TypeId} {x y:Operand}:ja0 P cf C me ⟨dst,.binOp op t x y t',ty,pos,aft,g⟩ ρ=match nilT (P.underlying t) op y (opnd ρ x) with
 | some r=>.ret (.i (.v (.bool r)),[])
 | none=>(Mm.opt (binV P op t (opnd ρ x) (opnd ρ y))).bind fun v=>.ret (.i (.v v),[]):=rfl
theorem j9r {d:Option TypeDesc} {op:BinOp} {x:Nat} {p:PV}:nilT d op (.tmp x) p=none:=by
 unfold nilT;split<;>simp_all
theorem j9p {d:Option TypeDesc} {op:BinOp} {k:IntKind} {n:Int} {p:PV}:nilT d op (.const (.int k n)) p=none:=by
 unfold nilT;split<;>simp_all
theorem j5h {d:Option TypeDesc} {op:BinOp} {b:Bool} {p:PV}:nilT d op (.const (.bool b)) p=none:=by
 unfold nilT;split<;>simp_all
theorem j9q {d:Option TypeDesc} {op:BinOp} {b:ByteArray} {p:PV}:nilT d op (.const (.string b)) p=none:=by
 unfold nilT;split<;>simp_all
theorem kdf {el:TypeId} {xs:List (List IV)} (h:xs≠[]):nilT (some (.slice el)) .eql (.const (.slice none 0 0)) (.i (.lst xs))=some false:=by
 cases xs with
 | nil=>exact absurd rfl h
 | cons x xs=>rfl
theorem kdn {op:UnOp} {t:TypeId} {x:Operand}:ja0 P cf C me ⟨dst,.unOp op t x,ty,pos,aft,g⟩ ρ=match opnd ρ x with
 | .i (.v a)=>(Mm.opt (jc4 (Op.unary op a))).bind fun v=>.ret (.i (.v v),[])
 | _=>.fail:=rfl
theorem j0j {s t:TypeId} {x:Operand}:ja0 P cf C me ⟨dst,.convert s t x,ty,pos,aft,g⟩ ρ=match P.underlying s,P.underlying t,opnd ρ x with
 | some (.int _),some (.int k),.i (.v (.int _ n))=>.ret (.i (.v (.int k (k.wrap n))),[])
 | some (.slice el),some .string,p=>cvtB P el p
 | _,_,_=>.fail:=rfl
theorem j9n {ms:Array (String×TypeId)}:nilT (some (.interface ms)) .eql (.const .nilIface) (.i (.v .nilIface))=some true:=rfl
theorem j9l {ms:Array (String×TypeId)}:nilT (some (.interface ms)) .eql (.const .nilIface) (.i .err)=some false:=rfl
theorem j9m {ms:Array (String×TypeId)}:nilT (some (.interface ms)) .neq (.const .nilIface) (.i .err)=some true:=rfl
theorem j9o {ms:Array (String×TypeId)}:nilT (some (.interface ms)) .neq (.const .nilIface) (.i (.v .nilIface))=some false:=rfl
theorem ju8 {f:FuncId} {a b:Array Operand}:ja0 P cf C me ⟨dst,.makeFunc (.func f) a b,ty,pos,aft,g⟩ ρ=.ret (.fn f (a.toList.map (opnd ρ)) (b.toList.map (opnd ρ)),[]):=rfl
theorem jsu {t:TypeId} {l c:Operand} {d:Nat}:ja0 P cf C me ⟨some d,.makeSlice t l c,ty,pos,aft,g⟩ ρ=match jcj P t,jeb (opnd ρ l),jeb (opnd ρ c) with
 | some el,some n,some m=>
  match P.info? el,jam P el with
  | some inf,some z=>
   (jdy d).bind fun v=>Mm.chk (decide (0≤n) && n == m && decide (n≤4000000) && decide (inf.bytes≤128) && z.length == inf.size && decide (0<inf.size) && z.all (·.flat))
     (.ret (.ref d v 0 n.toNat,[(d,.arr v inf.size (List.replicate n.toNat z))]))
  | _,_=>.fail
 | _,_,_=>.fail:=by
 show(match jcj P t,some d,jeb (opnd ρ l),jeb (opnd ρ c) with|some el,some d,some n,some m=>_|_,_,_,_=>_)=_
 generalize jcj P t=a
 generalize jeb (opnd ρ l)=x
 generalize jeb (opnd ρ c)=y
 cases a<;>cases x<;>cases y<;>rfl
def slR (P:Program) (t:TypeId) (x:PV) (lo hi:Option PV):Mm (PV×List (Nat×Arr)):=
 match jcs lo,jcs hi with
  | some l,some h=>
   match x,P.underlying t with
   | .ref s ver off len,some (.slice el)=>
    match jbw len l h,szOf P el with
    | some (a,b),some k=>.get s fun
     | some (.arr v k' _)=>Mm.chk (v == ver && k == k') (.ret (.ref s ver (off+a) (b-a),[]))
     | _=>.fail
    | none,some k=>.get s fun
     | some (.arr v k' xs)=>
      match ji0 len (xs.length-off) l h with
      | some (a,b)=>Mm.chk (v == ver && k == k') (.ret (.ref s ver (off+a) (b-a),[]))
      | none=>.fail
     | _=>.fail
    | _,_=>.fail
   | .i .emp,some (.slice el)=>
    match jbw 0 l h,szOf P el with
    | some _,some _=>.ret (.i .emp,[])
    | _,_=>.fail
   | .i (.lst xs),some (.slice el)=>
    match jbw xs.length l h,szOf P el with
    | some (a,b),some k=>Mm.chk (xs.all (·.length == k)) (.ret (.i (.lst ((xs.drop a).take (b-a))),[]))
    | _,_=>.fail
   | .i (.v (.string s)),some .string=>
    match jbw s.size l h with
    | some (a,b)=>.ret (.i (.v (.string (s.extract a b))),[])
    | none=>.fail
   | _,_=>.fail
  | _,_=>.fail
theorem j91 {t:TypeId} {x:Operand} {lo hi:Option Operand}:ja0 P cf C me ⟨dst,.slice t x lo hi none,ty,pos,aft,g⟩ ρ=slR P t (opnd ρ x) (lo.map (opnd ρ)) (hi.map (opnd ρ)):=rfl
def slR3 (P:Program) (t:TypeId) (x:PV) (lo hi:Option PV) (mx:PV) (clip:Bool):Mm (PV×List (Nat×Arr)):=
 match jcs lo,jcs hi,jeb mx with
  | some l,some (some h),some c=>
   match x,P.underlying t with
   | .ref s ver off len,some (.slice el)=>
    match jbw len l (some h),szOf P el with
    | some (a,b),some k=>.get s fun
     | some (.arr v k' xs)=>
      match clip with
      | true=>Mm.chk (v == ver && k == k' && c == h) (.ret (.ref s (v+1) (off+a) (b-a),[(s,.arr (v+1) k (xs.take (off+b)))]))
      | false=>Mm.chk (v == ver && k == k' && decide (h≤c) && decide (c≤len)) (.ret (.bad,[]))
     | _=>.fail
    | _,_=>.fail
   | .i .emp,some (.slice el)=>
    match jbw 0 l (some h),szOf P el with
    | some _,some _=>Mm.chk (c == h) (.ret (.i .emp,[]))
    | _,_=>.fail
   | _,_=>.fail
  | _,_,_=>.fail
theorem j5p {t:TypeId} {x mx:Operand} {lo hi:Option Operand}:ja0 P cf C me ⟨dst,.slice t x lo hi (some mx),ty,pos,aft,g⟩ ρ=slR3 P t (opnd ρ x) (lo.map (opnd ρ)) (hi.map (opnd ρ)) (opnd ρ mx) (kb6 cf me dst):=rfl
def faR (P:Program) (fd:Option Field) (x:PV):Mm (PV×List (Nat×Arr)):=
 match fd with
 | some fd=>
  match szOf P fd.type,x with
  | some (_+1),.ptr s ver i off=>.ret (.ptr s ver i (off+fd.offset),[])
  | some (_+1),.i (.eptr c off)=>.ret (.i (.eptr c (off+fd.offset)),[])
  | _,_=>.fail
 | none=>.fail
theorem jss {t:TypeId} {x:Operand} {f:Nat}:ja0 P cf C me ⟨dst,.fieldAddr t x f,ty,pos,aft,g⟩ ρ=faR P (jar P t f) (opnd ρ x):=rfl
theorem j9z {t:TypeId} {x:Operand} {f:Nat}:ja0 P cf C me ⟨dst,.field t x f,ty,pos,aft,g⟩ ρ=match jar P t f,opnd ρ x with
 | some fd,.agg cs=>(jj9 P fd.type cs fd.offset).bind fun p=>.ret (p,[])
 | _,_=>.fail:=rfl
def iaR (P:Program) (d:Option TypeDesc) (n:Option Int) (x:PV):Mm (PV×List (Nat×Arr)):=
 match d,n with
  | some (.slice el),some n=>
   match szOf P el,x with
   | some k,.ref s ver off len=>.get s fun
    | some (.arr v k' _)=>Mm.chk (v == ver && k == k' && decide (0≤n) && decide (n<len)) (.ret (.ptr s ver (off+n.toNat) 0,[]))
    | _=>.fail
   | some k,.i (.lst xs)=>
    match(if 0≤n then xs[n.toNat]? else none) with
    | some el=>Mm.chk (el.length == k) (.ret (.i (.eptr el 0),[]))
    | none=>.fail
   | _,_=>.fail
  | some (.array len el),some n=>
   match szOf P el,x with
   | some k,.ptr s ver i off=>Mm.chk (decide (0≤n) && decide (n<len)) (.ret (.ptr s ver i (off+n.toNat*k),[]))
   | some k,.i (.eptr c off)=>Mm.chk (decide (0≤n) && decide (n<len)) (.ret (.i (.eptr c (off+n.toNat*k)),[]))
   | _,_=>.fail
  | _,_=>.fail
theorem jst {t:TypeId} {x ix:Operand}:ja0 P cf C me ⟨dst,.indexAddr t x ix,ty,pos,aft,g⟩ ρ=iaR P (P.underlying t) (jeb (opnd ρ ix)) (opnd ρ x):=by
 unfold ja0 iaR;rfl
theorem kcw {el:TypeId} {n:Int} {s ver off len:Nat}:iaR P (some (.slice el)) (some n) (.ref s ver off len)=match szOf P el with
 | some k=>.get s fun
  | some (.arr v k' _)=>Mm.chk (v == ver && k == k' && decide (0≤n) && decide (n<len)) (.ret (.ptr s ver (off+n.toNat) 0,[]))
  | _=>.fail
 | none=>.fail:=by
 simp only[iaR];cases szOf P el<;>rfl
theorem kcv {el:TypeId} {n:Int} {xs:List (List IV)}:iaR P (some (.slice el)) (some n) (.i (.lst xs))=match szOf P el with
 | some k=>(match(if 0≤n then xs[n.toNat]? else none) with
  | some el=>Mm.chk (el.length == k) (.ret (.i (.eptr el 0),[]))
  | none=>.fail)
 | none=>.fail:=by
 simp only[iaR];cases szOf P el<;>rfl
theorem j8r {len:Nat} {el:TypeId} {n:Int} {s ver i off:Nat}:iaR P (some (.array len el)) (some n) (.ptr s ver i off)=match szOf P el with
 | some k=>Mm.chk (decide (0≤n) && decide (n<len)) (.ret (.ptr s ver i (off+n.toNat*k),[]))
 | none=>.fail:=by
 simp only[iaR];cases szOf P el<;>rfl
theorem j4g {len:Nat} {el:TypeId} {n:Int} {c:List IV} {off:Nat}:iaR P (some (.array len el)) (some n) (.i (.eptr c off))=match szOf P el with
 | some k=>Mm.chk (decide (0≤n) && decide (n<len)) (.ret (.i (.eptr c (off+n.toNat*k)),[]))
 | none=>.fail:=by
 simp only[iaR];cases szOf P el<;>rfl
def ixR (P:Program) (d:Option TypeDesc) (x:PV) (n:Option Int):Mm (PV×List (Nat×Arr)):=
 match d,x,n with
  | some .string,.i (.v (.string s)),some n=>
   match(if 0≤n then s[n.toNat]? else none) with
   | some b=>.ret (.i (.v (.int .u8 b.toNat)),[])
   | none=>.fail
  | some (.array len el),.agg cs,some n=>
   match szOf P el with
   | some k=>Mm.chk (decide (0≤n) && decide (n<len)) ((jj9 P el cs (n.toNat*k)).bind fun p=>.ret (p,[]))
   | none=>.fail
  | _,_,_=>.fail
theorem j90 {t:TypeId} {x ix:Operand}:ja0 P cf C me ⟨dst,.index t x ix,ty,pos,aft,g⟩ ρ=ixR P (P.underlying t) (opnd ρ x) (jeb (opnd ρ ix)):=by
 unfold ja0 ixR;rfl
theorem j0k {x:Operand} {j:Nat}:ja0 P cf C me ⟨dst,.extract x j,ty,pos,aft,g⟩ ρ=match opnd ρ x with
 | .tup cs=>(Mm.opt cs[j]?).bind fun p=>.ret (p,[])
 | _=>.fail:=rfl
theorem j0i {b:Builtin} {args:Array Operand} {ats:Array TypeId}:ja0 P cf C me ⟨dst,.call { callee:=.builtin b,args:=args,argTypes:=ats },ty,pos,aft,g⟩ ρ=jhr P b ats dst (args.toList.map (opnd ρ)):=rfl
theorem kdj {f:FuncId} {args:Array Operand} {ats:Array TypeId}:ja0 P cf C me ⟨dst,.call { callee:=.value (.func f),args:=args,argTypes:=ats },ty,pos,aft,g⟩ ρ=jhz cf C me dst f (args.toList.map (opnd ρ)):=by
 unfold ja0;simp[opnd]
def dynP (cf:Cfg) (C:jci) (me:FuncId) (dst:Option Nat) (fv:PV) (args:List PV):Mm (PV×List (Nat×Arr)):=
 match fv with
 | .fn f first caps=>jhz cf C me dst f (first++args++caps)
 | .i (.fn f first caps)=>jhz cf C me dst f (first.map toP++args++caps.map .i)
 | _=>.fail
theorem kcg {cf:Cfg} {C:jci} {me:FuncId} {dst:Option Nat} {f:FuncId} {first caps args:List PV}:dynP cf C me dst (.fn f first caps) args=jhz cf C me dst f (first++args++caps):=rfl
theorem kic {x:Value}:toP (.v x)=.i (.v x):=rfl
theorem kge {cs:List IV}:toP (.ag cs)=.agg (cs.map .i):=rfl
theorem kea {xs:List (List IV)}:toP (.lst xs)=.i (.lst xs):=rfl
theorem kae {e:List IV} {o:Nat}:toP (.eptr e o)=.i (.eptr e o):=rfl
theorem j8d {cf:Cfg} {C:jci} {me:FuncId} {dst:Option Nat} {f:FuncId} {first caps:List IV} {args:List PV}:dynP cf C me dst (.i (.fn f first caps)) args=jhz cf C me dst f (first.map toP++args++caps.map .i):=rfl
theorem kf7 {t:Nat} {args:Array Operand} {ats:Array TypeId}:ja0 P cf C me ⟨dst,.call { callee:=.value (.tmp t),args:=args,argTypes:=ats },ty,pos,aft,g⟩ ρ=dynP cf C me dst (ρ t) (args.toList.map (opnd ρ)):=rfl
theorem j9d {s ver off len:Nat}:lenP (.ref s ver off len)=some len:=rfl
theorem j9c {xs:List (List IV)}:lenP (.i (.lst xs))=some xs.length:=rfl
theorem j9b:lenP (.i .emp)=some 0:=rfl
theorem j3q {k s ver off len:Nat}:jdt k (.ref s ver off len)=.get s fun
 | some (.arr v k' xs)=>Mm.chk (v == ver && k' == k) (.ret ((xs.drop off).take len))
 | _=>.fail:=rfl
theorem j3p {k:Nat} {xs:List (List IV)}:jdt k (.i (.lst xs))=Mm.chk (xs.all (·.length == k)) (.ret xs):=rfl
theorem j3o {k:Nat}:jdt k (.i .emp)=.ret []:=rfl
def nv (x:Option Arr):Nat:=
 match x with
 | some A=>A.ver+1
 | none=>0
theorem j5g {d:Nat}:jdy d=.get d fun x=>.ret (nv x):=by
 unfold jdy
 congr 1
 funext x
 cases x<;>rfl
theorem kdh:nv none=0:=rfl
theorem kdi {A:Arr}:nv (some A)=A.ver+1:=rfl
end
section
variable {α β:Type} {m:Mem}
theorem kd4 {a:α}:(Mm.ret a).run m=some (a,[]):=rfl
theorem kd3 {s:Nat} {k:Option Arr→Mm α}:(Mm.get s k).run m=match(k (m s)).run m with|some (a,r)=>some (a,s::r)|none=>none:=rfl
theorem j66 {a:α} {f:α→Mm β}:(Mm.ret a).bind f=f a:=rfl
theorem j65 {s:Nat} {k:Option Arr→Mm α} {f:α→Mm β}:(Mm.get s k).bind f=Mm.get s fun x=>(k x).bind f:=rfl
theorem kbd {s:Nat} {k:Option Arr→Mm α} {f:α→Mm β}:((Mm.get s k).bind f).run m=match((k (m s)).bind f).run m with|some (a,r)=>some (a,s::r)|none=>none:=rfl
theorem j9v {a:α}:Mm.opt (some a)=.ret a:=rfl
theorem j7z {x:Mm α}:Mm.chk true x=x:=rfl
theorem j1j {γ:Type} {x:Mm α} {f:α→Mm β} {h:β→Mm γ}:(x.bind f).bind h=x.bind fun a=>(f a).bind h:=by
 induction x with
 | ret a=>rfl
 | fail=>rfl
 | get s k ih=>simp only[Mm.bind];congr 1;funext y;exact ih y
end
section
variable {P:Program} {a b:Int} {t:TypeId}
theorem j6t:binV P .add t (I a) (I b)=some (.int .i64 (IntKind.i64.wrap (a+b))):=rfl
theorem j63:binV P .sub t (I a) (I b)=some (.int .i64 (IntKind.i64.wrap (a-b))):=rfl
theorem j6z:binV P .mul t (I a) (I b)=some (.int .i64 (IntKind.i64.wrap (a*b))):=rfl
theorem j6y:binV P .lss t (I a) (I b)=some (.bool (decide (a<b))):=rfl
theorem j6x:binV P .leq t (I a) (I b)=some (.bool (decide (a≤b))):=rfl
theorem j6w:binV P .gtr t (I a) (I b)=some (.bool (decide (b<a))):=rfl
theorem j6v:binV P .geq t (I a) (I b)=some (.bool (decide (b≤a))):=rfl
theorem j6u:binV P .eql t (I a) (I b)=some (.bool (decide (a=b))):=rfl
theorem j60:binV P .neq t (I a) (I b)=some (.bool (!decide (a=b))):=rfl
theorem j1c {x y:Int}:binV P .gtr t (.i (.v (.int .u64 x))) (.i (.v (.int .u64 y)))=some (.bool (decide (y<x))):=rfl
theorem wrU {n:Int} (h1:0≤n) (h2:n<18446744073709551616):IntKind.u64.wrap n=n:=by rw[IntKind.wrap_u64];omega
theorem j1a {x y:Bool}:binV P .eql t (B x) (B y)=match P.underlying t with|some .bool=>some (.bool (x == y))|_=>none:=by
 simp only[binV];cases P.underlying t with
 | none=>rfl
 | some d=>cases d<;>rfl
theorem j1d {x y:Bool}:binV P .neq t (B x) (B y)=match P.underlying t with|some .bool=>some (.bool (!(x == y)))|_=>none:=by
 simp only[binV];cases P.underlying t with
 | none=>rfl
 | some d=>cases d<;>rfl
theorem j62 (h:b≠0):binV P .rem t (I a) (I b)=some (.int .i64 (a.tmod b)):=by
 simp[binV,binOp,Op.intDiv,h,jc4]
 rfl
theorem j61 (h:b≠0):binV P .quo t (I a) (I b)=some (.int .i64 (IntKind.i64.wrap (a.tdiv b))):=by
 simp[binV,binOp,Op.intDiv,h,jc4]
 rfl
def xorI (a b:Int):Int:=IntKind.i64.wrap ((BitVec.ofInt 64 a ^^^ BitVec.ofInt 64 b).toNat:Int)
theorem j64:binV P .xor t (I a) (I b)=some (.int .i64 (xorI a b)):=rfl
theorem jvs (h1:0≤a) (h2:0≤b) (h3:a<9223372036854775808) (h4:b<9223372036854775808):0≤xorI a b∧xorI a b<9223372036854775808:=by
 obtain⟨x,rfl⟩:=Int.eq_ofNat_of_zero_le h1
 obtain⟨y,rfl⟩:=Int.eq_ofNat_of_zero_le h2
 have hx:x<2 ^ 63:=by omega
 have hy:y<2 ^ 63:=by omega
 have hxy:x ^^^ y<2 ^ 63:=Nat.xor_lt_two_pow hx hy
 have e:(BitVec.ofInt 64 (x:Int) ^^^ BitVec.ofInt 64 (y:Int)).toNat=x ^^^ y:=by
  rw[BitVec.toNat_xor]
  simp only[BitVec.ofInt_natCast,BitVec.toNat_ofNat]
  rw[Nat.mod_eq_of_lt (by omega),Nat.mod_eq_of_lt (by omega)]
 have hxy':((x ^^^ y:Nat):Int)<9223372036854775808:=by omega
 unfold xorI
 rw[e,IntKind.wrap_i64]
 omega
theorem j1b {c d:Int}:binV P .eql t (.agg [I a,I b]) (.agg [I c,I d])=if jru P t 2=true then some (.bool (decide (a=c∧b=d))) else none:=by
 have e:(a == c && (b == d && true))=decide (a=c∧b=d):=by
  by_cases h1:a=c<;>by_cases h2:b=d<;>simp[h1,h2]
 simp only[binV,List.length_cons,List.length_nil,Nat.reduceAdd,if_true,jcn,Option.map_some,e]
theorem j1e {c d:Int}:binV P .neq t (.agg [I a,I b]) (.agg [I c,I d])=if jru P t 2=true then some (.bool (!decide (a=c∧b=d))) else none:=by
 have e:(a == c && (b == d && true))=decide (a=c∧b=d):=by
  by_cases h1:a=c<;>by_cases h2:b=d<;>simp[h1,h2]
 simp only[binV,List.length_cons,List.length_nil,Nat.reduceAdd,if_true,jcn,Option.map_some,e]
theorem j9s {x:Bool}:Op.unary .not (.bool x)=.pure (.bool (!x)):=rfl
theorem jp5 {α:Type} {x:α}:jc4 (Pure.pure x)=some x:=rfl
theorem jta {α:Type} {x:α}:jc4 (.pure x)=some x:=rfl
end
theorem wr {n:Int} (h1:-9223372036854775808≤n) (h2:n≤9223372036854775807):IntKind.i64.wrap n=n:=by rw[IntKind.wrap_i64];omega
theorem wr1 {i:Nat} (h:i≤1000000000000):IntKind.i64.wrap ((i:Int)+1)=((i+1:Nat):Int):=by rw[wr (by omega) (by omega)];omega
theorem kfu {x:Value}:(IV.v x).flat=x.oneCell':=rfl
theorem j8j:IV.err.flat=true:=rfl
theorem j8i:IV.emp.flat=true:=rfl
theorem j8k {xs:List (List IV)}:(IV.lst xs).flat=true:=rfl
theorem khu {cs:List IV}:(IV.ag cs).flat=false:=rfl
theorem j36 {e:List IV} {o:Nat}:(IV.eptr e o).flat=true:=rfl
theorem kcp {f:FuncId} {a b:List IV}:(IV.fn f a b).flat=true:=rfl
theorem kad {α β:Type} {f:α→β} {l:List α}:(l.map f).take l.length=l.map f:=List.take_of_length_le (by simp)
theorem dle {a b:Nat} (h:a≤b):decide (a≤b)=true:=decide_eq_true h
theorem dlt {a b:Nat} (h:a<b):decide (a<b)=true:=decide_eq_true h
theorem kgh {α:Type} {f:Nat→α} {i:Nat} {v:α}:upd f i v i=v:=jal f i v
theorem kei {α:Type} {f:Nat→α} {i j:Nat} {v:α} (h:¬j=i):upd f i v j=f j:=jbm f v h
theorem jsa {e:TypeId}:jn4 (some (.slice e))=false:=rfl
theorem jz9 {k:IntKind}:jn4 (some (.int k))=true:=rfl
theorem j0a:jn4 (some .string)=false:=rfl
attribute [go_sem] kgh kei
attribute [go_sem] List.mem_cons or_false not_or not_true_eq_false cond_true cond_false Int.le_refl exists_eq' List.nodup_nil List.nodup_cons List.not_mem_nil not_false_eq_true jdk List.getD_cons_zero List.getD_cons_succ sq bl j0o jvc kd0 kd2 j8m j4c b_tf b_ft kh7 so_g kdl j5o kdm kf6 j9w j9y jpw kdk j92
 ju9 j9x kdf j9r j9p j5h j9q j9n j9o j9l j9m j8j cvtB j0f kdn j0j ju8 jsu j91 j5p slR3 kb6 capB ji0 jss j9z jst j90 j0k j0i kdj kf7 kd4 kd3 j66
 j65 j1j j9v j7z j3w j5g kdh kdi St.step putρ updL opnd jwo constC gv j8q j4f stR slR faR kcw kcv j8r j4g ixR kcg j8d kic kge kea kae rdAt jj9 jeb asBoolP j6t
 j63 j6z j6y j6x j6w j6v j6u j60 j62 j61 j64 j1c wrU j1a j1d j1b j1e j9s jta jp5 jhr lenB j9d j9c j9b appB kaq jsa jz9 j0a jwh j74 jpf jlc j3q j3p j3o Mm.mapL splice jus
 jm8 jur PV.cells PV.scalar kad kfu j8i j8k j36 kcp Value.oneCell' jcs jbw ownSite jcn Arr.ver ite_true ite_false Bool.false_eq_true beq_self_eq_true bne_self_eq_false Bool.and_self
 Bool.and_true Bool.true_and Bool.and_false Bool.false_and Bool.or_false Bool.or_true Bool.false_or Bool.true_or Bool.not_true Bool.not_false decide_true decide_false
 decide_eq_true_eq Bool.not_eq_true' decide_eq_false_iff_not Nat.le_refl Nat.zero_le Int.natCast_nonneg Int.toNat_natCast Nat.add_zero Nat.zero_add Nat.sub_zero
 Nat.lt_add_left_iff_pos List.map_cons List.map_nil List.length_cons List.length_nil List.length_map List.length_append List.drop_zero List.drop_succ_cons List.drop_nil List.take_succ_cons
 List.take_zero List.take_nil List.append_nil List.nil_append List.cons_append List.all_cons List.all_nil List.any_cons List.any_nil List.flatMap_cons List.flatMap_nil
 List.set_cons_zero List.set_cons_succ List.replicate_succ List.replicate_zero List.getElem?_cons_zero List.getElem?_cons_succ List.getElem?_nil List.getElem?_toArray
 List.size_toArray Option.bind_some Option.bind_none Option.map_some Option.map_none Option.getD_some Option.getD_none Option.isSome_some Option.some.injEq Prod.mk.injEq
 exists_and_left exists_eq_left' and_assoc true_and and_true List.toList_toArray jhz j99 coll PV.isI ren jbf jl4 jix jdf siteOf imm imm1 mapO frz frzA jbx flatP j30
 jd5 ji6 List.contains_cons List.contains_nil List.isEmpty_cons List.isEmpty_nil List.zip_cons_cons List.zip_nil_left List.range_succ List.range_zero List.idxOf_cons
 List.idxOf_nil outP resP tupR jb6
end
attribute [go_sem] underlying0 underlying2 underlying3 underlying4 underlying5 underlying9 underlying20 underlying21 underlying24 underlying27 underlying29 underlying30 underlying31 underlying33 underlying34 underlying41 underlying53 underlying60 underlying63 underlying78 underlying94 underlying97 underlying113 underlying125 underlying127 underlying130 underlying132 underlying134 underlying136 underlying138 underlying143 underlying144 underlying151 underlying176 underlying177 underlying204 underlying205 underlying211 underlying212 underlying213 underlying215 underlying227 underlying228 underlying231 underlying234 underlying237 underlying241 underlying244 underlying245 underlying253 underlying254 underlying256 underlying257 underlying259 underlying261 underlying265 underlying267 underlying268 underlying270 underlying271 underlying272
theorem jao {P:Program} {t n:Nat} {i:TypeInfo} (h:P.types.size=n) (hl:t<n) (hi:P.types[t]?=some i):P.info? t=some i:=by
 unfold Tables.info?
 rw[if_pos (by rw[h];exact hl)]
 exact hi
def zB (n:Nat):List IV:=List.replicate n (.v (.bool false))
def fld (P:Program) (t i:Nat):Field:=(jar P t i).getD ⟨ "",0,0,false,"","",0⟩
@[go_sem] theorem ka3:prog.info? 2=some Tryz.t2:=jao types_size (by decide) type2
@[go_sem] theorem tz_2:Tryz.t2.size=1:=rfl
@[go_sem] theorem tb_2:Tryz.t2.bytes=8:=rfl
@[go_sem] theorem sz_2:szOf prog 2=some 1:=by rw[szOf,ka3];rfl
@[go_sem] theorem ag_2:jaf prog 2=some false:=by rw[jaf,underlying2];rfl
@[go_sem] theorem ze_2:jam prog 2=some [(.v (.int .i64 0))]:=by rw[jam,ka3];rfl
@[go_sem] theorem j4n:prog.info? 3=some Tryz.t3:=jao types_size (by decide) type3
@[go_sem] theorem tz_3:Tryz.t3.size=1:=rfl
@[go_sem] theorem tb_3:Tryz.t3.bytes=8:=rfl
@[go_sem] theorem sz_3:szOf prog 3=some 1:=by rw[szOf,j4n];rfl
@[go_sem] theorem ag_3:jaf prog 3=some false:=by rw[jaf,underlying3];rfl
@[go_sem] theorem ze_3:jam prog 3=some [(.v (.int .i64 0))]:=by rw[jam,j4n];rfl
@[go_sem] theorem j4s:prog.info? 4=some Tryz.t4:=jao types_size (by decide) type4
@[go_sem] theorem tz_4:Tryz.t4.size=1:=rfl
@[go_sem] theorem tb_4:Tryz.t4.bytes=1:=rfl
@[go_sem] theorem sz_4:szOf prog 4=some 1:=by rw[szOf,j4s];rfl
@[go_sem] theorem ag_4:jaf prog 4=some false:=by rw[jaf,underlying4];rfl
@[go_sem] theorem ze_4:jam prog 4=some [(.v (.bool false))]:=by rw[jam,j4s];rfl
@[go_sem] theorem ka4:prog.info? 5=some Tryz.t5:=jao types_size (by decide) type5
@[go_sem] theorem tz_5:Tryz.t5.size=1:=rfl
@[go_sem] theorem tb_5:Tryz.t5.bytes=1:=rfl
@[go_sem] theorem sz_5:szOf prog 5=some 1:=by rw[szOf,ka4];rfl
@[go_sem] theorem ag_5:jaf prog 5=some false:=by rw[jaf,underlying5];rfl
@[go_sem] theorem ze_5:jam prog 5=some [(.v (.int .u8 0))]:=by rw[jam,ka4];rfl
@[go_sem] theorem ka5:prog.info? 9=some Tryz.t9:=jao types_size (by decide) type9
@[go_sem] theorem tz_9:Tryz.t9.size=1:=rfl
@[go_sem] theorem tb_9:Tryz.t9.bytes=16:=rfl
@[go_sem] theorem sz_9:szOf prog 9=some 1:=by rw[szOf,ka5];rfl
@[go_sem] theorem ag_9:jaf prog 9=some false:=by rw[jaf,underlying9];rfl
@[go_sem] theorem ze_9:jam prog 9=some [(.v (.string ⟨#[]⟩))]:=by rw[jam,ka5];rfl
@[go_sem] theorem j4j:prog.info? 21=some Tryz.t21:=jao types_size (by decide) type21
@[go_sem] theorem tz_21:Tryz.t21.size=1:=rfl
@[go_sem] theorem tb_21:Tryz.t21.bytes=4:=rfl
@[go_sem] theorem sz_21:szOf prog 21=some 1:=by rw[szOf,j4j];rfl
@[go_sem] theorem ag_21:jaf prog 21=some false:=by rw[jaf,underlying21];rfl
@[go_sem] theorem ze_21:jam prog 21=some [(.v (.int .i32 0))]:=by rw[jam,j4j];rfl
@[go_sem] theorem j4k:prog.info? 24=some Tryz.t24:=jao types_size (by decide) type24
@[go_sem] theorem tz_24:Tryz.t24.size=1:=rfl
@[go_sem] theorem tb_24:Tryz.t24.bytes=24:=rfl
@[go_sem] theorem sz_24:szOf prog 24=some 1:=by rw[szOf,j4k];rfl
@[go_sem] theorem ag_24:jaf prog 24=some false:=by rw[jaf,underlying24];rfl
@[go_sem] theorem el_24:jcj prog 24=some 5:=by rw[jcj,underlying24]
@[go_sem] theorem ze_24:jam prog 24=some [.emp]:=by rw[jam,j4k];rfl
@[go_sem] theorem j4l:prog.info? 27=some Tryz.t27:=jao types_size (by decide) type27
@[go_sem] theorem tz_27:Tryz.t27.size=1:=rfl
@[go_sem] theorem tb_27:Tryz.t27.bytes=24:=rfl
@[go_sem] theorem sz_27:szOf prog 27=some 1:=by rw[szOf,j4l];rfl
@[go_sem] theorem ag_27:jaf prog 27=some false:=by rw[jaf,underlying27];rfl
@[go_sem] theorem el_27:jcj prog 27=some 63:=by rw[jcj,underlying27]
@[go_sem] theorem ze_27:jam prog 27=some [.emp]:=by rw[jam,j4l];rfl
@[go_sem] theorem j4m:prog.info? 29=some Tryz.t29:=jao types_size (by decide) type29
@[go_sem] theorem tz_29:Tryz.t29.size=2:=rfl
@[go_sem] theorem tb_29:Tryz.t29.bytes=32:=rfl
@[go_sem] theorem sz_29:szOf prog 29=some 2:=by rw[szOf,j4m];rfl
@[go_sem] theorem ag_29:jaf prog 29=some true:=by rw[jaf,underlying29];rfl
@[go_sem] theorem khk:jar prog 29 0=some { name:= "Nodes",type:=3,offset:=0,embedded:=false,tag:= "",pkgPath:= "",byteOffset:=0 }:=by rw[jar,underlying29];rfl
@[go_sem] theorem khl:jar prog 29 1=some { name:= "Edges",type:=27,offset:=1,embedded:=false,tag:= "",pkgPath:= "",byteOffset:=8 }:=by rw[jar,underlying29];rfl
@[go_sem] theorem ze_29:jam prog 29=some [(.v (.int .i64 0)),.emp]:=by rw[jam,j4m];rfl
@[go_sem] theorem j4o:prog.info? 30=some Tryz.t30:=jao types_size (by decide) type30
@[go_sem] theorem tz_30:Tryz.t30.size=1:=rfl
@[go_sem] theorem tb_30:Tryz.t30.bytes=24:=rfl
@[go_sem] theorem sz_30:szOf prog 30=some 1:=by rw[szOf,j4o];rfl
@[go_sem] theorem ag_30:jaf prog 30=some false:=by rw[jaf,underlying30];rfl
@[go_sem] theorem el_30:jcj prog 30=some 3:=by rw[jcj,underlying30]
@[go_sem] theorem ze_30:jam prog 30=some [.emp]:=by rw[jam,j4o];rfl
@[go_sem] theorem j4p:prog.info? 31=some Tryz.t31:=jao types_size (by decide) type31
@[go_sem] theorem tz_31:Tryz.t31.size=1:=rfl
@[go_sem] theorem tb_31:Tryz.t31.bytes=24:=rfl
@[go_sem] theorem sz_31:szOf prog 31=some 1:=by rw[szOf,j4p];rfl
@[go_sem] theorem ag_31:jaf prog 31=some false:=by rw[jaf,underlying31];rfl
@[go_sem] theorem el_31:jcj prog 31=some 4:=by rw[jcj,underlying31]
@[go_sem] theorem ze_31:jam prog 31=some [.emp]:=by rw[jam,j4p];rfl
@[go_sem] theorem j4q:prog.info? 33=some Tryz.t33:=jao types_size (by decide) type33
@[go_sem] theorem tz_33:Tryz.t33.size=4:=rfl
@[go_sem] theorem tb_33:Tryz.t33.bytes=80:=rfl
@[go_sem] theorem sz_33:szOf prog 33=some 4:=by rw[szOf,j4q];rfl
@[go_sem] theorem ag_33:jaf prog 33=some true:=by rw[jaf,underlying33];rfl
@[go_sem] theorem khm:jar prog 33 0=some { name:= "Graph",type:=29,offset:=0,embedded:=false,tag:= "",pkgPath:= "",byteOffset:=0 }:=by rw[jar,underlying33];rfl
@[go_sem] theorem khn:jar prog 33 1=some { name:= "Levels",type:=30,offset:=2,embedded:=false,tag:= "",pkgPath:= "",byteOffset:=32 }:=by rw[jar,underlying33];rfl
@[go_sem] theorem kho:jar prog 33 2=some { name:= "Tree",type:=31,offset:=3,embedded:=false,tag:= "",pkgPath:= "",byteOffset:=56 }:=by rw[jar,underlying33];rfl
@[go_sem] theorem ze_33:jam prog 33=some [(.v (.int .i64 0)),.emp,.emp,.emp]:=by rw[jam,j4q];rfl
@[go_sem] theorem j4r:prog.info? 34=some Tryz.t34:=jao types_size (by decide) type34
@[go_sem] theorem tz_34:Tryz.t34.size=1:=rfl
@[go_sem] theorem tb_34:Tryz.t34.bytes=24:=rfl
@[go_sem] theorem sz_34:szOf prog 34=some 1:=by rw[szOf,j4r];rfl
@[go_sem] theorem ag_34:jaf prog 34=some false:=by rw[jaf,underlying34];rfl
@[go_sem] theorem el_34:jcj prog 34=some 9:=by rw[jcj,underlying34]
@[go_sem] theorem ze_34:jam prog 34=some [.emp]:=by rw[jam,j4r];rfl
@[go_sem] theorem j4t:prog.info? 41=some Tryz.t41:=jao types_size (by decide) type41
@[go_sem] theorem tz_41:Tryz.t41.size=1:=rfl
@[go_sem] theorem tb_41:Tryz.t41.bytes=8:=rfl
@[go_sem] theorem sz_41:szOf prog 41=some 1:=by rw[szOf,j4t];rfl
@[go_sem] theorem ag_41:jaf prog 41=some false:=by rw[jaf,underlying41];rfl
@[go_sem] theorem ze_41:jam prog 41=some [(.v (.pointer none))]:=by rw[jam,j4t];rfl
@[go_sem] theorem j4u:prog.info? 53=some Tryz.t53:=jao types_size (by decide) type53
@[go_sem] theorem tz_53:Tryz.t53.size=1:=rfl
@[go_sem] theorem tb_53:Tryz.t53.bytes=8:=rfl
@[go_sem] theorem sz_53:szOf prog 53=some 1:=by rw[szOf,j4u];rfl
@[go_sem] theorem ag_53:jaf prog 53=some false:=by rw[jaf,underlying53];rfl
@[go_sem] theorem ze_53:jam prog 53=some [(.v (.pointer none))]:=by rw[jam,j4u];rfl
@[go_sem] theorem j4v:prog.info? 60=some Tryz.t60:=jao types_size (by decide) type60
@[go_sem] theorem tz_60:Tryz.t60.size=2:=rfl
@[go_sem] theorem tb_60:Tryz.t60.bytes=32:=rfl
@[go_sem] theorem sz_60:szOf prog 60=some 2:=by rw[szOf,j4v];rfl
@[go_sem] theorem ag_60:jaf prog 60=some true:=by rw[jaf,underlying60];rfl
@[go_sem] theorem khp:jar prog 60 0=some (fld prog 60 0):=by rw[fld,jar,underlying60];rfl
@[go_sem] theorem khv:(fld prog 60 0).offset=0:=by rw[fld,jar,underlying60];rfl
@[go_sem] theorem khx:(fld prog 60 0).type=24:=by rw[fld,jar,underlying60];rfl
@[go_sem] theorem khq:jar prog 60 1=some (fld prog 60 1):=by rw[fld,jar,underlying60];rfl
@[go_sem] theorem khw:(fld prog 60 1).offset=1:=by rw[fld,jar,underlying60];rfl
@[go_sem] theorem khy:(fld prog 60 1).type=3:=by rw[fld,jar,underlying60];rfl
@[go_sem] theorem ze_60:jam prog 60=some [.emp,(.v (.int .i64 0))]:=by rw[jam,j4v];rfl
@[go_sem] theorem jux:prog.info? 63=some Tryz.t63:=jao types_size (by decide) type63
@[go_sem] theorem tz_63:Tryz.t63.size=2:=rfl
@[go_sem] theorem tb_63:Tryz.t63.bytes=16:=rfl
@[go_sem] theorem j6c:szOf prog 63=some 2:=by rw[szOf,jux];rfl
@[go_sem] theorem ag_63:jaf prog 63=some true:=by rw[jaf,underlying63];rfl
@[go_sem] theorem khr:jar prog 63 0=some { name:= "A",type:=3,offset:=0,embedded:=false,tag:= "",pkgPath:= "",byteOffset:=0 }:=by rw[jar,underlying63];rfl
@[go_sem] theorem khs:jar prog 63 1=some { name:= "B",type:=3,offset:=1,embedded:=false,tag:= "",pkgPath:= "",byteOffset:=8 }:=by rw[jar,underlying63];rfl
@[go_sem] theorem ze_63:jam prog 63=some [(.v (.int .i64 0)),(.v (.int .i64 0))]:=by rw[jam,jux];rfl
@[go_sem] theorem fs_63:jru prog 63 2=true:=by simp[jru,underlying63,Tryz.stoodInHeld63,Tryz.eqGuardType63,underlying3]
@[go_sem] theorem j4w:prog.info? 94=some Tryz.t94:=jao types_size (by decide) type94
@[go_sem] theorem tz_94:Tryz.t94.size=1:=rfl
@[go_sem] theorem tb_94:Tryz.t94.bytes=24:=rfl
@[go_sem] theorem sz_94:szOf prog 94=some 1:=by rw[szOf,j4w];rfl
@[go_sem] theorem ag_94:jaf prog 94=some false:=by rw[jaf,underlying94];rfl
@[go_sem] theorem el_94:jcj prog 94=some 27:=by rw[jcj,underlying94]
@[go_sem] theorem ze_94:jam prog 94=some [.emp]:=by rw[jam,j4w];rfl
@[go_sem] theorem j4x:prog.info? 97=some Tryz.t97:=jao types_size (by decide) type97
@[go_sem] theorem tz_97:Tryz.t97.size=1:=rfl
@[go_sem] theorem tb_97:Tryz.t97.bytes=24:=rfl
@[go_sem] theorem sz_97:szOf prog 97=some 1:=by rw[szOf,j4x];rfl
@[go_sem] theorem ag_97:jaf prog 97=some false:=by rw[jaf,underlying97];rfl
@[go_sem] theorem el_97:jcj prog 97=some 30:=by rw[jcj,underlying97]
@[go_sem] theorem ze_97:jam prog 97=some [.emp]:=by rw[jam,j4x];rfl
@[go_sem] theorem jw2:prog.info? 113=some Tryz.t113:=jao types_size (by decide) type113
@[go_sem] theorem tz_113:Tryz.t113.size=2:=rfl
@[go_sem] theorem tb_113:Tryz.t113.bytes=48:=rfl
@[go_sem] theorem sz_113:szOf prog 113=some 2:=by rw[szOf,jw2];rfl
@[go_sem] theorem ag_113:jaf prog 113=some true:=by rw[jaf,underlying113];rfl
@[go_sem] theorem kgp:jar prog 113 0=some (fld prog 113 0):=by rw[fld,jar,underlying113];rfl
@[go_sem] theorem kgy:(fld prog 113 0).offset=0:=by rw[fld,jar,underlying113];rfl
@[go_sem] theorem kg1:(fld prog 113 0).type=30:=by rw[fld,jar,underlying113];rfl
@[go_sem] theorem kgq:jar prog 113 1=some (fld prog 113 1):=by rw[fld,jar,underlying113];rfl
@[go_sem] theorem kgz:(fld prog 113 1).offset=1:=by rw[fld,jar,underlying113];rfl
@[go_sem] theorem kg2:(fld prog 113 1).type=30:=by rw[fld,jar,underlying113];rfl
@[go_sem] theorem ze_113:jam prog 113=some [.emp,.emp]:=by rw[jam,jw2];rfl
@[go_sem] theorem j8t:prog.info? 125=some Tryz.t125:=jao types_size (by decide) type125
@[go_sem] theorem tz_125:Tryz.t125.size=1:=rfl
@[go_sem] theorem tb_125:Tryz.t125.bytes=8:=rfl
@[go_sem] theorem sz_125:szOf prog 125=some 1:=by rw[szOf,j8t];rfl
@[go_sem] theorem ag_125:jaf prog 125=some false:=by rw[jaf,underlying125];rfl
@[go_sem] theorem j8u:prog.info? 127=some Tryz.t127:=jao types_size (by decide) type127
@[go_sem] theorem tz_127:Tryz.t127.size=1:=rfl
@[go_sem] theorem tb_127:Tryz.t127.bytes=8:=rfl
@[go_sem] theorem sz_127:szOf prog 127=some 1:=by rw[szOf,j8u];rfl
@[go_sem] theorem ag_127:jaf prog 127=some false:=by rw[jaf,underlying127];rfl
@[go_sem] theorem jw3:prog.info? 130=some Tryz.t130:=jao types_size (by decide) type130
@[go_sem] theorem tz_130:Tryz.t130.size=3:=rfl
@[go_sem] theorem tb_130:Tryz.t130.bytes=72:=rfl
@[go_sem] theorem sz_130:szOf prog 130=some 3:=by rw[szOf,jw3];rfl
@[go_sem] theorem ag_130:jaf prog 130=some true:=by rw[jaf,underlying130];rfl
@[go_sem] theorem kgr:jar prog 130 0=some { name:= "Numbers",type:=30,offset:=0,embedded:=false,tag:= "",pkgPath:= "",byteOffset:=0 }:=by rw[jar,underlying130];rfl
@[go_sem] theorem kgs:jar prog 130 1=some { name:= "Parents",type:=30,offset:=1,embedded:=false,tag:= "",pkgPath:= "",byteOffset:=24 }:=by rw[jar,underlying130];rfl
@[go_sem] theorem kgt:jar prog 130 2=some { name:= "Lows",type:=30,offset:=2,embedded:=false,tag:= "",pkgPath:= "",byteOffset:=48 }:=by rw[jar,underlying130];rfl
@[go_sem] theorem ze_130:jam prog 130=some [.emp,.emp,.emp]:=by rw[jam,jw3];rfl
@[go_sem] theorem jw4:prog.info? 132=some Tryz.t132:=jao types_size (by decide) type132
@[go_sem] theorem tz_132:Tryz.t132.size=1:=rfl
@[go_sem] theorem tb_132:Tryz.t132.bytes=24:=rfl
@[go_sem] theorem sz_132:szOf prog 132=some 1:=by rw[szOf,jw4];rfl
@[go_sem] theorem ag_132:jaf prog 132=some false:=by rw[jaf,underlying132];rfl
@[go_sem] theorem el_132:jcj prog 132=some 134:=by rw[jcj,underlying132]
@[go_sem] theorem ze_132:jam prog 132=some [.emp]:=by rw[jam,jw4];rfl
@[go_sem] theorem jw5:prog.info? 134=some Tryz.t134:=jao types_size (by decide) type134
@[go_sem] theorem tz_134:Tryz.t134.size=2:=rfl
@[go_sem] theorem tb_134:Tryz.t134.bytes=16:=rfl
@[go_sem] theorem sz_134:szOf prog 134=some 2:=by rw[szOf,jw5];rfl
@[go_sem] theorem ag_134:jaf prog 134=some true:=by rw[jaf,underlying134];rfl
@[go_sem] theorem ze_134:jam prog 134=some [(.v (.int .i64 0)),(.v (.int .i64 0))]:=by rw[jam,jw5];rfl
@[go_sem] theorem jw6:prog.info? 136=some Tryz.t136:=jao types_size (by decide) type136
@[go_sem] theorem tz_136:Tryz.t136.size=16:=rfl
@[go_sem] theorem tb_136:Tryz.t136.bytes=16:=rfl
@[go_sem] theorem sz_136:szOf prog 136=some 16:=by rw[szOf,jw6];rfl
@[go_sem] theorem ag_136:jaf prog 136=some true:=by rw[jaf,underlying136];rfl
@[go_sem] theorem ze_136:jam prog 136=some (zB 16):=by rw[jam,jw6];rfl
@[go_sem] theorem jw7:prog.info? 138=some Tryz.t138:=jao types_size (by decide) type138
@[go_sem] theorem tz_138:Tryz.t138.size=256:=rfl
@[go_sem] theorem tb_138:Tryz.t138.bytes=256:=rfl
@[go_sem] theorem sz_138:szOf prog 138=some 256:=by rw[szOf,jw7];rfl
@[go_sem] theorem ag_138:jaf prog 138=some true:=by rw[jaf,underlying138];rfl
@[go_sem] theorem ze_138:jam prog 138=some (zB 256):=by rw[jam,jw7];rfl
@[go_sem] theorem j8v:prog.info? 143=some Tryz.t143:=jao types_size (by decide) type143
@[go_sem] theorem tz_143:Tryz.t143.size=1:=rfl
@[go_sem] theorem tb_143:Tryz.t143.bytes=16:=rfl
@[go_sem] theorem sz_143:szOf prog 143=some 1:=by rw[szOf,j8v];rfl
@[go_sem] theorem ag_143:jaf prog 143=some false:=by rw[jaf,underlying143];rfl
@[go_sem] theorem j8w:prog.info? 151=some Tryz.t151:=jao types_size (by decide) type151
@[go_sem] theorem tz_151:Tryz.t151.size=1:=rfl
@[go_sem] theorem tb_151:Tryz.t151.bytes=8:=rfl
@[go_sem] theorem sz_151:szOf prog 151=some 1:=by rw[szOf,j8w];rfl
@[go_sem] theorem ag_151:jaf prog 151=some false:=by rw[jaf,underlying151];rfl
@[go_sem] theorem jw8:prog.info? 176=some Tryz.t176:=jao types_size (by decide) type176
@[go_sem] theorem tz_176:Tryz.t176.size=1:=rfl
@[go_sem] theorem tb_176:Tryz.t176.bytes=8:=rfl
@[go_sem] theorem sz_176:szOf prog 176=some 1:=by rw[szOf,jw8];rfl
@[go_sem] theorem ag_176:jaf prog 176=some false:=by rw[jaf,underlying176];rfl
@[go_sem] theorem ze_176:jam prog 176=some [(.v (.int .u64 0))]:=by rw[jam,jw8];rfl
@[go_sem] theorem j8x:prog.info? 177=some Tryz.t177:=jao types_size (by decide) type177
@[go_sem] theorem tz_177:Tryz.t177.size=1:=rfl
@[go_sem] theorem tb_177:Tryz.t177.bytes=8:=rfl
@[go_sem] theorem sz_177:szOf prog 177=some 1:=by rw[szOf,j8x];rfl
@[go_sem] theorem ag_177:jaf prog 177=some false:=by rw[jaf,underlying177];rfl
@[go_sem] theorem jw9:prog.info? 204=some Tryz.t204:=jao types_size (by decide) type204
@[go_sem] theorem tz_204:Tryz.t204.size=1:=rfl
@[go_sem] theorem tb_204:Tryz.t204.bytes=4:=rfl
@[go_sem] theorem sz_204:szOf prog 204=some 1:=by rw[szOf,jw9];rfl
@[go_sem] theorem ag_204:jaf prog 204=some false:=by rw[jaf,underlying204];rfl
@[go_sem] theorem ze_204:jam prog 204=some [(.v (.int .u32 0))]:=by rw[jam,jw9];rfl
@[go_sem] theorem jxa:prog.info? 211=some Tryz.t211:=jao types_size (by decide) type211
@[go_sem] theorem tz_211:Tryz.t211.size=1:=rfl
@[go_sem] theorem tb_211:Tryz.t211.bytes=8:=rfl
@[go_sem] theorem sz_211:szOf prog 211=some 1:=by rw[szOf,jxa];rfl
@[go_sem] theorem ag_211:jaf prog 211=some false:=by rw[jaf,underlying211];rfl
@[go_sem] theorem ze_211:jam prog 211=some [(.v (.pointer none))]:=by rw[jam,jxa];rfl
@[go_sem] theorem jxb:prog.info? 227=some Tryz.t227:=jao types_size (by decide) type227
@[go_sem] theorem tz_227:Tryz.t227.size=24:=rfl
@[go_sem] theorem tb_227:Tryz.t227.bytes=24:=rfl
@[go_sem] theorem sz_227:szOf prog 227=some 24:=by rw[szOf,jxb];rfl
@[go_sem] theorem ag_227:jaf prog 227=some true:=by rw[jaf,underlying227];rfl
@[go_sem] theorem ze_227:jam prog 227=some [(.v (.int .u8 0)),(.v (.int .u8 0)),(.v (.int .u8 0)),(.v (.int .u8 0)),(.v (.int .u8 0)),(.v (.int .u8 0)),(.v (.int .u8 0)),(.v (.int .u8 0)),(.v (.int .u8 0)),(.v (.int .u8 0)),(.v (.int .u8 0)),(.v (.int .u8 0)),(.v (.int .u8 0)),(.v (.int .u8 0)),(.v (.int .u8 0)),(.v (.int .u8 0)),(.v (.int .u8 0)),(.v (.int .u8 0)),(.v (.int .u8 0)),(.v (.int .u8 0)),(.v (.int .u8 0)),(.v (.int .u8 0)),(.v (.int .u8 0)),(.v (.int .u8 0))]:=by rw[jam,jxb];rfl
@[go_sem] theorem jxc:prog.info? 228=some Tryz.t228:=jao types_size (by decide) type228
@[go_sem] theorem tz_228:Tryz.t228.size=1:=rfl
@[go_sem] theorem tb_228:Tryz.t228.bytes=8:=rfl
@[go_sem] theorem sz_228:szOf prog 228=some 1:=by rw[szOf,jxc];rfl
@[go_sem] theorem ag_228:jaf prog 228=some false:=by rw[jaf,underlying228];rfl
@[go_sem] theorem ze_228:jam prog 228=some [(.v (.int .u64 0))]:=by rw[jam,jxc];rfl
@[go_sem] theorem j8y:prog.info? 237=some Tryz.t237:=jao types_size (by decide) type237
@[go_sem] theorem tz_237:Tryz.t237.size=3:=rfl
@[go_sem] theorem tb_237:Tryz.t237.bytes=48:=rfl
@[go_sem] theorem sz_237:szOf prog 237=some 3:=by rw[szOf,j8y];rfl
@[go_sem] theorem ag_237:jaf prog 237=some true:=by rw[jaf,underlying237];rfl
@[go_sem] theorem kgu:jar prog 237 0=some { name:= "Func",type:=9,offset:=0,embedded:=false,tag:= "",pkgPath:= "",byteOffset:=0 }:=by rw[jar,underlying237];rfl
@[go_sem] theorem kgv:jar prog 237 1=some { name:= "Num",type:=9,offset:=1,embedded:=false,tag:= "",pkgPath:= "",byteOffset:=16 }:=by rw[jar,underlying237];rfl
@[go_sem] theorem kgw:jar prog 237 2=some { name:= "Err",type:=143,offset:=2,embedded:=false,tag:= "",pkgPath:= "",byteOffset:=32 }:=by rw[jar,underlying237];rfl
@[go_sem] theorem jxd:prog.info? 244=some Tryz.t244:=jao types_size (by decide) type244
@[go_sem] theorem tz_244:Tryz.t244.size=1:=rfl
@[go_sem] theorem tb_244:Tryz.t244.bytes=8:=rfl
@[go_sem] theorem sz_244:szOf prog 244=some 1:=by rw[szOf,jxd];rfl
@[go_sem] theorem ag_244:jaf prog 244=some false:=by rw[jaf,underlying244];rfl
@[go_sem] theorem ze_244:jam prog 244=some [(.v (.int .i64 0))]:=by rw[jam,jxd];rfl
@[go_sem] theorem jxe:prog.info? 253=some Tryz.t253:=jao types_size (by decide) type253
@[go_sem] theorem tz_253:Tryz.t253.size=20:=rfl
@[go_sem] theorem tb_253:Tryz.t253.bytes=160:=rfl
@[go_sem] theorem sz_253:szOf prog 253=some 20:=by rw[szOf,jxe];rfl
@[go_sem] theorem ag_253:jaf prog 253=some true:=by rw[jaf,underlying253];rfl
@[go_sem] theorem ze_253:jam prog 253=some [(.v (.int .u64 0)),(.v (.int .u64 0)),(.v (.int .u64 0)),(.v (.int .u64 0)),(.v (.int .u64 0)),(.v (.int .u64 0)),(.v (.int .u64 0)),(.v (.int .u64 0)),(.v (.int .u64 0)),(.v (.int .u64 0)),(.v (.int .u64 0)),(.v (.int .u64 0)),(.v (.int .u64 0)),(.v (.int .u64 0)),(.v (.int .u64 0)),(.v (.int .u64 0)),(.v (.int .u64 0)),(.v (.int .u64 0)),(.v (.int .u64 0)),(.v (.int .u64 0))]:=by rw[jam,jxe];rfl
@[go_sem] theorem jxf:prog.info? 254=some Tryz.t254:=jao types_size (by decide) type254
@[go_sem] theorem tz_254:Tryz.t254.size=65:=rfl
@[go_sem] theorem tb_254:Tryz.t254.bytes=65:=rfl
@[go_sem] theorem sz_254:szOf prog 254=some 65:=by rw[szOf,jxf];rfl
@[go_sem] theorem ag_254:jaf prog 254=some true:=by rw[jaf,underlying254];rfl
@[go_sem] theorem ze_254:jam prog 254=some [(.v (.int .u8 0)),(.v (.int .u8 0)),(.v (.int .u8 0)),(.v (.int .u8 0)),(.v (.int .u8 0)),(.v (.int .u8 0)),(.v (.int .u8 0)),(.v (.int .u8 0)),(.v (.int .u8 0)),(.v (.int .u8 0)),(.v (.int .u8 0)),(.v (.int .u8 0)),(.v (.int .u8 0)),(.v (.int .u8 0)),(.v (.int .u8 0)),(.v (.int .u8 0)),(.v (.int .u8 0)),(.v (.int .u8 0)),(.v (.int .u8 0)),(.v (.int .u8 0)),(.v (.int .u8 0)),(.v (.int .u8 0)),(.v (.int .u8 0)),(.v (.int .u8 0)),(.v (.int .u8 0)),(.v (.int .u8 0)),(.v (.int .u8 0)),(.v (.int .u8 0)),(.v (.int .u8 0)),(.v (.int .u8 0)),(.v (.int .u8 0)),(.v (.int .u8 0)),(.v (.int .u8 0)),(.v (.int .u8 0)),(.v (.int .u8 0)),(.v (.int .u8 0)),(.v (.int .u8 0)),(.v (.int .u8 0)),(.v (.int .u8 0)),(.v (.int .u8 0)),(.v (.int .u8 0)),(.v (.int .u8 0)),(.v (.int .u8 0)),(.v (.int .u8 0)),(.v (.int .u8 0)),(.v (.int .u8 0)),(.v (.int .u8 0)),(.v (.int .u8 0)),(.v (.int .u8 0)),(.v (.int .u8 0)),(.v (.int .u8 0)),(.v (.int .u8 0)),(.v (.int .u8 0)),(.v (.int .u8 0)),(.v (.int .u8 0)),(.v (.int .u8 0)),(.v (.int .u8 0)),(.v (.int .u8 0)),(.v (.int .u8 0)),(.v (.int .u8 0)),(.v (.int .u8 0)),(.v (.int .u8 0)),(.v (.int .u8 0)),(.v (.int .u8 0)),(.v (.int .u8 0))]:=by rw[jam,jxf];rfl
@[go_sem] theorem jxg:prog.info? 256=some Tryz.t256:=jao types_size (by decide) type256
@[go_sem] theorem tz_256:Tryz.t256.size=1:=rfl
@[go_sem] theorem tb_256:Tryz.t256.bytes=8:=rfl
@[go_sem] theorem sz_256:szOf prog 256=some 1:=by rw[szOf,jxg];rfl
@[go_sem] theorem ag_256:jaf prog 256=some false:=by rw[jaf,underlying256];rfl
@[go_sem] theorem ze_256:jam prog 256=some [(.v (.pointer none))]:=by rw[jam,jxg];rfl
@[go_sem] theorem jxh:prog.info? 259=some Tryz.t259:=jao types_size (by decide) type259
@[go_sem] theorem tz_259:Tryz.t259.size=1:=rfl
@[go_sem] theorem tb_259:Tryz.t259.bytes=16:=rfl
@[go_sem] theorem sz_259:szOf prog 259=some 1:=by rw[szOf,jxh];rfl
@[go_sem] theorem ag_259:jaf prog 259=some true:=by rw[jaf,underlying259];rfl
@[go_sem] theorem kgx:jar prog 259 0=some (fld prog 259 0):=by rw[fld,jar,underlying259];rfl
@[go_sem] theorem kg0:(fld prog 259 0).offset=0:=by rw[fld,jar,underlying259];rfl
@[go_sem] theorem kg3:(fld prog 259 0).type=9:=by rw[fld,jar,underlying259];rfl
@[go_sem] theorem ze_259:jam prog 259=some [(.v (.string ⟨#[]⟩))]:=by rw[jam,jxh];rfl
@[go_sem] theorem jxi:prog.info? 261=some Tryz.t261:=jao types_size (by decide) type261
@[go_sem] theorem tz_261:Tryz.t261.size=1:=rfl
@[go_sem] theorem tb_261:Tryz.t261.bytes=8:=rfl
@[go_sem] theorem sz_261:szOf prog 261=some 1:=by rw[szOf,jxi];rfl
@[go_sem] theorem ag_261:jaf prog 261=some false:=by rw[jaf,underlying261];rfl
@[go_sem] theorem ze_261:jam prog 261=some [(.v (.int .u64 0))]:=by rw[jam,jxi];rfl
@[go_sem] theorem jxj:prog.info? 265=some Tryz.t265:=jao types_size (by decide) type265
@[go_sem] theorem tz_265:Tryz.t265.size=1:=rfl
@[go_sem] theorem tb_265:Tryz.t265.bytes=8:=rfl
@[go_sem] theorem sz_265:szOf prog 265=some 1:=by rw[szOf,jxj];rfl
@[go_sem] theorem ag_265:jaf prog 265=some false:=by rw[jaf,underlying265];rfl
@[go_sem] theorem ze_265:jam prog 265=some [(.v (.pointer none))]:=by rw[jam,jxj];rfl
@[go_sem] theorem jxk:prog.info? 270=some Tryz.t270:=jao types_size (by decide) type270
@[go_sem] theorem tz_270:Tryz.t270.size=32:=rfl
@[go_sem] theorem tb_270:Tryz.t270.bytes=32:=rfl
@[go_sem] theorem sz_270:szOf prog 270=some 32:=by rw[szOf,jxk];rfl
@[go_sem] theorem ag_270:jaf prog 270=some true:=by rw[jaf,underlying270];rfl
@[go_sem] theorem ze_270:jam prog 270=some [(.v (.int .u8 0)),(.v (.int .u8 0)),(.v (.int .u8 0)),(.v (.int .u8 0)),(.v (.int .u8 0)),(.v (.int .u8 0)),(.v (.int .u8 0)),(.v (.int .u8 0)),(.v (.int .u8 0)),(.v (.int .u8 0)),(.v (.int .u8 0)),(.v (.int .u8 0)),(.v (.int .u8 0)),(.v (.int .u8 0)),(.v (.int .u8 0)),(.v (.int .u8 0)),(.v (.int .u8 0)),(.v (.int .u8 0)),(.v (.int .u8 0)),(.v (.int .u8 0)),(.v (.int .u8 0)),(.v (.int .u8 0)),(.v (.int .u8 0)),(.v (.int .u8 0)),(.v (.int .u8 0)),(.v (.int .u8 0)),(.v (.int .u8 0)),(.v (.int .u8 0)),(.v (.int .u8 0)),(.v (.int .u8 0)),(.v (.int .u8 0)),(.v (.int .u8 0))]:=by rw[jam,jxk];rfl
@[go_sem] theorem jxl:prog.info? 271=some Tryz.t271:=jao types_size (by decide) type271
@[go_sem] theorem tz_271:Tryz.t271.size=64:=rfl
@[go_sem] theorem tb_271:Tryz.t271.bytes=64:=rfl
@[go_sem] theorem sz_271:szOf prog 271=some 64:=by rw[szOf,jxl];rfl
@[go_sem] theorem ag_271:jaf prog 271=some true:=by rw[jaf,underlying271];rfl
@[go_sem] theorem ze_271:jam prog 271=some [(.v (.int .u8 0)),(.v (.int .u8 0)),(.v (.int .u8 0)),(.v (.int .u8 0)),(.v (.int .u8 0)),(.v (.int .u8 0)),(.v (.int .u8 0)),(.v (.int .u8 0)),(.v (.int .u8 0)),(.v (.int .u8 0)),(.v (.int .u8 0)),(.v (.int .u8 0)),(.v (.int .u8 0)),(.v (.int .u8 0)),(.v (.int .u8 0)),(.v (.int .u8 0)),(.v (.int .u8 0)),(.v (.int .u8 0)),(.v (.int .u8 0)),(.v (.int .u8 0)),(.v (.int .u8 0)),(.v (.int .u8 0)),(.v (.int .u8 0)),(.v (.int .u8 0)),(.v (.int .u8 0)),(.v (.int .u8 0)),(.v (.int .u8 0)),(.v (.int .u8 0)),(.v (.int .u8 0)),(.v (.int .u8 0)),(.v (.int .u8 0)),(.v (.int .u8 0)),(.v (.int .u8 0)),(.v (.int .u8 0)),(.v (.int .u8 0)),(.v (.int .u8 0)),(.v (.int .u8 0)),(.v (.int .u8 0)),(.v (.int .u8 0)),(.v (.int .u8 0)),(.v (.int .u8 0)),(.v (.int .u8 0)),(.v (.int .u8 0)),(.v (.int .u8 0)),(.v (.int .u8 0)),(.v (.int .u8 0)),(.v (.int .u8 0)),(.v (.int .u8 0)),(.v (.int .u8 0)),(.v (.int .u8 0)),(.v (.int .u8 0)),(.v (.int .u8 0)),(.v (.int .u8 0)),(.v (.int .u8 0)),(.v (.int .u8 0)),(.v (.int .u8 0)),(.v (.int .u8 0)),(.v (.int .u8 0)),(.v (.int .u8 0)),(.v (.int .u8 0)),(.v (.int .u8 0)),(.v (.int .u8 0)),(.v (.int .u8 0)),(.v (.int .u8 0))]:=by rw[jam,jxl];rfl
def mutL:List Nat:=[12,14,17,18,19,20,25,26,28,32,101,132,134,143,144,145,188,197,207,209,225,240,252,273,276,297]
def ownL:List (Nat×Nat):=[(3,11),(7,9),(32,8),(74,30),(74,36),(76,21),(80,36),(80,43),(97,33),(103,30),(103,54),(118,7),(130,29),(147,13),(153,16),(166,15),(166,19),(167,17),(169,25),(185,9),(216,5)]
def j86:List IV→Int
 | [.v (.int _ n)]=>n
 | _=>0
def kd6 (xs:List (List IV)):List (List IV):=xs.mergeSort fun a b=>decide (j86 a≤j86 b)
def j4z:List IV→Bool
 | [.v (.int .i64 _)]=>true
 | _=>false
def jrb:List PV→List Arr→Option (PV×List Arr×List Arr)
 | [.i (.lst [])],[]=>some (.i .emp,[],[])
 | [.i .emp],[]=>some (.i .emp,[],[])
 | _,_=>none
def kab:List PV→List Arr→Option (PV×List Arr×List Arr)
 | [.ref 1000 0 0 n],[.arr 0 1 xs]=>if n=xs.length∧n≤4000000∧xs.all j4z=true then some (.tup [],[.arr 0 1 (kd6 xs)],[]) else none
 | [.i .emp],[]=>some (.tup [],[],[])
 | _,_=>none
def mulP:List PV→List Arr→Option (PV×List Arr×List Arr)
 | [.i (.v (.int .u64 a)),.i (.v (.int .u64 b))],[]=>
  if 0≤a∧a<18446744073709551616∧0≤b∧b<18446744073709551616 then some (.tup [.i (.v (.int .u64 (a*b / 18446744073709551616))),.i (.v (.int .u64 (a*b % 18446744073709551616)))],[],[]) else none
 | _,_=>none
def insP (k:Nat):List PV→List Arr→Option (PV×List Arr×List Arr)
 | [.ref 1000 0 0 n,.i (.v (.int .i64 i)),.ref 1001 0 0 1],[.arr 0 k1 xs,.arr 0 k2 [x]]=>
  if(k1=k∧k2=k∧n=xs.length∧0≤i∧i<n∧n≤1000000)∧x.length=k then some (.ref 1000 1 0 (n+1),[.arr 1 k (xs.take i.toNat++x::xs.drop i.toNat),.arr 0 k [x]],[]) else none
 | _,_=>none
def keyE:List IV→Int×Int
 | [.v (.int _ a),.v (.int _ b)]=>(a,b)
 | _=>(0,0)
def isEd:List IV→Bool
 | [.v (.int .i64 _),.v (.int .i64 _)]=>true
 | _=>false
def leE (a b:Int×Int):Bool:=decide (a.1<b.1∨(a.1=b.1∧a.2≤b.2))
def kh8 (xs:List (List IV)):List (List IV):=xs.mergeSort fun a b=>leE (keyE a) (keyE b)
def sortFP (c:FuncId):List PV→List Arr→Option (PV×List Arr×List Arr)
 | [.ref 1000 0 0 n,.fn f [] []],[.arr 0 2 xs]=>if f=c∧n=xs.length∧n≤4000000∧xs.all isEd=true then some (.tup [],[.arr 0 2 (kh8 xs)],[]) else none
 | [.i .emp,.fn f [] []],[]=>if f=c then some (.tup [],[],[]) else none
 | _,_=>none
abbrev S (l:List UInt8):PV:=.i (.v (.string ⟨l.toArray⟩))
def dec2 (n:Nat):List UInt8:=if n<10 then [UInt8.ofNat (48+n)] else [UInt8.ofNat (48+n / 10),UInt8.ofNat (48+n % 10)]
def kfy:List PV→List Arr→Option (PV×List Arr×List Arr)
 | [.i (.v (.int .i64 n))],[]=>if 0≤n∧n<100 then some (S (dec2 n.toNat),[],[]) else none
 | _,_=>none
def keu:List PV→List Arr→Option (PV×List Arr×List Arr)
 | [.i (.v (.string s))],[]=>if s.size≤18 then(Lib.atoi s.data.toList).map fun n=>(.tup [I n,.i (.v .nilIface)],[],[]) else none
 | _,_=>none
def j82:List PV→List Arr→Option (PV×List Arr×List Arr)
 | [.i (.v (.int .i64 n))],[]=>if -9223372036854775808≤n∧n≤9223372036854775807 then some (S (Lib.itoa n),[],[]) else none
 | _,_=>none
def jiw (l:List UInt8):PV:=
 match Lib.atoiAll l with
 | .ok v=>.tup [I v,.i (.v .nilIface)]
 | .range=>.tup [I (Lib.atoiSat l),.i .err]
 | _=>.tup [I 0,.i .err]
def kbm:List PV→List Arr→Option (PV×List Arr×List Arr)
 | [.i (.v (.string s))],[]=>if s.size≤1048576 then some (jiw s.data.toList,[],[]) else none
 | _,_=>none
def idxP:List PV→List Arr→Option (PV×List Arr×List Arr)
 | [.i (.v (.string s)),.i (.v (.int .u8 c))],[]=>some (I (Lib.indexByte s.data.toList c.toNat.toUInt8),[],[])
 | _,_=>none
def cntP:List PV→List Arr→Option (PV×List Arr×List Arr)
 | [.i (.v (.string s)),.i (.v (.string ⟨⟨[c]⟩⟩))],[]=>some (I (Lib.countByte s.data.toList c),[],[])
 | _,_=>none
def cfg:Cfg where
 mutF f:=mutL.contains f
 own me d:=ownL.contains (me,d)
 prim f:=if f=57 then some (cntP) else if f=113 then some (j82) else if f=129 then some (kbm) else if f=132 then some (insP 1) else if f=133 then some (jrb) else if f=134 then some (insP 1) else if f=135 then some (jrb) else if f=177 then some (idxP) else if f=197 then some (insP 2) else if f=198 then some (jrb) else if f=207 then some (kab) else if f=236 then some (mulP) else none
 give me d:=if me=174 then(d == 14) else false
theorem zza(d:Nat):cfg.give 3 d=false:=rfl
theorem zzb(d:Nat):cfg.give 4 d=false:=rfl
theorem zzc(d:Nat):cfg.give 5 d=false:=rfl
theorem zzd(d:Nat):cfg.give 6 d=false:=rfl
theorem zze(d:Nat):cfg.give 7 d=false:=rfl
theorem zzf(d:Nat):cfg.give 8 d=false:=rfl
theorem zzg(d:Nat):cfg.give 9 d=false:=rfl
theorem zzh(d:Nat):cfg.give 10 d=false:=rfl
theorem zzi(d:Nat):cfg.give 11 d=false:=rfl
theorem zzj(d:Nat):cfg.give 12 d=false:=rfl
theorem zzk(d:Nat):cfg.give 13 d=false:=rfl
theorem zzl(d:Nat):cfg.give 14 d=false:=rfl
theorem zzm(d:Nat):cfg.give 15 d=false:=rfl
theorem zzn(d:Nat):cfg.give 16 d=false:=rfl
theorem zzo(d:Nat):cfg.give 17 d=false:=rfl
theorem zzp(d:Nat):cfg.give 18 d=false:=rfl
theorem zzq(d:Nat):cfg.give 19 d=false:=rfl
theorem zzr(d:Nat):cfg.give 20 d=false:=rfl
theorem zzs(d:Nat):cfg.give 21 d=false:=rfl
theorem zzt(d:Nat):cfg.give 22 d=false:=rfl
theorem zzu(d:Nat):cfg.give 23 d=false:=rfl
theorem zzv(d:Nat):cfg.give 24 d=false:=rfl
theorem zzw(d:Nat):cfg.give 25 d=false:=rfl
theorem zzx(d:Nat):cfg.give 26 d=false:=rfl
theorem zzy(d:Nat):cfg.give 27 d=false:=rfl
theorem zzz(d:Nat):cfg.give 28 d=false:=rfl
theorem zzaa(d:Nat):cfg.give 29 d=false:=rfl
theorem zzab(d:Nat):cfg.give 30 d=false:=rfl
theorem zzac(d:Nat):cfg.give 31 d=false:=rfl
theorem zzad(d:Nat):cfg.give 32 d=false:=rfl
theorem zzae(d:Nat):cfg.give 33 d=false:=rfl
theorem zzaf(d:Nat):cfg.give 34 d=false:=rfl
theorem zzag(d:Nat):cfg.give 35 d=false:=rfl
theorem zzah(d:Nat):cfg.give 36 d=false:=rfl
theorem zzai(d:Nat):cfg.give 37 d=false:=rfl
theorem zzaj(d:Nat):cfg.give 38 d=false:=rfl
theorem zzak(d:Nat):cfg.give 39 d=false:=rfl
theorem zzal(d:Nat):cfg.give 40 d=false:=rfl
theorem zzam(d:Nat):cfg.give 41 d=false:=rfl
theorem zzan(d:Nat):cfg.give 42 d=false:=rfl
theorem zzao(d:Nat):cfg.give 43 d=false:=rfl
theorem zzap(d:Nat):cfg.give 44 d=false:=rfl
theorem zzaq(d:Nat):cfg.give 45 d=false:=rfl
theorem zzar(d:Nat):cfg.give 46 d=false:=rfl
theorem zzas(d:Nat):cfg.give 47 d=false:=rfl
theorem zzat(d:Nat):cfg.give 48 d=false:=rfl
theorem zzau(d:Nat):cfg.give 49 d=false:=rfl
theorem zzav(d:Nat):cfg.give 50 d=false:=rfl
theorem zzaw(d:Nat):cfg.give 51 d=false:=rfl
theorem zzax(d:Nat):cfg.give 52 d=false:=rfl
theorem zzay(d:Nat):cfg.give 53 d=false:=rfl
theorem zzaz(d:Nat):cfg.give 54 d=false:=rfl
theorem zzba(d:Nat):cfg.give 55 d=false:=rfl
theorem zzbb(d:Nat):cfg.give 58 d=false:=rfl
theorem zzbc(d:Nat):cfg.give 59 d=false:=rfl
theorem zzbd(d:Nat):cfg.give 60 d=false:=rfl
theorem zzbe(d:Nat):cfg.give 61 d=false:=rfl
theorem zzbf(d:Nat):cfg.give 62 d=false:=rfl
theorem zzbg(d:Nat):cfg.give 63 d=false:=rfl
theorem zzbh(d:Nat):cfg.give 64 d=false:=rfl
theorem zzbi(d:Nat):cfg.give 65 d=false:=rfl
theorem zzbj(d:Nat):cfg.give 66 d=false:=rfl
theorem zzbk(d:Nat):cfg.give 67 d=false:=rfl
theorem zzbl(d:Nat):cfg.give 68 d=false:=rfl
theorem zzbm(d:Nat):cfg.give 69 d=false:=rfl
theorem zzbn(d:Nat):cfg.give 70 d=false:=rfl
theorem zzbo(d:Nat):cfg.give 71 d=false:=rfl
theorem zzbp(d:Nat):cfg.give 72 d=false:=rfl
theorem zzbq(d:Nat):cfg.give 73 d=false:=rfl
theorem zzbr(d:Nat):cfg.give 74 d=false:=rfl
theorem zzbs(d:Nat):cfg.give 75 d=false:=rfl
theorem zzbt(d:Nat):cfg.give 76 d=false:=rfl
theorem zzbu(d:Nat):cfg.give 77 d=false:=rfl
theorem zzbv(d:Nat):cfg.give 78 d=false:=rfl
theorem zzbw(d:Nat):cfg.give 79 d=false:=rfl
theorem zzbx(d:Nat):cfg.give 80 d=false:=rfl
theorem zzby(d:Nat):cfg.give 81 d=false:=rfl
theorem zzbz(d:Nat):cfg.give 82 d=false:=rfl
theorem zzca(d:Nat):cfg.give 83 d=false:=rfl
theorem zzcb(d:Nat):cfg.give 84 d=false:=rfl
theorem zzcc(d:Nat):cfg.give 85 d=false:=rfl
theorem zzcd(d:Nat):cfg.give 86 d=false:=rfl
theorem zzce(d:Nat):cfg.give 87 d=false:=rfl
theorem zzcf(d:Nat):cfg.give 88 d=false:=rfl
theorem zzcg(d:Nat):cfg.give 89 d=false:=rfl
theorem zzch(d:Nat):cfg.give 90 d=false:=rfl
theorem zzci(d:Nat):cfg.give 91 d=false:=rfl
theorem zzcj(d:Nat):cfg.give 92 d=false:=rfl
theorem zzck(d:Nat):cfg.give 93 d=false:=rfl
theorem zzcl(d:Nat):cfg.give 94 d=false:=rfl
theorem zzcm(d:Nat):cfg.give 95 d=false:=rfl
theorem zzcn(d:Nat):cfg.give 96 d=false:=rfl
theorem zzco(d:Nat):cfg.give 97 d=false:=rfl
theorem zzcp(d:Nat):cfg.give 98 d=false:=rfl
theorem zzcq(d:Nat):cfg.give 99 d=false:=rfl
theorem zzcr(d:Nat):cfg.give 100 d=false:=rfl
theorem zzcs(d:Nat):cfg.give 101 d=false:=rfl
theorem zzct(d:Nat):cfg.give 102 d=false:=rfl
theorem zzcu(d:Nat):cfg.give 103 d=false:=rfl
theorem zzcv(d:Nat):cfg.give 104 d=false:=rfl
theorem zzcw(d:Nat):cfg.give 105 d=false:=rfl
theorem zzcx(d:Nat):cfg.give 106 d=false:=rfl
theorem zzcy(d:Nat):cfg.give 107 d=false:=rfl
theorem zzcz(d:Nat):cfg.give 111 d=false:=rfl
theorem zzda(d:Nat):cfg.give 112 d=false:=rfl
theorem zzdb(d:Nat):cfg.give 114 d=false:=rfl
theorem zzdc(d:Nat):cfg.give 115 d=false:=rfl
theorem zzdd(d:Nat):cfg.give 116 d=false:=rfl
theorem zzde(d:Nat):cfg.give 117 d=false:=rfl
theorem zzdf(d:Nat):cfg.give 118 d=false:=rfl
theorem zzdg(d:Nat):cfg.give 119 d=false:=rfl
theorem zzdh(d:Nat):cfg.give 120 d=false:=rfl
theorem zzdi(d:Nat):cfg.give 121 d=false:=rfl
theorem zzdj(d:Nat):cfg.give 122 d=false:=rfl
theorem zzdk(d:Nat):cfg.give 123 d=false:=rfl
theorem zzdl(d:Nat):cfg.give 124 d=false:=rfl
theorem zzdm(d:Nat):cfg.give 125 d=false:=rfl
theorem zzdn(d:Nat):cfg.give 126 d=false:=rfl
theorem zzdo(d:Nat):cfg.give 127 d=false:=rfl
theorem zzdp(d:Nat):cfg.give 128 d=false:=rfl
theorem zzdq(d:Nat):cfg.give 130 d=false:=rfl
theorem zzdr(d:Nat):cfg.give 131 d=false:=rfl
theorem zzds(d:Nat):cfg.give 132 d=false:=rfl
theorem zzdt(d:Nat):cfg.give 133 d=false:=rfl
theorem zzdu(d:Nat):cfg.give 134 d=false:=rfl
theorem zzdv(d:Nat):cfg.give 135 d=false:=rfl
theorem zzdw(d:Nat):cfg.give 136 d=false:=rfl
theorem zzdx(d:Nat):cfg.give 137 d=false:=rfl
theorem zzdy(d:Nat):cfg.give 138 d=false:=rfl
theorem zzdz(d:Nat):cfg.give 139 d=false:=rfl
theorem zzea(d:Nat):cfg.give 140 d=false:=rfl
theorem zzeb(d:Nat):cfg.give 141 d=false:=rfl
theorem zzec(d:Nat):cfg.give 142 d=false:=rfl
theorem zzed(d:Nat):cfg.give 143 d=false:=rfl
theorem zzee(d:Nat):cfg.give 144 d=false:=rfl
theorem zzef(d:Nat):cfg.give 145 d=false:=rfl
theorem zzeg(d:Nat):cfg.give 146 d=false:=rfl
theorem zzeh(d:Nat):cfg.give 147 d=false:=rfl
theorem zzei(d:Nat):cfg.give 148 d=false:=rfl
theorem zzej(d:Nat):cfg.give 149 d=false:=rfl
theorem zzek(d:Nat):cfg.give 150 d=false:=rfl
theorem zzel(d:Nat):cfg.give 151 d=false:=rfl
theorem zzem(d:Nat):cfg.give 152 d=false:=rfl
theorem zzen(d:Nat):cfg.give 153 d=false:=rfl
theorem zzeo(d:Nat):cfg.give 154 d=false:=rfl
theorem zzep(d:Nat):cfg.give 155 d=false:=rfl
theorem zzeq(d:Nat):cfg.give 156 d=false:=rfl
theorem zzer(d:Nat):cfg.give 157 d=false:=rfl
theorem zzes(d:Nat):cfg.give 158 d=false:=rfl
theorem zzet(d:Nat):cfg.give 159 d=false:=rfl
theorem zzeu(d:Nat):cfg.give 160 d=false:=rfl
theorem zzev(d:Nat):cfg.give 161 d=false:=rfl
theorem zzew(d:Nat):cfg.give 162 d=false:=rfl
theorem zzex(d:Nat):cfg.give 163 d=false:=rfl
theorem zzey(d:Nat):cfg.give 164 d=false:=rfl
theorem zzez(d:Nat):cfg.give 165 d=false:=rfl
theorem zzfa(d:Nat):cfg.give 166 d=false:=rfl
theorem zzfb(d:Nat):cfg.give 167 d=false:=rfl
theorem zzfc(d:Nat):cfg.give 168 d=false:=rfl
theorem zzfd(d:Nat):cfg.give 169 d=false:=rfl
theorem zzfe(d:Nat):cfg.give 170 d=false:=rfl
theorem zzff(d:Nat):cfg.give 171 d=false:=rfl
theorem zzfg(d:Nat):cfg.give 172 d=false:=rfl
theorem zzfh(d:Nat):cfg.give 173 d=false:=rfl
theorem zzfi(d:Nat):cfg.give 174 d=(d == 14):=rfl
theorem zzfj(d:Nat):cfg.give 175 d=false:=rfl
theorem zzfk(d:Nat):cfg.give 181 d=false:=rfl
theorem zzfl(d:Nat):cfg.give 183 d=false:=rfl
theorem zzfm(d:Nat):cfg.give 184 d=false:=rfl
theorem zzfn(d:Nat):cfg.give 185 d=false:=rfl
theorem zzfo(d:Nat):cfg.give 186 d=false:=rfl
theorem zzfp(d:Nat):cfg.give 187 d=false:=rfl
theorem zzfq(d:Nat):cfg.give 188 d=false:=rfl
theorem zzfr(d:Nat):cfg.give 189 d=false:=rfl
theorem zzfs(d:Nat):cfg.give 190 d=false:=rfl
theorem zzft(d:Nat):cfg.give 191 d=false:=rfl
theorem zzfu(d:Nat):cfg.give 192 d=false:=rfl
theorem zzfv(d:Nat):cfg.give 193 d=false:=rfl
theorem zzfw(d:Nat):cfg.give 196 d=false:=rfl
theorem zzfx(d:Nat):cfg.give 197 d=false:=rfl
theorem zzfy(d:Nat):cfg.give 198 d=false:=rfl
theorem zzfz(d:Nat):cfg.give 203 d=false:=rfl
theorem zzga(d:Nat):cfg.give 204 d=false:=rfl
theorem zzgb(d:Nat):cfg.give 205 d=false:=rfl
theorem zzgc(d:Nat):cfg.give 206 d=false:=rfl
theorem zzgd(d:Nat):cfg.give 208 d=false:=rfl
theorem zzge(d:Nat):cfg.give 209 d=false:=rfl
theorem zzgf(d:Nat):cfg.give 210 d=false:=rfl
theorem zzgg(d:Nat):cfg.give 211 d=false:=rfl
theorem zzgh(d:Nat):cfg.give 212 d=false:=rfl
theorem zzgi(d:Nat):cfg.give 213 d=false:=rfl
theorem zzgj(d:Nat):cfg.give 214 d=false:=rfl
theorem zzgk(d:Nat):cfg.give 215 d=false:=rfl
theorem zzgl(d:Nat):cfg.give 216 d=false:=rfl
theorem zzgm(d:Nat):cfg.give 217 d=false:=rfl
theorem zzgn(d:Nat):cfg.give 218 d=false:=rfl
theorem zzgo(d:Nat):cfg.give 221 d=false:=rfl
theorem zzgp(d:Nat):cfg.give 222 d=false:=rfl
theorem zzgq(d:Nat):cfg.give 224 d=false:=rfl
theorem zzgr(d:Nat):cfg.give 225 d=false:=rfl
theorem zzgs(d:Nat):cfg.give 226 d=false:=rfl
theorem zzgt(d:Nat):cfg.give 239 d=false:=rfl
theorem zzgu(d:Nat):cfg.give 240 d=false:=rfl
theorem zzgv(d:Nat):cfg.give 241 d=false:=rfl
theorem zzgw(d:Nat):cfg.give 242 d=false:=rfl
theorem zzgx(d:Nat):cfg.give 247 d=false:=rfl
theorem zzgy(d:Nat):cfg.give 266 d=false:=rfl
theorem zzgz:cfg.mutF 3=false:=rfl
theorem zzha:cfg.mutF 4=false:=rfl
theorem zzhb:cfg.mutF 5=false:=rfl
theorem zzhc:cfg.mutF 6=false:=rfl
theorem zzhd:cfg.mutF 7=false:=rfl
theorem zzhe:cfg.mutF 8=false:=rfl
theorem zzhf:cfg.mutF 9=false:=rfl
theorem zzhg:cfg.mutF 10=false:=rfl
theorem zzhh:cfg.mutF 11=false:=rfl
theorem zzhi:cfg.mutF 12=true:=rfl
theorem zzhj:cfg.mutF 13=false:=rfl
theorem zzhk:cfg.mutF 14=true:=rfl
theorem zzhl:cfg.mutF 15=false:=rfl
theorem zzhm:cfg.mutF 16=false:=rfl
theorem zzhn:cfg.mutF 17=true:=rfl
theorem zzho:cfg.mutF 18=true:=rfl
theorem zzhp:cfg.mutF 19=true:=rfl
theorem zzhq:cfg.mutF 20=true:=rfl
theorem zzhr:cfg.mutF 21=false:=rfl
theorem zzhs:cfg.mutF 22=false:=rfl
theorem zzht:cfg.mutF 23=false:=rfl
theorem zzhu:cfg.mutF 24=false:=rfl
theorem zzhv:cfg.mutF 25=true:=rfl
theorem zzhw:cfg.mutF 26=true:=rfl
theorem zzhx:cfg.mutF 27=false:=rfl
theorem zzhy:cfg.mutF 28=true:=rfl
theorem zzhz:cfg.mutF 29=false:=rfl
theorem zzia:cfg.mutF 30=false:=rfl
theorem zzib:cfg.mutF 31=false:=rfl
theorem zzic:cfg.mutF 32=true:=rfl
theorem zzid:cfg.mutF 33=false:=rfl
theorem zzie:cfg.mutF 34=false:=rfl
theorem zzif:cfg.mutF 35=false:=rfl
theorem zzig:cfg.mutF 36=false:=rfl
theorem zzih:cfg.mutF 37=false:=rfl
theorem zzii:cfg.mutF 38=false:=rfl
theorem zzij:cfg.mutF 39=false:=rfl
theorem zzik:cfg.mutF 40=false:=rfl
theorem zzil:cfg.mutF 41=false:=rfl
theorem zzim:cfg.mutF 42=false:=rfl
theorem zzin:cfg.mutF 43=false:=rfl
theorem zzio:cfg.mutF 44=false:=rfl
theorem zzip:cfg.mutF 45=false:=rfl
theorem zziq:cfg.mutF 46=false:=rfl
theorem zzir:cfg.mutF 47=false:=rfl
theorem zzis:cfg.mutF 48=false:=rfl
theorem zzit:cfg.mutF 49=false:=rfl
theorem zziu:cfg.mutF 50=false:=rfl
theorem zziv:cfg.mutF 51=false:=rfl
theorem zziw:cfg.mutF 52=false:=rfl
theorem zzix:cfg.mutF 53=false:=rfl
theorem zziy:cfg.mutF 54=false:=rfl
theorem zziz:cfg.mutF 55=false:=rfl
theorem zzja:cfg.mutF 56=false:=rfl
theorem zzjb:cfg.mutF 57=false:=rfl
theorem zzjc:cfg.mutF 58=false:=rfl
theorem zzjd:cfg.mutF 59=false:=rfl
theorem zzje:cfg.mutF 60=false:=rfl
theorem zzjf:cfg.mutF 61=false:=rfl
theorem zzjg:cfg.mutF 62=false:=rfl
theorem zzjh:cfg.mutF 63=false:=rfl
theorem zzji:cfg.mutF 64=false:=rfl
theorem zzjj:cfg.mutF 65=false:=rfl
theorem zzjk:cfg.mutF 66=false:=rfl
theorem zzjl:cfg.mutF 67=false:=rfl
theorem zzjm:cfg.mutF 68=false:=rfl
theorem zzjn:cfg.mutF 69=false:=rfl
theorem zzjo:cfg.mutF 70=false:=rfl
theorem zzjp:cfg.mutF 71=false:=rfl
theorem zzjq:cfg.mutF 72=false:=rfl
theorem zzjr:cfg.mutF 73=false:=rfl
theorem zzjs:cfg.mutF 74=false:=rfl
theorem zzjt:cfg.mutF 75=false:=rfl
theorem zzju:cfg.mutF 76=false:=rfl
theorem zzjv:cfg.mutF 77=false:=rfl
theorem zzjw:cfg.mutF 78=false:=rfl
theorem zzjx:cfg.mutF 79=false:=rfl
theorem zzjy:cfg.mutF 80=false:=rfl
theorem zzjz:cfg.mutF 81=false:=rfl
theorem zzka:cfg.mutF 82=false:=rfl
theorem zzkb:cfg.mutF 83=false:=rfl
theorem zzkc:cfg.mutF 84=false:=rfl
theorem zzkd:cfg.mutF 85=false:=rfl
theorem zzke:cfg.mutF 86=false:=rfl
theorem zzkf:cfg.mutF 87=false:=rfl
theorem zzkg:cfg.mutF 88=false:=rfl
theorem zzkh:cfg.mutF 89=false:=rfl
theorem zzki:cfg.mutF 90=false:=rfl
theorem zzkj:cfg.mutF 91=false:=rfl
theorem zzkk:cfg.mutF 92=false:=rfl
theorem zzkl:cfg.mutF 93=false:=rfl
theorem zzkm:cfg.mutF 94=false:=rfl
theorem zzkn:cfg.mutF 95=false:=rfl
theorem zzko:cfg.mutF 96=false:=rfl
theorem zzkp:cfg.mutF 97=false:=rfl
theorem zzkq:cfg.mutF 98=false:=rfl
theorem zzkr:cfg.mutF 99=false:=rfl
theorem zzks:cfg.mutF 100=false:=rfl
theorem zzkt:cfg.mutF 101=true:=rfl
theorem zzku:cfg.mutF 102=false:=rfl
theorem zzkv:cfg.mutF 103=false:=rfl
theorem zzkw:cfg.mutF 104=false:=rfl
theorem zzkx:cfg.mutF 105=false:=rfl
theorem zzky:cfg.mutF 106=false:=rfl
theorem zzkz:cfg.mutF 107=false:=rfl
theorem zzla:cfg.mutF 111=false:=rfl
theorem zzlb:cfg.mutF 112=false:=rfl
theorem zzlc:cfg.mutF 113=false:=rfl
theorem zzld:cfg.mutF 114=false:=rfl
theorem zzle:cfg.mutF 115=false:=rfl
theorem zzlf:cfg.mutF 116=false:=rfl
theorem zzlg:cfg.mutF 117=false:=rfl
theorem zzlh:cfg.mutF 118=false:=rfl
theorem zzli:cfg.mutF 119=false:=rfl
theorem zzlj:cfg.mutF 120=false:=rfl
theorem zzlk:cfg.mutF 121=false:=rfl
theorem zzll:cfg.mutF 122=false:=rfl
theorem zzlm:cfg.mutF 123=false:=rfl
theorem zzln:cfg.mutF 124=false:=rfl
theorem zzlo:cfg.mutF 125=false:=rfl
theorem zzlp:cfg.mutF 126=false:=rfl
theorem zzlq:cfg.mutF 127=false:=rfl
theorem zzlr:cfg.mutF 128=false:=rfl
theorem zzls:cfg.mutF 129=false:=rfl
theorem zzlt:cfg.mutF 130=false:=rfl
theorem zzlu:cfg.mutF 131=false:=rfl
theorem zzlv:cfg.mutF 132=true:=rfl
theorem zzlw:cfg.mutF 133=false:=rfl
theorem zzlx:cfg.mutF 134=true:=rfl
theorem zzly:cfg.mutF 135=false:=rfl
theorem zzlz:cfg.mutF 136=false:=rfl
theorem zzma:cfg.mutF 137=false:=rfl
theorem zzmb:cfg.mutF 138=false:=rfl
theorem zzmc:cfg.mutF 139=false:=rfl
theorem zzmd:cfg.mutF 140=false:=rfl
theorem zzme:cfg.mutF 141=false:=rfl
theorem zzmf:cfg.mutF 142=false:=rfl
theorem zzmg:cfg.mutF 143=true:=rfl
theorem zzmh:cfg.mutF 144=true:=rfl
theorem zzmi:cfg.mutF 145=true:=rfl
theorem zzmj:cfg.mutF 146=false:=rfl
theorem zzmk:cfg.mutF 147=false:=rfl
theorem zzml:cfg.mutF 148=false:=rfl
theorem zzmm:cfg.mutF 149=false:=rfl
theorem zzmn:cfg.mutF 150=false:=rfl
theorem zzmo:cfg.mutF 151=false:=rfl
theorem zzmp:cfg.mutF 152=false:=rfl
theorem zzmq:cfg.mutF 153=false:=rfl
theorem zzmr:cfg.mutF 154=false:=rfl
theorem zzms:cfg.mutF 155=false:=rfl
theorem zzmt:cfg.mutF 156=false:=rfl
theorem zzmu:cfg.mutF 157=false:=rfl
theorem zzmv:cfg.mutF 158=false:=rfl
theorem zzmw:cfg.mutF 159=false:=rfl
theorem zzmx:cfg.mutF 160=false:=rfl
theorem zzmy:cfg.mutF 161=false:=rfl
theorem zzmz:cfg.mutF 162=false:=rfl
theorem zzna:cfg.mutF 163=false:=rfl
theorem zznb:cfg.mutF 164=false:=rfl
theorem zznc:cfg.mutF 165=false:=rfl
theorem zznd:cfg.mutF 166=false:=rfl
theorem zzne:cfg.mutF 167=false:=rfl
theorem zznf:cfg.mutF 168=false:=rfl
theorem zzng:cfg.mutF 169=false:=rfl
theorem zznh:cfg.mutF 170=false:=rfl
theorem zzni:cfg.mutF 171=false:=rfl
theorem zznj:cfg.mutF 172=false:=rfl
theorem zznk:cfg.mutF 173=false:=rfl
theorem zznl:cfg.mutF 174=false:=rfl
theorem zznm:cfg.mutF 175=false:=rfl
theorem zznn:cfg.mutF 177=false:=rfl
theorem zzno:cfg.mutF 178=false:=rfl
theorem zznp:cfg.mutF 179=false:=rfl
theorem zznq:cfg.mutF 180=false:=rfl
theorem zznr:cfg.mutF 181=false:=rfl
theorem zzns:cfg.mutF 183=false:=rfl
theorem zznt:cfg.mutF 184=false:=rfl
theorem zznu:cfg.mutF 185=false:=rfl
theorem zznv:cfg.mutF 186=false:=rfl
theorem zznw:cfg.mutF 187=false:=rfl
theorem zznx:cfg.mutF 188=true:=rfl
theorem zzny:cfg.mutF 189=false:=rfl
theorem zznz:cfg.mutF 190=false:=rfl
theorem zzoa:cfg.mutF 191=false:=rfl
theorem zzob:cfg.mutF 192=false:=rfl
theorem zzoc:cfg.mutF 193=false:=rfl
theorem zzod:cfg.mutF 196=false:=rfl
theorem zzoe:cfg.mutF 197=true:=rfl
theorem zzof:cfg.mutF 198=false:=rfl
theorem zzog:cfg.mutF 199=false:=rfl
theorem zzoh:cfg.mutF 200=false:=rfl
theorem zzoi:cfg.mutF 201=false:=rfl
theorem zzoj:cfg.mutF 202=false:=rfl
theorem zzok:cfg.mutF 203=false:=rfl
theorem zzol:cfg.mutF 204=false:=rfl
theorem zzom:cfg.mutF 205=false:=rfl
theorem zzon:cfg.mutF 206=false:=rfl
theorem zzoo:cfg.mutF 207=true:=rfl
theorem zzop:cfg.mutF 208=false:=rfl
theorem zzoq:cfg.mutF 209=true:=rfl
theorem zzor:cfg.mutF 210=false:=rfl
theorem zzos:cfg.mutF 211=false:=rfl
theorem zzot:cfg.mutF 212=false:=rfl
theorem zzou:cfg.mutF 213=false:=rfl
theorem zzov:cfg.mutF 214=false:=rfl
theorem zzow:cfg.mutF 215=false:=rfl
theorem zzox:cfg.mutF 216=false:=rfl
theorem zzoy:cfg.mutF 217=false:=rfl
theorem zzoz:cfg.mutF 218=false:=rfl
theorem zzpa:cfg.mutF 221=false:=rfl
theorem zzpb:cfg.mutF 222=false:=rfl
theorem zzpc:cfg.mutF 224=false:=rfl
theorem zzpd:cfg.mutF 225=true:=rfl
theorem zzpe:cfg.mutF 226=false:=rfl
theorem zzpf:cfg.mutF 232=false:=rfl
theorem zzpg:cfg.mutF 233=false:=rfl
theorem zzph:cfg.mutF 236=false:=rfl
theorem zzpi:cfg.mutF 239=false:=rfl
theorem zzpj:cfg.mutF 240=true:=rfl
theorem zzpk:cfg.mutF 241=false:=rfl
theorem zzpl:cfg.mutF 242=false:=rfl
theorem zzpm:cfg.mutF 247=false:=rfl
theorem zzpn:cfg.mutF 266=false:=rfl
theorem zzpo:cfg.own 3 9=false:=rfl
theorem zzpp:cfg.own 3 11=true:=rfl
theorem zzpq(d:Nat):cfg.own 4 d=false:=rfl
theorem zzpr(d:Nat):cfg.own 5 d=false:=rfl
theorem zzps(d:Nat):cfg.own 6 d=false:=rfl
theorem zzpt:cfg.own 7 9=true:=rfl
theorem zzpu:cfg.own 7 11=false:=rfl
theorem zzpv:cfg.own 7 13=false:=rfl
theorem zzpw:cfg.own 7 17=false:=rfl
theorem zzpx:cfg.own 7 22=false:=rfl
theorem zzpy:cfg.own 7 30=false:=rfl
theorem zzpz:cfg.own 7 34=false:=rfl
theorem zzqa:cfg.own 7 60=false:=rfl
theorem zzqb(d:Nat):cfg.own 9 d=false:=rfl
theorem zzqc(d:Nat):cfg.own 11 d=false:=rfl
theorem zzqd(d:Nat):cfg.own 12 d=false:=rfl
theorem zzqe(d:Nat):cfg.own 14 d=false:=rfl
theorem zzqf(d:Nat):cfg.own 15 d=false:=rfl
theorem zzqg(d:Nat):cfg.own 16 d=false:=rfl
theorem zzqh(d:Nat):cfg.own 17 d=false:=rfl
theorem zzqi(d:Nat):cfg.own 18 d=false:=rfl
theorem zzqj(d:Nat):cfg.own 20 d=false:=rfl
theorem zzqk(d:Nat):cfg.own 21 d=false:=rfl
theorem zzql(d:Nat):cfg.own 22 d=false:=rfl
theorem zzqm(d:Nat):cfg.own 23 d=false:=rfl
theorem zzqn(d:Nat):cfg.own 24 d=false:=rfl
theorem zzqo(d:Nat):cfg.own 25 d=false:=rfl
theorem zzqp(d:Nat):cfg.own 26 d=false:=rfl
theorem zzqq(d:Nat):cfg.own 27 d=false:=rfl
theorem zzqr(d:Nat):cfg.own 28 d=false:=rfl
theorem zzqs(d:Nat):cfg.own 29 d=false:=rfl
theorem zzqt:cfg.own 32 8=true:=rfl
theorem zzqu:cfg.own 32 10=false:=rfl
theorem zzqv:cfg.own 32 23=false:=rfl
theorem zzqw:cfg.own 32 25=false:=rfl
theorem zzqx:cfg.own 32 33=false:=rfl
theorem zzqy:cfg.own 32 40=false:=rfl
theorem zzqz(d:Nat):cfg.own 34 d=false:=rfl
theorem zzra(d:Nat):cfg.own 35 d=false:=rfl
theorem zzrb(d:Nat):cfg.own 36 d=false:=rfl
theorem zzrc(d:Nat):cfg.own 37 d=false:=rfl
theorem zzrd(d:Nat):cfg.own 38 d=false:=rfl
theorem zzre(d:Nat):cfg.own 39 d=false:=rfl
theorem zzrf(d:Nat):cfg.own 40 d=false:=rfl
theorem zzrg(d:Nat):cfg.own 41 d=false:=rfl
theorem zzrh(d:Nat):cfg.own 42 d=false:=rfl
theorem zzri(d:Nat):cfg.own 43 d=false:=rfl
theorem zzrj(d:Nat):cfg.own 44 d=false:=rfl
theorem zzrk(d:Nat):cfg.own 45 d=false:=rfl
theorem zzrl(d:Nat):cfg.own 46 d=false:=rfl
theorem zzrm(d:Nat):cfg.own 47 d=false:=rfl
theorem zzrn(d:Nat):cfg.own 48 d=false:=rfl
theorem zzro(d:Nat):cfg.own 50 d=false:=rfl
theorem zzrp(d:Nat):cfg.own 51 d=false:=rfl
theorem zzrq(d:Nat):cfg.own 52 d=false:=rfl
theorem zzrr(d:Nat):cfg.own 53 d=false:=rfl
theorem zzrs(d:Nat):cfg.own 54 d=false:=rfl
theorem zzrt(d:Nat):cfg.own 55 d=false:=rfl
theorem zzru(d:Nat):cfg.own 58 d=false:=rfl
theorem zzrv(d:Nat):cfg.own 59 d=false:=rfl
theorem zzrw(d:Nat):cfg.own 60 d=false:=rfl
theorem zzrx(d:Nat):cfg.own 61 d=false:=rfl
theorem zzry(d:Nat):cfg.own 62 d=false:=rfl
theorem zzrz(d:Nat):cfg.own 63 d=false:=rfl
theorem zzsa(d:Nat):cfg.own 64 d=false:=rfl
theorem zzsb(d:Nat):cfg.own 65 d=false:=rfl
theorem zzsc(d:Nat):cfg.own 66 d=false:=rfl
theorem zzsd(d:Nat):cfg.own 67 d=false:=rfl
theorem zzse(d:Nat):cfg.own 68 d=false:=rfl
theorem zzsf(d:Nat):cfg.own 69 d=false:=rfl
theorem zzsg(d:Nat):cfg.own 70 d=false:=rfl
theorem zzsh(d:Nat):cfg.own 71 d=false:=rfl
theorem zzsi(d:Nat):cfg.own 72 d=false:=rfl
theorem zzsj(d:Nat):cfg.own 73 d=false:=rfl
theorem zzsk:cfg.own 74 10=false:=rfl
theorem zzsl:cfg.own 74 17=false:=rfl
theorem zzsm:cfg.own 74 26=false:=rfl
theorem zzsn:cfg.own 74 30=true:=rfl
theorem zzso:cfg.own 74 33=false:=rfl
theorem zzsp:cfg.own 74 36=true:=rfl
theorem zzsq:cfg.own 74 44=false:=rfl
theorem zzsr:cfg.own 74 47=false:=rfl
theorem zzss(d:Nat):cfg.own 75 d=false:=rfl
theorem zzst:cfg.own 76 8=false:=rfl
theorem zzsu:cfg.own 76 12=false:=rfl
theorem zzsv:cfg.own 76 21=true:=rfl
theorem zzsw(d:Nat):cfg.own 77 d=false:=rfl
theorem zzsx(d:Nat):cfg.own 78 d=false:=rfl
theorem zzsy(d:Nat):cfg.own 79 d=false:=rfl
theorem zzsz:cfg.own 80 15=false:=rfl
theorem zzta:cfg.own 80 21=false:=rfl
theorem zztb:cfg.own 80 29=false:=rfl
theorem zztc:cfg.own 80 33=false:=rfl
theorem zztd:cfg.own 80 36=true:=rfl
theorem zzte:cfg.own 80 40=false:=rfl
theorem zztf:cfg.own 80 43=true:=rfl
theorem zztg:cfg.own 80 47=false:=rfl
theorem zzth:cfg.own 80 70=false:=rfl
theorem zzti(d:Nat):cfg.own 81 d=false:=rfl
theorem zztj(d:Nat):cfg.own 82 d=false:=rfl
theorem zztk(d:Nat):cfg.own 83 d=false:=rfl
theorem zztl(d:Nat):cfg.own 84 d=false:=rfl
theorem zztm(d:Nat):cfg.own 87 d=false:=rfl
theorem zztn(d:Nat):cfg.own 88 d=false:=rfl
theorem zzto(d:Nat):cfg.own 89 d=false:=rfl
theorem zztp(d:Nat):cfg.own 90 d=false:=rfl
theorem zztq(d:Nat):cfg.own 91 d=false:=rfl
theorem zztr(d:Nat):cfg.own 92 d=false:=rfl
theorem zzts(d:Nat):cfg.own 94 d=false:=rfl
theorem zztt(d:Nat):cfg.own 95 d=false:=rfl
theorem zztu(d:Nat):cfg.own 96 d=false:=rfl
theorem zztv:cfg.own 97 12=false:=rfl
theorem zztw:cfg.own 97 19=false:=rfl
theorem zztx:cfg.own 97 31=false:=rfl
theorem zzty:cfg.own 97 33=true:=rfl
theorem zztz(d:Nat):cfg.own 98 d=false:=rfl
theorem zzua(d:Nat):cfg.own 99 d=false:=rfl
theorem zzub(d:Nat):cfg.own 100 d=false:=rfl
theorem zzuc(d:Nat):cfg.own 101 d=false:=rfl
theorem zzud(d:Nat):cfg.own 102 d=false:=rfl
theorem zzue:cfg.own 103 19=false:=rfl
theorem zzuf:cfg.own 103 24=false:=rfl
theorem zzug:cfg.own 103 30=true:=rfl
theorem zzuh:cfg.own 103 54=true:=rfl
theorem zzui(d:Nat):cfg.own 104 d=false:=rfl
theorem zzuj(d:Nat):cfg.own 105 d=false:=rfl
theorem zzuk(d:Nat):cfg.own 106 d=false:=rfl
theorem zzul(d:Nat):cfg.own 107 d=false:=rfl
theorem zzum(d:Nat):cfg.own 111 d=false:=rfl
theorem zzun(d:Nat):cfg.own 112 d=false:=rfl
theorem zzuo(d:Nat):cfg.own 115 d=false:=rfl
theorem zzup(d:Nat):cfg.own 116 d=false:=rfl
theorem zzuq(d:Nat):cfg.own 117 d=false:=rfl
theorem zzur:cfg.own 118 7=true:=rfl
theorem zzus(d:Nat):cfg.own 119 d=false:=rfl
theorem zzut(d:Nat):cfg.own 120 d=false:=rfl
theorem zzuu(d:Nat):cfg.own 122 d=false:=rfl
theorem zzuv(d:Nat):cfg.own 123 d=false:=rfl
theorem zzuw(d:Nat):cfg.own 124 d=false:=rfl
theorem zzux(d:Nat):cfg.own 126 d=false:=rfl
theorem zzuy(d:Nat):cfg.own 127 d=false:=rfl
theorem zzuz(d:Nat):cfg.own 128 d=false:=rfl
theorem zzva:cfg.own 130 10=false:=rfl
theorem zzvb:cfg.own 130 15=false:=rfl
theorem zzvc:cfg.own 130 22=false:=rfl
theorem zzvd:cfg.own 130 29=true:=rfl
theorem zzve:cfg.own 130 33=false:=rfl
theorem zzvf:cfg.own 130 36=false:=rfl
theorem zzvg(d:Nat):cfg.own 132 d=false:=rfl
theorem zzvh(d:Nat):cfg.own 134 d=false:=rfl
theorem zzvi(d:Nat):cfg.own 136 d=false:=rfl
theorem zzvj(d:Nat):cfg.own 137 d=false:=rfl
theorem zzvk(d:Nat):cfg.own 138 d=false:=rfl
theorem zzvl(d:Nat):cfg.own 139 d=false:=rfl
theorem zzvm(d:Nat):cfg.own 141 d=false:=rfl
theorem zzvn(d:Nat):cfg.own 142 d=false:=rfl
theorem zzvo(d:Nat):cfg.own 145 d=false:=rfl
theorem zzvp(d:Nat):cfg.own 146 d=false:=rfl
theorem zzvq:cfg.own 147 13=true:=rfl
theorem zzvr:cfg.own 147 29=false:=rfl
theorem zzvs(d:Nat):cfg.own 148 d=false:=rfl
theorem zzvt(d:Nat):cfg.own 149 d=false:=rfl
theorem zzvu(d:Nat):cfg.own 150 d=false:=rfl
theorem zzvv(d:Nat):cfg.own 151 d=false:=rfl
theorem zzvw(d:Nat):cfg.own 152 d=false:=rfl
theorem zzvx:cfg.own 153 16=true:=rfl
theorem zzvy:cfg.own 153 34=false:=rfl
theorem zzvz:cfg.own 153 52=false:=rfl
theorem zzwa(d:Nat):cfg.own 155 d=false:=rfl
theorem zzwb(d:Nat):cfg.own 156 d=false:=rfl
theorem zzwc(d:Nat):cfg.own 157 d=false:=rfl
theorem zzwd(d:Nat):cfg.own 159 d=false:=rfl
theorem zzwe(d:Nat):cfg.own 160 d=false:=rfl
theorem zzwf(d:Nat):cfg.own 162 d=false:=rfl
theorem zzwg(d:Nat):cfg.own 164 d=false:=rfl
theorem zzwh(d:Nat):cfg.own 165 d=false:=rfl
theorem zzwi:cfg.own 166 11=false:=rfl
theorem zzwj:cfg.own 166 15=true:=rfl
theorem zzwk:cfg.own 166 19=true:=rfl
theorem zzwl:cfg.own 167 17=true:=rfl
theorem zzwm:cfg.own 167 37=false:=rfl
theorem zzwn:cfg.own 169 20=false:=rfl
theorem zzwo:cfg.own 169 23=false:=rfl
theorem zzwp:cfg.own 169 25=true:=rfl
theorem zzwq:cfg.own 169 57=false:=rfl
theorem zzwr:cfg.own 169 98=false:=rfl
theorem zzws:cfg.own 169 104=false:=rfl
theorem zzwt:cfg.own 169 111=false:=rfl
theorem zzwu:cfg.own 169 116=false:=rfl
theorem zzwv(d:Nat):cfg.own 170 d=false:=rfl
theorem zzww(d:Nat):cfg.own 171 d=false:=rfl
theorem zzwx(d:Nat):cfg.own 173 d=false:=rfl
theorem zzwy(d:Nat):cfg.own 174 d=false:=rfl
theorem zzwz(d:Nat):cfg.own 181 d=false:=rfl
theorem zzxa(d:Nat):cfg.own 183 d=false:=rfl
theorem zzxb:cfg.own 185 9=true:=rfl
theorem zzxc:cfg.own 185 11=false:=rfl
theorem zzxd(d:Nat):cfg.own 186 d=false:=rfl
theorem zzxe(d:Nat):cfg.own 188 d=false:=rfl
theorem zzxf(d:Nat):cfg.own 192 d=false:=rfl
theorem zzxg(d:Nat):cfg.own 196 d=false:=rfl
theorem zzxh(d:Nat):cfg.own 197 d=false:=rfl
theorem zzxi(d:Nat):cfg.own 203 d=false:=rfl
theorem zzxj(d:Nat):cfg.own 206 d=false:=rfl
theorem zzxk(d:Nat):cfg.own 210 d=false:=rfl
theorem zzxl(d:Nat):cfg.own 211 d=false:=rfl
theorem zzxm(d:Nat):cfg.own 213 d=false:=rfl
theorem zzxn(d:Nat):cfg.own 215 d=false:=rfl
theorem zzxo:cfg.own 216 5=true:=rfl
theorem zzxp(d:Nat):cfg.own 218 d=false:=rfl
theorem zzxq(d:Nat):cfg.own 222 d=false:=rfl
theorem zzxr(d:Nat):cfg.own 224 d=false:=rfl
theorem zzxs(d:Nat):cfg.own 225 d=false:=rfl
theorem zzxt(d:Nat):cfg.own 226 d=false:=rfl
theorem zzxu(d:Nat):cfg.own 239 d=false:=rfl
theorem zzxv(d:Nat):cfg.own 240 d=false:=rfl
theorem zzxw(d:Nat):cfg.own 241 d=false:=rfl
theorem zzxx(d:Nat):cfg.own 247 d=false:=rfl
attribute [go_sem] zza zzb zzc zzd zze zzf zzg zzh zzi zzj zzk zzl zzm zzn zzo zzp zzq zzr zzs zzt zzu zzv zzw zzx zzy zzz zzaa zzab zzac zzad zzae zzaf zzag zzah zzai zzaj zzak zzal zzam zzan zzao zzap zzaq zzar zzas zzat zzau zzav zzaw zzax zzay zzaz zzba zzbb zzbc zzbd zzbe zzbf zzbg zzbh zzbi zzbj zzbk zzbl zzbm zzbn zzbo zzbp zzbq zzbr zzbs zzbt zzbu zzbv zzbw zzbx zzby zzbz zzca zzcb zzcc zzcd zzce zzcf zzcg zzch zzci zzcj zzck zzcl zzcm zzcn zzco zzcp zzcq zzcr zzcs zzct zzcu zzcv zzcw zzcx zzcy zzcz zzda zzdb zzdc zzdd zzde zzdf zzdg zzdh zzdi zzdj zzdk zzdl zzdm zzdn zzdo zzdp zzdq zzdr zzds zzdt zzdu zzdv zzdw zzdx zzdy zzdz zzea zzeb zzec zzed zzee zzef zzeg zzeh zzei zzej zzek zzel zzem zzen zzeo zzep zzeq zzer zzes zzet zzeu zzev zzew zzex zzey zzez zzfa zzfb zzfc zzfd zzfe zzff zzfg zzfh zzfi zzfj zzfk zzfl zzfm zzfn zzfo zzfp zzfq zzfr zzfs zzft zzfu zzfv zzfw zzfx zzfy zzfz zzga zzgb zzgc zzgd zzge zzgf zzgg zzgh zzgi zzgj zzgk zzgl zzgm zzgn zzgo zzgp zzgq zzgr zzgs zzgt zzgu zzgv zzgw zzgx zzgy zzgz zzha zzhb zzhc zzhd zzhe zzhf zzhg zzhh zzhi zzhj zzhk zzhl zzhm zzhn zzho zzhp zzhq zzhr zzhs zzht zzhu zzhv zzhw zzhx zzhy zzhz zzia zzib zzic zzid zzie zzif zzig zzih zzii zzij zzik zzil zzim zzin zzio zzip zziq zzir zzis zzit zziu zziv zziw zzix zziy zziz zzja zzjb zzjc zzjd zzje zzjf zzjg zzjh zzji zzjj zzjk zzjl zzjm zzjn zzjo zzjp zzjq zzjr zzjs zzjt zzju zzjv zzjw zzjx zzjy zzjz zzka zzkb zzkc zzkd zzke zzkf zzkg zzkh zzki zzkj zzkk zzkl zzkm zzkn zzko zzkp zzkq zzkr zzks zzkt zzku zzkv zzkw zzkx zzky zzkz zzla zzlb zzlc zzld zzle zzlf zzlg zzlh zzli zzlj zzlk zzll zzlm zzln zzlo zzlp zzlq zzlr zzls zzlt zzlu zzlv zzlw zzlx zzly zzlz zzma zzmb zzmc zzmd zzme zzmf zzmg zzmh zzmi zzmj zzmk zzml zzmm zzmn zzmo zzmp zzmq zzmr zzms zzmt zzmu zzmv zzmw zzmx zzmy zzmz zzna zznb zznc zznd zzne zznf zzng zznh zzni zznj zznk zznl zznm zznn zzno zznp zznq zznr zzns zznt zznu zznv zznw zznx zzny zznz zzoa zzob zzoc zzod zzoe zzof zzog zzoh zzoi zzoj zzok zzol zzom zzon zzoo zzop zzoq zzor zzos zzot zzou zzov zzow zzox zzoy zzoz zzpa zzpb zzpc zzpd zzpe zzpf zzpg zzph zzpi zzpj zzpk zzpl zzpm zzpn zzpo zzpp zzpq zzpr zzps zzpt zzpu zzpv zzpw zzpx zzpy zzpz zzqa zzqb zzqc zzqd zzqe zzqf zzqg zzqh zzqi zzqj zzqk zzql zzqm zzqn zzqo zzqp zzqq zzqr zzqs zzqt zzqu zzqv zzqw zzqx zzqy zzqz zzra zzrb zzrc zzrd zzre zzrf zzrg zzrh zzri zzrj zzrk zzrl zzrm zzrn zzro zzrp zzrq zzrr zzrs zzrt zzru zzrv zzrw zzrx zzry zzrz zzsa zzsb zzsc zzsd zzse zzsf zzsg zzsh zzsi zzsj zzsk zzsl zzsm zzsn zzso zzsp zzsq zzsr zzss zzst zzsu zzsv zzsw zzsx zzsy zzsz zzta zztb zztc zztd zzte zztf zztg zzth zzti zztj zztk zztl zztm zztn zzto zztp zztq zztr zzts zztt zztu zztv zztw zztx zzty zztz zzua zzub zzuc zzud zzue zzuf zzug zzuh zzui zzuj zzuk zzul zzum zzun zzuo zzup zzuq zzur zzus zzut zzuu zzuv zzuw zzux zzuy zzuz zzva zzvb zzvc zzvd zzve zzvf zzvg zzvh zzvi zzvj zzvk zzvl zzvm zzvn zzvo zzvp zzvq zzvr zzvs zzvt zzvu zzvv zzvw zzvx zzvy zzvz zzwa zzwb zzwc zzwd zzwe zzwf zzwg zzwh zzwi zzwj zzwk zzwl zzwm zzwn zzwo zzwp zzwq zzwr zzws zzwt zzwu zzwv zzww zzwx zzwy zzwz zzxa zzxb zzxc zzxd zzxe zzxf zzxg zzxh zzxi zzxj zzxk zzxl zzxm zzxn zzxo zzxp zzxq zzxr zzxs zzxt zzxu zzxv zzxw zzxx
section
structure Fx (p:Prop):Prop where
 h:p
theorem fz0:Fx True:=⟨trivial⟩
theorem fz1 {a:Prop} (x:a):Fx a:=⟨x⟩
theorem fz2 {a0 a1:Prop} (x0:a0) (x1:a1):Fx (a0∧a1):=⟨x0,x1⟩
theorem fz3 {a0 a1 a2:Prop} (x0:a0) (x1:a1) (x2:a2):Fx (a0∧a1∧a2):=⟨x0,x1,x2⟩
theorem fz4 {a0 a1 a2 a3:Prop} (x0:a0) (x1:a1) (x2:a2) (x3:a3):Fx (a0∧a1∧a2∧a3):=⟨x0,x1,x2,x3⟩
theorem fz5 {a0 a1 a2 a3 a4:Prop} (x0:a0) (x1:a1) (x2:a2) (x3:a3) (x4:a4):Fx (a0∧a1∧a2∧a3∧a4):=⟨x0,x1,x2,x3,x4⟩
theorem fz6 {a0 a1 a2 a3 a4 a5:Prop} (x0:a0) (x1:a1) (x2:a2) (x3:a3) (x4:a4) (x5:a5):Fx (a0∧a1∧a2∧a3∧a4∧a5):=⟨x0,x1,x2,x3,x4,x5⟩
theorem fz7 {a0 a1 a2 a3 a4 a5 a6:Prop} (x0:a0) (x1:a1) (x2:a2) (x3:a3) (x4:a4) (x5:a5) (x6:a6):Fx (a0∧a1∧a2∧a3∧a4∧a5∧a6):=⟨x0,x1,x2,x3,x4,x5,x6⟩
theorem fz8 {a0 a1 a2 a3 a4 a5 a6 a7:Prop} (x0:a0) (x1:a1) (x2:a2) (x3:a3) (x4:a4) (x5:a5) (x6:a6) (x7:a7):Fx (a0∧a1∧a2∧a3∧a4∧a5∧a6∧a7):=⟨x0,x1,x2,x3,x4,x5,x6,x7⟩
theorem fz9 {a0 a1 a2 a3 a4 a5 a6 a7 a8:Prop} (x0:a0) (x1:a1) (x2:a2) (x3:a3) (x4:a4) (x5:a5) (x6:a6) (x7:a7) (x8:a8):Fx (a0∧a1∧a2∧a3∧a4∧a5∧a6∧a7∧a8):=⟨x0,x1,x2,x3,x4,x5,x6,x7,x8⟩
theorem fz10 {a0 a1 a2 a3 a4 a5 a6 a7 a8 a9:Prop} (x0:a0) (x1:a1) (x2:a2) (x3:a3) (x4:a4) (x5:a5) (x6:a6) (x7:a7) (x8:a8) (x9:a9):Fx (a0∧a1∧a2∧a3∧a4∧a5∧a6∧a7∧a8∧a9):=⟨x0,x1,x2,x3,x4,x5,x6,x7,x8,x9⟩
theorem fz11 {a0 a1 a2 a3 a4 a5 a6 a7 a8 a9 a10:Prop} (x0:a0) (x1:a1) (x2:a2) (x3:a3) (x4:a4) (x5:a5) (x6:a6) (x7:a7) (x8:a8) (x9:a9) (x10:a10):Fx (a0∧a1∧a2∧a3∧a4∧a5∧a6∧a7∧a8∧a9∧a10):=⟨x0,x1,x2,x3,x4,x5,x6,x7,x8,x9,x10⟩
theorem fz12 {a0 a1 a2 a3 a4 a5 a6 a7 a8 a9 a10 a11:Prop} (x0:a0) (x1:a1) (x2:a2) (x3:a3) (x4:a4) (x5:a5) (x6:a6) (x7:a7) (x8:a8) (x9:a9) (x10:a10) (x11:a11):Fx (a0∧a1∧a2∧a3∧a4∧a5∧a6∧a7∧a8∧a9∧a10∧a11):=⟨x0,x1,x2,x3,x4,x5,x6,x7,x8,x9,x10,x11⟩
theorem fz13 {a0 a1 a2 a3 a4 a5 a6 a7 a8 a9 a10 a11 a12:Prop} (x0:a0) (x1:a1) (x2:a2) (x3:a3) (x4:a4) (x5:a5) (x6:a6) (x7:a7) (x8:a8) (x9:a9) (x10:a10) (x11:a11) (x12:a12):Fx (a0∧a1∧a2∧a3∧a4∧a5∧a6∧a7∧a8∧a9∧a10∧a11∧a12):=⟨x0,x1,x2,x3,x4,x5,x6,x7,x8,x9,x10,x11,x12⟩
theorem fz14 {a0 a1 a2 a3 a4 a5 a6 a7 a8 a9 a10 a11 a12 a13:Prop} (x0:a0) (x1:a1) (x2:a2) (x3:a3) (x4:a4) (x5:a5) (x6:a6) (x7:a7) (x8:a8) (x9:a9) (x10:a10) (x11:a11) (x12:a12) (x13:a13):Fx (a0∧a1∧a2∧a3∧a4∧a5∧a6∧a7∧a8∧a9∧a10∧a11∧a12∧a13):=⟨x0,x1,x2,x3,x4,x5,x6,x7,x8,x9,x10,x11,x12,x13⟩
theorem fz15 {a0 a1 a2 a3 a4 a5 a6 a7 a8 a9 a10 a11 a12 a13 a14:Prop} (x0:a0) (x1:a1) (x2:a2) (x3:a3) (x4:a4) (x5:a5) (x6:a6) (x7:a7) (x8:a8) (x9:a9) (x10:a10) (x11:a11) (x12:a12) (x13:a13) (x14:a14):Fx (a0∧a1∧a2∧a3∧a4∧a5∧a6∧a7∧a8∧a9∧a10∧a11∧a12∧a13∧a14):=⟨x0,x1,x2,x3,x4,x5,x6,x7,x8,x9,x10,x11,x12,x13,x14⟩
theorem fz16 {a0 a1 a2 a3 a4 a5 a6 a7 a8 a9 a10 a11 a12 a13 a14 a15:Prop} (x0:a0) (x1:a1) (x2:a2) (x3:a3) (x4:a4) (x5:a5) (x6:a6) (x7:a7) (x8:a8) (x9:a9) (x10:a10) (x11:a11) (x12:a12) (x13:a13) (x14:a14) (x15:a15):Fx (a0∧a1∧a2∧a3∧a4∧a5∧a6∧a7∧a8∧a9∧a10∧a11∧a12∧a13∧a14∧a15):=⟨x0,x1,x2,x3,x4,x5,x6,x7,x8,x9,x10,x11,x12,x13,x14,x15⟩
theorem fz17 {a0 a1 a2 a3 a4 a5 a6 a7 a8 a9 a10 a11 a12 a13 a14 a15 a16:Prop} (x0:a0) (x1:a1) (x2:a2) (x3:a3) (x4:a4) (x5:a5) (x6:a6) (x7:a7) (x8:a8) (x9:a9) (x10:a10) (x11:a11) (x12:a12) (x13:a13) (x14:a14) (x15:a15) (x16:a16):Fx (a0∧a1∧a2∧a3∧a4∧a5∧a6∧a7∧a8∧a9∧a10∧a11∧a12∧a13∧a14∧a15∧a16):=⟨x0,x1,x2,x3,x4,x5,x6,x7,x8,x9,x10,x11,x12,x13,x14,x15,x16⟩
theorem fz18 {a0 a1 a2 a3 a4 a5 a6 a7 a8 a9 a10 a11 a12 a13 a14 a15 a16 a17:Prop} (x0:a0) (x1:a1) (x2:a2) (x3:a3) (x4:a4) (x5:a5) (x6:a6) (x7:a7) (x8:a8) (x9:a9) (x10:a10) (x11:a11) (x12:a12) (x13:a13) (x14:a14) (x15:a15) (x16:a16) (x17:a17):Fx (a0∧a1∧a2∧a3∧a4∧a5∧a6∧a7∧a8∧a9∧a10∧a11∧a12∧a13∧a14∧a15∧a16∧a17):=⟨x0,x1,x2,x3,x4,x5,x6,x7,x8,x9,x10,x11,x12,x13,x14,x15,x16,x17⟩
theorem fz19 {a0 a1 a2 a3 a4 a5 a6 a7 a8 a9 a10 a11 a12 a13 a14 a15 a16 a17 a18:Prop} (x0:a0) (x1:a1) (x2:a2) (x3:a3) (x4:a4) (x5:a5) (x6:a6) (x7:a7) (x8:a8) (x9:a9) (x10:a10) (x11:a11) (x12:a12) (x13:a13) (x14:a14) (x15:a15) (x16:a16) (x17:a17) (x18:a18):Fx (a0∧a1∧a2∧a3∧a4∧a5∧a6∧a7∧a8∧a9∧a10∧a11∧a12∧a13∧a14∧a15∧a16∧a17∧a18):=⟨x0,x1,x2,x3,x4,x5,x6,x7,x8,x9,x10,x11,x12,x13,x14,x15,x16,x17,x18⟩
theorem fz20 {a0 a1 a2 a3 a4 a5 a6 a7 a8 a9 a10 a11 a12 a13 a14 a15 a16 a17 a18 a19:Prop} (x0:a0) (x1:a1) (x2:a2) (x3:a3) (x4:a4) (x5:a5) (x6:a6) (x7:a7) (x8:a8) (x9:a9) (x10:a10) (x11:a11) (x12:a12) (x13:a13) (x14:a14) (x15:a15) (x16:a16) (x17:a17) (x18:a18) (x19:a19):Fx (a0∧a1∧a2∧a3∧a4∧a5∧a6∧a7∧a8∧a9∧a10∧a11∧a12∧a13∧a14∧a15∧a16∧a17∧a18∧a19):=⟨x0,x1,x2,x3,x4,x5,x6,x7,x8,x9,x10,x11,x12,x13,x14,x15,x16,x17,x18,x19⟩
theorem fz21 {a0 a1 a2 a3 a4 a5 a6 a7 a8 a9 a10 a11 a12 a13 a14 a15 a16 a17 a18 a19 a20:Prop} (x0:a0) (x1:a1) (x2:a2) (x3:a3) (x4:a4) (x5:a5) (x6:a6) (x7:a7) (x8:a8) (x9:a9) (x10:a10) (x11:a11) (x12:a12) (x13:a13) (x14:a14) (x15:a15) (x16:a16) (x17:a17) (x18:a18) (x19:a19) (x20:a20):Fx (a0∧a1∧a2∧a3∧a4∧a5∧a6∧a7∧a8∧a9∧a10∧a11∧a12∧a13∧a14∧a15∧a16∧a17∧a18∧a19∧a20):=⟨x0,x1,x2,x3,x4,x5,x6,x7,x8,x9,x10,x11,x12,x13,x14,x15,x16,x17,x18,x19,x20⟩
theorem fz22 {a0 a1 a2 a3 a4 a5 a6 a7 a8 a9 a10 a11 a12 a13 a14 a15 a16 a17 a18 a19 a20 a21:Prop} (x0:a0) (x1:a1) (x2:a2) (x3:a3) (x4:a4) (x5:a5) (x6:a6) (x7:a7) (x8:a8) (x9:a9) (x10:a10) (x11:a11) (x12:a12) (x13:a13) (x14:a14) (x15:a15) (x16:a16) (x17:a17) (x18:a18) (x19:a19) (x20:a20) (x21:a21):Fx (a0∧a1∧a2∧a3∧a4∧a5∧a6∧a7∧a8∧a9∧a10∧a11∧a12∧a13∧a14∧a15∧a16∧a17∧a18∧a19∧a20∧a21):=⟨x0,x1,x2,x3,x4,x5,x6,x7,x8,x9,x10,x11,x12,x13,x14,x15,x16,x17,x18,x19,x20,x21⟩
theorem fz23 {a0 a1 a2 a3 a4 a5 a6 a7 a8 a9 a10 a11 a12 a13 a14 a15 a16 a17 a18 a19 a20 a21 a22:Prop} (x0:a0) (x1:a1) (x2:a2) (x3:a3) (x4:a4) (x5:a5) (x6:a6) (x7:a7) (x8:a8) (x9:a9) (x10:a10) (x11:a11) (x12:a12) (x13:a13) (x14:a14) (x15:a15) (x16:a16) (x17:a17) (x18:a18) (x19:a19) (x20:a20) (x21:a21) (x22:a22):Fx (a0∧a1∧a2∧a3∧a4∧a5∧a6∧a7∧a8∧a9∧a10∧a11∧a12∧a13∧a14∧a15∧a16∧a17∧a18∧a19∧a20∧a21∧a22):=⟨x0,x1,x2,x3,x4,x5,x6,x7,x8,x9,x10,x11,x12,x13,x14,x15,x16,x17,x18,x19,x20,x21,x22⟩
theorem fz24 {a0 a1 a2 a3 a4 a5 a6 a7 a8 a9 a10 a11 a12 a13 a14 a15 a16 a17 a18 a19 a20 a21 a22 a23:Prop} (x0:a0) (x1:a1) (x2:a2) (x3:a3) (x4:a4) (x5:a5) (x6:a6) (x7:a7) (x8:a8) (x9:a9) (x10:a10) (x11:a11) (x12:a12) (x13:a13) (x14:a14) (x15:a15) (x16:a16) (x17:a17) (x18:a18) (x19:a19) (x20:a20) (x21:a21) (x22:a22) (x23:a23):Fx (a0∧a1∧a2∧a3∧a4∧a5∧a6∧a7∧a8∧a9∧a10∧a11∧a12∧a13∧a14∧a15∧a16∧a17∧a18∧a19∧a20∧a21∧a22∧a23):=⟨x0,x1,x2,x3,x4,x5,x6,x7,x8,x9,x10,x11,x12,x13,x14,x15,x16,x17,x18,x19,x20,x21,x22,x23⟩
theorem fz25 {a0 a1 a2 a3 a4 a5 a6 a7 a8 a9 a10 a11 a12 a13 a14 a15 a16 a17 a18 a19 a20 a21 a22 a23 a24:Prop} (x0:a0) (x1:a1) (x2:a2) (x3:a3) (x4:a4) (x5:a5) (x6:a6) (x7:a7) (x8:a8) (x9:a9) (x10:a10) (x11:a11) (x12:a12) (x13:a13) (x14:a14) (x15:a15) (x16:a16) (x17:a17) (x18:a18) (x19:a19) (x20:a20) (x21:a21) (x22:a22) (x23:a23) (x24:a24):Fx (a0∧a1∧a2∧a3∧a4∧a5∧a6∧a7∧a8∧a9∧a10∧a11∧a12∧a13∧a14∧a15∧a16∧a17∧a18∧a19∧a20∧a21∧a22∧a23∧a24):=⟨x0,x1,x2,x3,x4,x5,x6,x7,x8,x9,x10,x11,x12,x13,x14,x15,x16,x17,x18,x19,x20,x21,x22,x23,x24⟩
theorem fz26 {a0 a1 a2 a3 a4 a5 a6 a7 a8 a9 a10 a11 a12 a13 a14 a15 a16 a17 a18 a19 a20 a21 a22 a23 a24 a25:Prop} (x0:a0) (x1:a1) (x2:a2) (x3:a3) (x4:a4) (x5:a5) (x6:a6) (x7:a7) (x8:a8) (x9:a9) (x10:a10) (x11:a11) (x12:a12) (x13:a13) (x14:a14) (x15:a15) (x16:a16) (x17:a17) (x18:a18) (x19:a19) (x20:a20) (x21:a21) (x22:a22) (x23:a23) (x24:a24) (x25:a25):Fx (a0∧a1∧a2∧a3∧a4∧a5∧a6∧a7∧a8∧a9∧a10∧a11∧a12∧a13∧a14∧a15∧a16∧a17∧a18∧a19∧a20∧a21∧a22∧a23∧a24∧a25):=⟨x0,x1,x2,x3,x4,x5,x6,x7,x8,x9,x10,x11,x12,x13,x14,x15,x16,x17,x18,x19,x20,x21,x22,x23,x24,x25⟩
theorem fz27 {a0 a1 a2 a3 a4 a5 a6 a7 a8 a9 a10 a11 a12 a13 a14 a15 a16 a17 a18 a19 a20 a21 a22 a23 a24 a25 a26:Prop} (x0:a0) (x1:a1) (x2:a2) (x3:a3) (x4:a4) (x5:a5) (x6:a6) (x7:a7) (x8:a8) (x9:a9) (x10:a10) (x11:a11) (x12:a12) (x13:a13) (x14:a14) (x15:a15) (x16:a16) (x17:a17) (x18:a18) (x19:a19) (x20:a20) (x21:a21) (x22:a22) (x23:a23) (x24:a24) (x25:a25) (x26:a26):Fx (a0∧a1∧a2∧a3∧a4∧a5∧a6∧a7∧a8∧a9∧a10∧a11∧a12∧a13∧a14∧a15∧a16∧a17∧a18∧a19∧a20∧a21∧a22∧a23∧a24∧a25∧a26):=⟨x0,x1,x2,x3,x4,x5,x6,x7,x8,x9,x10,x11,x12,x13,x14,x15,x16,x17,x18,x19,x20,x21,x22,x23,x24,x25,x26⟩
theorem fz28 {a0 a1 a2 a3 a4 a5 a6 a7 a8 a9 a10 a11 a12 a13 a14 a15 a16 a17 a18 a19 a20 a21 a22 a23 a24 a25 a26 a27:Prop} (x0:a0) (x1:a1) (x2:a2) (x3:a3) (x4:a4) (x5:a5) (x6:a6) (x7:a7) (x8:a8) (x9:a9) (x10:a10) (x11:a11) (x12:a12) (x13:a13) (x14:a14) (x15:a15) (x16:a16) (x17:a17) (x18:a18) (x19:a19) (x20:a20) (x21:a21) (x22:a22) (x23:a23) (x24:a24) (x25:a25) (x26:a26) (x27:a27):Fx (a0∧a1∧a2∧a3∧a4∧a5∧a6∧a7∧a8∧a9∧a10∧a11∧a12∧a13∧a14∧a15∧a16∧a17∧a18∧a19∧a20∧a21∧a22∧a23∧a24∧a25∧a26∧a27):=⟨x0,x1,x2,x3,x4,x5,x6,x7,x8,x9,x10,x11,x12,x13,x14,x15,x16,x17,x18,x19,x20,x21,x22,x23,x24,x25,x26,x27⟩
theorem fz29 {a0 a1 a2 a3 a4 a5 a6 a7 a8 a9 a10 a11 a12 a13 a14 a15 a16 a17 a18 a19 a20 a21 a22 a23 a24 a25 a26 a27 a28:Prop} (x0:a0) (x1:a1) (x2:a2) (x3:a3) (x4:a4) (x5:a5) (x6:a6) (x7:a7) (x8:a8) (x9:a9) (x10:a10) (x11:a11) (x12:a12) (x13:a13) (x14:a14) (x15:a15) (x16:a16) (x17:a17) (x18:a18) (x19:a19) (x20:a20) (x21:a21) (x22:a22) (x23:a23) (x24:a24) (x25:a25) (x26:a26) (x27:a27) (x28:a28):Fx (a0∧a1∧a2∧a3∧a4∧a5∧a6∧a7∧a8∧a9∧a10∧a11∧a12∧a13∧a14∧a15∧a16∧a17∧a18∧a19∧a20∧a21∧a22∧a23∧a24∧a25∧a26∧a27∧a28):=⟨x0,x1,x2,x3,x4,x5,x6,x7,x8,x9,x10,x11,x12,x13,x14,x15,x16,x17,x18,x19,x20,x21,x22,x23,x24,x25,x26,x27,x28⟩
theorem fz30 {a0 a1 a2 a3 a4 a5 a6 a7 a8 a9 a10 a11 a12 a13 a14 a15 a16 a17 a18 a19 a20 a21 a22 a23 a24 a25 a26 a27 a28 a29:Prop} (x0:a0) (x1:a1) (x2:a2) (x3:a3) (x4:a4) (x5:a5) (x6:a6) (x7:a7) (x8:a8) (x9:a9) (x10:a10) (x11:a11) (x12:a12) (x13:a13) (x14:a14) (x15:a15) (x16:a16) (x17:a17) (x18:a18) (x19:a19) (x20:a20) (x21:a21) (x22:a22) (x23:a23) (x24:a24) (x25:a25) (x26:a26) (x27:a27) (x28:a28) (x29:a29):Fx (a0∧a1∧a2∧a3∧a4∧a5∧a6∧a7∧a8∧a9∧a10∧a11∧a12∧a13∧a14∧a15∧a16∧a17∧a18∧a19∧a20∧a21∧a22∧a23∧a24∧a25∧a26∧a27∧a28∧a29):=⟨x0,x1,x2,x3,x4,x5,x6,x7,x8,x9,x10,x11,x12,x13,x14,x15,x16,x17,x18,x19,x20,x21,x22,x23,x24,x25,x26,x27,x28,x29⟩
theorem fz31 {a0 a1 a2 a3 a4 a5 a6 a7 a8 a9 a10 a11 a12 a13 a14 a15 a16 a17 a18 a19 a20 a21 a22 a23 a24 a25 a26 a27 a28 a29 a30:Prop} (x0:a0) (x1:a1) (x2:a2) (x3:a3) (x4:a4) (x5:a5) (x6:a6) (x7:a7) (x8:a8) (x9:a9) (x10:a10) (x11:a11) (x12:a12) (x13:a13) (x14:a14) (x15:a15) (x16:a16) (x17:a17) (x18:a18) (x19:a19) (x20:a20) (x21:a21) (x22:a22) (x23:a23) (x24:a24) (x25:a25) (x26:a26) (x27:a27) (x28:a28) (x29:a29) (x30:a30):Fx (a0∧a1∧a2∧a3∧a4∧a5∧a6∧a7∧a8∧a9∧a10∧a11∧a12∧a13∧a14∧a15∧a16∧a17∧a18∧a19∧a20∧a21∧a22∧a23∧a24∧a25∧a26∧a27∧a28∧a29∧a30):=⟨x0,x1,x2,x3,x4,x5,x6,x7,x8,x9,x10,x11,x12,x13,x14,x15,x16,x17,x18,x19,x20,x21,x22,x23,x24,x25,x26,x27,x28,x29,x30⟩
theorem fz32 {a0 a1 a2 a3 a4 a5 a6 a7 a8 a9 a10 a11 a12 a13 a14 a15 a16 a17 a18 a19 a20 a21 a22 a23 a24 a25 a26 a27 a28 a29 a30 a31:Prop} (x0:a0) (x1:a1) (x2:a2) (x3:a3) (x4:a4) (x5:a5) (x6:a6) (x7:a7) (x8:a8) (x9:a9) (x10:a10) (x11:a11) (x12:a12) (x13:a13) (x14:a14) (x15:a15) (x16:a16) (x17:a17) (x18:a18) (x19:a19) (x20:a20) (x21:a21) (x22:a22) (x23:a23) (x24:a24) (x25:a25) (x26:a26) (x27:a27) (x28:a28) (x29:a29) (x30:a30) (x31:a31):Fx (a0∧a1∧a2∧a3∧a4∧a5∧a6∧a7∧a8∧a9∧a10∧a11∧a12∧a13∧a14∧a15∧a16∧a17∧a18∧a19∧a20∧a21∧a22∧a23∧a24∧a25∧a26∧a27∧a28∧a29∧a30∧a31):=⟨x0,x1,x2,x3,x4,x5,x6,x7,x8,x9,x10,x11,x12,x13,x14,x15,x16,x17,x18,x19,x20,x21,x22,x23,x24,x25,x26,x27,x28,x29,x30,x31⟩
theorem jav {c:Prop} [Decidable c] {p q:Prop} (h1:c→p) (h2:¬c→q):if c then p else q:=by
 split
 ·exact h1 ‹_›
 ·exact h2 ‹_›
theorem ket {x:Option (St×List Rec)} {p:St→List Rec→Prop} (h:∃a b,x=some (a,b)∧p a b):∃a b,x=some (a,b)∧p a b:=h
theorem at_out {x:Option ((PV×List Arr×List Arr)×List Nat)} {p:PV×List Arr×List Arr→List Nat→Prop} (h:∃a b,x=some (a,b)∧p a b):∃a b,x=some (a,b)∧p a b:=h
theorem at_cond {x:Option Bool} {p:Bool→Prop} (h:∃t,x=some t∧p t):∃t,x=some t∧p t:=h
theorem ord_split {ops:Array Oper} {rs:List Rec} {p:Prop} (h1:jeh ops rs=true) (h2:p):jeh ops rs=true∧p:=⟨h1,h2⟩
inductive NA (P:Program) (cf:Cfg) (me:FuncId):Code→St→(Ex→St→Prop)→Prop
 | seq {a b:Code} {st:St} {Q:Ex→St→Prop} (h:XW P cf me a st (sq P cf me b Q)):NA P cf me (.seq a b) st Q
 | block {id:Nat} {b:Code} {st:St} {Q:Ex→St→Prop} (h:XW P cf me b st (bl id Q)):NA P cf me (.block id b) st Q
theorem na {P:Program} {cf:Cfg} {me:FuncId} {c:Code} {st:St} {Q:Ex→St→Prop} (h:NA P cf me c st Q):XW P cf me c st Q:=by
 cases h with
 | seq h=>exact jtu h
 | block h=>exact jiq h
inductive NB (P:Program) (cf:Cfg) (me:FuncId):Code→St→(Ex→St→Prop)→Prop
 | reg {ops:Array Oper} {id:Nat} {st:St} {Q:Ex→St→Prop} (h:∃st' rs,runOps P cf (KK P cf) me ops ops.toList st=some (st',rs)∧Q .normal st'):NB P cf me (.region id ops false) st Q
 | regd {ops:Array Oper} {id:Nat} {st:St} {Q:Ex→St→Prop} (h:∃st' rs,runOps P cf (KK P cf) me ops ops.toList st=some (st',rs)∧jeh ops rs=true∧Q .normal st'):NB P cf me (.region id ops true) st Q
 | cond {x:Operand} {a b:Code} {st:St} {Q:Ex→St→Prop} (h:∃t,asBoolP (opnd st.ρ x)=some t∧if t=true then XW P cf me a st Q else XW P cf me b st Q):NB P cf me (.cond x a b) st Q
 | skip {st:St} {Q:Ex→St→Prop} (h:Q .normal st):NB P cf me .skip st Q
 | exit {i:Nat} {st:St} {Q:Ex→St→Prop} (h:Q (.exit i) st):NB P cf me (.exit i) st Q
 | label {i:Nat} {st:St} {Q:Ex→St→Prop} (h:Q .normal st):NB P cf me (.label i) st Q
 | ret {st:St} {Q:Ex→St→Prop} (h:Q .ret st):NB P cf me .ret st Q
theorem nb {P:Program} {cf:Cfg} {me:FuncId} {c:Code} {st:St} {Q:Ex→St→Prop} (h:NB P cf me c st Q):XW P cf me c st Q:=by
 cases h with
 | reg h=>exact jtr h
 | regd h=>exact jmv h
 | cond h=>exact j6k h
 | skip h=>exact jmw h
 | exit h=>exact jmu h
 | label h=>exact jir h
 | ret h=>exact jtt h
def Ex.fin:Ex→Bool
 | .exit _=>false
 | _=>true
theorem pn {P:Program} {fn:Func} {np:Nat} {res:PV×List Arr×List Arr} {e:Ex} {s:St} (he:e.fin=true) (h:∃r rd,(outP P fn np s).run s.m=some (r,rd)∧r=res):Post P fn np res e s:=by
 cases e with
 | normal=>exact jmf h
 | ret=>exact jx1 h
 | exit i=>cases he
theorem pe {P:Program} {fn:Func} {np:Nat} {Φ:PV×List Arr×List Arr→Prop} {e:Ex} {s:St} (he:e.fin=true) (h:∃r rd,(outP P fn np s).run s.m=some (r,rd)∧Φ r):j0w P fn np Φ e s:=by
 cases e with
 | normal=>exact jj0 h
 | ret=>exact jsw h
 | exit i=>cases he
theorem at2 {α β:Type} {x:Option (α×β)} {p:α→β→Prop} (h:∃a b,x=some (a,b)∧p a b):∃a b,x=some (a,b)∧p a b:=h
theorem jbh {G G1 Q:Prop} (f:G1→G) (e:G1=Q):Q→G:=fun h=>f (e▸h)
theorem go1 {G Q:Prop} (hq:Q) (h:Q→G:=by
 first
 | (apply jbh jtu;rfl)
 | (apply jbh jiq;rfl)
 | (apply jbh (ord_split (by kernel_rfl));rfl)
 | ((first
     | apply jbh jtr
     | apply jbh jmv
     | apply jbh j6k
     | apply jbh jmw
     | apply jbh jmu
     | apply jbh jir
     | apply jbh jtt
     | apply jbh (pn rfl)
     | apply jbh (pe rfl))
    try simp (config:={ maxSteps:=3000000 }) (disch:=first|assumption|omega|exact VG.okg (by assumption) | (simp only[List.length_set,List.length_append,List.length_cons,List.length_nil,List.length_replicate];omega)) only[go_sem,simprocAttr,Fz.1]
    first|done|rfl)):G:=h hq
theorem goP {G Q:Prop} (hq:Q) (h:Q→G:=by
 first
 | (apply jbh jtu;rfl)
 | (apply jbh jiq;rfl)
 | (apply jbh (ord_split (by kernel_rfl));rfl)
 | ((first
     | apply jbh jtr
     | apply jbh jmv
     | apply jbh j6k
     | apply jbh jmw
     | apply jbh jmu
     | apply jbh jir
     | apply jbh jtt)
    try simp (config:={ maxSteps:=3000000 }) (disch:=first|assumption|omega|exact VG.okg (by assumption) | (simp only[List.length_set,List.length_append,List.length_cons,List.length_nil,List.length_replicate];omega)) only[go_sem,simprocAttr,Fz.1]
    first|done|rfl)):G:=h hq
theorem go2 {G A B:Prop} (ha:A) (hb:B) (h:A→B→G:=by exact jav):G:=h ha hb
theorem go3 {G Q:Prop} (hq:Q) (h:G=Q:=by
 simp (config:={ maxSteps:=3000000 }) (disch:=first|assumption|omega|exact VG.okg (by assumption) | (simp only[List.length_set,List.length_append,List.length_cons,List.length_nil,List.length_replicate];omega)) only[go_sem,simprocAttr,Fz.1]
 rfl):G:=h▸hq
theorem go4 {G Q:Prop} (hq:Q) (h:Q→G:=by first|exact at2|exact at_cond):G:=h hq
theorem j5l {ops:Array Oper} {rs:List Rec} {p q:Prop} (h1:jeh ops rs=true) (h2:q=p):q=(jeh ops rs=true∧p):=by
 subst h2
 exact propext ⟨fun h=>⟨h1,h⟩,fun h=>h.2⟩
theorem goG {G Q:Prop} (hq:Q) (h:Q→G:=by
 first
 | (apply jbh jtu;rfl)
 | (apply jbh jiq;rfl)
 | (apply jbh jtr;simp only[go_sem,↓reduceIte,Int.reduceLE,Int.reduceLT,Int.reduceToNat,Int.reduceNeg,Int.reduceAdd,Int.reduceSub,Int.reduceMul,Int.reduceEq,Int.reduceNe,Nat.reduceEqDiff,Nat.reduceAdd,Nat.reduceSub,Nat.reduceMul,Nat.reduceLT,Nat.reduceLeDiff,Nat.reduceBEq,Nat.reduceBNe,UInt8.reduceToNat,Fz.1];rfl)
 | (apply jbh (fun h=>jmv h);simp only[go_sem,↓reduceIte,Int.reduceLE,Int.reduceLT,Int.reduceToNat,Int.reduceNeg,Int.reduceAdd,Int.reduceSub,Int.reduceMul,Int.reduceEq,Int.reduceNe,Nat.reduceEqDiff,Nat.reduceAdd,Nat.reduceSub,Nat.reduceMul,Nat.reduceLT,Nat.reduceLeDiff,Nat.reduceBEq,Nat.reduceBNe,UInt8.reduceToNat,Fz.1];exact Eq.symm (j5l (by kernel_rfl) rfl))
 | (apply jbh j6k;simp only[go_sem,↓reduceIte,Int.reduceLE,Int.reduceLT,Int.reduceToNat,Int.reduceNeg,Int.reduceAdd,Int.reduceSub,Int.reduceMul,Int.reduceEq,Int.reduceNe,Nat.reduceEqDiff,Nat.reduceAdd,Nat.reduceSub,Nat.reduceMul,Nat.reduceLT,Nat.reduceLeDiff,Nat.reduceBEq,Nat.reduceBNe,UInt8.reduceToNat,Fz.1];rfl)
 | (apply jbh jmw;simp only[sq,bl];rfl)
 | (apply jbh jmu;simp only[sq,bl,if_true,if_false,Nat.reduceEqDiff];rfl)
 | (apply jbh jir;simp only[sq,bl];rfl)):G:=h hq
theorem goD {G Q:Prop} (hq:Q) (h:Q→G:=by
 first
 | (apply jbh jtu;rfl)
 | (apply jbh jiq;rfl)
 | (apply jbh jtr;simp (disch:=first|decide|omega) only[go_sem,↓reduceIte,Int.reduceLE,Int.reduceLT,Int.reduceToNat,Int.reduceNeg,Int.reduceAdd,Int.reduceSub,Int.reduceMul,Int.reduceEq,Int.reduceNe,Nat.reduceEqDiff,Nat.reduceAdd,Nat.reduceSub,Nat.reduceMul,Nat.reduceLT,Nat.reduceLeDiff,Nat.reduceBEq,Nat.reduceBNe,UInt8.reduceToNat,wr,dle,dlt,Fz.1];rfl)
 | (apply jbh (fun h=>jmv h);simp (disch:=first|decide|omega) only[go_sem,↓reduceIte,Int.reduceLE,Int.reduceLT,Int.reduceToNat,Int.reduceNeg,Int.reduceAdd,Int.reduceSub,Int.reduceMul,Int.reduceEq,Int.reduceNe,Nat.reduceEqDiff,Nat.reduceAdd,Nat.reduceSub,Nat.reduceMul,Nat.reduceLT,Nat.reduceLeDiff,Nat.reduceBEq,Nat.reduceBNe,UInt8.reduceToNat,wr,dle,dlt,Fz.1];exact Eq.symm (j5l (by kernel_rfl) rfl))
 | (apply jbh j6k;simp (disch:=first|decide|omega) only[go_sem,↓reduceIte,Int.reduceLE,Int.reduceLT,Int.reduceToNat,Int.reduceNeg,Int.reduceAdd,Int.reduceSub,Int.reduceMul,Int.reduceEq,Int.reduceNe,Nat.reduceEqDiff,Nat.reduceAdd,Nat.reduceSub,Nat.reduceMul,Nat.reduceLT,Nat.reduceLeDiff,Nat.reduceBEq,Nat.reduceBNe,UInt8.reduceToNat,wr,dle,dlt,Fz.1];rfl)
 | (apply jbh jmw;simp only[sq,bl];rfl)
 | (apply jbh jmu;simp only[sq,bl,if_true,if_false,Nat.reduceEqDiff];rfl)
 | (apply jbh jir;simp only[sq,bl];rfl)):G:=h hq
section
variable {P:Program} {cf:Cfg} {f:FuncId} {fn:Func} {c:Code} {args:List PV} {ps:List Arr} {res:PV×List Arr×List Arr} {Φ:PV×List Arr×List Arr→Prop}
theorem gp (hp:primC cf f args ps=none) (hf:P.funcs[f]?=some fn) (h:XW P cf f c (jdk args ps) (Post P fn ps.length res)) (hb:fn.body=some c:=by rfl)
 (hok:args.length≤fn.ntmps∧(fn.name == "runtime.NumGoroutine")=false∧jcm fn.ntmps c=true:=by exact⟨Nat.le_of_ble_eq_true rfl,rfl,rfl⟩):KK P cf f args ps=some res:=jc6 hp hf hb hok h
theorem gc (hf:P.funcs[f]?=some fn) (h:XW P cf f c (jdk args ps) (Post P fn ps.length res)) (hp:primC cf f args ps=none:=by rfl) (hb:fn.body=some c:=by rfl)
 (hok:args.length≤fn.ntmps∧(fn.name == "runtime.NumGoroutine")=false∧jcm fn.ntmps c=true:=by exact⟨Nat.le_of_ble_eq_true rfl,rfl,rfl⟩):KK P cf f args ps=some res:=jc6 hp hf hb hok h
theorem ge (hf:P.funcs[f]?=some fn) (h:XW P cf f c (jdk args ps) (j0w P fn ps.length Φ)) (hp:primC cf f args ps=none:=by rfl) (hb:fn.body=some c:=by rfl)
 (hok:args.length≤fn.ntmps∧(fn.name == "runtime.NumGoroutine")=false∧jcm fn.ntmps c=true:=by exact⟨Nat.le_of_ble_eq_true rfl,rfl,rfl⟩):∃res,Φ res∧KK P cf f args ps=some res:=kap hp hf hb hok h
end
theorem lgm {α β:Type} {f:α→β} {l:List α} {i:Nat}:(l.map f)[i]?=l[i]?.map f:=List.getElem?_map
theorem lmn {α β:Type} {f:α→β}:([]:List α).map f=[]:=rfl
theorem lmt {α β:Type} {f:α→β} {l:List α} {i:Nat}:(l.take i).map f=(l.map f).take i:=List.map_take
theorem llt {α:Type} {l:List α} {i:Nat}:(l.take i).length=min i l.length:=List.length_take
theorem llr {α:Type} {n:Nat} {a:α}:(List.replicate n a).length=n:=List.length_replicate
theorem llm {α β:Type} {f:α→β} {l:List α}:(l.map f).length=l.length:=by simp
theorem goR {G Q:Prop} (hq:Q) (h:Q→G:=by
 first
 | refine @jbh _ _ ?_ (fun h=>jtt (jx1 h)) ?_
 | refine @jbh _ _ ?_ (fun h=>jmf h) ?_
 | refine @jbh _ _ ?_ (fun h=>jtt (jsw h)) ?_
 | refine @jbh _ _ ?_ (fun h=>jj0 h) ?_
 rotate_left
 simp only[go_sem,↓reduceIte,Int.reduceLE,Int.reduceLT,Int.reduceToNat,Int.reduceNeg,Int.reduceAdd,Int.reduceSub,Int.reduceMul,Int.reduceEq,Int.reduceNe,Nat.reduceEqDiff,Nat.reduceAdd,Nat.reduceSub,Nat.reduceMul,Nat.reduceLT,Nat.reduceLeDiff,Nat.reduceBEq,Nat.reduceBNe,UInt8.reduceToNat,Fz.1]
 rfl):G:=h hq
end
end Go.Proofs.YtnaaceooknghjaaGreatDoor.X
