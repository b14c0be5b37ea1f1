/- What functions answer, and the plain laws behind it. -/
import Derived.Test.YtnaaceooknghjaaGreatDoorKAD
import Derived.Test.YtnaaceooknghjaaGreatDoorKAE
import Derived.Test.YtnaaceooknghjaaGreatDoorC46
set_option linter.unusedSimpArgs false
set_option linter.unusedVariables false
set_option maxHeartbeats 16000000
set_option maxRecDepth 100000
namespace Go.Proofs.YtnaaceooknghjaaGreatDoor.X
open Go Go.Proofs Tryz
def lvT (ts:List Tl):List Int:=ts.map (·.2.1)
def trT (ts:List Tl):List Bool:=ts.map (·.2.2)
abbrev LvP (n:Int) (ts:List Tl):PV:=.agg [I n,LE (esT ts),LI (lvT ts),LT (trT ts)]
theorem jaq (ts:List Tl):(esT ts).length=ts.length:=by simp[esT]
theorem jax (ts:List Tl):(lvT ts).length=ts.length:=by simp[lvT]
theorem ja9 (ts:List Tl):(trT ts).length=ts.length:=by simp[trT]
abbrev dT:Tl:=((0,0),0,false)
theorem jz8 (ts:List Tl) (i:Nat) (h:i<ts.length):((esT ts).map encE)[i]?=some [.v (.int .i64 (ts.getD i dT).1.1),.v (.int .i64 (ts.getD i dT).1.2)]:=by simp[esT,encE,h]
theorem j8o (ts:List Tl) (i:Nat) (h:i<ts.length):((lvT ts).map encI)[i]?=some [.v (.int .i64 (ts.getD i dT).2.1)]:=by simp[lvT,encI,h]
theorem j4d (ts:List Tl) (i:Nat) (h:i<ts.length):((trT ts).map encT)[i]?=some [.v (.bool (ts.getD i dT).2.2)]:=by simp[trT,encT,h]
theorem jvu {ts:List Tl} {i k:Int} {f:Bool} (h0:0≤i) (h1:i<ts.length):abT (ts.take (i+1).toNat) k f=abT (ts.take i.toNat) k f++if abP k f (ts.getD i.toNat dT)=true then [(ts.getD i.toNat dT).1] else []:=by
 rw[jae dT h0 h1,jhm]
 simp[abT]
theorem jiu (ts:List Tl) (k:Int) (f:Bool):(abT ts k f).length≤ts.length:=by
 unfold abT
 rw[List.length_map];exact List.length_filter_le _ _
theorem jot (n k:Int) (f:Bool) (ts:List Tl) (hl:ts.length≤1000):KP 125 [LvP n ts,I k,B f] []=some (.agg [I n,qP (abT ts k f)],[],qA (abT ts k f)):=by
 have l1:=jaq ts
 have l2:=jax ts
 have l3:=ja9 ts
 refine gc func125 ?_
 have Fz:=fz1 results125
 repeat refine go1 ?_
 refine jaa (fun(x:Int×Nat×List (Int×Int)) s=>s.m 3=some (.box 0 [I n,LE (esT ts),LI (lvT ts),LT (trT ts)])∧s.ρ 3=.ptr 3 0 0 0∧s.ρ 6=.ptr 6 0 0 0∧s.m 6=some (.box 0 [I 0,.i .emp])∧s.ρ 7=.ptr 7 0 0 0∧s.m 7=some (.box 0 [I n,fP 45 x.2.1 x.2.2])∧(x.2.2≠[]→s.m 45=some (.arr x.2.1 2 (x.2.2.map encE)))∧
  s.ρ 16=LE (esT ts)∧s.ρ 17=I ts.length∧s.ρ 18=I x.1∧s.ρ 1=I k∧s.ρ 2=B f∧0≤x.1∧x.1≤ts.length∧x.2.2=abT (ts.take x.1.toNat) k f) (fun x=>(ts.length-x.1).toNat) (0,0,[]) ?_ ?_
 ·exact⟨rfl,rfl,rfl,rfl,rfl,rfl,fun h=>absurd rfl h,rfl,by simp[upd,l1],rfl,rfl,rfl,by simp,by simp,rfl⟩
 rintro⟨i,w,xs⟩ ⟨ρ,m⟩ ⟨m3,e3,e6,m6,e7,m7,m45,e16,e17,e18,e1,e2,g0,g1,hx⟩
 simp only at m3 e3 e6 m6 e7 m7 m45 e16 e17 e18 e1 e2 g0 g1 hx
 by_cases hi:i<ts.length
 rotate_left
 ·have hxe:abT ts k f=xs:=by rw[hx,jac (by omega)]
  rw[hxe]
  unfold qP qA
  by_cases hn:xs=[]
  ·have m7':m 7=some (.box 0 [I n,.i .emp]):=by rw[m7,fP,if_pos hn]
   rw[if_pos hn,if_pos hn]
   have Fz:=fz12 results125 m3 e3 e6 m6 e7 m7' e16 e17 e18 e1 e2
   repeat(first|exact trivial|refine go1 ?_)
  ·have m7':m 7=some (.box 0 [I n,.ref 45 w 0 xs.length]):=by rw[m7,fP,if_neg hn]
   have m45':=m45 hn
   rw[if_neg hn,if_neg hn]
   have Fz:=fz13 results125 m3 e3 e6 m6 e7 m7' m45' e16 e17 e18 e1 e2
   repeat(first|exact trivial|refine go1 ?_)
 have hE:=jz8 ts i.toNat (by omega)
 have hL:=j8o ts i.toNat (by omega)
 have hT:=j4d ts i.toNat (by omega)
 have hsn:=jvu (k:=k) (f:=f) g0 hi
 have hxl:xs.length≤ts.length:=by rw[hx];have:=jiu (ts.take i.toNat) k f;rw[List.length_take] at this;omega
 rw[←hx] at hsn
 generalize ts.getD i.toNat dT=t at hE hL hT hsn
 obtain⟨⟨a,b⟩,l,q⟩:=t
 simp only at hE hL hT hsn
 have hdec:abP k f ((a,b),l,q)=(decide (k≤l) && (!f || q)):=rfl
 rw[hdec] at hsn
 by_cases hk:k≤l
 ·have hkd:=decide_eq_true hk
  by_cases hfq:(!f || q)=true
  ·rw[hkd,hfq] at hsn
   simp only[Bool.and_self,if_true] at hsn
   by_cases hn:xs=[]
   ·subst hn
    have m7':m 7=some (.box 0 [I n,.i .emp]):=m7
    cases f<;>cases q
    ·have Fz:=fz15 results125 m3 e3 e6 m6 e7 m7' e16 e17 e18 e1 e2 hE hL hT
     repeat refine go1 ?_
     exact⟨i+1,_,[(a,b)],rfl,fun _=>⟨rfl,by simp[encE]⟩,rfl,by omega,by omega,by rw[hsn];rfl,by omega⟩
    ·have Fz:=fz15 results125 m3 e3 e6 m6 e7 m7' e16 e17 e18 e1 e2 hE hL hT
     repeat refine go1 ?_
     exact⟨i+1,_,[(a,b)],rfl,fun _=>⟨rfl,by simp[encE]⟩,rfl,by omega,by omega,by rw[hsn];rfl,by omega⟩
    ·cases hfq
    ·have Fz:=fz15 results125 m3 e3 e6 m6 e7 m7' e16 e17 e18 e1 e2 hE hL hT
     repeat refine go1 ?_
     exact⟨i+1,_,[(a,b)],rfl,fun _=>⟨rfl,by simp[encE]⟩,rfl,by omega,by omega,by rw[hsn];rfl,by omega⟩
   ·have m7':m 7=some (.box 0 [I n,.ref 45 w 0 xs.length]):=by rw[m7,fP,if_neg hn]
    have m45':=m45 hn
    cases f<;>cases q
    ·have Fz:=fz16 results125 m3 e3 e6 m6 e7 m7' m45' e16 e17 e18 e1 e2 hE hL hT
     repeat refine go1 ?_
     exact⟨i+1,w+1,xs++[(a,b)],by rw[fP,if_neg (by simp)];simp,fun _=>⟨rfl,rfl⟩,rfl,by omega,by omega,hsn.symm,by omega⟩
    ·have Fz:=fz16 results125 m3 e3 e6 m6 e7 m7' m45' e16 e17 e18 e1 e2 hE hL hT
     repeat refine go1 ?_
     exact⟨i+1,w+1,xs++[(a,b)],by rw[fP,if_neg (by simp)];simp,fun _=>⟨rfl,rfl⟩,rfl,by omega,by omega,hsn.symm,by omega⟩
    ·cases hfq
    ·have Fz:=fz16 results125 m3 e3 e6 m6 e7 m7' m45' e16 e17 e18 e1 e2 hE hL hT
     repeat refine go1 ?_
     exact⟨i+1,w+1,xs++[(a,b)],by rw[fP,if_neg (by simp)];simp,fun _=>⟨rfl,rfl⟩,rfl,by omega,by omega,hsn.symm,by omega⟩
  ·obtain⟨rfl,rfl⟩:f=true∧q=false:=by cases f<;>cases q<;>simp at hfq ⊢
   rw[hkd] at hsn
   simp only[Bool.not_true,Bool.or_self,Bool.and_false,Bool.false_eq_true,if_false,List.append_nil] at hsn
   have Fz:=fz15 results125 m3 e3 e6 m6 e7 m7 e16 e17 e18 e1 e2 hE hL hT
   repeat refine go1 ?_
   exact⟨i+1,w,xs,rfl,m45,rfl,by omega,by omega,hsn.symm,by omega⟩
 ·have hkd:=decide_eq_false hk
  rw[hkd] at hsn
  simp only[Bool.false_and,Bool.false_eq_true,if_false,List.append_nil] at hsn
  have Fz:=fz15 results125 m3 e3 e6 m6 e7 m7 e16 e17 e18 e1 e2 hE hL hT
  repeat refine go1 ?_
  exact⟨i+1,w,xs,rfl,m45,rfl,by omega,by omega,hsn.symm,by omega⟩
theorem ju0 (n:Int) (es:List (Int×Int)):lab n es=(iota n).map (lbl es):=by
 unfold lab iota lbl
 rw[List.map_map]
 exact List.map_congr_left fun x _=>by simp
def jct (n:Int) (ls:List Int):List Int:=(iota n).map fun x=>((ls.filter fun y=>decide (y=x)).length:Int)
theorem jdc (n:Int) (ls:List Int):(jct n ls).length=n.toNat:=by simp[jct,jat]
theorem j80 {n x:Int} (hx:inN n x):(iota n).getD x.toNat 0=x:=by
 obtain⟨h0,h1⟩:=hx
 have:x.toNat<n.toNat:=by omega
 simp[iota,List.getD,this];omega
theorem jdr {n x:Int} (ls:List Int) (hx:inN n x):gI (jct n ls) x=((ls.filter fun y=>decide (y=x)).length:Int):=by
 unfold jct gI
 have h1:x.toNat<(iota n).length:=by rw[jat];obtain⟨a,b⟩:=hx;omega
 have h2:=j80 hx
 simp only[List.getD_eq_getElem?_getD,List.getElem?_map,List.getElem?_eq_getElem h1,Option.map_some,Option.getD_some] at h2 ⊢
 rw[h2]
theorem j2u (n:Int):jct n []=zI n.toNat:=by
 unfold jct zI iota
 rw[List.map_map]
 refine List.ext_getElem (by simp) fun i h1 h2=>by simp
theorem jzq {n x:Int} {ls:List Int} (hx:inN n x):jct n (ls++[x])=(jct n ls).set x.toNat (gI (jct n ls) x+1):=by
 refine j49 (n:=n) (jdc _ _) (by rw[List.length_set];exact jdc _ _) fun y h0 h1=>?_
 rw[jfg hx.1 h0 (by rw[jdc];omega),jdr _ ⟨h0,h1⟩,jdr _ ⟨h0,h1⟩,jdr _ hx,List.filter_append,List.length_append]
 by_cases e:x=y
 ·subst e;rw[if_pos rfl];simp
 ·rw[if_neg e];simp[e]
theorem jpd {n:Int} {es:List (Int×Int)} {x:Int} (hx:inN n x):gI (jct n (lab n es)) (lbl es x)=szC n es x:=by
 obtain⟨h1,h2,-⟩:=jie (es:=es) hx
 rw[jdr _ h1,ju0,List.filter_map,List.length_map]
 unfold szC
 congr 2
 refine List.filter_congr fun y hy=>?_
 have hy':inN n y:=mem_iota.1 hy
 show decide (lbl es y=lbl es x)=decide (Conn es x y)
 rw[decide_eq_decide,j45 hy' hx]
 exact⟨Conn.symm,Conn.symm⟩
theorem j71 {n:Int} {es:List (Int×Int)} {v:Int} (hv:inN n v) (h:0<gI (jct n (lab n es)) v):∃x,inN n x∧lbl es x=v:=by
 rw[jdr _ hv,ju0] at h
 obtain⟨y,hy⟩:=List.exists_mem_of_length_pos (l:=((iota n).map (lbl es)).filter fun y=>decide (y=v)) (by omega)
 obtain⟨h1,h2⟩:=List.mem_filter.1 hy
 obtain⟨x,hx,rfl⟩:=List.mem_map.1 h1
 exact⟨x,mem_iota.1 hx,of_decide_eq_true h2⟩
def szOk (n k:Int) (es:List (Int×Int)):Prop:=∀x,inN n x→1<szC n es x→szC n es x≤n / 2 ^ k.toNat
theorem jye {n k:Int} {es:List (Int×Int)}:(jct n (lab n es)).any (fun x=>decide (1<x) && decide (n / 2 ^ k.toNat<x))=true↔¬szOk n k es:=by
 rw[List.any_eq_true]
 constructor
 ·rintro⟨c,hc,hp⟩ hs
  rw[Bool.and_eq_true,decide_eq_true_eq,decide_eq_true_eq] at hp
  obtain⟨i,hi,he⟩:=List.mem_iff_getElem.1 hc
  rw[jdc] at hi
  have hv:inN n (i:Int):=by unfold inN;omega
  have hg:gI (jct n (lab n es)) i=c:=by simp[gI,List.getD,jdc,hi,he]
  obtain⟨x,hx,hl⟩:=j71 hv (by rw[hg];omega)
  have:=jpd (es:=es) hx
  rw[hl,hg] at this
  have:=hs x hx (by omega)
  omega
 ·intro hs
  refine Classical.byContradiction fun hn=>hs fun x hx h1=>?_
  refine Int.not_lt.1 fun h2=>hn ⟨szC n es x,?_,by rw[Bool.and_eq_true,decide_eq_true_eq,decide_eq_true_eq];exact⟨h1,h2⟩⟩
  rw[←jpd hx]
  obtain⟨⟨a,b⟩,-,-⟩:=jie (es:=es) hx
  exact jab (by rw[jdc];omega)
def lvAt (n:Int) (ts:List Tl) (k:Int):Prop:=Tree n (abT ts k true)∧lab n (abT ts k true)=lab n (abT ts k false)∧szOk n k (abT ts k false)
theorem jn6 {n:Int} {ts:List Tl} {k:Int} (hV:VG n (esT ts)):lab n (abT ts k true)=lab n (abT ts k false)↔∀x y,Conn (abT ts k false) x y→Conn (abT ts k true) x y:=by
 constructor
 ·intro h x y hxy
  have ho:∀e∈abT ts k false,okE n e:=fun e he=>hV.2.2.2.1 e (jcd e he)
  rcases hxy.ok ho with rfl | ⟨a,b,c,d⟩
  ·exact .refl _
  ·rw[←jfz (n:=n) ⟨a,b⟩ ⟨c,d⟩,h,jfz ⟨a,b⟩ ⟨c,d⟩];exact hxy
 ·intro h
  exact jly fun x y=>⟨fun q=>q.mono jvv,h x y⟩
theorem jvt {n:Int} {ts:List Tl} (hV:VG n (esT ts)):LV n ts↔(∀t∈ts,0≤t.2.1∧t.2.1≤4)∧∀k:Int,0≤k→k<5→lvAt n ts k:=by
 constructor
 ·intro h
  exact⟨h.lv,fun k k0 k1=>⟨h.ac k k0 (by omega),(jn6 hV).2 (h.cn k k0 (by omega)),h.sz k k0 (by omega)⟩⟩
 ·rintro⟨h1,h2⟩
  exact⟨hV,h1,fun k k0 k1=>(h2 k k0 (by omega)).1,fun k k0 k1=>(jn6 hV).1 (h2 k k0 (by omega)).2.1,fun k k0 k1=>(h2 k k0 (by omega)).2.2⟩
theorem j7f (xs ys:List Int) (hl:xs.length≤1048576):KP 190 [LI xs,LI ys] []=some (B (decide (xs=ys)),[],[]):=by
 refine gc func190 ?_
 by_cases hle:xs.length=ys.length
 rotate_left
 ·have hne:xs≠ys:=fun h=>hle (by rw[h])
  have Fz:=fz1 results190
  repeat refine go1 ?_
  simp[hne]
 have Fz:=fz1 results190
 repeat refine go1 ?_
 refine jaa (fun(i:Int) s=>s.ρ 0=LI xs∧s.ρ 1=LI ys∧s.ρ 12=I xs.length∧s.ρ 13=I i∧0≤i∧i≤xs.length∧xs.take i.toNat=ys.take i.toNat) (fun i=>(xs.length-i).toNat) 0 ⟨rfl,rfl,rfl,rfl,by simp,by simp,by simp⟩ ?_
 rintro i ⟨ρ,m⟩ ⟨h0,h1,h12,h13,g0,g1,g2⟩
 simp only at h0 h1 h12 h13
 by_cases hi:i<xs.length
 ·by_cases hq:xs.getD i.toNat 0=ys.getD i.toNat 0
  ·have Fz:=fz6 results190 h0 h1 h12 h13 hq
   repeat refine go1 ?_
   refine⟨by omega,by omega,?_,by omega⟩
   rw[jae 0 g0 (by omega),jae 0 g0 (by omega),g2,hq]
  ·have hne:xs≠ys:=fun h=>hq (by rw[h])
   have Fz:=fz6 results190 h0 h1 h12 h13 hq
   repeat refine go1 ?_
   rw[decide_eq_false hne]
 ·rw[jac (by omega),jac (by omega)] at g2
  have Fz:=fz5 results190 h0 h1 h12 h13
  repeat refine go1 ?_
  rw[decide_eq_true g2]
theorem kb7:CloI (.fn 189 [] []) (fun _=>True) (fun x=>decide (x<0) || decide (4<x)):=by
 have k:∀x:Int,KP 189 [I x] []=some (B (decide (x<0) || decide (4<x)),[],[]):=by
  intro x
  refine gc func189 ?_
  by_cases h:x<0
  ·have Fz:=fz2 results189 h
   repeat(first|exact trivial|refine go1 ?_)
  ·have Fz:=fz2 results189 h
   repeat(first|exact trivial|refine go1 ?_)
 refine⟨fun n=>by cases n<;>rfl,rfl,fun me d x hx=>?_⟩
 have hx':=k x
 simp only[go_sem,↓reduceIte,Int.reduceLE,Int.reduceLT,Int.reduceToNat,Int.reduceNeg,Int.reduceAdd,Int.reduceSub,Int.reduceMul,Int.reduceEq,Int.reduceNe,Nat.reduceEqDiff,Nat.reduceAdd,Nat.reduceSub,Nat.reduceMul,Nat.reduceLT,Nat.reduceLeDiff,Nat.reduceBEq,Nat.reduceBNe,UInt8.reduceToNat,hx',ite_self]
theorem j1h {P:Program} {t:TypeId} {a k:Int} (h0:0≤k) (h1:k<5):binV P .shr t (.i (.v (.int .i64 a))) (.i (.v (.int .i64 k)))=some (.int .i64 (a / 2 ^ k.toNat)):=by
 obtain rfl|rfl|rfl|rfl|rfl:k=0∨k=1∨k=2∨k=3∨k=4:=by omega
 all_goals
  simp[binV,binOp,Op.shift,jc4]
  first
  | rfl
  | (have e1:a.fdiv (2 ^ min 1 IntKind.i64.bits)=a / 2:=Int.fdiv_eq_ediv_of_nonneg a (by decide)
     rw[e1];rfl)
  | (have e1:a.fdiv (2 ^ min 2 IntKind.i64.bits)=a / 4:=Int.fdiv_eq_ediv_of_nonneg a (by decide)
     rw[e1];rfl)
  | (have e1:a.fdiv (2 ^ min 3 IntKind.i64.bits)=a / 8:=Int.fdiv_eq_ediv_of_nonneg a (by decide)
     rw[e1];rfl)
  | (have e1:a.fdiv (2 ^ min 4 IntKind.i64.bits)=a / 16:=Int.fdiv_eq_ediv_of_nonneg a (by decide)
     rw[e1];rfl)
theorem kb8 (n k:Int) (ts:List Tl) (h0:0≤k) (h1:k<5):CloI (.fn 191 [] [.eptr [.v (.int .i64 n),.lst ((esT ts).map encE),.lst ((lvT ts).map encI),.lst ((trT ts).map encT)] 0,.eptr [.v (.int .i64 k)] 0]) (fun _=>True) (fun x=>decide (1<x) && decide (n / 2 ^ k.toNat<x)):=by
 have k:∀x:Int,KP 191 [I x,.i (.eptr [.v (.int .i64 n),.lst ((esT ts).map encE),.lst ((lvT ts).map encI),.lst ((trT ts).map encT)] 0),.i (.eptr [.v (.int .i64 k)] 0)] []=some (B (decide (1<x) && decide (n / 2 ^ k.toNat<x)),[],[]):=by
  intro x
  have hs:=fun(P:Program) (t:TypeId)=>j1h (P:=P) (t:=t) (a:=n) h0 h1
  refine gc func191 ?_
  by_cases h:1<x
  ·have Fz:=fz3 results191 h hs
   repeat(first|exact trivial|refine go1 ?_)
  ·have Fz:=fz3 results191 h hs
   repeat(first|exact trivial|refine go1 ?_)
 refine⟨fun n=>by cases n<;>rfl,rfl,fun me d x hx=>?_⟩
 have hx':=k x
 simp only[go_sem,↓reduceIte,Int.reduceLE,Int.reduceLT,Int.reduceToNat,Int.reduceNeg,Int.reduceAdd,Int.reduceSub,Int.reduceMul,Int.reduceEq,Int.reduceNe,Nat.reduceEqDiff,Nat.reduceAdd,Nat.reduceSub,Nat.reduceMul,Nat.reduceLT,Nat.reduceLeDiff,Nat.reduceBEq,Nat.reduceBNe,UInt8.reduceToNat,hx',ite_self]
theorem jiv {n k:Int} {f:Bool} {ts:List Tl} (hV:VG n (esT ts)):OKG n (abT ts k f):=
 ⟨by have:=hV.1;omega,hV.2.1,by have h1:=jiu ts k f;have h2:=hV.2.2.1;rw[jaq] at h2;omega,fun e he=>hV.2.2.2.1 e (jcd e he)⟩
noncomputable instance decLV (n:Int) (ts:List Tl):Decidable (LV n ts):=Classical.propDecidable _
theorem jck (n:Int) (ts:List Tl) (hV:VG n (esT ts)):KP 124 [LvP n ts] []=some (B (decide (LV n ts)),[],[]):=by
 have l1:=jaq ts
 have l2:=jax ts
 have l3:=ja9 ts
 have hn1:=hV.1
 have hn16:=hV.2.1
 have hel:=hV.2.2.1
 have hgv:=jce n (esT ts) (by omega)
 rw[decide_eq_true hV] at hgv
 have hcf:=jdq kb7 (lvT ts) (fun _ _=>trivial) (by omega)
 have hany:(lvT ts).any (fun x=>decide (x<0) || decide (4<x))=!decide (∀t∈ts,0≤t.2.1∧t.2.1≤4):=by
  rw[Bool.eq_iff_iff,List.any_eq_true,Bool.not_eq_true',decide_eq_false_iff_not]
  constructor
  ·rintro⟨x,hx,hp⟩ h
   obtain⟨t,ht,rfl⟩:=List.mem_map.1 hx
   have:=h t ht
   rw[Bool.or_eq_true,decide_eq_true_eq,decide_eq_true_eq] at hp
   omega
  ·intro h
   refine Classical.byContradiction fun hn=>h fun t ht=>?_
   refine Classical.byContradiction fun hb=>hn ⟨t.2.1,List.mem_map.2 ⟨t,ht,rfl⟩,?_⟩
   rw[Bool.or_eq_true,decide_eq_true_eq,decide_eq_true_eq]
   omega
 rw[hany] at hcf
 have hlen:((lvT ts).length:Int)=(esT ts).length:=by omega
 have hlen2:((trT ts).length:Int)=(esT ts).length:=by omega
 by_cases hb:∀t∈ts,0≤t.2.1∧t.2.1≤4
 rotate_left
 ·have hno:¬LV n ts:=fun h=>hb h.lv
  rw[decide_eq_false hno]
  rw[decide_eq_false hb] at hcf
  refine gc func124 ?_
  have Fz:=fz5 results124 hgv hlen hlen2 hcf
  repeat(first|exact trivial|refine go1 ?_)
 rw[decide_eq_true hb] at hcf
 refine gc func124 ?_
 have Fz:=fz5 results124 hgv hlen hlen2 hcf
 repeat refine go1 ?_
 refine jaa (fun(k:Int) s=>s.m 1=some (.box 0 [I n,LE (esT ts),LI (lvT ts),LT (trT ts)])∧s.ρ 1=.ptr 1 0 0 0∧s.ρ 36=I k∧0≤k∧k≤5∧∀j:Int,0≤j→j<k→lvAt n ts j) (fun k=>(5-k).toNat) 0 ?_ ?_
 ·exact⟨rfl,rfl,rfl,by omega,by omega,fun j h0 h1=>by omega⟩
 rintro k ⟨ρ,m⟩ ⟨m1,e1,e36,g0,g1,hj⟩
 simp only at m1 e1 e36 g0 g1 hj
 by_cases hk:k<5
 rotate_left
 ·have hyes:LV n ts:=(jvt hV).2 ⟨hb,fun j j0 j1=>hj j j0 (by omega)⟩
  rw[decide_eq_true hyes]
  have Fz:=fz4 results124 m1 e1 e36
  repeat(first|exact trivial|refine go1 ?_)
 have ha1:=jot n k true ts (by omega)
 have ha2:=jot n k false ts (by omega)
 have hF:OKG n (abT ts k true):=jiv hV
 have hA:OKG n (abT ts k false):=jiv hV
 have hff:=jv9 n (abT ts k true) hF
 have hp1:=ji4 n (abT ts k true) hF
 have hp2:=ji4 n (abT ts k false) hA
 have hll1:=jap n (abT ts k true)
 have hll2:=jap n (abT ts k false)
 have hfl:=(jcz hF.ok).length_le
 have htr:=jhl (n:=n) hF.ok
 have hlq1:=ji8 (es:=jai (abT ts k true))
 have hlq2:=ji8 (es:=abT ts k true)
 have heq:=j7f (lab n (abT ts k true)) (lab n (abT ts k false)) (by omega)
 by_cases hT:Tree n (abT ts k true)
 rotate_left
 ·have hno:¬LV n ts:=fun h=>hT (h.ac k g0 (by omega))
  have hne:(jai (abT ts k true)).length≠(abT ts k true).length:=fun e=>hT (htr.1 e)
  have hlt:((jai (abT ts k true)).length:Int)<(abT ts k true).length:=by omega
  rw[decide_eq_false hno]
  have Fz:=fz13 results124 m1 e1 e36 ha1 ha2 hff hp2 hlq1 hlq2 hlt @jnz @jhc
  repeat(first|exact trivial|refine go1 ?_)
 have hte:((jai (abT ts k true)).length:Int)=(abT ts k true).length:=by have:=htr.2 hT;omega
 by_cases hlab:lab n (abT ts k true)=lab n (abT ts k false)
 rotate_left
 ·have hno:¬LV n ts:=fun h=>hlab ((jvt hV).1 h|>.2 k g0 hk).2.1
  rw[decide_eq_false hno]
  rw[decide_eq_false hlab] at heq
  have Fz:=fz15 results124 m1 e1 e36 ha1 ha2 hff hp1 hp2 hlq1 hlq2 hte heq @jnz @jhc
  repeat(first|exact trivial|refine go1 ?_)
 rw[decide_eq_true hlab] at heq
 have hcv:=jdq (kb8 n k ts g0 hk) (jct n (lab n (abT ts k false))) (fun _ _=>trivial) (by rw[jdc];omega)
 have hin:∀i,i<(lab n (abT ts k false)).length→inN n ((lab n (abT ts k false)).getD i 0):=fun i hi=>by
  have hx:inN n (i:Int):=by unfold inN;omega
  have:=jsc (es:=abT ts k false) hx
  rw[Int.toNat_natCast] at this
  rw[this];exact(jie hx).1
 have Fz:=fz15 results124 m1 e1 e36 ha1 ha2 hff hp1 hp2 hlq1 hlq2 hte heq @jnz @jhc
 repeat refine go1 ?_
 generalize hls:lab n (abT ts k false)=ls at *
 refine jaa (fun(i:Int) s=>s.m 1=some (.box 0 [I n,LE (esT ts),LI (lvT ts),LT (trT ts)])∧s.ρ 1=.ptr 1 0 0 0∧s.ρ 36=I k∧s.m 3=some (.box (nv (m 3)) [I k])∧s.ρ 3=.ptr 3 (nv (m 3)) 0 0∧s.m 62=some (.arr (nv (m 62)) 1 ((jct n (ls.take i.toNat)).map encI))∧s.ρ 6=.ref 62 (nv (m 62)) 0 n.toNat∧s.ρ 63=LI ls∧s.ρ 64=I ls.length∧s.ρ 65=I i∧0≤i∧i≤ls.length) (fun i=>(ls.length-i).toNat) 0 ?_ ?_
 ·refine⟨m1,e1,e36,rfl,rfl,?_,?_,rfl,rfl,rfl,by omega,by omega⟩
  ·show some (Arr.arr (nv (m 62)) 1 ((zI ls.length).map encI))=some (.arr (nv (m 62)) 1 ((jct n []).map encI))
   rw[j2u,hll2]
  ·show PV.ref 62 (nv (m 62)) 0 ls.length=_
   rw[hll2]
 generalize nv (m 3)=v3
 generalize nv (m 62)=v62
 rintro i ⟨ρ,m⟩ ⟨m1,e1,e36,m3,e3,m62,e6,e63,e64,e65,f0,f1⟩
 simp only at m1 e1 e36 m3 e3 m62 e6 e63 e64 e65 f0 f1
 have hcl:=jdc n (ls.take i.toNat)
 by_cases hi:i<ls.length
 ·have hgi:=getI ls i.toNat (by omega)
  have hini:=hin i.toNat (by omega)
  have hsn:jct n (ls.take (i+1).toNat)=(jct n (ls.take i.toNat)).set (ls.getD i.toNat 0).toNat (gI (jct n (ls.take i.toNat)) (ls.getD i.toNat 0)+1):=by
   rw[jae 0 f0 hi,jzq hini]
  have hbd:0≤gI (jct n (ls.take i.toNat)) (ls.getD i.toNat 0)∧gI (jct n (ls.take i.toNat)) (ls.getD i.toNat 0)≤1000:=by
   rw[jdr _ hini]
   have:=List.length_filter_le (fun y=>decide (y=ls.getD i.toNat 0)) (ls.take i.toNat)
   rw[List.length_take] at this
   omega
  generalize ls.getD i.toNat 0=x at hgi hini hsn hbd
  obtain⟨x0,x1⟩:=id hini
  have hgx:(jct n (ls.take i.toNat)).getD x.toNat 0=gI (jct n (ls.take i.toNat)) x:=rfl
  generalize gI (jct n (ls.take i.toNat)) x=c at hsn hbd hgx
  have Fz:=fz14 results124 m1 e1 e36 m3 e3 m62 e6 e63 e64 e65 hgi hcl hgx
  repeat refine go1 ?_
  exact⟨i+1,by rw[hsn],rfl,by omega,by omega,by omega⟩
 rw[jac (by omega)] at m62 hcl
 have htk:(jct n ls).take n.toNat=jct n ls:=List.take_of_length_le (by omega)
 by_cases hs:szOk n k (abT ts k false)
 ·have hpf:(jct n ls).any (fun x=>decide (1<x) && decide (n / 2 ^ k.toNat<x))=false:=by
   rw[←hls,←Bool.not_eq_true,jye];exact fun h=>h hs
  rw[hpf] at hcv
  have Fz:=fz14 results124 m1 e1 e36 m3 e3 m62 e6 e63 e64 e65 hcl htk hcv
  repeat refine go1 ?_
  refine⟨by omega,by omega,fun j j0 j1=>?_,by omega⟩
  by_cases e:j=k
  ·subst e;exact⟨hT,hlab.trans hls.symm,hs⟩
  ·exact hj j j0 (by omega)
 ·have hno:¬LV n ts:=fun h=>hs (h.sz k g0 (by omega))
  have hpf:(jct n ls).any (fun x=>decide (1<x) && decide (n / 2 ^ k.toNat<x))=true:=by
   rw[←hls,jye];exact hs
  rw[hpf] at hcv
  rw[decide_eq_false hno]
  have Fz:=fz14 results124 m1 e1 e36 m3 e3 m62 e6 e63 e64 e65 hcl htk hcv
  repeat(first|exact trivial|refine go1 ?_)
theorem kdb {xs ys:List Bool}:xs.map encT++ys.map encT=(xs++ys).map encT:=by simp
theorem khj {xs:List Bool} {n:Nat}:(xs.map encT).drop n=(xs.drop n).map encT:=by simp
theorem kgd {xs:List Bool} {n:Nat}:(xs.map encT).take n=(xs.take n).map encT:=by simp
theorem jro {a b:List Bool}:a.map encT=b.map encT↔a=b:=by
 refine⟨fun h=>?_,fun h=>by rw[h]⟩
 induction a generalizing b with
 | nil=>cases b<;>simp_all
 | cons x a ih=>
  cases b with
  | nil=>simp at h
  | cons y b=>
   simp only[List.map_cons,List.cons.injEq,encT,IV.v.injEq,Value.bool.injEq,and_true] at h
   rw[ih h.2,h.1]
theorem j9e {us:List Bool}:(us.map encT).all (fun e=>e.length == 1)=true:=by simp[encT]
attribute [go_sem] kdb khj kgd jro j9e
@[go_sem] theorem j1u:KP 133 [.i (.lst [])] []=some (.i .emp,[],[]):=jdd rfl rfl
theorem jv7 (xs:List Int) (h:xs≠[]) (hl:xs.length≤1048576):KP 133 [LI xs] []=some (.ref 2000 0 0 xs.length,[],[.arr 0 1 (xs.map encI)]):=by
 have hp:primC cfg 133 [LI xs] []=none:=by
  cases xs with
  | nil=>exact absurd rfl h
  | cons e r=>rfl
 have hm:xs.map encI≠[]:=by simpa using h
 refine gp hp func133 ?_
 have Fz:=fz2 results133 hm
 repeat(first|exact trivial|refine go1 ?_)
@[go_sem] theorem j1v:KP 135 [.i (.lst [])] []=some (.i .emp,[],[]):=jdd rfl rfl
theorem jv8 (xs:List Bool) (h:xs≠[]) (hl:xs.length≤1048576):KP 135 [LT xs] []=some (.ref 2000 0 0 xs.length,[],[.arr 0 1 (xs.map encT)]):=by
 have hp:primC cfg 135 [LT xs] []=none:=by
  cases xs with
  | nil=>exact absurd rfl h
  | cons e r=>rfl
 have hm:xs.map encT≠[]:=by simpa using h
 refine gp hp func135 ?_
 have Fz:=fz2 results135 hm
 repeat(first|exact trivial|refine go1 ?_)
theorem kfb (xs:List Int) (x k:Int) (hl:xs.length≤1000) (h0:0≤k) (hk:k<xs.length) :
 KP 132 [.ref 1000 0 0 xs.length,I k,.ref 1001 0 0 1] [.arr 0 1 (xs.map encI),.arr 0 1 [[.v (.int .i64 x)]]]=some (.ref 1000 1 0 (xs.length+1),[.arr 1 1 ((xs.take k.toNat++x::xs.drop k.toNat).map encI),.arr 0 1 [[.v (.int .i64 x)]]],[]):=by
 refine jdd rfl ?_
 have:xs.length≤1000000:=by omega
 simp[insP,h0,hk,this,encI]
theorem jyz (xs:List Int) (x:Int) (hl:xs.length≤1000) :
 KP 132 [.ref 1000 0 0 xs.length,I xs.length,.ref 1001 0 0 1] [.arr 0 1 (xs.map encI),.arr 0 1 [[.v (.int .i64 x)]]]=some (.ref 1000 1 0 (xs.length+1),[.arr 1 1 ((xs++[x]).map encI),.arr 0 1 [[.v (.int .i64 x)]]],[]):=by
 have hp:primC cfg 132 [.ref 1000 0 0 xs.length,I xs.length,.ref 1001 0 0 1] [.arr 0 1 (xs.map encI),.arr 0 1 [[.v (.int .i64 x)]]]=none:=by
  first|rfl|simp[primC,cfg,insP]
 refine gp hp func132 ?_
 have Fz:=fz1 results132
 repeat(first|exact trivial|refine go1 ?_)
theorem jy0 (x:Int) :
 KP 132 [.i .emp,I 0,.ref 1000 0 0 1] [.arr 0 1 [[.v (.int .i64 x)]]]=some (.ref 2000 0 0 1,[.arr 0 1 [[.v (.int .i64 x)]]],[.arr 0 1 [[.v (.int .i64 x)]]]):=by
 have hp:primC cfg 132 [.i .emp,I 0,.ref 1000 0 0 1] [.arr 0 1 [[.v (.int .i64 x)]]]=none:=by
  first|rfl|simp[primC,cfg,insP]
 refine gp hp func132 ?_
 have Fz:=fz1 results132
 repeat(first|exact trivial|refine go1 ?_)
theorem kfc (xs:List Bool) (x:Bool) (k:Int) (hl:xs.length≤1000) (h0:0≤k) (hk:k<xs.length) :
 KP 134 [.ref 1000 0 0 xs.length,I k,.ref 1001 0 0 1] [.arr 0 1 (xs.map encT),.arr 0 1 [[.v (.bool x)]]]=some (.ref 1000 1 0 (xs.length+1),[.arr 1 1 ((xs.take k.toNat++x::xs.drop k.toNat).map encT),.arr 0 1 [[.v (.bool x)]]],[]):=by
 refine jdd rfl ?_
 have:xs.length≤1000000:=by omega
 simp[insP,h0,hk,this,encT]
theorem jy1 (xs:List Bool) (x:Bool) (hl:xs.length≤1000) :
 KP 134 [.ref 1000 0 0 xs.length,I xs.length,.ref 1001 0 0 1] [.arr 0 1 (xs.map encT),.arr 0 1 [[.v (.bool x)]]]=some (.ref 1000 1 0 (xs.length+1),[.arr 1 1 ((xs++[x]).map encT),.arr 0 1 [[.v (.bool x)]]],[]):=by
 have hp:primC cfg 134 [.ref 1000 0 0 xs.length,I xs.length,.ref 1001 0 0 1] [.arr 0 1 (xs.map encT),.arr 0 1 [[.v (.bool x)]]]=none:=by
  first|rfl|simp[primC,cfg,insP]
 refine gp hp func134 ?_
 have Fz:=fz1 results134
 repeat(first|exact trivial|refine go1 ?_)
theorem jy2 (x:Bool) :
 KP 134 [.i .emp,I 0,.ref 1000 0 0 1] [.arr 0 1 [[.v (.bool x)]]]=some (.ref 2000 0 0 1,[.arr 0 1 [[.v (.bool x)]]],[.arr 0 1 [[.v (.bool x)]]]):=by
 have hp:primC cfg 134 [.i .emp,I 0,.ref 1000 0 0 1] [.arr 0 1 [[.v (.bool x)]]]=none:=by
  first|rfl|simp[primC,cfg,insP]
 refine gp hp func134 ?_
 have Fz:=fz1 results134
 repeat(first|exact trivial|refine go1 ?_)
theorem kay {α:Type} {xs:List α} {d:α} {i:Int} (h0:0≤i) (hi:i<xs.length) :
 List.take (xs.length-1) (List.take i.toNat xs++List.drop (i+1).toNat xs++List.drop (xs.length-1) xs)++[d]++List.drop (xs.length-1+1) (List.take i.toNat xs++List.drop (i+1).toNat xs++List.drop (xs.length-1) xs)=List.take i.toNat xs++List.drop (i.toNat+1) xs++[d]:=by
 have e:(i+1).toNat=i.toNat+1:=by omega
 rw[e]
 have hA:(List.take i.toNat xs++List.drop (i.toNat+1) xs).length=xs.length-1:=by simp;omega
 have h2:List.drop (xs.length-1+1) (List.take i.toNat xs++List.drop (i.toNat+1) xs++List.drop (xs.length-1) xs)=[]:=List.drop_eq_nil_of_le (by rw[List.length_append,hA];simp;omega)
 rw[List.take_left' hA,h2,List.append_nil]
theorem ke8 (xs:List Int) (i:Int) (hl:xs.length≤1000) (h0:0≤i) (hi:i<xs.length) :
 KP 143 [.ref 1000 0 0 xs.length,I i,I (i+1)] [.arr 0 1 (xs.map encI)]=some (.ref 1000 0 0 (xs.length-1),[.arr 0 1 ((xs.take i.toNat++xs.drop (i.toNat+1)++[0]).map encI)],[]):=by
 have hb:(i.toNat == xs.length)=false:=by simp;omega
 have htk:List.take (xs.length-(i+1).toNat) (List.drop (i+1).toNat xs)=List.drop (i+1).toNat xs:=List.take_of_length_le (by simp)
 have hsum:i.toNat+(List.drop (i+1).toNat xs).length=xs.length-1:=by simp;omega
 have hle:(↑xs.length:Int)≤↑((List.take i.toNat xs).length+(List.drop (i+1).toNat xs).length+(List.drop (xs.length-1) xs).length):=by simp;omega
 have h1:xs.length-(xs.length-1)=1:=by omega
 refine gc func143 ?_
 have Fz:=fz6 results143 hb htk hsum hle h1
 repeat refine go1 ?_
 rw[kay h0 hi]
theorem ke9 (xs:List Bool) (i:Int) (hl:xs.length≤1000) (h0:0≤i) (hi:i<xs.length) :
 KP 144 [.ref 1000 0 0 xs.length,I i,I (i+1)] [.arr 0 1 (xs.map encT)]=some (.ref 1000 0 0 (xs.length-1),[.arr 0 1 ((xs.take i.toNat++xs.drop (i.toNat+1)++[false]).map encT)],[]):=by
 have hb:(i.toNat == xs.length)=false:=by simp;omega
 have htk:List.take (xs.length-(i+1).toNat) (List.drop (i+1).toNat xs)=List.drop (i+1).toNat xs:=List.take_of_length_le (by simp)
 have hsum:i.toNat+(List.drop (i+1).toNat xs).length=xs.length-1:=by simp;omega
 have hle:(↑xs.length:Int)≤↑((List.take i.toNat xs).length+(List.drop (i+1).toNat xs).length+(List.drop (xs.length-1) xs).length):=by simp;omega
 have h1:xs.length-(xs.length-1)=1:=by omega
 refine gc func144 ?_
 have Fz:=fz6 results144 hb htk hsum hle h1
 repeat refine go1 ?_
 rw[kay h0 hi]
section
def cntI (ls:List Int) (x:Int):Int:=((ls.filter fun y=>decide (y=x)).length:Int)
theorem jwk (ls:List Int) (x:Int):0≤cntI ls x∧cntI ls x≤ls.length:=by
 unfold cntI
 have:=List.length_filter_le (fun y=>decide (y=x)) ls
 omega
theorem jrc {ls:List Int} {x:Int} {i:Int} (h0:0≤i) (h1:i<ls.length):cntI (ls.take (i+1).toNat) x=cntI (ls.take i.toNat) x+if ls.getD i.toNat 0=x then 1 else 0:=by
 unfold cntI
 rw[jae 0 h0 h1,List.filter_append,List.length_append]
 generalize ls.getD i.toNat 0=y
 by_cases h:y=x
 ·simp[h]
 ·simp[h]
theorem jpc {n:Int} {es:List (Int×Int)} {x:Int} (hx:inN n x):cntI (lab n es) (lbl es x)=szC n es x:=by
 have h1:=jpd (es:=es) hx
 rw[jdr _ (jie hx).1] at h1
 exact h1
theorem jnn (ls:List Int) (x:Int) (hl:ls.length≤1000):KP 205 [I x,.i (.eptr [.lst (ls.map encI)] 0)] []=some (I (cntI ls x),[],[]):=by
 refine gc func205 ?_
 have Fz:=fz1 results205
 repeat refine go1 ?_
 refine jaa (fun(i:Int) s=>s.ρ 0=I x∧s.ρ 4=I (cntI (ls.take i.toNat) x)∧s.ρ 7=LI ls∧s.ρ 8=I (ls.length:Int)∧s.ρ 9=I i∧0≤i∧i≤ls.length) (fun i=>(ls.length-i).toNat) 0 ⟨rfl,rfl,rfl,rfl,rfl,by omega,by omega⟩ ?_
 rintro i ⟨ρ,m⟩ ⟨e0,e4,e7,e8,e9,g0,g1⟩
 simp only at e0 e4 e7 e8 e9 g0 g1
 have hcl:=jwk (ls.take i.toNat) x
 rw[List.length_take] at hcl
 by_cases hi:i<ls.length
 rotate_left
 ·rw[jac (by omega)] at e4
  have Fz:=fz6 results205 e0 e4 e7 e8 e9
  repeat(first|exact trivial|refine go1 ?_)
 have hgi:=getI ls i.toNat (by omega)
 have hsn:=jrc (x:=x) g0 hi
 generalize ls.getD i.toNat 0=y at *
 generalize cntI (ls.take i.toNat) x=c at *
 by_cases hq:y=x
 ·rw[if_pos hq] at hsn
  have Fz:=fz8 results205 e0 e4 e7 e8 e9 hgi hq
  repeat refine go1 ?_
  exact⟨i+1,by rw[hsn],rfl,by omega,by omega,by omega⟩
 ·rw[if_neg hq] at hsn
  have Fz:=fz8 results205 e0 e4 e7 e8 e9 hgi hq
  repeat refine go1 ?_
  exact⟨i+1,by rw[hsn];omega,rfl,by omega,by omega,by omega⟩
def mxT (f:Tl→Tl) (ts:List Tl) (i:Nat):List Tl:=(ts.take i).map f++ts.drop i
theorem j5e (f:Tl→Tl) (ts:List Tl) (i:Nat):(mxT f ts i).length=ts.length:=by
 unfold mxT
 rw[List.length_append,List.length_map,List.length_take,List.length_drop];omega
theorem jpt {f:Tl→Tl} {ts:List Tl} {i:Nat} (h:i<ts.length):(mxT f ts i).getD i dT=ts.getD i dT:=by
 unfold mxT
 have hl:((ts.take i).map f).length=i:=by rw[List.length_map,List.length_take];omega
 simp only[List.getD]
 rw[List.getElem?_append_right (by omega),hl,Nat.sub_self,List.getElem?_drop,Nat.add_zero]
theorem jxx {f:Tl→Tl} {ts:List Tl} {i:Nat} (h:i<ts.length):mxT f ts (i+1)=(mxT f ts i).set i (f (ts.getD i dT)):=by
 unfold mxT
 have hl:((ts.take i).map f).length=i:=by rw[List.length_map,List.length_take];omega
 have hg:ts.getD i dT=ts[i]:=by simp[List.getD,h]
 rw[List.set_append_right _ _ (by omega),hl,Nat.sub_self,List.drop_eq_getElem_cons h,List.set_cons_zero,List.take_add_one,List.getElem?_eq_getElem h,hg,Option.toList_some,List.map_append,List.append_assoc]
 rfl
theorem j5c (ts:List Tl) (i:Nat) (t:Tl):lvT (ts.set i t)=(lvT ts).set i t.2.1:=by simp[lvT,List.map_set]
theorem jx9 {α:Type} {l:List α} {i:Nat} {d:α} (h:i<l.length):l.set i (l.getD i d)=l:=by
 simp[List.getD,h]
theorem jl5 {ts:List Tl} {i:Nat} (h:i<ts.length):(lvT ts).getD i 0=(ts.getD i dT).2.1:=by simp[lvT,h]
theorem kee {ts:List Tl} {i:Nat} (h:i<ts.length):(trT ts).getD i false=(ts.getD i dT).2.2:=by simp[trT,h]
theorem j4e {α:Type} {l r:List α} {i:Nat} {d:α} (h:i<l.length):(l++r).getD i d=l.getD i d:=by simp[List.getD,List.getElem?_append_left h]
theorem jvh {α:Type} {l r:List α} {i:Nat} {x:α} (h:i<l.length):(l++r).set i x=l.set i x++r:=List.set_append_left _ _ h
theorem jtj {A x0:List Int} {i:Nat} {v:Int} (h:i<A.length) (hv:A.getD i 0=v):((A++x0).map encI)[i]?=some [.v (.int .i64 v)]:=by
 have:=getI (A++x0) i (by rw[List.length_append];omega)
 rw[j4e h,hv] at this
 exact this
theorem jtk {A x0:List Bool} {i:Nat} {v:Bool} (h:i<A.length) (hv:A.getD i false=v):((A++x0).map encT)[i]?=some [.v (.bool v)]:=by
 have:=getT (A++x0) i (by rw[List.length_append];omega)
 rw[j4e h,hv] at this
 exact this
theorem jef {D r:List Tl} {t:Tl}:lvT (D++t::r)=lvT D++t.2.1::lvT r:=by simp[lvT]
theorem jei {D r:List Tl} {t:Tl}:trT (D++t::r)=trT D++t.2.2::trT r:=by simp[trT]
theorem jps {α:Type} {D r:List α} {x v:α} {i:Nat} (h:D.length=i):(D++x::r).set i v=D++v::r:=by
 subst h
 rw[List.set_append_right _ _ (Nat.le_refl _),Nat.sub_self];rfl
theorem ju5 {α:Type} {D r:List α} {x d:α} {i:Nat} (h:D.length=i):(D++x::r).getD i d=x:=by
 subst h;simp
section
variable {S:Int→Prop} [DecidablePred S] {k:Int}
theorem kbf (t:Tl):(up1 S k t).2.2=t.2.2:=by unfold up1;split<;>rfl
theorem kbe (t:Tl):(up1 S k t).1=t.1:=by unfold up1;split<;>rfl
theorem jyi {ts:List Tl} {i:Int} (h0:0≤i) (h1:i<ts.length):(((ts.take (i+1).toNat).filter fun t=>decide (t.2.2=true∧t.2.1=k∧S t.1.1∧S t.1.2)).length:Int)=((ts.take i.toNat).filter fun t=>decide (t.2.2=true∧t.2.1=k∧S t.1.1∧S t.1.2)).length+if(ts.getD i.toNat dT).2.2=true∧(ts.getD i.toNat dT).2.1=k∧S (ts.getD i.toNat dT).1.1∧S (ts.getD i.toNat dT).1.2 then 1 else 0:=by
 rw[jae dT h0 h1,List.filter_append,List.length_append]
 generalize ts.getD i.toNat dT=t
 by_cases h:t.2.2=true∧t.2.1=k∧S t.1.1∧S t.1.2
 ·rw[if_pos h,List.filter_cons,if_pos (by simpa using h)];simp
 ·rw[if_neg h,List.filter_cons,if_neg (by simpa using h)];simp
theorem joe {t:Tl} {r:List Tl} (h:t.2.2=true∨t.2.1≠k∨(¬S t.1.1∧¬S t.1.2)):scanT S k (t::r)=(t::(scanT S k r).1,(scanT S k r).2):=by rw[scanT,if_pos h]
theorem jod {t:Tl} {r:List Tl} (h1:t.2.2=false) (h2:t.2.1=k) (h3:S t.1.1∧S t.1.2):scanT S k (t::r)=(raT t::(scanT S k r).1,(scanT S k r).2.1+1,(scanT S k r).2.2):=by
 rw[scanT,if_neg (by simp[h1,h2];exact fun h=>absurd h3.1 h),if_pos h3]
theorem js7 {t:Tl} {r:List Tl} (h1:t.2.2=false) (h2:t.2.1=k) (h3:¬(S t.1.1∧S t.1.2)) (h4:¬(¬S t.1.1∧¬S t.1.2)):scanT S k (t::r)=((t.1,t.2.1,true)::r,0,true):=by
 rw[scanT,if_neg (by rw[h1];simp only[Bool.false_eq_true,false_or];exact fun h=>h.elim (fun h=>h h2) h4),if_neg h3]
end
theorem kco {n:Nat} {xs:List (Int×Int)}:flatP n (qP xs)=true:=by unfold qP;split<;>cases n<;>rfl
theorem kcn {xs:List (Int×Int)}:(qA xs).all ji6=true:=by
 unfold qA
 split
 ·rfl
 ·simp[ji6,encE,jd5]
attribute [go_sem] kco kcn
end
end Go.Proofs.YtnaaceooknghjaaGreatDoor.X
