/- What functions answer, and the plain laws behind it. -/
import Derived.Test.YtnaaceooknghjaaGreatDoorKAR
import Derived.Test.YtnaaceooknghjaaGreatDoorKAP
import Derived.Test.YtnaaceooknghjaaGreatDoorKAQ
import Derived.Test.YtnaaceooknghjaaGreatDoorKAS
set_option linter.unusedSimpArgs false
set_option linter.unusedVariables false
set_option maxHeartbeats 8000000
set_option maxRecDepth 100000
namespace Go.Proofs.YtnaaceooknghjaaGreatDoor.X
open Go Go.Proofs Tryz
theorem jzh (x y:Int):KP 53 [I x,I y] []=some (if eOk x y then .tup [PE (edgeOf x y).1 (edgeOf x y).2,B true] else .tup [PE 0 0,B false],[],[]):=by
 by_cases h:eOk x y
 ·rw[if_pos h]
  have h':=h
  unfold eOk at h'
  refine gc func53 ?_
  have Fz:=fz1 results53
  repeat(first|exact trivial|refine go1 ?_)
  all_goals grind
 ·rw[if_neg h]
  unfold eOk at h
  refine gc func53 ?_
  have Fz:=fz1 results53
  repeat'(first|exact trivial|refine go1 ?_|(refine go4 ?_;split<;>first|omega|refine go3 ?_|skip))
  all_goals grind
theorem jx5 (n a b:Int) (ts:List Tl) (hP:PlOK n ts (a,b)):∃r own,KP 97 [LvP n ts,PE a b] []=some (r,[],own)∧imm 2 own r=some (.tup [LvP n (plL ts (a,b)),B true]):=by
 refine⟨_,_,jue n a b ts hP,?_⟩
 have k1:=rkE (plL ts (a,b))
 have k2:=rkL (plL ts (a,b))
 have k3:=rkT (plL ts (a,b))
 generalize plL ts (a,b)=us at *
 simp only[jgu,jgt,imm,imm1,mapO]
 simp[←List.map_take,k1,k2,k3]
theorem kbv (n:Int) (es:List (Int×Int)) (hV:VG n es):∃x y z:IV,LV3 x y z (ldT es)∧KP 48 [GL n es] []=some (.agg [I n,.i x,.i y,.i z],[],[]):=by
 suffices h:∃res,(∃x y z:IV,LV3 x y z (ldT es)∧res=(PV.agg [I n,.i x,.i y,.i z],([]:List Arr),([]:List Arr)))∧KP 48 [GL n es] []=some res by
  obtain⟨res,⟨x,y,z,h1,rfl⟩,h2⟩:=h
  exact⟨x,y,z,h1,h2⟩
 have hel:=hV.2.2.1
 refine ge func48 ?_
 have Fz:=fz1 results48
 repeat refine go1 ?_
 refine jaa (fun(w:Int×IV×IV×IV) s=>s.ρ 1=.ptr 1 0 0 0∧s.m 1=some (.box 0 [I n,LE es])∧s.ρ 2=.ptr 2 0 0 0∧s.m 2=some (.box 0 [I 0,.i .emp,.i .emp,.i .emp])∧s.ρ 3=.ptr 3 0 0 0∧s.m 3=some (.box 0 [I n,.i w.2.1,.i w.2.2.1,.i w.2.2.2])∧s.ρ 4=I w.1∧0≤w.1∧w.1≤es.length∧
  LV3 w.2.1 w.2.2.1 w.2.2.2 (ldT (es.take w.1.toNat))) (fun w=>(es.length-w.1).toNat) (0,.emp,.emp,.emp) ?_ ?_
 ·refine⟨?_,?_,?_,?_,?_,?_,?_,by simp,by simp,LV3.emp⟩
  all_goals first|rfl | (simp[upd];done)
 rintro⟨i,x,y,z⟩ ⟨ρ,m⟩ ⟨e1,m1,e2,m2,e3,m3,e4,g0,g1,h3⟩
 simp only at e1 m1 e2 m2 e3 m3 e4 g0 g1 h3
 have hfx:=h3.fx
 have hfy:=h3.fy
 have hfz:=h3.fz
 by_cases hi:i<es.length
 rotate_left
 ·have hin:i.toNat=es.length:=by omega
  rw[hin,List.take_length] at h3
  have hlx:=h3.lx
  have hly:=h3.ly
  have hlz:=h3.lz
  have Fz:=fz11 results48 e1 m1 e2 m2 e3 m3 e4 hlx hly hlz
  repeat refine go1 ?_
  all_goals exact⟨x,y,z,h3,rfl⟩
 have hVi:VG n (es.take i.toNat):=hV.sub (List.take_sublist _ _)
 have hVn:VG n (es.take (i+1).toNat):=hV.sub (List.take_sublist _ _)
 have hge:=getE es i.toNat (by omega)
 have htk:=jae (l:=es) (0,0) g0 hi
 have hD:=ld hVi
 generalize es.getD i.toNat (0,0)=e at *
 obtain⟨a,b⟩:=e
 simp only at hge
 rw[htk] at hVn
 have hP:=hD.put hVn
 have hsn:=jgh (es.take i.toNat) (a,b)
 rw[←htk] at hsn
 obtain⟨r,own,hpl,him⟩:=jx5 n a b (ldT (es.take i.toNat)) hP
 have hsn':ldT (es.take (i+1).toNat)=plL (ldT (es.take i.toNat)) (a,b):=hsn
 rw[←hsn'] at him
 have hU:=LV3.lst (ldT (es.take (i+1).toNat))
 generalize ldT (es.take i.toNat)=T at *
 generalize hUe:ldT (es.take (i+1).toNat)=U at *
 have Fz:=fz14 results48 e1 m1 e2 m2 e3 m3 e4 hge hpl him hfx hfy hfz
 repeat refine go1 ?_
 exact⟨i+1,_,_,_,rfl,rfl,by omega,by omega,by rw[hUe];exact hU,by omega⟩
noncomputable def chgF (n:Int) (ts:List Tl) (w:List UInt8) (e:Int×Int):OutL:=
 if w=[112,117,116] then
  if PlOK n ts e then([112,97,114,116,115]++jaw [(cnt n (putE e (esT ts)):Int)]++[10],n,plL ts e) else(jcc,n,ts)
 else
  if e∈esT ts then((if(ctR n ts e).2.2=true then [102,111,117,110,100] else [99,117,116])++32::Lib.itoa (ctR n ts e).2.1++[10],n,(ctR n ts e).1) else(jcc,n,ts)
theorem jk1 (n a b:Int) (ts:List Tl) (hL:LV n ts):∃x y z:IV,LV3 x y z (chgF n ts [112,117,116] (a,b)).2.2∧KP 54 [LvP n ts,S [112,117,116],PE a b] []=some (.tup [.agg [I (chgF n ts [112,117,116] (a,b)).2.1,.i x,.i y,.i z],S (chgF n ts [112,117,116] (a,b)).1],[],[]):=by
 have hV:=hL.vg
 unfold chgF
 rw[if_pos rfl]
 by_cases hP:PlOK n ts (a,b)
 ·rw[if_pos hP]
  obtain⟨r,own,hpl,him⟩:=jx5 n a b ts hP
  have hVp:VG n (esT (plL ts (a,b))):=(hL.putT hP.2).vg
  have hes:esT (plL ts (a,b))=putE (a,b) (esT ts):=jfb _ _ _
  have hpc:=jq6 n (esT (plL ts (a,b))) hVp
  rw[show cnt n (esT (plL ts (a,b)))=cnt n (putE (a,b) (esT ts)) by rw[hes]] at hpc
  have hcl:cnt n (putE (a,b) (esT ts))≤16:=by
   have h1:=hVp.2.1
   have h2:cnt n (putE (a,b) (esT ts))≤n.toNat:=kax
   omega
  have hdec:=jhv (cnt n (putE (a,b) (esT ts))) (by omega)
  refine⟨_,_,_,LV3.lst _,?_⟩
  simp only
  generalize plL ts (a,b)=us at *
  generalize cnt n (putE (a,b) (esT ts))=c at *
  have hit:=Lib.itoa_length_le (c:Int) (by omega) (by omega)
  have hee:([112,97,114,116,115]++jaw [(c:Int)]++[10]:List UInt8)=[112,97,114,116,115,32]++Lib.itoa (c:Int)++[10]:=by
   rw[jkj (by omega) (by omega)];simp[jaw]
  rw[hee]
  generalize hI:Lib.itoa (c:Int)=D at *
  refine gc func54 ?_
  have Fz:=fz5 results54 hpl him hpc hdec
  repeat(first|exact trivial|refine go1 ?_)
 ·rw[if_neg hP]
  have hpl:=jm2 n a b ts hV hP
  refine⟨_,_,_,LV3.lst _,?_⟩
  refine gc func54 ?_
  have Fz:=fz2 results54 hpl
  repeat(first|exact trivial|refine go1 ?_)
theorem jnt {c:UInt8} (hc:Lib.digitVal c=none):∀(l:List UInt8) (a m:Nat),Lib.decFrom a l=some m→c∉l
 | [],_,_,_=>by simp
 | b::l,a,m,h=>by
  unfold Lib.decFrom at h
  intro hm
  cases hd:Lib.digitVal b with
  | none=>rw[hd] at h;cases h
  | some d=>
   rw[hd] at h
   rcases List.mem_cons.1 hm with rfl|hm
   ·rw[hc] at hd;cases hd
   ·exact jnt hc l _ _ h hm
theorem j5j {T:List UInt8} {k:Nat} (h:numW T=some k):(32:UInt8)∉T:=by
 unfold numW Lib.decNat at h
 split at h
 ·split at h
  ·cases h
  ·exact jnt (by simp[Lib.digitVal]) T 0 k h
 ·cases h
theorem jsn {T:List UInt8} {a:Int}:numsO T=[a]↔∃k:Nat,numW T=some k∧a=k:=by
 constructor
 ·intro h
  unfold numsO at h
  split at h
  ·rename_i hall
   have hl:=congrArg List.length h
   rw[jgr] at hl
   have hp:=j5r (c:=32) (s:=T) (by simp at hl;omega)
   rw[hp] at h hall
   cases hw:numW T with
   | none=>simp[allW,hw] at hall
   | some k=>
    simp[valW,hw] at h
    exact⟨k,rfl,h.symm⟩
  ·cases h
 ·rintro⟨k,hk,rfl⟩
  unfold numsO
  rw[jfa (j5j hk)]
  simp[allW,valW,hk]
abbrev jit (n:Int) (ts:List Tl) (w T:List UInt8) (o:OutL):Prop:=
 ∃x y z:IV,LV3 x y z o.2.2∧KP 22 [LvP n ts,S w,S T] []=some (.tup [.agg [I o.2.1,.i x,.i y,.i z],S o.1],[],[])
theorem jo9 (T:List UInt8) (hT:T.length≤100000) (n:Int) (ts:List Tl) (hL:LV n ts):jit n ts [103,114,97,112,104] T (jdg n ts [103,114,97,112,104] T):=by
 obtain⟨res,hres,hpg⟩:=jo7 T hT
 unfold jdg
 rw[if_pos rfl]
 rcases hres with⟨m,es,hVg,hTe,rfl⟩ | ⟨hno,rfl⟩
 ·have hg:jed T=some (m,es):=by
   cases hg:jed T with
   | none=>exact absurd ⟨m,es,hVg,hTe⟩ (jjx hg)
   | some p=>
    obtain⟨m',es'⟩:=p
    obtain⟨hV2,hT2⟩:=jd7 hg
    have h1:=jfq m es hVg
    have h2:=jfq m' es' hV2
    rw[hTe] at h1
    rw[hT2,h1] at h2
    unfold qP qA at h2
    have hel:=hVg.2.2.1
    by_cases z1:es=[]<;>by_cases z2:es'=[]
    ·subst z1 z2
     simp only[if_true,Option.some.injEq,Prod.mk.injEq,PV.tup.injEq,List.cons.injEq,PV.agg.injEq,kcu,and_true] at h2
     rw[h2]
    ·rw[if_pos z1,if_neg z2] at h2;simp at h2
    ·rw[if_neg z1,if_pos z2] at h2;simp at h2
    ·simp only[if_neg z1,if_neg z2,Option.some.injEq,Prod.mk.injEq,PV.tup.injEq,List.cons.injEq,PV.agg.injEq,kcu,j02,jjr,and_true,true_and] at h2
     rw[h2.1.1,h2.2]
  rw[hg]
  simp only
  obtain⟨X,Y,Z,hex,hof⟩:=kbv m es hVg
  have hfx:=hex.fx
  have hlx:=hex.lx
  have hfy:=hex.fy
  have hly:=hex.ly
  have hfz:=hex.fz
  have hlz:=hex.lz
  refine⟨X,Y,Z,hex,?_⟩
  obtain⟨r,own,hpg',him⟩:∃r own,KP 47 [S T] []=some (r,[],own)∧imm 2 own r=some (.tup [.agg [I m,.i (qe es)],B true]):=by
   refine⟨_,_,hpg,?_⟩
   unfold qP qA qe
   split
   ·rfl
   ·have:List.take es.length (es.map encE)=es.map encE:=List.take_of_length_le (by simp)
    simp[imm,imm1,mapO,this]
  clear hpg
  have hqf:=jhc (es:=es)
  have hfq:=fun n=>jnz (n:=n) (es:=es)
  refine gc func22 ?_
  have Fz:=fz12 results22 hpg' him hof hqf hfq hfx hlx hfy hly hfz hlz
  repeat(first|exact trivial|refine go1 ?_)
 ·have hg:jed T=none:=by
   cases hg:jed T with
   | none=>rfl
   | some p=>
    obtain⟨hV2,hT2⟩:=jd7 (n:=p.1) (es:=p.2) hg
    exact absurd ⟨p.1,p.2,hV2,hT2⟩ hno
  rw[hg]
  simp only
  refine⟨_,_,_,LV3.lst ts,gc func22 ?_⟩
  have Fz:=fz2 results22 hpg
  repeat(first|exact trivial|refine go1 ?_)
theorem jra (T:List UInt8) (hT:T.length≤100000) (n:Int) (ts:List Tl) (hL:LV n ts):jit n ts [116,111,117,114] T (jdg n ts [116,111,117,114] T):=by
 have hV:=hL.vg
 have hel:=hV.2.2.1
 have hfl:=(jcz hV.okg.ok).length_le
 obtain⟨v,ok,⟨hv1,hv2⟩,hn⟩:=jga T (by omega)
 have hfo:=jnl n (esT ts) hV.okg
 have htf:((jai (esT ts)).map encE).take (jai (esT ts)).length=(jai (esT ts)).map encE:=List.take_of_length_le (by simp)
 have hto:=j2h n v (jai (esT ts)) (by omega)
 have hR:jdg n ts [116,111,117,114] T=if ok=true∧TO n (jai (esT ts)) v then([116,111,117,114]++jaw (toL n (jai (esT ts)) v)++[10],n,ts) else(jcc,n,ts):=by
  unfold jdg
  rw[if_neg (by simp),if_pos rfl]
  cases hw:numW T with
  | some k=>
   obtain⟨rfl,rfl⟩:=hv1 k hw
   rw[jsn.2 ⟨k,hw,rfl⟩]
   simp only[true_and]
   split<;>rfl
  | none=>
   have hno:¬(ok=true∧TO n (jai (esT ts)) v):=fun h=>by
    rcases hv2 hw with h1|h1
    ·rw[h1] at h;cases h.1
    ·have:=h.2.2.1.1;omega
   rw[if_neg hno]
   split
   ·rename_i a ha
    obtain⟨k,hk,-⟩:=jsn.1 ha
    rw[hw] at hk;cases hk
   ·rfl
 rw[hR]
 by_cases hTO:TO n (jai (esT ts)) v
 ·rw[if_pos hTO] at hto
  obtain⟨s1,s2⟩:=jjg hTO hV.2.1
  have hnt:=jcl (toL n (jai (esT ts)) v) s1 (by omega)
  have hle:=jas (toL n (jai (esT ts)) v)
  have ht2:((toL n (jai (esT ts)) v).map encI).take (toL n (jai (esT ts)) v).length=(toL n (jai (esT ts)) v).map encI:=List.take_of_length_le (by simp)
  cases ok with
  | true=>
   rw[if_pos ⟨rfl,hTO⟩]
   refine⟨_,_,_,LV3.lst ts,?_⟩
   simp only
   rw[List.append_assoc]
   generalize jai (esT ts)=FO at *
   generalize toL n FO v=L at *
   generalize hE:jaw L++[10]=E at *
   have hEl:E.length≤1000:=by rw[←hE];simp only[List.length_append,List.length_cons,List.length_nil];omega
   refine gc func22 ?_
   have Fz:=fz7 results22 hn hfo htf hto hnt ht2
   repeat(first|exact trivial|refine go1 ?_)
  | false=>
   rw[if_neg (fun h=>by cases h.1)]
   refine⟨_,_,_,LV3.lst ts,gc func22 ?_⟩
   have Fz:=fz5 results22 hn hfo htf hto
   repeat(first|exact trivial|refine go1 ?_)
 ·rw[if_neg hTO] at hto
  rw[if_neg (fun h=>hTO h.2)]
  refine⟨_,_,_,LV3.lst ts,?_⟩
  clear hv1 hv2 hR
  cases ok
  all_goals
   refine gc func22 ?_
   have Fz:=fz5 results22 hn hfo htf hto
   repeat(first|exact trivial|refine go1 ?_)
theorem jso {T:List UInt8}:(numsO T).length=2→∃a b,numsO T=[a,b]:=fun h=>by
 match hq:numsO T with
 | []=>rw[hq] at h;simp at h
 | [a]=>rw[hq] at h;simp at h
 | [a,b]=>exact⟨a,b,rfl⟩
 | a::b::c::r=>rw[hq] at h;simp at h
theorem jsz {n:Int} {ts:List Tl} {w T:List UInt8} (hw:jex w):jdg n ts w T=match numsO T with
 | [a,b]=>twoF n ts w a b
 | _=>(jcc,n,ts):=by
 unfold jdg
 have h1:¬w=[103,114,97,112,104]:=fun h=>by rw[h] at hw;unfold jex at hw;simp at hw
 have h2:¬w=[116,111,117,114]:=fun h=>by rw[h] at hw;unfold jex at hw;simp at hw
 rw[if_neg h1,if_neg h2,if_pos hw]
 rfl
theorem jx4 {n:Int} {ts:List Tl} {w T:List UInt8} (hw:jex w) (h:(numsO T).length≠2):jdg n ts w T=(jcc,n,ts):=by
 rw[jsz hw]
 split
 ·rename_i a b he;rw[he] at h;simp at h
 ·rfl
theorem js0 {n:Int} {ts:List Tl} {w T:List UInt8} {a b:Int} (hw:jex w) (h:numsO T=[a,b]):jdg n ts w T=twoF n ts w a b:=by
 rw[jsz hw,h]
theorem keg (n:Int) (ts:List Tl) (w:List UInt8) (a b:Int) (hw:w=[112,117,116]∨w=[99,117,116]):twoF n ts w a b=if eOk a b then chgF n ts w (edgeOf a b) else(jcc,n,ts):=by
 unfold twoF chgF PutL CutL
 rcases hw with rfl|rfl
 ·rw[if_pos rfl,if_pos rfl]
  by_cases h:eOk a b<;>by_cases h2:PlOK n ts (edgeOf a b)<;>simp[h,h2]
 ·have h0:¬([99,117,116]:List UInt8)=[112,117,116]:=by simp
  rw[if_neg h0,if_pos rfl,if_neg h0]
  by_cases h:eOk a b<;>by_cases h2:edgeOf a b∈esT ts<;>simp[h,h2]
theorem kef (n:Int) (ts:List Tl) (w:List UInt8) (a b:Int) (h1:w≠[112,117,116]) (h2:w≠[99,117,116]):(twoF n ts w a b).2=(n,ts):=by
 unfold twoF
 rw[if_neg h1,if_neg h2]
 split
 ·rfl
 split
 ·rfl
 ·rfl
theorem jg7 (w:List UInt8) (hw:w=[112,97,116,104]∨w=[98,101,116,119,101,101,110]∨w=[102,108,111,119]) (T:List UInt8) (hT:T.length≤100000) (n:Int) (ts:List Tl) (hL:LV n ts):jit n ts w T (jdg n ts w T):=by
 have hV:=hL.vg
 have hw2:jex w:=by unfold jex;rcases hw with h|h | h<;>simp[h]
 obtain⟨a,b,ok,⟨h1,h2⟩,htw⟩:=jo0 T (by omega)
 by_cases hl:(numsO T).length=2
 rotate_left
 ·rw[jx4 hw2 hl]
  have hok:=h2 hl
  subst hok
  refine⟨_,_,_,LV3.lst ts,?_⟩
  rcases hw with rfl|rfl|rfl
  all_goals
   refine gc func22 ?_
   have Fz:=fz2 results22 htw
   repeat(first|exact trivial|refine go1 ?_)
 obtain⟨p,q,hpq⟩:=jso hl
 obtain⟨rfl,rfl,rfl⟩:=h1 p q hpq
 rw[js0 hw2 hpq]
 have h3:=kef n ts w a b (by rcases hw with rfl|rfl|rfl<;>simp) (by rcases hw with rfl|rfl|rfl<;>simp)
 have hask:KP 55 [GL n (esT ts),S w,I a,I b] []=some (S (twoF n ts w a b).1,[],[]):=by
  rcases hw with rfl|rfl|rfl
  ·exact jyy n a b ts hL
  ·exact jou n a b ts hL
  ·exact jyx n a b ts hL
 generalize twoF n ts w a b=R at *
 obtain⟨t,r⟩:=R
 simp only at h3 hask
 subst h3
 refine⟨_,_,_,LV3.lst ts,?_⟩
 rcases hw with rfl|rfl|rfl
 all_goals
  refine gc func22 ?_
  have Fz:=fz3 results22 htw hask
  repeat(first|exact trivial|refine go1 ?_)
theorem j7c (w:List UInt8) (hw:¬jqf w) (n a b:Int) (ts:List Tl):KP 55 [GL n (esT ts),S w,I a,I b] []=some (S jcc,[],[]):=by
 unfold jqf jex at hw
 simp only[not_or] at hw
 obtain⟨w1,w2,w3,w4,w5,w6,w7⟩:=hw
 have q5:=ja2 w5
 have q6:=ja2 w6
 have q7:=ja2 w7
 refine gc func55 ?_
 have Fz:=fz4 results55 q5 q6 q7
 repeat(first|exact trivial|refine go1 ?_)
theorem jzl (w:List UInt8) (hw:¬jqf w) (T:List UInt8) (hT:T.length≤100000) (n:Int) (ts:List Tl) (hL:LV n ts):jit n ts w T (jdg n ts w T):=by
 have hask:=fun a b=>j7c w hw n a b ts
 have hR:jdg n ts w T=(jcc,n,ts):=by
  unfold jqf at hw
  simp only[not_or] at hw
  unfold jdg
  rw[if_neg hw.1,if_neg hw.2.1,if_neg hw.2.2]
 rw[hR]
 unfold jqf jex at hw
 simp only[not_or] at hw
 obtain⟨w1,w2,w3,w4,w5,w6,w7⟩:=hw
 have q1:=ja2 w1
 have q2:=ja2 w2
 have q3:=ja2 w3
 have q4:=ja2 w4
 obtain⟨a,b,ok,-,htw⟩:=jo0 T (by omega)
 have hask':=hask a b
 refine⟨_,_,_,LV3.lst ts,?_⟩
 cases ok
 all_goals
  refine gc func22 ?_
  have Fz:=fz7 results22 htw hask' q1 q2 q3 q4
  repeat(first|exact trivial|refine go1 ?_)
end Go.Proofs.YtnaaceooknghjaaGreatDoor.X
