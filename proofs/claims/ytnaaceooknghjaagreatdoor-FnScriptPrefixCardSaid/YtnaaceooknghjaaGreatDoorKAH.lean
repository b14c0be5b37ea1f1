/- What functions answer, and the plain laws behind it. -/
import Derived.Test.YtnaaceooknghjaaGreatDoorKAF
import Derived.Test.YtnaaceooknghjaaGreatDoorKAD
import Derived.Test.YtnaaceooknghjaaGreatDoorKAG
import Derived.Test.YtnaaceooknghjaaGreatDoorKAC
import Derived.Test.YtnaaceooknghjaaGreatDoorKAE
set_option linter.unusedSimpArgs false
set_option linter.unusedVariables false
set_option maxHeartbeats 8000000
set_option maxRecDepth 100000
namespace Go.Proofs.YtnaaceooknghjaaGreatDoor.X
open Go Go.Proofs Tryz
def putT (e:Int×Int) (b:Bool):List Tl→List Tl
 | []=>[(e,0,b)]
 | t::r=>if lessE e t.1 then(e,0,b)::t::r else t::putT e b r
theorem jfb (e:Int×Int) (b:Bool):∀ts:List Tl,esT (putT e b ts)=putE e (esT ts)
 | []=>rfl
 | t::r=>by
  have ih:=jfb e b r
  unfold esT at ih ⊢
  rw[putT,List.map_cons,putE]
  split
  ·rfl
  ·rw[List.map_cons,ih]
theorem jgl (e:Int×Int) (b:Bool):∀ts:List Tl,∃p r,ts=p++r∧(∀b,putT e b ts=p++(e,0,b)::r)
 | []=>⟨[],[],rfl,fun _=>rfl⟩
 | t::r=>by
  by_cases h:lessE e t.1=true
  ·exact⟨[],t::r,rfl,fun b=>by rw[putT,if_pos h];rfl⟩
  ·obtain⟨p,q,h1,h2⟩:=jgl e b r
   exact⟨t::p,q,by rw[h1];rfl,fun b=>by rw[putT,if_neg h,h2];rfl⟩
theorem kdr {e:Int×Int} {ts:List Tl} (hn:e∉esT ts):∃k:Nat,k≤ts.length∧jco (putE e (esT ts)) e=k∧∀b,putT e b ts=ts.take k++(e,0,b)::ts.drop k:=by
 obtain⟨p,r,h1,h2⟩:=jgl e true ts
 have h3:=jfb e true ts
 rw[h2 true] at h3
 have h4:putE e (esT ts)=esT p++e::esT r:=by rw[←h3];simp[esT]
 refine⟨p.length,by rw[h1];simp,?_,fun b=>by rw[h2 b,h1];simp⟩
 refine jpo (i:=p.length) ?_ ?_
 ·rw[h4,List.getElem?_append_right (by simp[esT])]
  simp[esT]
 ·rw[h4,List.take_append_of_le_length (by simp[esT])]
  intro hm
  refine hn ?_
  rw[h1]
  have:=List.mem_of_mem_take hm
  unfold esT at this ⊢
  rw[List.map_append]
  exact List.mem_append_left _ this
theorem kds {e:Int×Int} {b:Bool} {ts:List Tl} {k:Nat} (h:putT e b ts=ts.take k++(e,0,b)::ts.drop k):lvT (putT e b ts)=(lvT ts).take k++0::(lvT ts).drop k:=by
 rw[h];simp[lvT]
theorem kdt {e:Int×Int} {b:Bool} {ts:List Tl} {k:Nat} (h:putT e b ts=ts.take k++(e,0,b)::ts.drop k):trT (putT e b ts)=(trT ts).take k++b::(trT ts).drop k:=by
 rw[h];simp[trT]
theorem jp1 (e:Int×Int) (b:Bool) (ts:List Tl):(putT e b ts).length=ts.length+1:=by
 have h:=congrArg List.length (jfb e b ts)
 rw[jbg,jaq,jaq] at h
 exact h
theorem LV.putT {n:Int} {ts:List Tl} {e:Int×Int} (h:LV n ts) (hP:jfl n (esT ts) e):LV n (putT e (!decide (Conn (esT ts) e.1 e.2)) ts):=by
 obtain⟨p,r,h1,h2⟩:=jgl e true ts
 have hV:VG n (esT (p++(e,0,true)::r)):=by rw[←h2 true,jfb];exact hP.2.2
 rw[h2]
 have:=LV.put (p:=p) (r:=r) (e:=e) (by rw[←h1];exact h) hV
 rw[←h1] at this
 exact this
def PlOK (n:Int) (ts:List Tl) (e:Int×Int):Prop:=LV n ts∧jfl n (esT ts) e
noncomputable instance decPlOK (n:Int) (ts:List Tl) (e:Int×Int):Decidable (PlOK n ts e):=Classical.propDecidable _
noncomputable abbrev plL (ts:List Tl) (e:Int×Int):List Tl:=putT e (!decide (Conn (esT ts) e.1 e.2)) ts
theorem jhu (n a b:Int) (ts:List Tl) (hV:VG n (esT ts)) (hno:¬PlOK n ts (a,b)):KP 74 [LvP n ts,PE a b] []=some (.tup [.agg [I 0,.i .emp,.i .emp,.i .emp],B false],[],[]):=by
 have hlv:=jck n ts hV
 have hel:=hV.2.2.1
 by_cases h:LV n ts
 ·rw[decide_eq_true h] at hlv
  have hP:¬jfl n (esT ts) (a,b):=fun q=>hno ⟨h,q⟩
  have hpe:=jkw n a b (esT ts) (by omega)
  rw[if_neg hP] at hpe
  refine gc func74 ?_
  have Fz:=fz3 results74 hlv hpe
  repeat(first|exact trivial|refine go1 ?_)
 ·rw[decide_eq_false h] at hlv
  refine gc func74 ?_
  have Fz:=fz2 results74 hlv
  repeat(first|exact trivial|refine go1 ?_)
theorem jnj (n a b:Int) (ts:List Tl) (hP:PlOK n ts (a,b)) :
 ∃r own,KP 74 [LvP n ts,PE a b] []=some (r,[],own)∧imm 2 own r=some (.tup [LvP n (plL ts (a,b)),B true]):=by
 have hL:=hP.1
 have hV:=hL.vg
 have hlv:=jck n ts hV
 have hel:=hV.2.2.1
 rw[decide_eq_true hL] at hlv
 obtain⟨rp,op,hpe,him⟩:=jni n a b (esT ts) hP.2 (by omega)
 have hVp:=hP.2.2.2
 have hpl:=jbg (a,b) (esT ts)
 have hix:=jkc (putE (a,b) (esT ts)) a b (by omega)
 obtain⟨k,hk1,hk2,hk3⟩:=kdr hP.2.2.1
 rw[hk2] at hix
 have hmem:(a,b)∈putE (a,b) (esT ts):=jdl.2 (.inl rfl)
 obtain⟨k0,k1,k2⟩:0≤a∧a<b∧b<n:=hVp.2.2.2.1 _ hmem
 have hcn:=jg6 n a b (esT ts) hV.okg ⟨k0,by omega⟩ ⟨by omega,k2⟩
 have h1:lvT (plL ts (a,b))=_:=kds (hk3 (!decide (Conn (esT ts) a b)))
 have h2:trT (plL ts (a,b))=_:=kdt (hk3 (!decide (Conn (esT ts) a b)))
 have h3:esT (plL ts (a,b))=_:=jfb (a,b) (!decide (Conn (esT ts) a b)) ts
 have hlen:=jp1 (a,b) (!decide (Conn (esT ts) a b)) ts
 have l2:=jax ts
 have l3:=ja9 ts
 have l1:=jaq ts
 suffices hgoal:∃res,(imm 2 res.2.2 res.1=some (.tup [LvP n (plL ts (a,b)),B true])∧res.2.1=[])∧KP 74 [LvP n ts,PE a b] []=some res by
  obtain⟨⟨r,q,own⟩,⟨e1,e2⟩,e3⟩:=hgoal
  simp only at e1 e2
  subst e2
  exact⟨r,own,e3,e1⟩
 by_cases hz:ts=[]
 ·subst hz
  obtain rfl:k=0:=by simpa using hk1
  have hci:KP 133 [LI (lvT [])] []=some (.i .emp,[],[]):=j1u
  have hct:KP 135 [LT (trT [])] []=some (.i .emp,[],[]):=j1v
  have hii:=jy0 0
  have hit:=jy2 (!decide (Conn (esT []) a b))
  refine ge func74 ?_
  have Fz:=fz10 results74 hlv hpe him hix hcn hci hct hii hit
  repeat refine go1 ?_
  simp only[LvP]
  rw[h1,h2,h3]
  rfl
 ·have hlz:lvT ts≠[]:=fun h=>hz (List.length_eq_zero_iff.1 (by rw[←l2,h];rfl))
  have htz:trT ts≠[]:=fun h=>hz (List.length_eq_zero_iff.1 (by rw[←l3,h];rfl))
  have hci:=jv7 (lvT ts) hlz (by omega)
  have hct:=jv8 (trT ts) htz (by omega)
  have hii:KP 132 [.ref 1000 0 0 (lvT ts).length,I k,.ref 1001 0 0 1] [.arr 0 1 ((lvT ts).map encI),.arr 0 1 [[.v (.int .i64 0)]]]=some (.ref 1000 1 0 ((lvT ts).length+1),[.arr 1 1 ((lvT (plL ts (a,b))).map encI),.arr 0 1 [[.v (.int .i64 0)]]],[]):=by
   by_cases hke:k=(lvT ts).length
   ·rw[hke]
    have:=jyz (lvT ts) 0 (by omega)
    rw[h1,hke]
    simpa using this
   ·rw[h1]
    have:=kfb (lvT ts) 0 k (by omega) (by omega) (by omega)
    simpa using this
  have hit:∀q:Bool,q=(!decide (Conn (esT ts) a b))→KP 134 [.ref 1000 0 0 (trT ts).length,I k,.ref 1001 0 0 1] [.arr 0 1 ((trT ts).map encT),.arr 0 1 [[.v (.bool q)]]]=some (.ref 1000 1 0 ((trT ts).length+1),[.arr 1 1 ((trT (plL ts (a,b))).map encT),.arr 0 1 [[.v (.bool q)]]],[]):=by
   intro q hq
   by_cases hke:k=(trT ts).length
   ·rw[hke]
    have:=jy1 (trT ts) q (by omega)
    rw[h2,hke,←hq]
    simpa using this
   ·rw[h2,←hq]
    have:=kfc (trT ts) q k (by omega) (by omega) (by omega)
    simpa using this
  have hit':=hit _ rfl
  refine ge func74 ?_
  have Fz:=fz10 results74 hlv hpe him hix hcn hci hct hii hit'
  repeat refine go1 ?_
  have hlp:(plL ts (a,b)).length=ts.length+1:=hlen
  have t1:List.take ((lvT ts).length+1) (lvT (plL ts (a,b)))=lvT (plL ts (a,b)):=jac (by rw[jax,hlp,l2];omega)
  have t2:List.take ((trT ts).length+1) (trT (plL ts (a,b)))=trT (plL ts (a,b)):=jac (by rw[ja9,hlp,l3];omega)
  simp only[LvP]
  rw[h3,t1,t2]
def oth (e:Int×Int) (v:Int):Int:=if v=e.1 then e.2 else if v=e.2 then e.1 else -1
theorem j5f {n:Int} {es:List (Int×Int)} {e f:Int×Int} (he:okE n e) (hf:okE n f):Near es e f↔∃v,(0≤v∧v<n)∧0≤oth e v∧0≤oth f v∧oth e v≠oth f v∧Conn (alone v es) (oth e v) (oth f v):=by
 unfold okE at he hf
 constructor
 ·rintro⟨v,x,y,h1,h2,h3,h4⟩
  have k1:oth e v=x:=by
   unfold oth
   rcases h1 with h1|h1
   ·rw[if_pos h1.1.symm];exact h1.2
   ·rw[if_neg (by omega),if_pos h1.1.symm];exact h1.2
  have k2:oth f v=y:=by
   unfold oth
   rcases h2 with h2|h2
   ·rw[if_pos h2.1.symm];exact h2.2
   ·rw[if_neg (by omega),if_pos h2.1.symm];exact h2.2
  refine⟨v,?_,?_,?_,?_,?_⟩
  ·omega
  ·omega
  ·omega
  ·rw[k1,k2];exact h3
  ·rw[k1,k2];exact h4
 ·rintro⟨v,h1,h2,h3,h4,h5⟩
  have k:∀e:Int×Int,0≤oth e v→((e.1=v∧e.2=oth e v)∨(e.2=v∧e.1=oth e v)):=fun e h=>by
   unfold oth at h ⊢
   split
   ·rename_i c;exact .inl ⟨c.symm,rfl⟩
   ·rename_i c1
    rw[if_neg c1] at h
    split
    ·rename_i c;exact .inr ⟨c.symm,rfl⟩
    ·rename_i c;rw[if_neg c] at h;omega
  exact⟨v,oth e v,oth f v,k e h2,k f h3,h4,h5⟩
theorem kba {n:Int} {e:Int×Int} {v:Int} (he:okE n e):-1≤oth e v∧oth e v<n:=by
 unfold okE at he
 unfold oth
 split
 ·omega
 ·split<;>omega
theorem jsy {es:List (Int×Int)} {i k:Int} {q:Int×Int} (h:q∈relK es i (k+1)):q∈relK es i k∨(q=(k,i)∧Near es (eAt es i) (eAt es k)):=by
 have h1:=jdb.1 h
 by_cases c:q.1=k∧q.2=i
 ·refine .inr ⟨Prod.ext c.1 c.2,?_⟩
  have:=je6.1 (show(q.1,q.2)∈relL es from h1.1)
  rw[c.1,c.2] at this
  exact this.2.2.2.symm
 ·exact .inl (jdb.2 ⟨h1.1,by omega⟩)
theorem jqv (a b v:Int):KP 266 [PE a b,I v] []=some (I (oth (a,b) v),[],[]):=by
 unfold oth
 simp only
 by_cases h1:v=a
 ·rw[if_pos h1]
  refine gc func266 ?_
  have Fz:=fz1 results266
  repeat(first|exact trivial|refine go1 ?_)
 rw[if_neg h1]
 by_cases h2:v=b
 ·rw[if_pos h2]
  refine gc func266 ?_
  have Fz:=fz1 results266
  repeat(first|exact trivial|refine go1 ?_)
 rw[if_neg h2]
 refine gc func266 ?_
 have Fz:=fz1 results266
 repeat(first|exact trivial|refine go1 ?_)
theorem j13 (n:Int) (es:List (Int×Int)) (h:OKG n es) (e f:Int×Int) (he:okE n e) (hf:okE n f):KP 239 [GL n es,PE e.1 e.2,PE f.1 f.2] []=some (B (decide (Near es e f)),[],[]):=by
 have hl:=h.len
 have hn0:=h.n0
 have hn1:=h.n1
 refine gc func239 ?_
 have Fz:=fz1 results239
 repeat refine go1 ?_
 refine jaa (fun(v:Int) s=>s.ρ 3=.ptr 3 0 0 0∧s.m 3=some (.box 0 [I n,LE es])∧s.ρ 4=.ptr 4 0 0 0∧s.m 4=some (.box 0 [I e.1,I e.2])∧s.ρ 5=.ptr 5 0 0 0∧s.m 5=some (.box 0 [I f.1,I f.2])∧s.ρ 7=I v∧
  0≤v∧v≤n∧∀w,0≤w∧w<v→¬(0≤oth e w∧0≤oth f w∧oth e w≠oth f w∧Conn (alone w es) (oth e w) (oth f w))) (fun v=>(n-v).toNat) 0 ?_ ?_
 ·refine⟨by simp[upd],by simp[upd],by simp[upd],by simp[upd],by simp[upd],by simp[upd],by simp[upd],by omega,by omega,fun w hw=>by omega⟩
 rintro v ⟨ρ,m⟩ ⟨h3,m3,h4,m4,h5,m5,h7,g0,g1,g2⟩
 simp only at h3 m3 h4 m4 h5 m5 h7 g0 g1 g2
 by_cases hv:v<n
 rotate_left
 ·have hN:decide (Near es e f)=false:=decide_eq_false fun hN=>by
   obtain⟨w,hw,c⟩:=(j5f he hf).1 hN
   exact g2 w ⟨by omega,by omega⟩ c
  rw[hN]
  have Fz:=fz8 results239 h3 m3 h4 m4 h5 m5 h7
  repeat(first|exact trivial|refine go1 ?_)
 have ho1:KP 266 [PE e.1 e.2,I v] []=some (I (oth e v),[],[]):=jqv e.1 e.2 v
 have ho2:KP 266 [PE f.1 f.2,I v] []=some (I (oth f v),[],[]):=jqv f.1 f.2 v
 have hx:=kba (v:=v) he
 have hy:=kba (v:=v) hf
 have hnear:=j5f (es:=es) he hf
 have hal:=jk2 n es v (by omega)
 have hj:=fun a b=>ji3 n (oth e v) (oth f v) (alone v es) (h.alone v) a b
 have g2n:¬(0≤oth e v∧0≤oth f v∧oth e v≠oth f v∧Conn (alone v es) (oth e v) (oth f v))→∀w,0≤w∧w<v+1→¬(0≤oth e w∧0≤oth f w∧oth e w≠oth f w∧Conn (alone w es) (oth e w) (oth f w)):=fun c w hw=>by
  by_cases hwv:w=v
  ·rw[hwv];exact c
  ·exact g2 w ⟨hw.1,by omega⟩
 by_cases hc:0≤oth e v∧0≤oth f v∧oth e v≠oth f v∧Conn (alone v es) (oth e v) (oth f v)
 ·have hN:decide (Near es e f)=true:=decide_eq_true (hnear.2 ⟨v,⟨g0,hv⟩,hc⟩)
  rw[hN]
  have hj':=hj ⟨hc.1,hx.2⟩ ⟨hc.2.1,hy.2⟩
  rw[decide_eq_true hc.2.2.2] at hj'
  obtain⟨c1,c2,c3,-⟩:=hc
  clear hj hnear g2n g2
  generalize oth e v=x at *
  generalize oth f v=y at *
  have Fz:=fz12 results239 h3 m3 h4 m4 h5 m5 h7 ho1 ho2 hal hj'
  repeat(first|exact trivial|refine go1 ?_)
 have hg:=g2n hc
 by_cases c:0≤oth e v∧0≤oth f v∧oth e v≠oth f v
 ·have hj':=hj ⟨c.1,hx.2⟩ ⟨c.2.1,hy.2⟩
  rw[decide_eq_false (fun q=>hc ⟨c.1,c.2.1,c.2.2,q⟩)] at hj'
  obtain⟨c1,c2,c3⟩:=c
  clear hj hnear g2n g2 hc
  generalize oth e v=x at ho1 hx hj' c1 c3
  generalize oth f v=y at ho2 hy hj' c2 c3
  have Fz:=fz12 results239 h3 m3 h4 m4 h5 m5 h7 ho1 ho2 hal hj'
  repeat refine go1 ?_
  all_goals exact⟨by omega,by omega,hg,by omega⟩
 ·clear hj hnear g2n g2 hc
  generalize oth e v=x at ho1 hx c
  generalize oth f v=y at ho2 hy c
  have Fz:=fz11 results239 h3 m3 h4 m4 h5 m5 h7 ho1 ho2 hal
  repeat'(first|refine go1 ?_|(refine go4 ?_;split<;>first|omega|refine go3 ?_|skip))
  all_goals exact⟨by omega,by omega,hg,by omega⟩
theorem jy7 (n:Int) (es:List (Int×Int)) (h:OKG n es) (hnd:es.Nodup):KP 210 [GL n es] []=some (.ref 2000 0 0 (blkL es).length,[],[.arr 0 1 ((blkL es).map encI)]):=by
 have hl:=h.len
 have ho:=h.ok
 refine gc func210 ?_
 have Fz:=fz1 results210
 repeat refine go1 ?_
 refine jaa (fun(x:Int×Nat×List Int) s=>s.m 8=some (.arr x.2.1 1 (x.2.2.map encI))∧s.ρ 3=.ref 8 x.2.1 0 x.2.2.length∧s.ρ 4=I x.1∧s.ρ 1=.ptr 1 0 0 0∧s.m 1=some (.box 0 [I n,LE es])∧
  0≤x.1∧x.1≤es.length∧x.2.2.length=x.1.toNat∧x.2.2=iota x.1) (fun x=>(es.length-x.1).toNat) (0,0,[]) (by refine⟨?_,?_,?_,?_,?_,by omega,by simp,by simp,by simp[iota]⟩<;>simp[upd]) ?_
 rintro⟨i,w,xs⟩ ⟨ρ,m⟩ ⟨m8,h3,h4,h1,m1,g0,g1,g2,g3⟩
 simp only at m8 h3 h4 h1 m1 g0 g1 g2 g3
 by_cases hi:i<es.length
 ·have Fz:=fz6 results210 m8 h3 h4 h1 m1
  repeat refine go1 ?_
  refine⟨by omega,by omega,by omega,?_,by omega⟩
  rw[jby g0,g3]
 have hin:i=es.length:=by omega
 subst hin
 have hsn:Snd es.length (relL es) xs:=by rw[g3];exact jki _ _
 have hxl:xs.length=es.length:=by omega
 clear g3 g2
 have Fz:=fz6 results210 m8 h3 h4 h1 m1
 repeat refine go1 ?_
 refine jaa (fun(x:Bool×List Int) s=>s.m 8=some (.arr w 1 (x.2.map encI))∧s.ρ 3=.ref 8 w 0 es.length∧s.ρ 5=B x.1∧s.ρ 1=.ptr 1 0 0 0∧s.m 1=some (.box 0 [I n,LE es])∧
  x.2.length=es.length∧Snd es.length (relL es) x.2∧(x.1=false→x.2=blkL es)) (fun x=>(2*x.2.sum).toNat+x.1.toNat) (true,xs) (by refine⟨?_,?_,?_,?_,?_,hxl,hsn,by simp⟩<;>simp[upd,m8,h3,h1,m1,hxl]) ?_
 rintro⟨b,out⟩ ⟨ρ,m⟩ ⟨m8,h3,h5,h1,m1,f0,f1,f2⟩
 simp only at m8 h3 h5 h1 m1 f0 f1 f2
 cases b with
 | false=>
  have hbo:=f2 rfl
  rw[←hbo,f0]
  have Fz:=fz6 results210 m8 h3 h5 h1 m1
  repeat(first|exact trivial|refine go1 ?_)
 | true=>
 have Fz:=fz6 results210 m8 h3 h5 h1 m1
 repeat refine go1 ?_
 refine jaa (fun(x:Int×Bool×List Int) s=>s.m 8=some (.arr w 1 (x.2.2.map encI))∧s.ρ 3=.ref 8 w 0 es.length∧s.ρ 5=B x.2.1∧s.ρ 6=I x.1∧s.ρ 1=.ptr 1 0 0 0∧s.m 1=some (.box 0 [I n,LE es])∧
  0≤x.1∧x.1≤es.length∧x.2.2.length=es.length∧Snd es.length (relL es) x.2.2∧(x.2.1=false→x.2.2=out∧∀q∈relK es x.1 0,out.getD q.1.toNat 0=out.getD q.2.toNat 0)∧(x.2.1=true→x.2.2.sum<out.sum))
  (fun x=>(es.length-x.1).toNat) (0,false,out) ?_ ?_
 ·refine⟨by simp[upd,m8],by simp[upd,h3],by simp[upd],by simp[upd],by simp[upd,h1],by simp[upd,m1],by simp,by simp,f0,f1,fun _=>⟨rfl,fun q hq=>?_⟩,by simp⟩
  have h1:=jdb.1 hq
  have h2:=job q h1.1
  unfold okE at h2
  omega
 rintro⟨i,a,ou⟩ ⟨ρ,m⟩ ⟨m8,h3,h5,h6,h1,m1,e0,e1,e2,e3,e4,e5⟩
 simp only at m8 h3 h5 h6 h1 m1 e0 e1 e2 e3 e4 e5
 by_cases hi:i<es.length
 rotate_left
 ·have hie:i=es.length:=by omega
  rw[hie,jx3] at e4
  have Fz:=fz7 results210 m8 h3 h5 h6 h1 m1
  repeat refine go1 ?_
  have hs1:=e3.sum
  have hs2:=f1.sum
  refine⟨e2,e3,fun ha=>?_,?_⟩
  ·obtain⟨rfl,hq⟩:=e4 ha
   exact jxo job e3 hq
  ·cases a with
   | false=>rw[(e4 rfl).1];simp
   | true=>have:=e5 rfl;simp;omega
 have hoe:=ho _ (jab (d:=(0,0)) (show i.toNat<es.length by omega))
 have Fz:=fz7 results210 m8 h3 h5 h6 h1 m1
 repeat refine go1 ?_
 refine jaa (fun(x:Int×Bool×List Int) s=>s.m 8=some (.arr w 1 (x.2.2.map encI))∧s.ρ 3=.ref 8 w 0 es.length∧s.ρ 5=B x.2.1∧s.ρ 6=I i∧s.ρ 7=I x.1∧s.ρ 1=.ptr 1 0 0 0∧s.m 1=some (.box 0 [I n,LE es])∧
  0≤x.1∧x.1≤i∧x.2.2.length=es.length∧Snd es.length (relL es) x.2.2∧(x.2.1=false→x.2.2=out∧∀q∈relK es i x.1,out.getD q.1.toNat 0=out.getD q.2.toNat 0)∧(x.2.1=true→x.2.2.sum<out.sum))
  (fun x=>(i-x.1).toNat) (0,a,ou) ?_ ?_
 ·refine⟨by simp[upd,m8],by simp[upd,h3],by simp[upd,h5],by simp[upd,h6],by simp[upd],by simp[upd,h1],by simp[upd,m1],by simp,by simp only;omega,e2,e3,e4,e5⟩
 clear e2 e3 e4 e5 m8 h3 h5 h6 h1 m1
 rintro⟨k,b,ou⟩ ⟨ρ,m⟩ ⟨m8,h3,h5,h6,h7,h1,m1,d0,d1,d2,d3,d4,d5⟩
 simp only at m8 h3 h5 h6 h7 h1 m1 d0 d1 d2 d3 d4 d5
 by_cases hk:k<i
 rotate_left
 ·have hki:k=i:=by omega
  rw[hki,jsx] at d4
  have Fz:=fz8 results210 m8 h3 h5 h6 h7 h1 m1
  repeat refine go1 ?_
  exact⟨by omega,by omega,d2,d3,d4,d5,by omega⟩
 have hke:=ho _ (jab (d:=(0,0)) (show k.toNat<es.length by omega))
 have hcy:=j13 n es h (eAt es i) (eAt es k) hoe hke
 have hmem:Near es (eAt es i) (eAt es k)→(k,i)∈relL es:=fun hN=>je6.2 ⟨d0,hk,hi,hN.symm⟩
 have hok:okE es.length (k,i):=⟨d0,hk,hi⟩
 by_cases hle:ou.getD i.toNat 0=ou.getD k.toNat 0
 ·have d4':b=false→ou=out∧∀q∈relK es i (k+1),out.getD q.1.toNat 0=out.getD q.2.toNat 0:=fun hb=>by
   obtain⟨q1,q2⟩:=d4 hb
   refine⟨q1,fun q hq=>?_⟩
   rcases jsy hq with hq | ⟨rfl,-⟩
   ·exact q2 q hq
   ·rw[←q1];exact hle.symm
  clear hcy
  have Fz:=fz9 results210 m8 h3 h5 h6 h7 h1 m1 hle
  repeat refine go1 ?_
  exact⟨by omega,by omega,d2,d3,d4',d5,by omega⟩
 by_cases hN:Near es (eAt es i) (eAt es k)
 rotate_left
 ·have d4':b=false→ou=out∧∀q∈relK es i (k+1),out.getD q.1.toNat 0=out.getD q.2.toNat 0:=fun hb=>by
   obtain⟨q1,q2⟩:=d4 hb
   refine⟨q1,fun q hq=>?_⟩
   rcases jsy hq with hq | ⟨rfl,hz⟩
   ·exact q2 q hq
   ·exact absurd hz hN
  rw[decide_eq_false hN] at hcy
  have Fz:=fz9 results210 m8 h3 h5 h6 h7 h1 m1 hcy
  repeat refine go1 ?_
  exact⟨by omega,by omega,d2,d3,d4',d5,by omega⟩
 have hm:=hmem hN
 rw[decide_eq_true hN] at hcy
 have hsum:b=false→ou.sum=out.sum:=fun hb=>by rw[(d4 hb).1]
 by_cases hlt:ou.getD i.toNat 0<ou.getD k.toNat 0
 ·have hs:Snd es.length (relL es) (ou.set k.toNat (ou.getD i.toNat 0)):=d3.set2 hok hm hlt
  have hs2:(ou.set k.toNat (ou.getD i.toNat 0)).sum<out.sum:=by
   rw[jp9 (by omega)]
   cases b with
   | false=>have:=hsum rfl;omega
   | true=>have:=d5 rfl;omega
  have Fz:=fz9 results210 m8 h3 h5 h6 h7 h1 m1 hcy
  repeat refine go1 ?_
  exact⟨by omega,by omega,d2,hs,by simp,fun _=>hs2,by omega⟩
 ·have hs:Snd es.length (relL es) (ou.set i.toNat (ou.getD k.toNat 0)):=d3.set1 hok hm
  have hs2:(ou.set i.toNat (ou.getD k.toNat 0)).sum<out.sum:=by
   rw[jp9 (by omega)]
   cases b with
   | false=>have:=hsum rfl;omega
   | true=>have:=d5 rfl;omega
  have Fz:=fz9 results210 m8 h3 h5 h6 h7 h1 m1 hcy
  repeat refine go1 ?_
  exact⟨by omega,by omega,d2,hs,by simp,fun _=>hs2,by omega⟩
noncomputable instance decBlk (es:List (Int×Int)) (e f:Int×Int):Decidable (Blk es e f):=Classical.propDecidable _
def jwr (acc:List Int) (x:Int):List Int:=if acc.getLast?=some x then acc else acc++[x]
def ddS (l:List Int):List Int:=l.foldl jwr []
theorem jwp (l:List Int) (x:Int):ddS (l++[x])=jwr (ddS l) x:=by simp[ddS]
theorem jko {p:List Int→Prop} (h0:p []) (h1:∀l x,p l→p (l++[x])) (l:List Int):p l:=by
 have:∀r:List Int,p r.reverse:=by
  intro r
  induction r with
  | nil=>exact h0
  | cons a r ih=>rw[List.reverse_cons];exact h1 _ _ ih
 have:=this l.reverse
 rwa [List.reverse_reverse] at this
theorem j76 (l:List Int):(ddS l).getLast?=l.getLast?:=by
 refine jko (p:=fun l=>(ddS l).getLast?=l.getLast?) rfl (fun l x ih=>?_) l
 rw[jwp,jwr]
 split
 ·rename_i h;rw[h];simp
 ·simp
theorem jwq (l:List Int) (x:Int):ddS (l++[x])=if l.getLast?=some x then ddS l else ddS l++[x]:=by
 rw[jwp,jwr,j76]
theorem j5d {l:List Int} {y:Int}:y∈ddS l↔y∈l:=by
 refine jko (p:=fun l=>y∈ddS l↔y∈l) (by simp[ddS]) (fun l x ih=>?_) l
 rw[jwq]
 split
 ·rename_i h
  rw[ih,List.mem_append,List.mem_singleton]
  refine⟨.inl,fun k=>k.elim id fun e=>?_⟩
  subst e
  exact List.mem_of_getLast? h
 ·rw[List.mem_append,List.mem_append,ih]
theorem jmb {r:Int→Int→Prop} {l:List Int} {x:Int}:(l++[x]).Pairwise r↔l.Pairwise r∧∀y∈l,r y x:=by
 rw[List.pairwise_append]
 simp
theorem j88 {l:List Int} (h:l.Pairwise (·≤·)) {z:Int} (hz:l.getLast?=some z):∀y∈l,y≤z:=by
 refine jko (p:=fun l=>l.Pairwise (·≤·)→∀z,l.getLast?=some z→∀y∈l,y≤z) (fun _ z h=>by simp at h) (fun l x ih hp z hz y hy=>?_) l h z hz
 simp at hz
 subst hz
 rw[jmb] at hp
 rcases List.mem_append.1 hy with h|h
 ·exact hp.2 y h
 ·rw[List.mem_singleton.1 h];exact Int.le_refl _
theorem jzs {l:List Int}:l.Pairwise (·≤·)→(ddS l).Pairwise (· < ·):=by
 refine jko (p:=fun l=>l.Pairwise (·≤·)→(ddS l).Pairwise (· < ·)) (fun _=>by simp[ddS]) (fun l x ih hp=>?_) l
 rw[jwq]
 rw[jmb] at hp
 split
 ·exact ih hp.1
 ·rename_i hne
  rw[jmb]
  refine⟨ih hp.1,fun y hy=>?_⟩
  rw[j5d] at hy
  have h1:=hp.2 y hy
  refine Classical.byContradiction fun h2=>hne ?_
  have e:y=x:=by omega
  subst e
  cases hz:l.getLast? with
  | none=>rw[List.getLast?_eq_none_iff] at hz;subst hz;cases hy
  | some z=>
   have h3:=j88 hp.1 hz y hy
   have h4:=hp.2 z (List.mem_of_getLast? hz)
   congr 1;omega
def endsL (es:List (Int×Int)):List Int:=es.flatMap fun e=>[e.1,e.2]
def kf5 (n:Int) (es:List (Int×Int)):List Int:=(iota n).filter fun v=>es.any fun e=>decide (On v e)

def kh5 (np:Nat) (rs:List PV):Mm (PV×List Arr×List Arr):=
 let r:PV:=tupR rs
 (Mm.mapL (fun j=>.get (1000+j) fun|some A=>.ret A|none=>.fail) (List.range np)).bind fun ps=>
 (coll 16 ownSite (r::ps.flatMap fun | .box _ cs=>cs|_=>[]) []).bind fun L=>
 (ren (jb6 np L) 3 r).bind fun r'=>
 (Mm.mapL (fun A=>jbf (jb6 np L) A.ver A) ps).bind fun ps'=>
 (Mm.mapL (fun s=>.get s fun|some A=>jbf (jb6 np L) 0 A|none=>.fail) L).bind fun own=>
 Mm.chk (decide L.Nodup && L.all ownSite) (.ret (r',ps',own))

section
structure Sr where
 num:List Int
 par:List Int
 low:List Int
def enterS (st:Sr×Int) (v p:Int):Sr×Int:=(⟨st.1.num.set v.toNat (st.2+1),st.1.par.set v.toNat p,st.1.low.set v.toNat (st.2+1)⟩,st.2+1)
def jbd (st:Sr×Int) (v x:Int):Sr×Int:=(⟨st.1.num,st.1.par,st.1.low.set v.toNat (min (gI st.1.low v) x)⟩,st.2)
def jbr (rec:Int→Int→Sr×Int→Sr×Int) (v p:Int) (st:Sr×Int) (u:Int):Sr×Int:=
 if gI st.1.num u=0 then jbd (rec u v st) v (gI (rec u v st).1.low u) else if u=p then st else jbd st v (gI st.1.num u)
def ja1 (es:List (Int×Int)):Nat→Int→Int→Sr×Int→Sr×Int
 | 0,_,_,st=>st
 | f+1,v,p,st=>(nbS v es).foldl (jbr (ja1 es f) v p) (enterS st v p)
def jba (l:List Int):Nat:=(l.filter fun d=>decide (d=0)).length
theorem jb5:∀{l:List Int} {i:Nat} {v:Int},i<l.length→l.getD i 0=0→v≠0→jba (l.set i v)+1=jba l
 | [],i,v,h,_,_=>by simp at h
 | x::l,0,v,h,h1,h2=>by
  have:x=0:=by simpa using h1
  subst this
  simp only[jba,List.set_cons_zero,List.filter_cons,decide_eq_true_eq,if_neg h2,if_true,List.length_cons]
 | x::l,i+1,v,h,h1,h2=>by
  have ih:=jb5 (l:=l) (i:=i) (v:=v) (by simpa using h) (by simpa using h1) h2
  simp only[jba] at ih ⊢
  simp only[List.set_cons_succ,List.filter_cons]
  split<;>(try simp only[List.length_cons])<;>omega
def inR (n u:Int):Prop:=0≤u∧u<n
def jhg (s:Sr) (u a w:Int):Int:=
 if gI s.par w=u∧gI s.low w<(if w≠gI s.par u∧gI s.num w<a then gI s.num w else a) then gI s.low w else(if w≠gI s.par u∧gI s.num w<a then gI s.num w else a)
def jet (s:Sr) (u:Int) (ws:List Int):Int:=ws.foldl (jhg s u) (gI s.num u)
def FinS (es:List (Int×Int)) (s:Sr) (u:Int):Prop:=(∀w∈nbS u es,gI s.num w≠0)∧gI s.low u=jet s u (nbS u es)
structure OkS (n:Int) (es:List (Int×Int)) (st:Sr×Int):Prop where
 ln:st.1.num.length=n.toNat
 lp:st.1.par.length=n.toNat
 ll:st.1.low.length=n.toNat
 c0:0≤st.2
 nn:∀u,inR n u→0≤gI st.1.num u∧gI st.1.num u≤st.2
 pr:∀u,inR n u→gI st.1.num u≠0→gI st.1.par u=-1∨(inR n (gI st.1.par u)∧gI st.1.num (gI st.1.par u)≠0)
theorem jxt {s:Sr} {u:Int}:∀(ws:List Int) (a:Int),ws.foldl (jhg s u) a≤a
 | [],a=>Int.le_refl _
 | w::ws,a=>by
  have h:jhg s u a w≤a:=by unfold jhg;split<;>split at *<;>omega
  exact Int.le_trans (jxt ws _) h
theorem jb9 {s s':Sr} {u:Int} (hp:gI s'.par u=gI s.par u):∀(ws:List Int) (a:Int),(∀w∈ws,gI s'.num w=gI s.num w∧gI s'.par w=gI s.par w∧(gI s.par w=u→gI s'.low w=gI s.low w))→
 ws.foldl (jhg s' u) a=ws.foldl (jhg s u) a
 | [],a,_=>rfl
 | w::ws,a,h=>by
  obtain⟨h1,h2,h3⟩:=h w (by simp)
  have e:jhg s' u a w=jhg s u a w:=by
   unfold jhg
   rw[h1,h2,hp]
   by_cases hw:gI s.par w=u
   ·rw[h3 hw]
   ·simp only[hw,false_and,if_false]
  rw[List.foldl_cons,List.foldl_cons,e]
  exact jb9 hp ws _ fun w hw=>h w (List.mem_cons_of_mem _ hw)
structure PostS (n:Int) (es:List (Int×Int)) (v p:Int) (st st':Sr×Int):Prop where
 ok:OkS n es st'
 cc:st.2≤st'.2
 old:∀u,inR n u→gI st.1.num u≠0→gI st'.1.num u=gI st.1.num u∧gI st'.1.par u=gI st.1.par u∧gI st'.1.low u=gI st.1.low u
 vn:gI st'.1.num v=st.2+1
 vp:gI st'.1.par v=p
 new:∀u,inR n u→gI st.1.num u=0→gI st'.1.num u≠0→st.2<gI st'.1.num u∧(u=v∨(inR n (gI st'.1.par u)∧gI st.1.num (gI st'.1.par u)=0))
 fin:∀u,inR n u→gI st.1.num u=0→gI st'.1.num u≠0→FinS es st'.1 u
 zz:jba st'.1.num<jba st.1.num
structure LoopS (n:Int) (es:List (Int×Int)) (v p:Int) (st s:Sr×Int) (pre:List Int):Prop where
 ok:OkS n es s
 cc:st.2<s.2
 old:∀u,inR n u→gI st.1.num u≠0→gI s.1.num u=gI st.1.num u∧gI s.1.par u=gI st.1.par u∧gI s.1.low u=gI st.1.low u
 vn:gI s.1.num v=st.2+1
 vp:gI s.1.par v=p
 new:∀u,inR n u→gI st.1.num u=0→gI s.1.num u≠0→st.2<gI s.1.num u∧(u=v∨(inR n (gI s.1.par u)∧gI st.1.num (gI s.1.par u)=0))
 fin:∀u,inR n u→u≠v→gI st.1.num u=0→gI s.1.num u≠0→FinS es s.1 u
 zz:jba s.1.num<jba st.1.num
 pf:∀w∈pre,gI s.1.num w≠0
 kid:∀u,inR n u→gI s.1.num u≠0→gI s.1.par u=v→u∈pre
 lv:gI s.1.low v=jet s.1 v pre
section
variable {n:Int} {es:List (Int×Int)}
theorem jfk (ho:∀e∈es,okE n e) {v u:Int} (h:u∈nbS v es):inR n u∧u≠v:=by
 have:=((ja8 ho).1 h).ok ho
 exact⟨⟨by omega,by omega⟩,by omega⟩
theorem jsh {s:Sr×Int} {v x:Int} (hs:OkS n es s) (hv:inR n v) {u:Int} (hu:inR n u):gI (jbd s v x).1.low u=if v=u then min (gI s.1.low v) x else gI s.1.low u:=
 jfg hv.1 hu.1 (by rw[hs.ll];obtain⟨h0,h1⟩:=hu;omega)
theorem OkS.lower {s:Sr×Int} {v x:Int} (hs:OkS n es s):OkS n es (jbd s v x):=
 ⟨hs.ln,hs.lp,by simp[jbd,hs.ll],hs.c0,hs.nn,hs.pr⟩
theorem jeq (ho:∀e∈es,okE n e) {st:Sr×Int} {v p:Int} (hs:OkS n es st) (hv:inR n v) (hv0:gI st.1.num v=0) (hp:p=-1∨(inR n p∧gI st.1.num p≠0)):LoopS n es v p st (enterS st v p) []:=by
 have hvl:v.toNat<n.toNat:=by obtain⟨h0,h1⟩:=hv;omega
 have gn:∀u,inR n u→gI (enterS st v p).1.num u=if v=u then st.2+1 else gI st.1.num u:=fun u hu=>jfg hv.1 hu.1 (by rw[hs.ln];obtain⟨h0,h1⟩:=hu;omega)
 have gp:∀u,inR n u→gI (enterS st v p).1.par u=if v=u then p else gI st.1.par u:=fun u hu=>jfg hv.1 hu.1 (by rw[hs.lp];obtain⟨h0,h1⟩:=hu;omega)
 have gl:∀u,inR n u→gI (enterS st v p).1.low u=if v=u then st.2+1 else gI st.1.low u:=fun u hu=>jfg hv.1 hu.1 (by rw[hs.ll];obtain⟨h0,h1⟩:=hu;omega)
 have hc0:=hs.c0
 have ok:OkS n es (enterS st v p):=by
  refine⟨by simp[enterS,hs.ln],by simp[enterS,hs.lp],by simp[enterS,hs.ll],?_,fun u hu=>?_,fun u hu h=>?_⟩
  ·show 0≤st.2+1;omega
  ·rw[gn u hu]
   have:=hs.nn u hu
   show _∧_≤st.2+1
   split<;>omega
  ·rw[gp u hu]
   by_cases he:v=u
   ·rw[if_pos he]
    refine hp.imp id fun hp=>⟨hp.1,?_⟩
    rw[gn p hp.1]
    split
    ·omega
    ·exact hp.2
   ·rw[if_neg he]
    rw[gn u hu,if_neg he] at h
    refine(hs.pr u hu h).imp id fun hq=>⟨hq.1,?_⟩
    rw[gn _ hq.1]
    split
    ·omega
    ·exact hq.2
 refine⟨ok,?_,fun u hu h=>?_,?_,?_,fun u hu h h'=>?_,fun u hu he h h'=>?_,?_,by simp,fun u hu h he=>?_,?_⟩
 ·show st.2<st.2+1;omega
 ·have he:v≠u:=fun e=>h (e▸hv0)
  rw[gn u hu,gp u hu,gl u hu,if_neg he,if_neg he,if_neg he]
  exact⟨rfl,rfl,rfl⟩
 ·rw[gn v hv,if_pos rfl]
 ·rw[gp v hv,if_pos rfl]
 ·rw[gn u hu] at h' ⊢
  by_cases he:v=u
  ·rw[if_pos he];exact⟨by omega,.inl he.symm⟩
  ·rw[if_neg he] at h';exact absurd h h'
 ·rw[gn u hu,if_neg (fun e=>he e.symm)] at h'
  exact absurd h h'
 ·have:=jb5 (l:=st.1.num) (i:=v.toNat) (v:=st.2+1) (by rw[hs.ln];exact hvl) hv0 (by omega)
  show jba (st.1.num.set v.toNat (st.2+1)) < _
  omega
 ·rw[gp u hu] at he
  by_cases hq:v=u
  ·subst hq
   rw[if_pos rfl] at he
   rcases hp with rfl|hp
   ·obtain⟨h0,h1⟩:=hv;omega
   ·subst he;exact absurd hv0 hp.2
  ·rw[if_neg hq] at he
   rw[gn u hu,if_neg hq] at h
   rcases hs.pr u hu h with e|e
   ·obtain⟨h0,h1⟩:=hv;omega
   ·rw[he] at e;exact absurd hv0 e.2
 ·rw[gl v hv,if_pos rfl]
  show st.2+1=gI (enterS st v p).1.num v
  rw[gn v hv,if_pos rfl]
theorem jil (ho:∀e∈es,okE n e) {f:Nat} (ih:∀(v p:Int) (st:Sr×Int),OkS n es st→inR n v→gI st.1.num v=0→(p=-1∨(inR n p∧gI st.1.num p≠0))→jba st.1.num≤f→PostS n es v p st (ja1 es f v p st))
 {st s:Sr×Int} {v p u:Int} {pre suf:List Int} (hnd:(nbS v es).Nodup) (hsp:nbS v es=pre++u::suf) (hc0:0≤st.2) (hv:inR n v) (hv0:gI st.1.num v=0) (hp:p=-1∨(inR n p∧gI st.1.num p≠0)) (hz:jba st.1.num≤f+1)
 (h:LoopS n es v p st s pre):LoopS n es v p st (jbr (ja1 es f) v p s u) (pre++[u]):=by
 have hum:u∈nbS v es:=by rw[hsp];simp
 obtain⟨hu,huv⟩:=jfk ho hum
 have hprem:∀w∈pre,w∈nbS v es:=fun w hw=>by rw[hsp];simp[hw]
 have hupre:u∉pre:=by
  rw[hsp,List.nodup_append] at hnd
  exact fun hm=>hnd.2.2 u hm u (by simp) rfl
 have hvs:gI s.1.num v≠0:=by rw[h.vn];omega
 unfold jbr
 by_cases hu0:gI s.1.num u=0
 ·rw[if_pos hu0]
  have P:=ih u v s h.ok hu hu0 (.inr ⟨hv,hvs⟩) (by have:=h.zz;omega)
  generalize ja1 es f u v s=s' at P
  obtain⟨P1,P2,P3,P4,P5,P6,P7,P8⟩:=P
  have lg:=fun w hw=>jsh (x:=gI s'.1.low u) (u:=w) P1 hv hw
  have hvo:=P3 v hv hvs
  refine⟨P1.lower,?_,fun w hw hw0=>?_,?_,?_,fun w hw hw0 hw1=>?_,fun w hw hwv hw0 hw1=>?_,?_,fun w hw=>?_,fun w hw hw0 hwp=>?_,?_⟩
  ·have:=h.cc;show st.2<s'.2;omega
  ·obtain⟨a1,a2,a3⟩:=h.old w hw hw0
   obtain⟨b1,b2,b3⟩:=P3 w hw (by rw[a1];exact hw0)
   refine⟨b1.trans a1,b2.trans a2,?_⟩
   rw[lg w hw,if_neg (fun e:v=w=>hw0 (by rw[←e];exact hv0))]
   exact b3.trans a3
  ·exact hvo.1.trans h.vn
  ·exact hvo.2.1.trans h.vp
  ·show st.2<gI s'.1.num w∧(w=v∨(inR n (gI s'.1.par w)∧gI st.1.num (gI s'.1.par w)=0))
   by_cases hq:gI s.1.num w=0
   ·obtain⟨c1,c2⟩:=P6 w hw hq hw1
    have hcc:=h.cc
    refine⟨by omega,.inr ?_⟩
    rcases c2 with rfl | ⟨c2,c3⟩
    ·rw[P5];exact⟨hv,hv0⟩
    ·refine⟨c2,?_⟩
     exact Classical.byContradiction fun hne=>by
      have:=(h.old _ c2 hne).1
      rw[c3] at this;exact hne this.symm
   ·obtain⟨b1,b2,b3⟩:=P3 w hw hq
    rw[b1,b2]
    exact h.new w hw hw0 hq
  ·have fin':FinS es s'.1 w:=by
    by_cases hq:gI s.1.num w=0
    ·exact P7 w hw hq hw1
    ·obtain⟨b1,b2,b3⟩:=P3 w hw hq
     obtain⟨f1,f2⟩:=h.fin w hw hwv hw0 hq
     have hall:∀x∈nbS w es,gI s'.1.num x=gI s.1.num x∧gI s'.1.par x=gI s.1.par x∧gI s'.1.low x=gI s.1.low x:=fun x hx=>P3 x (jfk ho hx).1 (f1 x hx)
     refine⟨fun x hx=>by rw[(hall x hx).1];exact f1 x hx,?_⟩
     rw[b3,f2]
     unfold jet
     rw[b1]
     exact(jb9 b2 _ _ fun x hx=>⟨(hall x hx).1,(hall x hx).2.1,fun _=>(hall x hx).2.2⟩).symm
   obtain⟨f1,f2⟩:=fin'
   refine⟨f1,?_⟩
   rw[lg w hw,if_neg (fun e=>hwv e.symm),f2]
   refine(jb9 (s:=s'.1) (s':=(jbd s' v (gI s'.1.low u)).1) rfl _ _ fun x hx=>⟨rfl,rfl,fun hxp=>?_⟩).symm
   have hxr:=(jfk ho hx).1
   rw[lg x hxr,if_neg]
   rintro rfl
   rw[hvo.2.1,h.vp] at hxp
   rcases hp with rfl|hp
   ·obtain⟨h0,h1⟩:=hw;omega
   ·rw[hxp] at hp;exact hp.2 hw0
  ·have:=h.zz;show jba s'.1.num < _;omega
  ·show gI s'.1.num w≠0
   rcases List.mem_append.1 hw with hw|hw
   ·have:=P3 w (jfk ho (hprem w hw)).1 (h.pf w hw)
    rw[this.1];exact h.pf w hw
   ·rw[List.mem_singleton.1 hw,P4];have:=h.ok.c0;omega
  ·by_cases hq:gI s.1.num w=0
   ·rcases(P6 w hw hq hw0).2 with rfl|c
    ·simp
    ·have:gI s'.1.par w=v:=hwp
     rw[this] at c
     exact absurd c.2 hvs
   ·obtain⟨b1,b2,b3⟩:=P3 w hw hq
    have hwp':gI s'.1.par w=v:=hwp
    rw[b2] at hwp'
    exact List.mem_append_left _ (h.kid w hw hq hwp')
  ·rw[lg v hv,if_pos rfl,hvo.2.2,h.lv]
   have e1:jet (jbd s' v (gI s'.1.low u)).1 v pre=jet s.1 v pre:=by
    unfold jet
    show List.foldl _ (gI s'.1.num v) pre=_
    rw[hvo.1]
    refine jb9 (s:=s.1) (s':=(jbd s' v (gI s'.1.low u)).1) hvo.2.1 _ _ fun x hx=>?_
    have hxr:=jfk ho (hprem x hx)
    obtain⟨b1,b2,b3⟩:=P3 x hxr.1 (h.pf x hx)
    refine⟨b1,b2,fun _=>?_⟩
    rw[lg x hxr.1,if_neg (fun e=>hxr.2 e.symm),b3]
   have e2:jet (jbd s' v (gI s'.1.low u)).1 v (pre++[u])=jhg (jbd s' v (gI s'.1.low u)).1 v (jet s.1 v pre) u:=by
    rw[←e1]
    unfold jet
    rw[List.foldl_append];rfl
   rw[e2]
   have hle:jet s.1 v pre≤gI s.1.num v:=jxt _ _
   have hcv:=h.ok.nn v hv
   unfold jhg
   have g1:gI (jbd s' v (gI s'.1.low u)).1.num u=s.2+1:=P4
   have g2:gI (jbd s' v (gI s'.1.low u)).1.par u=v:=P5
   have g3:gI (jbd s' v (gI s'.1.low u)).1.low u=gI s'.1.low u:=by rw[lg u hu,if_neg (fun e=>huv e.symm)]
   rw[g1,g2,g3,if_neg (fun k=>by omega:¬(u≠gI (jbd s' v (gI s'.1.low u)).1.par v∧s.2+1<jet s.1 v pre))]
   rw[Int.min_def]
   split<;>split<;>omega
 ·rw[if_neg hu0]
  have hune:gI s.1.par u≠v:=fun e=>hupre (h.kid u hu hu0 e)
  by_cases hup:u=p
  ·rw[if_pos hup]
   refine⟨h.ok,h.cc,h.old,h.vn,h.vp,h.new,h.fin,h.zz,fun w hw=>?_,fun w hw hw0 hwp=>List.mem_append_left _ (h.kid w hw hw0 hwp),?_⟩
   ·rcases List.mem_append.1 hw with hw|hw
    ·exact h.pf w hw
    ·rw[List.mem_singleton.1 hw];exact hu0
   ·rw[h.lv]
    unfold jet
    rw[List.foldl_append]
    show _=jhg s.1 v _ u
    unfold jhg
    rw[h.vp]
    rw[if_neg (fun k=>hune k.1),if_neg (fun k=>k.1 hup)]
  ·rw[if_neg hup]
   have lg:=fun w hw=>jsh (x:=gI s.1.num u) (u:=w) h.ok hv hw
   refine⟨h.ok.lower,h.cc,fun w hw hw0=>?_,h.vn,h.vp,h.new,fun w hw hwv hw0 hw1=>?_,h.zz,fun w hw=>?_,fun w hw hw0 hwp=>List.mem_append_left _ (h.kid w hw hw0 hwp),?_⟩
   ·obtain⟨a1,a2,a3⟩:=h.old w hw hw0
    refine⟨a1,a2,?_⟩
    rw[lg w hw,if_neg (fun e:v=w=>hw0 (by rw[←e];exact hv0))]
    exact a3
   ·obtain⟨f1,f2⟩:=h.fin w hw hwv hw0 hw1
    refine⟨f1,?_⟩
    rw[lg w hw,if_neg (fun e=>hwv e.symm),f2]
    refine(jb9 (s:=s.1) (s':=(jbd s v (gI s.1.num u)).1) rfl _ _ fun x hx=>⟨rfl,rfl,fun hxp=>?_⟩).symm
    have hxr:=(jfk ho hx).1
    rw[lg x hxr,if_neg]
    rintro rfl
    rw[h.vp] at hxp
    rcases hp with rfl|hp
    ·obtain⟨h0,h1⟩:=hw;omega
    ·rw[hxp] at hp;exact hp.2 hw0
   ·rcases List.mem_append.1 hw with hw|hw
    ·exact h.pf w hw
    ·rw[List.mem_singleton.1 hw];exact hu0
   ·rw[lg v hv,if_pos rfl,h.lv]
    have e1:jet (jbd s v (gI s.1.num u)).1 v pre=jet s.1 v pre:=by
     unfold jet
     refine jb9 (s:=s.1) (s':=(jbd s v (gI s.1.num u)).1) rfl _ _ fun x hx=>?_
     have hxr:=jfk ho (hprem x hx)
     refine⟨rfl,rfl,fun _=>?_⟩
     rw[lg x hxr.1,if_neg (fun e=>hxr.2 e.symm)]
    have e2:jet (jbd s v (gI s.1.num u)).1 v (pre++[u])=jhg (jbd s v (gI s.1.num u)).1 v (jet s.1 v pre) u:=by
     rw[←e1]
     unfold jet
     rw[List.foldl_append];rfl
    rw[e2]
    unfold jhg
    have g1:gI (jbd s v (gI s.1.num u)).1.num u=gI s.1.num u:=rfl
    have g2:gI (jbd s v (gI s.1.num u)).1.par u=gI s.1.par u:=rfl
    have g3:gI (jbd s v (gI s.1.num u)).1.par v=p:=h.vp
    rw[g1,g2,g3,if_neg (fun k=>hune k.1)]
    rw[Int.min_def]
    split<;>split<;>omega
theorem jlt (ho:∀e∈es,okE n e) {f:Nat} (ih:∀(v p:Int) (st:Sr×Int),OkS n es st→inR n v→gI st.1.num v=0→(p=-1∨(inR n p∧gI st.1.num p≠0))→jba st.1.num≤f→PostS n es v p st (ja1 es f v p st))
 {st:Sr×Int} {v p:Int} (hnd:(nbS v es).Nodup) (hc0:0≤st.2) (hv:inR n v) (hv0:gI st.1.num v=0) (hp:p=-1∨(inR n p∧gI st.1.num p≠0)) (hz:jba st.1.num≤f+1) :
 ∀(suf pre:List Int) (s:Sr×Int),nbS v es=pre++suf→LoopS n es v p st s pre→LoopS n es v p st (suf.foldl (jbr (ja1 es f) v p) s) (nbS v es)
 | [],pre,s,hsp,h=>by rw[hsp,List.append_nil];exact h
 | u::suf,pre,s,hsp,h=>by
  have:=jil ho ih hnd hsp hc0 hv hv0 hp hz h
  exact jlt ho ih hnd hc0 hv hv0 hp hz suf (pre++[u]) _ (by rw[hsp];simp) this
theorem jc5 (ho:∀e∈es,okE n e) (hn:es.Nodup):∀(f:Nat) (v p:Int) (st:Sr×Int),OkS n es st→inR n v→gI st.1.num v=0→(p=-1∨(inR n p∧gI st.1.num p≠0))→jba st.1.num≤f→PostS n es v p st (ja1 es f v p st)
 | 0,v,p,st,hs,hv,hv0,hp,hz=>by
  have:=jb5 (l:=st.1.num) (i:=v.toNat) (v:=1) (by rw[hs.ln];obtain⟨h0,h1⟩:=hv;omega) hv0 (by omega)
  omega
 | f+1,v,p,st,hs,hv,hv0,hp,hz=>by
  have hnd:(nbS v es).Nodup:=(List.mergeSort_perm _ _).nodup_iff.2 (jf1 ho hn v)
  have L:=jlt ho (jc5 ho hn f) hnd hs.c0 hv hv0 hp hz (nbS v es) [] _ rfl (jeq ho hs hv hv0 hp)
  rw[ja1]
  generalize (nbS v es).foldl (jbr (ja1 es f) v p) (enterS st v p)=s at L
  refine⟨L.ok,by have:=L.cc;omega,L.old,L.vn,L.vp,L.new,fun u hu h0 h1=>?_,L.zz⟩
  by_cases huv:u=v
  ·subst huv
   exact⟨L.pf,L.lv⟩
  ·exact L.fin u hu huv h0 h1
end
def seekS (n:Int) (es:List (Int×Int)):Nat→Sr×Int
 | 0=>(⟨List.replicate n.toNat 0,List.replicate n.toNat 0,List.replicate n.toNat 0⟩,0)
 | k+1=>if gI (seekS n es k).1.num (k:Int)=0 then ja1 es n.toNat (k:Int) (-1) (seekS n es k) else seekS n es k
def seek (n:Int) (es:List (Int×Int)):Sr:=(seekS n es n.toNat).1
theorem jis (l:List Int):jba l≤l.length:=List.length_filter_le _ _
theorem rep0 {n u:Int} (h:inR n u):gI (List.replicate n.toNat 0) u=0:=by
 unfold gI
 simp only[List.getD_eq_getElem?_getD,List.getElem?_replicate]
 split<;>rfl
theorem jea {n:Int} {es:List (Int×Int)} (ho:∀e∈es,okE n e) (hn:es.Nodup):∀k:Nat,(k:Int)≤n→OkS n es (seekS n es k)∧(∀u,inR n u→gI (seekS n es k).1.num u≠0→FinS es (seekS n es k).1 u)∧∀u:Int,0≤u→u<k→gI (seekS n es k).1.num u≠0
 | 0,_=>by
  refine⟨⟨by simp[seekS],by simp[seekS],by simp[seekS],by simp[seekS],fun u hu=>?_,fun u hu h=>?_⟩,fun u hu h=>?_,fun u h0 h1=>by omega⟩
  ·simp only[seekS];rw[rep0 hu];omega
  ·simp only[seekS] at h;rw[rep0 hu] at h;exact absurd rfl h
  ·simp only[seekS] at h;rw[rep0 hu] at h;exact absurd rfl h
 | k+1,hk=>by
  obtain⟨h1,h2,h3⟩:=jea ho hn k (by omega)
  rw[seekS]
  split
  ·rename_i h0
   have P:=jc5 ho hn n.toNat (k:Int) (-1) (seekS n es k) h1 ⟨by omega,by omega⟩ h0 (.inl rfl) (by have:=jis (seekS n es k).1.num;rw[h1.ln] at this;exact this)
   generalize ja1 es n.toNat (k:Int) (-1) (seekS n es k)=s at P
   refine⟨P.ok,fun u hu hu1=>?_,fun u hu0 hu1=>?_⟩
   ·by_cases hq:gI (seekS n es k).1.num u=0
    ·exact P.fin u hu hq hu1
    ·obtain⟨f1,f2⟩:=h2 u hu hq
     obtain⟨b1,b2,b3⟩:=P.old u hu hq
     have hall:∀x∈nbS u es,gI s.1.num x=gI (seekS n es k).1.num x∧gI s.1.par x=gI (seekS n es k).1.par x∧gI s.1.low x=gI (seekS n es k).1.low x:=fun x hx=>P.old x (jfk ho hx).1 (f1 x hx)
     refine⟨fun x hx=>by rw[(hall x hx).1];exact f1 x hx,?_⟩
     rw[b3,f2]
     unfold jet
     rw[b1]
     exact(jb9 b2 _ _ fun x hx=>⟨(hall x hx).1,(hall x hx).2.1,fun _=>(hall x hx).2.2⟩).symm
   ·by_cases hq:u=k
    ·subst hq
     rw[P.vn];have:=h1.c0;omega
    ·have:=h3 u hu0 (by omega)
     rw[(P.old u ⟨hu0,by omega⟩ this).1];exact this
  ·rename_i h0
   refine⟨h1,h2,fun u hu0 hu1=>?_⟩
   by_cases hq:u=k
   ·subst hq;exact h0
   ·exact h3 u hu0 (by omega)
theorem jip {n:Int} {es:List (Int×Int)} (ho:∀e∈es,okE n e):∀(f:Nat) (v p:Int) (st:Sr×Int),st.1.num.length=n.toNat→0≤st.2→inR n v→gI st.1.num v=0→jba st.1.num≤f→
 (ja1 es f v p st).1.num.length=n.toNat∧st.2≤(ja1 es f v p st).2∧(ja1 es f v p st).2+jba (ja1 es f v p st).1.num=st.2+jba st.1.num
 | 0,v,p,st,hl,hc,hv,hv0,hz=>by
  have:=jb5 (l:=st.1.num) (i:=v.toNat) (v:=1) (by rw[hl];obtain⟨h0,h1⟩:=hv;omega) hv0 (by omega)
  omega
 | f+1,v,p,st,hl,hc,hv,hv0,hz=>by
  have key:∀(vs:List Int) (s:Sr×Int),(∀u∈vs,inR n u)→s.1.num.length=n.toNat→0≤s.2→jba s.1.num≤f→
   (vs.foldl (jbr (ja1 es f) v p) s).1.num.length=n.toNat∧s.2≤(vs.foldl (jbr (ja1 es f) v p) s).2∧(vs.foldl (jbr (ja1 es f) v p) s).2+jba (vs.foldl (jbr (ja1 es f) v p) s).1.num=s.2+jba s.1.num:=by
   intro vs
   induction vs with
   | nil=>exact fun s _ h1 h2 h3=>⟨h1,Int.le_refl _,rfl⟩
   | cons u vs ih=>
    intro s hu h1 h2 h3
    rw[List.foldl_cons]
    have hst:(jbr (ja1 es f) v p s u).1.num.length=n.toNat∧s.2≤(jbr (ja1 es f) v p s u).2∧(jbr (ja1 es f) v p s u).2+jba (jbr (ja1 es f) v p s u).1.num=s.2+jba s.1.num:=by
     unfold jbr
     split
     ·rename_i h0
      exact jip ho f u v s h1 h2 (hu u (by simp)) h0 h3
     ·split
      ·exact⟨h1,Int.le_refl _,rfl⟩
      ·exact⟨h1,Int.le_refl _,rfl⟩
    obtain⟨k1,k2,k3⟩:=ih _ (fun w hw=>hu w (List.mem_cons_of_mem _ hw)) hst.1 (by omega) (by omega)
    exact⟨k1,by omega,by omega⟩
  have hzs:=jb5 (l:=st.1.num) (i:=v.toNat) (v:=st.2+1) (by rw[hl];obtain⟨h0,h1⟩:=hv;omega) hv0 (by omega)
  have e1:(enterS st v p).1.num=st.1.num.set v.toNat (st.2+1):=rfl
  have e2:(enterS st v p).2=st.2+1:=rfl
  obtain⟨k1,k2,k3⟩:=key (nbS v es) (enterS st v p) (fun u hu=>(jfk ho hu).1) (by rw[e1];simpa using hl) (by omega) (by rw[e1];omega)
  rw[ja1]
  rw[e1] at k3
  exact⟨k1,by omega,by omega⟩
theorem jkn {n:Int} {es:List (Int×Int)} (ho:∀e∈es,okE n e) (hn:es.Nodup) (h0:0≤n):∀k:Nat,(k:Int)≤n→(seekS n es k).2+jba (seekS n es k).1.num=n
 | 0,_=>by
  have:jba (List.replicate n.toNat 0)=n.toNat:=by simp[jba]
  simp only[seekS,this];omega
 | k+1,hk=>by
  have ih:=jkn ho hn h0 k (by omega)
  obtain⟨h1,h2,h3⟩:=jea ho hn k (by omega)
  rw[seekS]
  split
  ·rename_i hq
   have:=(jip ho n.toNat (k:Int) (-1) (seekS n es k) h1.ln h1.c0 ⟨by omega,by omega⟩ hq (by have:=jis (seekS n es k).1.num;rw[h1.ln] at this;exact this)).2.2
   omega
  ·exact ih
end

section
inductive Anc (n:Int) (par:List Int) (a:Int):Int→Prop
 | refl:Anc n par a a
 | up {u:Int}:inR n u→inR n (gI par u)→Anc n par a (gI par u)→Anc n par a u
theorem Anc.trans {n:Int} {par:List Int} {a b c:Int} (h1:Anc n par a b) (h2:Anc n par b c):Anc n par a c:=by
 induction h2 with
 | refl=>exact h1
 | up hu hp _ ih=>exact .up hu hp ih
structure TreeS (n:Int) (es:List (Int×Int)) (st:Sr×Int):Prop where
 pa:∀u,inR n u→gI st.1.num u≠0→gI st.1.par u=-1∨(inR n (gI st.1.par u)∧gI st.1.num (gI st.1.par u)≠0∧gI st.1.num (gI st.1.par u)<gI st.1.num u∧u∈nbS (gI st.1.par u) es)
 inj:∀u w,inR n u→inR n w→gI st.1.num u≠0→gI st.1.num u=gI st.1.num w→u=w
structure PostT (n:Int) (es:List (Int×Int)) (v:Int) (st st':Sr×Int):Prop where
 tr:TreeS n es st'
 d:∀u,inR n u→gI st.1.num u=0→gI st'.1.num u≠0→Anc n st'.1.par v u
 e:∀x,inR n x→gI st.1.num x=0→gI st'.1.num x≠0→∀w∈nbS x es,gI st'.1.num x<gI st'.1.num w→Anc n st'.1.par x w
structure LoopT (n:Int) (es:List (Int×Int)) (v:Int) (st s:Sr×Int):Prop where
 tr:TreeS n es s
 d:∀u,inR n u→gI st.1.num u=0→gI s.1.num u≠0→Anc n s.1.par v u
 e:∀x,inR n x→x≠v→gI st.1.num x=0→gI s.1.num x≠0→∀w∈nbS x es,gI s.1.num x<gI s.1.num w→Anc n s.1.par x w
section
variable {n:Int} {es:List (Int×Int)}
theorem Anc.mono {s s':Sr×Int} (hs:OkS n es s) (old:∀u,inR n u→gI s.1.num u≠0→gI s'.1.num u=gI s.1.num u∧gI s'.1.par u=gI s.1.par u∧gI s'.1.low u=gI s.1.low u) {a u:Int} (h:Anc n s.1.par a u):gI s.1.num u≠0→Anc n s'.1.par a u:=by
 induction h with
 | refl=>exact fun _=>.refl
 | @up u hu hp _ ih=>
  intro h0
  have e:=(old u hu h0).2.1
  have hq:gI s.1.num (gI s.1.par u)≠0:=by
   rcases hs.pr u hu h0 with h|h
   ·obtain⟨h1,h2⟩:=hp;omega
   ·exact h.2
  exact .up hu (by rw[e];exact hp) (by rw[e];exact ih hq)
theorem jz2 (ho:∀e∈es,okE n e) {st:Sr×Int} {v p:Int} (hs:OkS n es st) (ht:TreeS n es st) (hv:inR n v) (hv0:gI st.1.num v=0) (hp:p=-1∨(inR n p∧gI st.1.num p≠0∧v∈nbS p es)):LoopT n es v st (enterS st v p):=by
 have gn:∀u,inR n u→gI (enterS st v p).1.num u=if v=u then st.2+1 else gI st.1.num u:=fun u hu=>jfg hv.1 hu.1 (by rw[hs.ln];obtain⟨h0,h1⟩:=hu;omega)
 have gp:∀u,inR n u→gI (enterS st v p).1.par u=if v=u then p else gI st.1.par u:=fun u hu=>jfg hv.1 hu.1 (by rw[hs.lp];obtain⟨h0,h1⟩:=hu;omega)
 have hc0:=hs.c0
 refine⟨⟨fun u hu h=>?_,fun u w hu hw h0 he=>?_⟩,fun u hu h h'=>?_,fun x hx hxv h h'=>?_⟩
 ·rw[gp u hu]
  by_cases he:v=u
  ·subst he
   rw[if_pos rfl]
   refine hp.imp id fun hp=>⟨hp.1,?_,?_,hp.2.2⟩
   ·rw[gn p hp.1];split
    ·omega
    ·exact hp.2.1
   ·rw[gn v hv,if_pos rfl,gn p hp.1,if_neg (fun e:v=p=>hp.2.1 (e▸hv0))]
    have:=(hs.nn p hp.1).2
    omega
  ·rw[if_neg he]
   rw[gn u hu,if_neg he] at h
   refine(ht.pa u hu h).imp id fun hq=>⟨hq.1,?_,?_,hq.2.2.2⟩
   ·rw[gn _ hq.1,if_neg (fun e:v=gI st.1.par u=>hq.2.1 (e▸hv0))];exact hq.2.1
   ·rw[gn _ hq.1,if_neg (fun e:v=gI st.1.par u=>hq.2.1 (e▸hv0)),gn u hu,if_neg he];exact hq.2.2.1
 ·rw[gn u hu] at h0 he
  rw[gn w hw] at he
  have h1:=hs.nn u hu
  have h2:=hs.nn w hw
  by_cases e1:v=u
  ·by_cases e2:v=w
   ·exact e1.symm.trans e2
   ·rw[if_pos e1,if_neg e2] at he;omega
  ·by_cases e2:v=w
   ·rw[if_neg e1,if_pos e2] at he;omega
   ·rw[if_neg e1] at h0
    rw[if_neg e1,if_neg e2] at he
    exact ht.inj u w hu hw h0 he
 ·rw[gn u hu] at h'
  by_cases he:v=u
  ·subst he;exact .refl
  ·rw[if_neg he] at h';exact absurd h h'
 ·rw[gn x hx,if_neg (fun e=>hxv e.symm)] at h'
  exact absurd h h'
theorem j58 (ho:∀e∈es,okE n e) {f:Nat} (ihS:∀(v p:Int) (st:Sr×Int),OkS n es st→inR n v→gI st.1.num v=0→(p=-1∨(inR n p∧gI st.1.num p≠0))→jba st.1.num≤f→PostS n es v p st (ja1 es f v p st))
 (ih:∀(v p:Int) (st:Sr×Int),OkS n es st→TreeS n es st→inR n v→gI st.1.num v=0→(p=-1∨(inR n p∧gI st.1.num p≠0∧v∈nbS p es))→jba st.1.num≤f→PostT n es v st (ja1 es f v p st))
 {st s:Sr×Int} {v p u:Int} {pre:List Int} (hc0:0≤st.2) (hv:inR n v) (hum:u∈nbS v es) (hz:jba st.1.num≤f+1) (h:LoopS n es v p st s pre) (t:LoopT n es v st s):LoopT n es v st (jbr (ja1 es f) v p s u):=by
 obtain⟨hu,huv⟩:=jfk ho hum
 have hvs:gI s.1.num v≠0:=by rw[h.vn];omega
 unfold jbr
 by_cases hu0:gI s.1.num u=0
 ·rw[if_pos hu0]
  have P:=ihS u v s h.ok hu hu0 (.inr ⟨hv,hvs⟩) (by have:=h.zz;omega)
  have T:=ih u v s h.ok t.tr hu hu0 (.inr ⟨hv,hvs,hum⟩) (by have:=h.zz;omega)
  generalize ja1 es f u v s=s' at P T
  have mono:∀{a w:Int},Anc n s.1.par a w→gI s.1.num w≠0→Anc n s'.1.par a w:=fun hA hw=>hA.mono h.ok P.old hw
  have hvu:Anc n s'.1.par v u:=.up hu (by rw[P.vp];exact hv) (by rw[P.vp];exact .refl)
  refine⟨⟨T.tr.pa,T.tr.inj⟩,fun w hw h0 h1=>?_,fun x hx hxv h0 h1 w hw hlt=>?_⟩
  ·show Anc n s'.1.par v w
   by_cases hq:gI s.1.num w=0
   ·exact hvu.trans (T.d w hw hq h1)
   ·exact mono (t.d w hw h0 hq) hq
  ·show Anc n s'.1.par x w
   by_cases hq:gI s.1.num x=0
   ·exact T.e x hx hq h1 w hw hlt
   ·have hf:=(h.fin x hx hxv h0 hq).1 w hw
    have hwr:=(jfk ho hw).1
    refine mono (t.e x hx hxv h0 hq w hw ?_) hf
    rw[←(P.old x hx hq).1,←(P.old w hwr hf).1]
    exact hlt
 ·rw[if_neg hu0]
  split
  ·exact t
  ·exact⟨⟨t.tr.pa,t.tr.inj⟩,t.d,t.e⟩
theorem jr0 (ho:∀e∈es,okE n e) {f:Nat} (ihS:∀(v p:Int) (st:Sr×Int),OkS n es st→inR n v→gI st.1.num v=0→(p=-1∨(inR n p∧gI st.1.num p≠0))→jba st.1.num≤f→PostS n es v p st (ja1 es f v p st))
 (ih:∀(v p:Int) (st:Sr×Int),OkS n es st→TreeS n es st→inR n v→gI st.1.num v=0→(p=-1∨(inR n p∧gI st.1.num p≠0∧v∈nbS p es))→jba st.1.num≤f→PostT n es v st (ja1 es f v p st))
 {st:Sr×Int} {v p:Int} (hnd:(nbS v es).Nodup) (hc0:0≤st.2) (hv:inR n v) (hv0:gI st.1.num v=0) (hp:p=-1∨(inR n p∧gI st.1.num p≠0)) (hz:jba st.1.num≤f+1) :
 ∀(suf pre:List Int) (s:Sr×Int),nbS v es=pre++suf→LoopS n es v p st s pre→LoopT n es v st s→LoopT n es v st (suf.foldl (jbr (ja1 es f) v p) s)
 | [],pre,s,hsp,h,t=>t
 | u::suf,pre,s,hsp,h,t=>by
  have h':=jil ho ihS hnd hsp hc0 hv hv0 hp hz h
  have hum:u∈nbS v es:=by rw[hsp];simp
  have t':=j58 ho ihS ih hc0 hv hum hz h t
  exact jr0 ho ihS ih hnd hc0 hv hv0 hp hz suf (pre++[u]) _ (by rw[hsp];simp) h' t'
theorem jom (ho:∀e∈es,okE n e) (hn:es.Nodup):∀(f:Nat) (v p:Int) (st:Sr×Int),OkS n es st→TreeS n es st→inR n v→gI st.1.num v=0→(p=-1∨(inR n p∧gI st.1.num p≠0∧v∈nbS p es))→jba st.1.num≤f→PostT n es v st (ja1 es f v p st)
 | 0,v,p,st,hs,ht,hv,hv0,hp,hz=>by
  have:=jb5 (l:=st.1.num) (i:=v.toNat) (v:=1) (by rw[hs.ln];obtain⟨h0,h1⟩:=hv;omega) hv0 (by omega)
  omega
 | f+1,v,p,st,hs,ht,hv,hv0,hp,hz=>by
  have hp':p=-1∨(inR n p∧gI st.1.num p≠0):=hp.imp id fun h=>⟨h.1,h.2.1⟩
  have hnd:(nbS v es).Nodup:=(List.mergeSort_perm _ _).nodup_iff.2 (jf1 ho hn v)
  have L:=jlt ho (jc5 ho hn f) hnd hs.c0 hv hv0 hp' hz (nbS v es) [] _ rfl (jeq ho hs hv hv0 hp')
  have T:=jr0 ho (jc5 ho hn f) (jom ho hn f) hnd hs.c0 hv hv0 hp' hz (nbS v es) [] _ rfl (jeq ho hs hv hv0 hp') (jz2 ho hs ht hv hv0 hp)
  have hfin:ja1 es (f+1) v p st=(nbS v es).foldl (jbr (ja1 es f) v p) (enterS st v p):=rfl
  rw[hfin]
  generalize (nbS v es).foldl (jbr (ja1 es f) v p) (enterS st v p)=s at L T
  refine⟨T.tr,T.d,fun x hx h0 h1 w hw hlt=>?_⟩
  by_cases hxv:x=v
  ·subst hxv
   have hwr:=(jfk ho hw).1
   refine T.d w hwr ?_ (L.pf w hw)
   refine Classical.byContradiction fun hne=>?_
   have a1:=(L.old w hwr hne).1
   have a2:=(hs.nn w hwr).2
   have a3:=L.vn
   omega
  ·exact T.e x hx hxv h0 h1 w hw hlt
end
theorem js9 {n:Int} {es:List (Int×Int)} (ho:∀e∈es,okE n e) (hn:es.Nodup):∀k:Nat,(k:Int)≤n→TreeS n es (seekS n es k)∧∀x,inR n x→gI (seekS n es k).1.num x≠0→∀w∈nbS x es,gI (seekS n es k).1.num x<gI (seekS n es k).1.num w→Anc n (seekS n es k).1.par x w
 | 0,_=>by
  have h0:∀u,inR n u→gI (seekS n es 0).1.num u=0:=fun u hu=>rep0 hu
  exact⟨⟨fun u hu h=>absurd (h0 u hu) h,fun u w hu hw h=>absurd (h0 u hu) h⟩,fun x hx h=>absurd (h0 x hx) h⟩
 | k+1,hk=>by
  obtain⟨ht,he⟩:=js9 ho hn k (by omega)
  obtain⟨hs,hf,-⟩:=jea ho hn k (by omega)
  have hnext:seekS n es (k+1)=if gI (seekS n es k).1.num (k:Int)=0 then ja1 es n.toNat (k:Int) (-1) (seekS n es k) else seekS n es k:=rfl
  rw[hnext]
  split
  ·rename_i h0
   have hkr:inR n (k:Int):=⟨by omega,by omega⟩
   have hz:jba (seekS n es k).1.num≤n.toNat:=by have:=jis (seekS n es k).1.num;have:=hs.ln;omega
   have P:=jc5 ho hn n.toNat (k:Int) (-1) (seekS n es k) hs hkr h0 (.inl rfl) hz
   have T:=jom ho hn n.toNat (k:Int) (-1) (seekS n es k) hs ht hkr h0 (.inl rfl) hz
   generalize ja1 es n.toNat (k:Int) (-1) (seekS n es k)=s' at P T
   refine⟨T.tr,fun x hx hx0 w hw hlt=>?_⟩
   by_cases hq:gI (seekS n es k).1.num x=0
   ·exact T.e x hx hq hx0 w hw hlt
   ·have hwr:=(jfk ho hw).1
    have hwn:=(hf x hx hq).1 w hw
    refine(he x hx hq w hw ?_).mono hs P.old hwn
    rw[←(P.old x hx hq).1,←(P.old w hwr hwn).1]
    exact hlt
  ·exact⟨ht,he⟩
end
theorem jli {n:Int} {es:List (Int×Int)} {t x:Int} (ho:∀e∈es,okE n e) (h0:0≤n) (hc:Conn es t x) (hx:inN n x):dst n es t x<n:=by
 have ht:inN n t:=by
  rcases hc.ok ho with e | ⟨a,b,-,-⟩
  ·rw[e];exact hx
  ·exact⟨a,b⟩
 have hd:=(jbu ho hc (n:=n)).1
 have hl:(jb2 n es x t).length=(dst n es t x).toNat+1:=jmc
 have hn:((jb2 n es x t).map (dst n es t)).Nodup:=by
  rw[List.nodup_iff_pairwise_ne,List.pairwise_iff_getElem]
  intro i j hi hj hij
  rw[List.length_map] at hi hj
  have a1:=(jkl ho h0 hc.symm hi).2.1
  have a2:=(jkl ho h0 hc.symm hj).2.1
  simp only[List.getD,List.getElem?_eq_getElem hi,List.getElem?_eq_getElem hj,Option.getD_some] at a1 a2
  rw[List.getElem_map,List.getElem_map,a1,a2]
  omega
 have:=jan (l:=jb2 n es x t) (m:=iota n) ((List.pairwise_map.1 hn).imp fun h e=>h (by rw[e])) fun v hv=>by
  obtain⟨i,hi,rfl⟩:=List.mem_iff_getElem.1 hv
  have a1:=(jkl ho h0 hc.symm hi).1
  simp only[List.getD,List.getElem?_eq_getElem hi,Option.getD_some] at a1
  rcases a1.ok ho with e | ⟨-,-,a,b⟩
  ·rw[←e];exact mem_iota.2 ht
  ·exact mem_iota.2 ⟨a,b⟩
 have hio:(iota n).length=n.toNat:=by simp[iota]
 rw[hio,hl] at this
 omega
theorem jfm {v x y:Int} {es:List (Int×Int)} (h:Adj es x y) (hx:x≠v) (hy:y≠v):Adj (alone v es) x y:=by
 unfold alone
 rcases h with h|h
 ·exact .inl (List.mem_filter.2 ⟨h,by simp[hx,hy]⟩)
 ·exact .inr (List.mem_filter.2 ⟨h,by simp[hx,hy]⟩)
theorem jgq {n:Int} {es:List (Int×Int)} (ho:∀e∈es,okE n e) (ht:Tree n es) {x y z:Int} (hy:Adj es x y) (hz:Adj es x z) (hne:y≠z):¬Conn (alone x es) y z:=by
 intro hc
 have he:=(jka ho).1 hy
 have hb:=kag ho ht he.2
 have hzy:Adj (cutE (edgeOf x y) es) x z:=by
  refine Classical.byContradiction fun hn=>?_
  have hyo:=hy.ok ho
  have hzo:=hz.ok ho
  have e1:(edgeOf x y=(x,y))∨(edgeOf x y=(y,x)):=jbc
  rcases kbl ho hz hn with⟨a,b⟩ | ⟨a,b⟩<;>rcases e1 with e|e<;>rw[e] at a b<;>simp only at a b<;>omega
 have hca:Conn (cutE (edgeOf x y) es) y z:=hc.mono (j0z (by rcases jbc (x:=x) (y:=y) with e|e<;>rw[e]<;>simp))
 have hxy:Conn (cutE (edgeOf x y) es) x y:=(Conn.of hzy).trans hca.symm
 refine hb ?_
 rcases jbc (x:=x) (y:=y) with e|e
 ·rw[e] at hxy ⊢;exact hxy
 ·rw[e] at hxy ⊢;exact hxy.symm
theorem jja {n:Int} {es:List (Int×Int)} (ho:∀e∈es,okE n e) (h0:0≤n) {r x:Int}:∀(k:Nat) {y:Int},Conn es r y→dst n es r y=k→y≠x→dst n es r y≤dst n es r x→Conn (alone x es) y r
 | 0,y,hc,hk,hne,hle=>by
  have:y=r:=jh8 ho hc (by omega)
  subst this;exact .refl _
 | k+1,y,hc,hk,hne,hle=>by
  obtain⟨z,ha,hz⟩:=jpm ho h0 hc (by omega)
  have hcz:=hc.step ha
  have hzx:z≠x:=fun e=>by subst e;omega
  exact(Conn.of (jfm ha hne hzx)).trans (jja ho h0 k hcz (by omega) hzx (by omega))
theorem jvo {n:Int} {es:List (Int×Int)} (ho:∀e∈es,okE n e) (h0:0≤n) (ht:Tree n es) {r x y z:Int} (hc:Conn es r x) (hy:Adj es x y) (hz:Adj es x z) (h1:dst n es r y≤dst n es r x) (h2:dst n es r z≤dst n es r x):y=z:=by
 refine Classical.byContradiction fun hne=>jgq ho ht hy hz hne ?_
 have d1:=(jbu (n:=n) ho (hc.step hy)).1
 have d2:=(jbu (n:=n) ho (hc.step hz)).1
 have a1:=jja ho h0 (dst n es r y).toNat (hc.step hy) (by omega) (fun e=>(hy.ok ho).2.2.2.2 e.symm) h1
 have a2:=jja ho h0 (dst n es r z).toNat (hc.step hz) (by omega) (fun e=>(hz.ok ho).2.2.2.2 e.symm) h2
 exact a1.trans a2.symm
theorem jtn {n:Int} {es:List (Int×Int)} (ho:∀e∈es,okE n e) (h0:0≤n) (ht:Tree n es) {r x y:Int} (hc:Conn es r x) (hy:Adj es x y):dst n es r y=dst n es r x-1∨dst n es r y=dst n es r x+1:=by
 have a:=j3i (n:=n) ho hc hy
 have b:=j3i (n:=n) ho (hc.step hy) hy.symm
 have hne:=(hy.ok ho).2.2.2.2
 by_cases e:dst n es r y=dst n es r x
 ·exfalso
  by_cases hz:dst n es r x=0
  ·have h1:=jh8 ho hc hz
   have h2:=jh8 ho (hc.step hy) (by omega)
   exact hne (h1.trans h2.symm)
  ·obtain⟨p,hp,hd⟩:=jpm ho h0 hc hz
   have:=jvo ho h0 ht hc hy hp (by omega) (by omega)
   subst this;omega
 ·omega
theorem jpe {fs:List (Int×Int)} {y z p:Int} (h:Conn fs y z) (hn:¬Conn fs y p):Conn (alone p fs) y z:=by
 induction h with
 | refl=>exact .refl _
 | @step u v a b ih=>
  exact(ih).trans (.of (jfm b (fun e=>hn (e▸a)) fun e=>hn (e▸a.step b)))
theorem jzr {fs:List (Int×Int)} {x z:Int} (h:Conn fs x z):z=x∨∃y,Adj fs x y∧Conn (alone x fs) y z:=by
 induction h with
 | refl=>exact .inl rfl
 | @step u v a b ih=>
  by_cases hv:v=x
  ·exact .inl hv
  ·rcases ih with rfl | ⟨y,h1,h2⟩
   ·exact .inr ⟨v,b,.refl _⟩
   ·by_cases hu:u=x
    ·subst hu;exact .inr ⟨v,b,.refl _⟩
    ·exact .inr ⟨y,h1,h2.trans (.of (jfm b hu hv))⟩
theorem jh4 {v:Int} {fs:List (Int×Int)} {x y:Int} (h:Conn (alone v fs) x y):Conn fs x y:=h.mono j00
theorem jh3 {v:Int} {fs:List (Int×Int)} {x y:Int} (h:Conn (alone v fs) x y) (hx:x≠v):y≠v:=fun e=>hx (by
 have:=h.symm
 rw[e] at this
 exact jyn this)
def kidsL (es:List (Int×Int)) (x p:Int):List Int:=(nbS x es).filter fun y=>decide (y≠p)
def tourL (es:List (Int×Int)):Nat→Int→Int→List Int
 | 0,x,_=>[x]
 | f+1,x,p=>x::(kidsL es x p).flatMap fun y=>tourL es f y x++[x]
def subN (es:List (Int×Int)):Nat→Int→Int→List Int
 | 0,x,_=>[x]
 | f+1,x,p=>x::(kidsL es x p).flatMap fun y=>subN es f y x
def subE (es:List (Int×Int)):Nat→Int→Int→List (Int×Int)
 | 0,_,_=>[]
 | f+1,x,p=>(kidsL es x p).flatMap fun y=>edgeOf x y::subE es f y x
structure At (n:Int) (es:List (Int×Int)) (r x p:Int):Prop where
 cn:Conn es r x
 inx:inN n x
 up:(x=r∧p=-1)∨(Adj es x p∧dst n es r p=dst n es r x-1)
theorem jbv {n:Int} {es:List (Int×Int)} (ho:∀e∈es,okE n e) {x p y:Int}:y∈kidsL es x p↔Adj es x y∧y≠p:=by
 unfold kidsL
 rw[List.mem_filter,ja8 ho,decide_eq_true_eq]
theorem At.kid {n:Int} {es:List (Int×Int)} (ho:∀e∈es,okE n e) (h0:0≤n) (ht:Tree n es) {r x p y:Int} (h:At n es r x p) (hy:y∈kidsL es x p):At n es r y x∧dst n es r y=dst n es r x+1:=by
 obtain⟨ha,hp⟩:=(jbv ho).1 hy
 have hd:dst n es r y=dst n es r x+1:=by
  rcases jtn ho h0 ht h.cn ha with e|e
  ·exfalso
   rcases h.up with⟨rfl,-⟩ | ⟨hq,hqd⟩
   ·have:=(jbu (n:=n) ho (h.cn.step ha)).1
    rw[jkg ho h0] at e;omega
   ·exact hp (jvo ho h0 ht h.cn ha hq (by omega) (by omega))
  ·exact e
 have hok:=ha.ok ho
 exact⟨⟨h.cn.step ha,⟨hok.2.2.1,hok.2.2.2.1⟩,.inr ⟨ha.symm,by omega⟩⟩,hd⟩
theorem jn5 {n:Int} {es:List (Int×Int)} (ho:∀e∈es,okE n e) (hn:es.Nodup) {x p:Int}:(kidsL es x p).Nodup:=by
 refine List.Nodup.sublist List.filter_sublist ?_
 exact(jgp ho hn x).imp fun h=>by omega
theorem jeg {n:Int} {es:List (Int×Int)} (ho:∀e∈es,okE n e) (h0:0≤n) (ht:Tree n es) {r:Int}:∀(f:Nat) {x p z:Int},At n es r x p→n-dst n es r x≤f→(z∈subN es f x p↔Conn (alone p es) x z)
 | 0,x,p,z,h,hf=>by
  exfalso
  have hd:=jli ho h0 h.cn h.inx
  omega
 | f+1,x,p,z,h,hf=>by
  rw[subN,List.mem_cons,List.mem_flatMap]
  have hxp:x≠p:=by
   rcases h.up with⟨rfl,rfl⟩ | ⟨ha,-⟩
   ·have:=h.inx.1;omega
   ·exact(ha.ok ho).2.2.2.2
  constructor
  ·rintro(rfl | ⟨y,hy,hz⟩)
   ·exact .refl _
   ·obtain⟨hk,hd⟩:=h.kid ho h0 ht hy
    obtain⟨ha,hyp⟩:=(jbv ho).1 hy
    have hcz:=(jeg ho h0 ht f hk (by omega)).1 hz
    have hnp:¬Conn (alone x es) y p:=fun hc=>by
     rcases h.up with⟨rfl,rfl⟩ | ⟨hp,-⟩
     ·have:=(jh4 hc).ok ho
      rcases this with e | ⟨-,-,e,-⟩
      ·exact hyp e
      ·omega
     ·exact jgq ho ht ha hp hyp hc
    have h1:=jpe hcz hnp
    have h2:Conn (alone p es) y z:=h1.mono fun e he=>by
     have e1:=List.mem_filter.1 he
     have e2:=List.mem_filter.1 e1.1
     exact List.mem_filter.2 ⟨e2.1,e1.2⟩
    exact(Conn.of (jfm ha hxp hyp)).trans h2
  ·intro hc
   rcases jzr hc with rfl | ⟨y,hy,hz⟩
   ·exact .inl rfl
   ·right
    obtain⟨h1,h2,h3⟩:=jqi hy
    have hyk:y∈kidsL es x p:=(jbv ho).2 ⟨h3,h2⟩
    obtain⟨hk,hd⟩:=h.kid ho h0 ht hyk
    refine⟨y,hyk,(jeg ho h0 ht f hk (by omega)).2 (hz.mono fun e he=>?_)⟩
    have e1:=List.mem_filter.1 he
    have e2:=List.mem_filter.1 e1.1
    exact List.mem_filter.2 ⟨e2.1,e1.2⟩
theorem je9 {α β:Type} {f:α→List β}:∀{l:List α},l.Nodup→(∀x∈l,(f x).Nodup)→(∀x∈l,∀y∈l,x≠y→∀b,b∈f x→b∉f y)→(l.flatMap f).Nodup
 | [],_,_,_=>by simp
 | a::l,hn,h1,h2=>by
  rw[List.nodup_cons] at hn
  rw[List.flatMap_cons,List.nodup_append]
  refine⟨h1 a (by simp),je9 hn.2 (fun x hx=>h1 x (List.mem_cons_of_mem _ hx)) (fun x hx y hy=>h2 x (List.mem_cons_of_mem _ hx) y (List.mem_cons_of_mem _ hy)),fun b hb c hc e=>?_⟩
  subst e
  obtain⟨y,hy,hby⟩:=List.mem_flatMap.1 hc
  exact h2 a (by simp) y (List.mem_cons_of_mem _ hy) (fun e=>hn.1 (e▸hy)) b hb hby
theorem jin {n:Int} {es:List (Int×Int)} (ho:∀e∈es,okE n e) (hn:es.Nodup) (h0:0≤n) (ht:Tree n es) {r:Int}:∀(f:Nat) {x p:Int},At n es r x p→n-dst n es r x≤f→(subN es f x p).Nodup
 | 0,x,p,h,hf=>by simp[subN]
 | f+1,x,p,h,hf=>by
  rw[subN,List.nodup_cons,List.mem_flatMap]
  refine⟨?_,je9 (jn5 ho hn) (fun y hy=>?_) fun y hy z hz hyz b hb hc=>?_⟩
  ·rintro⟨y,hy,hx⟩
   obtain⟨hk,hd⟩:=h.kid ho h0 ht hy
   have hc:=(jeg ho h0 ht f hk (by omega)).1 hx
   have ha:=((jbv ho).1 hy).1
   exact(jh3 hc fun e=>(ha.ok ho).2.2.2.2 e.symm) rfl
  ·obtain⟨hk,hd⟩:=h.kid ho h0 ht hy
   exact jin ho hn h0 ht f hk (by omega)
  ·obtain⟨hk,hd⟩:=h.kid ho h0 ht hy
   obtain⟨hk2,hd2⟩:=h.kid ho h0 ht hz
   have c1:=(jeg ho h0 ht f hk (by omega)).1 hb
   have c2:=(jeg ho h0 ht f hk2 (by omega)).1 hc
   exact jgq ho ht ((jbv ho).1 hy).1 ((jbv ho).1 hz).1 hyz (c1.trans c2.symm)
theorem je7 {es:List (Int×Int)}:∀(f:Nat) {x p z:Int},z∈tourL es f x p↔z∈subN es f x p
 | 0,x,p,z=>Iff.rfl
 | f+1,x,p,z=>by
  rw[tourL,subN,List.mem_cons,List.mem_cons,List.mem_flatMap,List.mem_flatMap]
  constructor
  ·rintro(h | ⟨y,hy,h⟩)
   ·exact .inl h
   ·rcases List.mem_append.1 h with h|h
    ·exact .inr ⟨y,hy,(je7 f).1 h⟩
    ·exact .inl (List.mem_singleton.1 h)
  ·rintro(h | ⟨y,hy,h⟩)
   ·exact .inl h
   ·exact .inr ⟨y,hy,List.mem_append.2 (.inl ((je7 f).2 h))⟩
theorem jkq {es:List (Int×Int)}:∀(f:Nat) {x p:Int},(tourL es f x p).length+1=2*(subN es f x p).length
 | 0,x,p=>rfl
 | f+1,x,p=>by
  rw[tourL,subN,List.length_cons,List.length_cons]
  have key:∀l:List Int,(l.flatMap fun y=>tourL es f y x++[x]).length=2*(l.flatMap fun y=>subN es f y x).length:=by
   intro l
   induction l with
   | nil=>rfl
   | cons a l ih=>
    have:=jkq f (x:=a) (p:=x) (es:=es)
    rw[List.flatMap_cons,List.flatMap_cons,List.length_append,List.length_append,ih,List.length_append]
    simp only[List.length_cons,List.length_nil]
    omega
  rw[key];omega
theorem jp7 {es:List (Int×Int)}:∀(f:Nat) {x p:Int},(subE es f x p).length+1=(subN es f x p).length
 | 0,x,p=>rfl
 | f+1,x,p=>by
  rw[subE,subN,List.length_cons]
  have key:∀l:List Int,(l.flatMap fun y=>edgeOf x y::subE es f y x).length=(l.flatMap fun y=>subN es f y x).length:=by
   intro l
   induction l with
   | nil=>rfl
   | cons a l ih=>
    have:=jp7 f (x:=a) (p:=x) (es:=es)
    rw[List.flatMap_cons,List.flatMap_cons,List.length_append,List.length_append,ih,List.length_cons,this]
  rw[key]
theorem jf7 {es:List (Int×Int)}:∀(f:Nat) {x p:Int} {e:Int×Int},e∈subE es f x p→e.1∈subN es f x p∧e.2∈subN es f x p
 | 0,x,p,e,h=>by simp[subE] at h
 | f+1,x,p,e,h=>by
  rw[subE,List.mem_flatMap] at h
  obtain⟨y,hy,h⟩:=h
  rw[subN]
  have hself:y∈subN es f y x:=by cases f<;>simp[subN]
  have hin:∀z,z∈subN es f y x→z∈x::(kidsL es x p).flatMap fun y=>subN es f y x:=fun z hz=>List.mem_cons_of_mem _ (List.mem_flatMap.2 ⟨y,hy,hz⟩)
  rcases List.mem_cons.1 h with rfl|h
  ·rcases jbc (x:=x) (y:=y) with e|e<;>rw[e]
   ·exact⟨by simp,hin _ hself⟩
   ·exact⟨hin _ hself,by simp⟩
  ·obtain⟨h1,h2⟩:=jf7 f h
   exact⟨hin _ h1,hin _ h2⟩
theorem jp8 {n:Int} {es:List (Int×Int)} (ho:∀e∈es,okE n e):∀(f:Nat) {x p:Int} {e:Int×Int},e∈subE es f x p→e∈es
 | 0,x,p,e,h=>by simp[subE] at h
 | f+1,x,p,e,h=>by
  rw[subE,List.mem_flatMap] at h
  obtain⟨y,hy,h⟩:=h
  rcases List.mem_cons.1 h with rfl|h
  ·exact((jka ho).1 ((jbv ho).1 hy).1).2
  ·exact jp8 ho f h
theorem jjf {n:Int} {es:List (Int×Int)} (ho:∀e∈es,okE n e) (hn:es.Nodup) (h0:0≤n) (ht:Tree n es) {r:Int}:∀(f:Nat) {x p:Int},At n es r x p→n-dst n es r x≤f→(subE es f x p).Nodup
 | 0,x,p,h,hf=>by simp[subE]
 | f+1,x,p,h,hf=>by
  have hnx:∀y∈kidsL es x p,x∉subN es f y x:=fun y hy hx=>by
   obtain⟨hk,hd⟩:=h.kid ho h0 ht hy
   have hc:=(jeg ho h0 ht f hk (by omega)).1 hx
   exact(jh3 hc fun e=>(((jbv ho).1 hy).1.ok ho).2.2.2.2 e.symm) rfl
  have hdis:∀y∈kidsL es x p,∀z∈kidsL es x p,y≠z→∀b,b∈subN es f y x→b∉subN es f z x:=fun y hy z hz hyz b hb hc=>by
   obtain⟨hk,hd⟩:=h.kid ho h0 ht hy
   obtain⟨hk2,hd2⟩:=h.kid ho h0 ht hz
   have c1:=(jeg ho h0 ht f hk (by omega)).1 hb
   have c2:=(jeg ho h0 ht f hk2 (by omega)).1 hc
   exact jgq ho ht ((jbv ho).1 hy).1 ((jbv ho).1 hz).1 hyz (c1.trans c2.symm)
  have hex:∀{y:Int},(edgeOf x y).1=x∨(edgeOf x y).2=x:=fun {y}=>by rcases jbc (x:=x) (y:=y) with e|e<;>rw[e]<;>simp
  rw[subE]
  refine je9 (jn5 ho hn) (fun y hy=>?_) fun y hy z hz hyz b hb hc=>?_
  ·obtain⟨hk,hd⟩:=h.kid ho h0 ht hy
   rw[List.nodup_cons]
   refine⟨fun hm=>?_,jjf ho hn h0 ht f hk (by omega)⟩
   obtain⟨h1,h2⟩:=jf7 f hm
   rcases hex (y:=y) with e|e
   ·rw[e] at h1;exact hnx y hy h1
   ·rw[e] at h2;exact hnx y hy h2
  ·rcases List.mem_cons.1 hb with rfl|hb
   ·rcases List.mem_cons.1 hc with he|hc
    ·rcases jbc (x:=x) (y:=y) with e1|e1<;>rcases jbc (x:=x) (y:=z) with e2|e2<;>rw[e1,e2] at he<;>simp only[Prod.mk.injEq] at he
     ·exact hyz he.2
     ·exact(((jbv ho).1 hy).1.ok ho).2.2.2.2 he.2.symm
     ·exact(((jbv ho).1 hy).1.ok ho).2.2.2.2 he.1.symm
     ·exact hyz he.1
    ·obtain⟨h1,h2⟩:=jf7 f hc
     rcases hex (y:=y) with e|e
     ·rw[e] at h1;exact hnx z hz h1
     ·rw[e] at h2;exact hnx z hz h2
   ·obtain⟨h1,h2⟩:=jf7 f hb
    rcases List.mem_cons.1 hc with rfl|hc
    ·rcases hex (y:=z) with e|e
     ·rw[e] at h1;exact hnx y hy h1
     ·rw[e] at h2;exact hnx y hy h2
    ·obtain⟨h3,h4⟩:=jf7 f hc
     exact hdis y hy z hz hyz _ h1 h3
def stepsL:List Int→List (Int×Int)
 | x::y::r=>edgeOf x y::stepsL (y::r)
 | _=>[]
theorem jth:∀{l r:List Int} {x:Int},stepsL (l++x::r)=stepsL (l++[x])++stepsL (x::r)
 | [],r,x=>rfl
 | [a],r,x=>rfl
 | a::b::l,r,x=>by
  have:=jth (l:=b::l) (r:=r) (x:=x)
  simp only[List.cons_append] at this ⊢
  rw[stepsL,this,stepsL]
  rfl
theorem jmp {es:List (Int×Int)} (f:Nat) {x p:Int}:∃r,tourL es f x p=x::r:=by cases f<;>exact⟨_,rfl⟩
theorem jtm {es:List (Int×Int)}:∀(f:Nat) {x p:Int},∃r,tourL es f x p=r++[x]
 | 0,x,p=>⟨[],rfl⟩
 | f+1,x,p=>by
  rw[tourL]
  rcases List.eq_nil_or_concat (kidsL es x p) with h | ⟨l,y,h⟩
  ·rw[h];exact⟨[],rfl⟩
  ·rw[h,List.concat_eq_append,List.flatMap_append]
   refine⟨x::(l.flatMap (fun y=>tourL es f y x++[x])++tourL es f y x),?_⟩
   simp
theorem jew {es:List (Int×Int)}:∀(f:Nat) {x p:Int},(stepsL (tourL es f x p)).Perm (subE es f x p++subE es f x p)
 | 0,x,p=>.refl _
 | f+1,x,p=>by
  rw[tourL,subE]
  have eO:∀y:Int,x≠y→edgeOf y x=edgeOf x y:=fun y h=>by
   unfold edgeOf
   by_cases c:x<y
   ·rw[if_pos c,if_neg (by omega)]
   ·rw[if_neg c,if_pos (by omega)]
  have eO':∀y:Int,edgeOf y x=edgeOf x y:=fun y=>by
   by_cases h:x=y
   ·rw[h]
   ·exact eO y h
  generalize kidsL es x p=l
  induction l with
  | nil=>exact .refl _
  | cons y l ih=>
   obtain⟨q,hq⟩:=jmp (es:=es) f (x:=y) (p:=x)
   obtain⟨u,hu⟩:=jtm (es:=es) f (x:=y) (p:=x)
   have e1:stepsL (x::(y::l).flatMap fun y=>tourL es f y x++[x])=edgeOf x y::(stepsL (tourL es f y x)++edgeOf x y::stepsL (x::l.flatMap fun y=>tourL es f y x++[x])):=by
    rw[List.flatMap_cons]
    have h1:x::(tourL es f y x++[x]++l.flatMap fun y=>tourL es f y x++[x])=x::y::(q++[x]++l.flatMap fun y=>tourL es f y x++[x]):=by rw[hq];rfl
    rw[h1,stepsL]
    congr 1
    have h2:y::(q++[x]++l.flatMap fun y=>tourL es f y x++[x])=u++y::(x::l.flatMap fun y=>tourL es f y x++[x]):=by
     have:(y::q)++([x]++l.flatMap fun y=>tourL es f y x++[x])=(u++[y])++([x]++l.flatMap fun y=>tourL es f y x++[x]):=by rw[←hq,hu]
     simpa using this
    rw[h2,jth,←hu,stepsL,eO']
   rw[e1,List.flatMap_cons]
   have iy:=jew f (x:=y) (p:=x) (es:=es)
   generalize hA:subE es f y x=A at *
   generalize hB:(l.flatMap fun y=>edgeOf x y::subE es f y x)=B at *
   generalize stepsL (tourL es f y x)=S at *
   generalize stepsL (x::l.flatMap fun y=>tourL es f y x++[x])=T at *
   have p1:(S++edgeOf x y::T).Perm ((A++A)++edgeOf x y::(B++B)):=iy.append (ih.cons _)
   have p2:((A++A)++edgeOf x y::(B++B)).Perm (A++B++(edgeOf x y::A++B)):=by
    refine(List.perm_iff_count.2 fun e=>?_)
    simp only[List.count_append,List.count_cons,List.cons_append]
    omega
   refine((p1.trans p2).cons (edgeOf x y)).trans ?_
   simp only[List.cons_append,List.append_assoc]
   exact .refl _
section
section
variable {α:Type} [DecidableEq α]
def ddSt (acc:List α) (x:α):List α:=if acc.getLast?=some x then acc else acc++[x]
def dd (l:List α):List α:=l.foldl ddSt []
theorem j21 (l:List α) (x:α):dd (l++[x])=ddSt (dd l) x:=by simp[dd]
omit [DecidableEq α] in
theorem jmn {p:List α→Prop} (h0:p []) (h1:∀l x,p l→p (l++[x])) (l:List α):p l:=by
 have:∀r:List α,p r.reverse:=by
  intro r
  induction r with
  | nil=>exact h0
  | cons a r ih=>rw[List.reverse_cons];exact h1 _ _ ih
 have:=this l.reverse
 rwa [List.reverse_reverse] at this
theorem kcc (l:List α):(dd l).getLast?=l.getLast?:=by
 refine jmn (p:=fun l=>(dd l).getLast?=l.getLast?) rfl (fun l x ih=>?_) l
 rw[j21,ddSt]
 split
 ·rename_i h;rw[h];simp
 ·simp
theorem j22 (l:List α) (x:α):dd (l++[x])=if l.getLast?=some x then dd l else dd l++[x]:=by
 rw[j21,ddSt,kcc]
theorem ka7 {l:List α} {y:α}:y∈dd l↔y∈l:=by
 refine jmn (p:=fun l=>y∈dd l↔y∈l) (by simp[dd]) (fun l x ih=>?_) l
 rw[j22]
 split
 ·rename_i h
  rw[ih,List.mem_append,List.mem_singleton]
  refine⟨.inl,fun k=>k.elim id fun e=>?_⟩
  subst e
  exact List.mem_of_getLast? h
 ·rw[List.mem_append,List.mem_append,ih]
end
abbrev LeS (s:List (Int×Int)):Prop:=s.Pairwise fun a b=>leE a b=true
theorem j89 {a b:Int×Int} (h:leE a b=true) (k:leE b a=true):a=b:=by
 unfold leE at h k
 rw[decide_eq_true_eq] at h k
 exact Prod.ext (by omega) (by omega)
theorem j51 (xs:List (Int×Int)):LeS (jj3 xs):=List.pairwise_mergeSort (fun a b c h1 h2=>by unfold leE at *;rw[decide_eq_true_eq] at *;omega) (fun a b=>by unfold leE;rw[Bool.or_eq_true,decide_eq_true_eq,decide_eq_true_eq];omega) xs
theorem jxp {l:List (Int×Int)} {x:Int×Int}:LeS (l++[x])↔LeS l∧∀y∈l,leE y x=true:=by
 unfold LeS
 rw[List.pairwise_append]
 simp
theorem kfm {l:List (Int×Int)}:LeS l→Ord (dd l):=by
 refine jmn (p:=fun l=>LeS l→Ord (dd l)) (fun _=>by simp[dd,Ord]) (fun l x ih hp=>?_) l
 rw[j22]
 rw[jxp] at hp
 split
 ·exact ih hp.1
 ·rename_i hne
  unfold Ord
  rw[List.pairwise_append]
  refine⟨ih hp.1,by simp,fun y hy z hz=>?_⟩
  rw[List.mem_singleton] at hz
  subst hz
  rw[ka7] at hy
  refine ka6 (hp.2 y hy) fun e=>hne ?_
  subst e
  rcases List.eq_nil_or_concat l with rfl | ⟨q,w,rfl⟩
  ·cases hy
  ·rw[List.concat_eq_append] at *
   rw[List.getLast?_append]
   simp only[List.getLast?_singleton,Option.some_or]
   congr 1
   have h1:=hp.2 w (by simp)
   have h2:=(jxp.1 hp.1).2
   rcases List.mem_append.1 hy with h|h
   ·exact j89 h1 (h2 y h)
   ·exact(List.mem_singleton.1 h).symm
def prOk (s:List (Int×Int)):Prop:=∀i,i<s.length→(i % 2=1→s.getD (i-1) (0,0)=s.getD i (0,0))∧(i % 2=0→0<i→s.getD (i-1) (0,0)≠s.getD i (0,0))
theorem jim:∀l:List Int,(stepsL l).length=l.length-1
 | []=>rfl
 | [x]=>rfl
 | x::y::r=>by
  have:=jim (y::r)
  rw[stepsL,List.length_cons,this]
  simp
theorem jmo:∀{l:List Int} {i:Nat},i+1<l.length→(stepsL l).getD i (0,0)=edgeOf (l.getD i 0) (l.getD (i+1) 0)
 | [],i,h=>by simp at h
 | [x],i,h=>by simp at h
 | x::y::r,0,h=>rfl
 | x::y::r,i+1,h=>by
  have:=jmo (l:=y::r) (i:=i) (by simpa using h)
  rw[stepsL]
  simpa using this
theorem jif {l:List Int} {e:Int×Int}:e∈stepsL l↔∃i,i+1<l.length∧e=edgeOf (l.getD i 0) (l.getD (i+1) 0):=by
 constructor
 ·intro h
  obtain⟨i,hi,rfl⟩:=List.mem_iff_getElem.1 h
  have hl:=jim l
  refine⟨i,by omega,?_⟩
  rw[←jmo (by omega)]
  simp[hi]
 ·rintro⟨i,hi,rfl⟩
  have hl:=jim l
  rw[←jmo hi]
  have hi':i<(stepsL l).length:=by omega
  simp only[List.getD,List.getElem?_eq_getElem hi',Option.getD_some]
  exact List.getElem_mem hi'
def csL (l:List Int):List (Int×Int):=dd (jj3 (stepsL l))
def vsL (l:List Int):List Int:=ddS (jje l)
theorem j2w (l:List Int):Ord (csL l):=kfm (j51 _)
theorem jsj {l:List Int} {e:Int×Int}:e∈csL l↔e∈stepsL l:=by unfold csL;rw[ka7,ji9]
theorem jtp (l:List Int):(vsL l).Pairwise (· < ·):=by
 refine jzs ?_
 unfold jje
 have:=List.pairwise_mergeSort (le:=fun a b:Int=>decide (a≤b)) (fun a b c=>by simp;omega) (fun a b=>by simp;omega) l
 exact this.imp (by simp)
theorem kam (l:List Int):(vsL l).Nodup:=(jtp l).imp fun h=>by omega
theorem jxw {l:List Int} {x:Int}:x∈vsL l↔x∈l:=by
 unfold vsL jje
 rw[j5d,List.mem_mergeSort]
structure TV (l:List Int):Prop where
 l1:1≤l.length
 l31:l.length≤31
 rg:∀x∈l,inN 16 x
 cl:l.getD 0 0=l.getD (l.length-1) 0
 ne:∀i,i+1<l.length→l.getD i 0≠l.getD (i+1) 0
 two:∀e∈stepsL l,(stepsL l).count e=2
 cn:(csL l).length+1=(vsL l).length
noncomputable instance decTV (l:List Int):Decidable (TV l):=Classical.propDecidable _
theorem kaj {s c:List (Int×Int)} (h:∀e∈s,s.count e=2) (hn:c.Nodup) (hm:∀e,e∈c↔e∈s):s.Perm (c++c):=by
 refine List.perm_iff_count.2 fun e=>?_
 rw[List.count_append]
 by_cases he:e∈s
 ·rw[h e he,hn.count,if_pos ((hm e).2 he)]
 ·rw[List.count_eq_zero.2 he,List.count_eq_zero.2 fun hc=>he ((hm e).1 hc)]
theorem kfl {l:List Int} (h:∀e∈stepsL l,(stepsL l).count e=2):(stepsL l).length=2*(csL l).length:=by
 have:=(kaj h (j2w l).nodup fun e=>jsj).length_eq
 rw[List.length_append] at this;omega
theorem TV.len {l:List Int} (h:TV l):l.length=2*(csL l).length+1:=by
 have h1:=kfl h.two
 rw[jim] at h1
 have:=h.l1
 omega
theorem TV.at' {l:List Int} (h:TV l) {i:Nat} (hi:i<l.length):inN 16 (l.getD i 0):=h.rg _ (by
 simp only[List.getD,List.getElem?_eq_getElem hi,Option.getD_some];exact List.getElem_mem hi)
theorem TV.okE {l:List Int} (h:TV l):∀e∈csL l,okE 16 e:=fun e he=>by
 obtain⟨i,hi,rfl⟩:=jif.1 (jsj.1 he)
 exact j3n (h.at' (by omega)) (h.at' hi) (h.ne i hi)
theorem TV.vg {l:List Int} (h:TV l):VG 16 (csL l):=⟨by omega,by omega,by have:=h.len;have:=h.l31;omega,h.okE,j2w l⟩
theorem TV.walk {l:List Int} (h:TV l):Walk (csL l) l:=fun i hi=>(jka h.okE).2 ⟨h.ne i hi,jsj.2 (jif.2 ⟨i,hi,rfl⟩)⟩
theorem TV.conn {l:List Int} (h:TV l) {x:Int} (hx:x∈l):Conn (csL l) (l.getD 0 0) x:=by
 obtain⟨i,hi,rfl⟩:=List.mem_iff_getElem.1 hx
 have:=h.walk.conn i hi
 simpa[hi] using this
theorem TV.conn_mem {l:List Int} (h:TV l) {x:Int} (hc:Conn (csL l) (l.getD 0 0) x):x∈l:=by
 have hg:∀i,i<l.length→l.getD i 0∈l:=fun i hi=>by
  simp only[List.getD,List.getElem?_eq_getElem hi,Option.getD_some];exact List.getElem_mem hi
 refine hc.closed (p:=fun x=>x∈l) (fun u v ha _=>?_) (hg 0 (by have:=h.l1;omega))
 have he:=((jka h.okE).1 ha).2
 obtain⟨i,hi,e⟩:=jif.1 (jsj.1 he)
 have h1:=hg i (by omega)
 have h2:=hg (i+1) hi
 rcases jbc (x:=u) (y:=v) with a|a<;>rcases jbc (x:=l.getD i 0) (y:=l.getD (i+1) 0) with b|b<;>rw[a,b] at e<;>simp only[Prod.mk.injEq] at e
 ·rw[e.2];exact h2
 ·rw[e.2];exact h1
 ·rw[e.1];exact h1
 ·rw[e.1];exact h2
theorem jwu {α:Type} (p:α→Bool):∀l:List α,(l.filter p).length+(l.filter fun x=>!p x).length=l.length
 | []=>rfl
 | a::l=>by
  have ih:=jwu p l
  rw[List.filter_cons,List.filter_cons]
  cases h:p a<;>simp<;>omega
theorem TV.tree {l:List Int} (h:TV l):Tree 16 (csL l):=by
 have hge:=jwl (n:=16) h.okE
 have hl0:inN 16 (l.getD 0 0):=h.at' (by have:=h.l1;omega)
 have hle:cnt 16 (csL l)≤((iota 16).filter fun x=>decide (x∉vsL l)).length+1:=by
  unfold cnt
  have:=jan (l:=((List.range (16:Int).toNat).filter fun x=>decide (least (csL l) x=x)).map fun x=>((x:Nat):Int)) (m:=((least (csL l) (l.getD 0 0).toNat:Nat):Int)::(iota 16).filter fun x=>decide (x∉vsL l)) ?_ ?_
  ·rw[List.length_map,List.length_cons] at this;exact this
  ·exact jl7 (List.nodup_range.sublist List.filter_sublist) fun x _ y _ e=>by omega
  ·intro v hv
   obtain⟨x,hx,rfl⟩:=List.mem_map.1 hv
   obtain⟨h1,h2⟩:=List.mem_filter.1 hx
   rw[decide_eq_true_eq] at h2
   rw[List.mem_range] at h1
   by_cases hm:((x:Nat):Int)∈vsL l
   ·have hc:=h.conn (jxw.1 hm)
    have:least (csL l) (l.getD 0 0).toNat=least (csL l) x:=jl0.2 (by rw[Int.toNat_of_nonneg hl0.1];exact hc)
    rw[this,h2];simp
   ·refine List.mem_cons_of_mem _ (List.mem_filter.2 ⟨mem_iota.2 (by omega),by simpa using hm⟩)
 have hsum:((iota 16).filter fun x=>decide (x∉vsL l)).length+(vsL l).length=16:=by
  have h1:((iota 16).filter fun x=>decide (x∈vsL l))=vsL l:=jgo ((jd0 16).filter _) (jtp l) fun x=>by
   rw[List.mem_filter,decide_eq_true_eq,mem_iota]
   exact⟨fun h=>h.2,fun hx=>⟨h.rg x (jxw.1 hx),hx⟩⟩
  have h2:=jwu (fun x=>decide (x∈vsL l)) (iota 16)
  have e:((iota 16).filter fun x=>!decide (x∈vsL l))=(iota 16).filter fun x=>decide (x∉vsL l):=List.filter_congr fun x _=>by simp
  rw[h1,e] at h2
  have h3:(iota 16).length=16:=by simp[iota]
  omega
 have hcn:=h.cn
 unfold Tree
 have:(16:Int).toNat=16:=rfl
 omega
section
variable {n:Int} {es:List (Int×Int)} (ho:∀e∈es,okE n e) (hn:es.Nodup) (h0:0≤n) (ht:Tree n es)
include ho hn h0 ht
omit ho hn h0 ht in
theorem At.top {r:Int} (hr:inN n r):At n es r r (-1):=⟨.refl _,hr,.inl ⟨rfl,rfl⟩⟩
omit hn in
theorem jyd {r:Int} {f:Nat} {x p z:Int} (h:At n es r x p) (hf:n-dst n es r x≤f) (hz:z∈subN es f x p):inN n z:=by
 have hc:=jh4 ((jeg ho h0 ht f h hf).1 hz)
 rcases hc.ok ho with e | ⟨-,-,a,b⟩
 ·rw[←e];exact h.inx
 ·exact⟨a,b⟩
theorem j59 {r:Int} {f:Nat} {x p:Int} (h:At n es r x p) (hf:n-dst n es r x≤f):(subN es f x p).length≤n.toNat:=by
 have:=jan (m:=iota n) (jin ho hn h0 ht f h hf) fun z hz=>mem_iota.2 (jyd ho h0 ht h hf hz)
 have h3:(iota n).length=n.toNat:=by simp[iota]
 omega
theorem jvn {r:Int} {f:Nat} {x p:Int} (h:At n es r x p) (hf:n-dst n es r x≤f):csL (tourL es f x p)=jj3 (subE es f x p):=
 j5n (j2w _) (j0p (jjf ho hn h0 ht f h hf)) fun e=>by
  rw[jsj,(jew f).mem_iff,ji9,List.mem_append,or_self]
theorem ked {r:Int} {f:Nat} {x p:Int} (h:At n es r x p) (hf:n-dst n es r x≤f):(vsL (tourL es f x p)).length=(subN es f x p).length:=by
 refine Nat.le_antisymm (jan (kam _) fun z hz=>(je7 f).1 (jxw.1 hz)) (jan (jin ho hn h0 ht f h hf) fun z hz=>jxw.2 ((je7 f).2 hz))
theorem kec (h16:n≤16) {r:Int} {f:Nat} {x p:Int} (h:At n es r x p) (hf:n-dst n es r x≤f):TV (tourL es f x p):=by
 have hl:=jkq (es:=es) f (x:=x) (p:=p)
 have hs:=j59 ho hn h0 ht h hf
 have hpos:0<(subN es f x p).length:=by cases f<;>simp[subN]
 have hnd:=jjf ho hn h0 ht f h hf
 refine⟨by omega,by omega,fun z hz=>?_,?_,fun i hi=>?_,fun e he=>?_,?_⟩
 ·have:=jyd ho h0 ht h hf ((je7 f).1 hz)
  exact⟨this.1,by have:=this.2;omega⟩
 ·obtain⟨q,hq⟩:=jmp (es:=es) f (x:=x) (p:=p)
  obtain⟨u,hu⟩:=jtm (es:=es) f (x:=x) (p:=p)
  have e1:(tourL es f x p).getD 0 0=x:=by rw[hq];rfl
  have e2:(tourL es f x p).getD ((tourL es f x p).length-1) 0=x:=by rw[hu];simp
  rw[e1,e2]
 ·have he:=jp8 ho f (List.mem_append.1 ((jew f).mem_iff.1 (jif.2 ⟨i,hi,rfl⟩))|>.elim id id)
  intro e
  have:=ho _ he
  unfold okE at this
  rcases jbc (x:=(tourL es f x p).getD i 0) (y:=(tourL es f x p).getD (i+1) 0) with a|a<;>rw[a] at this<;>simp only at this<;>omega
 ·have h1:=(jew (es:=es) f (x:=x) (p:=p)).count_eq e
  have h2:e∈subE es f x p:=List.mem_append.1 ((jew f).mem_iff.1 he)|>.elim id id
  rw[h1,List.count_append,hnd.count,if_pos h2]
 ·rw[jvn ho hn h0 ht h hf,ked ho hn h0 ht h hf,jij,jp7]
end
section
variable {n:Int} {es:List (Int×Int)} (ho:∀e∈es,okE n e) (h0:0≤n) (ht:Tree n es) {l:List Int} (hw:Walk es l)
include ho h0 ht hw
end
structure Stk (n:Int) (es:List (Int×Int)) (r x:Int) (S:List Int):Prop where
 len:(S.length:Int)=dst n es r x+1
 last:S.getD (S.length-1) 0=x
 ds:∀k,k<S.length→Conn es r (S.getD k 0)∧dst n es r (S.getD k 0)=k
 adj:∀k,k+1<S.length→Adj es (S.getD (k+1) 0) (S.getD k 0)
section
variable {n:Int} {es:List (Int×Int)} (ho:∀e∈es,okE n e) (h0:0≤n) (ht:Tree n es) {r x y:Int} {S:List Int}
include ho h0
theorem Stk.new (hr:r=x):Stk n es r x [x]:=by
 subst hr
 have hd:=jkg (n:=n) (t:=r) ho h0
 refine⟨by simp[hd],rfl,fun k hk=>?_,fun k hk=>by simp at hk⟩
 have:k=0:=by simp at hk;omega
 subst this
 exact⟨.refl _,hd⟩
end
section
variable {n:Int} {es:List (Int×Int)} (ho:∀e∈es,okE n e) (h0:0≤n) (ht:Tree n es) {r x y:Int} {S:List Int}
include ho h0 ht
theorem Stk.step (h:Stk n es r x S) (hc:Conn es r x) (ha:Adj es x y):(1<S.length∧S.getD (S.length-2) 0=y∧Stk n es r y (S.take (S.length-1)))∨(¬(1<S.length∧S.getD (S.length-2) 0=y)∧Stk n es r y (S++[y])):=by
 have hl:=h.len
 have hd0:=(jbu (n:=n) ho hc).1
 have hx:=h.ds (S.length-1) (by omega)
 by_cases hq:1<S.length∧S.getD (S.length-2) 0=y
 ·have h2:=h.ds (S.length-2) (by omega)
  rw[hq.2] at h2
  refine .inl ⟨hq.1,hq.2,?_,?_,fun k hk=>?_,fun k hk=>?_⟩
  ·rw[List.length_take,h2.2];omega
  ·rw[List.length_take,Nat.min_eq_left (by omega),←hq.2]
   simp only[List.getD,List.getElem?_take_of_lt (show S.length-1-1<S.length-1 by omega)]
   rw[show S.length-1-1=S.length-2 by omega]
  ·rw[List.length_take] at hk
   have:(S.take (S.length-1)).getD k 0=S.getD k 0:=by simp only[List.getD,List.getElem?_take_of_lt (show k<S.length-1 by omega)]
   rw[this];exact h.ds k (by omega)
  ·rw[List.length_take] at hk
   have e1:(S.take (S.length-1)).getD k 0=S.getD k 0:=by simp only[List.getD,List.getElem?_take_of_lt (show k<S.length-1 by omega)]
   have e2:(S.take (S.length-1)).getD (k+1) 0=S.getD (k+1) 0:=by simp only[List.getD,List.getElem?_take_of_lt (show k+1<S.length-1 by omega)]
   rw[e1,e2];exact h.adj k (by omega)
 ·have hdy:dst n es r y=dst n es r x+1:=by
   rcases jtn ho h0 ht hc ha with e|e
   ·exfalso
    have hy0:=(jbu (n:=n) ho (hc.step ha)).1
    have hadj:=h.adj (S.length-2) (by omega)
    rw[show S.length-2+1=S.length-1 by omega,h.last] at hadj
    have hds:=(h.ds (S.length-2) (by omega)).2
    exact hq ⟨by omega,jvo ho h0 ht hc hadj ha (by omega) (by omega)⟩
   ·exact e
  refine .inr ⟨hq,by rw[List.length_append,hdy];simp;omega,by simp,fun k hk=>?_,fun k hk=>?_⟩
  ·rw[List.length_append] at hk
   simp only[List.length_cons,List.length_nil] at hk
   by_cases hk2:k<S.length
   ·have:(S++[y]).getD k 0=S.getD k 0:=by simp only[List.getD,List.getElem?_append_left hk2]
    rw[this];exact h.ds k hk2
   ·have hk3:k=S.length:=by omega
    subst hk3
    have:(S++[y]).getD S.length 0=y:=by simp
    rw[this];exact⟨hc.step ha,by omega⟩
  ·rw[List.length_append] at hk
   simp only[List.length_cons,List.length_nil] at hk
   have e1:(S++[y]).getD k 0=S.getD k 0:=by simp only[List.getD,List.getElem?_append_left (show k<S.length by omega)]
   rw[e1]
   by_cases hk2:k+1<S.length
   ·have:(S++[y]).getD (k+1) 0=S.getD (k+1) 0:=by simp only[List.getD,List.getElem?_append_left hk2]
    rw[this];exact h.adj k hk2
   ·have hk3:k+1=S.length:=by omega
    have:(S++[y]).getD (k+1) 0=y:=by rw[hk3];simp
    rw[this,show k=S.length-1 by omega,h.last];exact ha.symm
end
end
def tkL (es:List (Int×Int)) (f:Nat) (x p:Int) (ys:List Int):List Int:=x::ys.flatMap fun y=>if y=p then [] else tourL es f y x++[x]
theorem j6d (es:List (Int×Int)) (f:Nat) (x p:Int):tkL es f x p (nbS x es)=tourL es (f+1) x p:=by
 unfold tkL
 rw[tourL,kidsL]
 congr 1
 generalize nbS x es=l
 induction l with
 | nil=>rfl
 | cons a l ih=>
  rw[List.flatMap_cons,List.filter_cons]
  by_cases h:a=p
  ·rw[if_pos h,if_neg (by simpa using h),List.nil_append,ih]
  ·rw[if_neg h,if_pos (by simpa using h),List.flatMap_cons,ih]
theorem jyg (es:List (Int×Int)) (f:Nat) (x p y:Int) (ys:List Int):tkL es f x p (ys++[y])=tkL es f x p ys++if y=p then [] else tourL es f y x++[x]:=by
 simp[tkL]
theorem jqb {es:List (Int×Int)} {f:Nat} {x p:Int} {l:List Int} (k:Nat):(tkL es f x p (l.take k)).length≤(tkL es f x p l).length:=by
 conv=>rhs;rw[←List.take_append_drop k l]
 unfold tkL
 rw[List.flatMap_append]
 simp only[List.length_cons,List.length_append]
 omega
theorem jmq {n:Int} {es:List (Int×Int)} (hG:OKG n es) (hn:es.Nodup) (ht:Tree n es) {r:Int} {f:Nat} {x p:Int} (h:At n es r x p) (hf:n-dst n es r x≤f):(tourL es f x p).length≤31:=by
 have h1:=jkq (es:=es) f (x:=x) (p:=p)
 have h2:=j59 hG.ok hn hG.n0 ht h hf
 have h3:=hG.n1
 omega
theorem kfh {n:Int} {es:List (Int×Int)} (hG:OKG n es) (hn:es.Nodup) (ht:Tree n es) {r:Int}:∀(f:Nat) (x p:Int),At n es r x p→n-dst n es r x≤f→
 KP 139 [GL n es,I x,I p] []=some (.ref 2000 0 0 (tourL es f x p).length,[],[.arr 0 1 ((tourL es f x p).map encI)]):=by
 have ho:=hG.ok
 have h0:=hG.n0
 have hlen:=hG.len
 intro f
 induction f with
 | zero=>
  intro x p h hf
  have:=jli ho h0 h.cn h.inx
  omega
 | succ f ih=>
  intro x p h hf
  have hnb:=jb8 n x es (by omega)
  have hnbl:(nbS x es).length≤40:=by have:=jak x es;omega
  have hall:=j6d es f x p
  have htl:=jmq hG hn ht h hf
  rw[←hall] at htl ⊢
  refine gc func139 ?_
  have Fz:=fz2 results139 hnb
  repeat refine go1 ?_
  refine jaa (fun(u:Int×Nat) s=>s.m 3=some (.box 0 [I n,LE es])∧s.ρ 3=.ptr 3 0 0 0∧s.m 11=some (.arr u.2 1 ((tkL es f x p ((nbS x es).take u.1.toNat)).map encI))∧s.ρ 7=.ref 11 u.2 0 (tkL es f x p ((nbS x es).take u.1.toNat)).length∧s.ρ 1=I x∧s.ρ 2=I p∧s.ρ 14=LI (nbS x es)∧s.ρ 15=I ((nbS x es).length:Int)∧s.ρ 16=I u.1∧0≤u.1∧u.1≤(nbS x es).length) (fun u=>((nbS x es).length-u.1).toNat) (0,0) ?_ ?_
  ·exact⟨rfl,rfl,rfl,rfl,rfl,rfl,rfl,rfl,rfl,by simp,by simp⟩
  rintro⟨i,w⟩ ⟨ρ,m⟩ ⟨m3,e3,m11,e7,e1,e2,e14,e15,e16,g0,g1⟩
  simp only at m3 e3 m11 e7 e1 e2 e14 e15 e16 g0 g1
  by_cases hi:i<(nbS x es).length
  rotate_left
  ·rw[jac (by omega)] at m11 e7
   have Fz:=fz10 results139 m3 e3 m11 e7 e1 e2 e14 e15 e16
   repeat(first|exact trivial|refine go1 ?_)
  have hym:=jab (d:=0) (show i.toNat<(nbS x es).length by omega)
  have hgy:=getI (nbS x es) i.toNat (by omega)
  have htk:=jae 0 g0 hi
  have hsn:=jyg es f x p ((nbS x es).getD i.toNat 0) ((nbS x es).take i.toNat)
  rw[←htk] at hsn
  have hl1:=jqb (es:=es) (f:=f) (x:=x) (p:=p) (l:=nbS x es) i.toNat
  have hl2:=jqb (es:=es) (f:=f) (x:=x) (p:=p) (l:=nbS x es) (i+1).toNat
  generalize (nbS x es).getD i.toNat 0=y at hym hgy hsn
  generalize tkL es f x p ((nbS x es).take i.toNat)=T0 at *
  by_cases hy:y=p
  ·subst hy
   rw[if_pos rfl,List.append_nil] at hsn
   have Fz:=fz11 results139 m3 e3 m11 e7 e1 e2 e14 e15 e16 hgy
   repeat refine go1 ?_
   exact⟨i+1,by rw[hsn],by rw[hsn],rfl,by omega,by omega,by omega⟩
  ·rw[if_neg hy] at hsn
   rw[hsn] at hl2
   rw[List.length_append,List.length_append] at hl2
   have hk:y∈kidsL es x p:=(jbv ho).2 ⟨(ja8 ho).1 hym,hy⟩
   obtain⟨hk1,hk2⟩:=h.kid ho h0 ht hk
   have hrec:=ih y x hk1 (by omega)
   have htl2:=jmq hG hn ht hk1 (f:=f) (by omega)
   generalize tourL es f y x=U at *
   have Fz:=fz12 results139 m3 e3 m11 e7 e1 e2 e14 e15 e16 hgy hrec
   repeat refine go1 ?_
   exact⟨i+1,by rw[hsn,List.append_assoc],by rw[hsn];simp;omega,rfl,by omega,by omega,by omega⟩
theorem j7o {n:Int} {es:List (Int×Int)} (hG:OKG n es) (hn:es.Nodup) (ht:Tree n es) {r:Int}:∀(f:Nat) (x p:Int) (acc:List Int),At n es r x p→n-dst n es r x≤f→acc.length+(tourL es f x p).length≤1000→
 KP 101 [GL n es,I x,I p,.ref 1000 0 0 acc.length] [.arr 0 1 (acc.map encI)]=some (.ref 1000 (tourL es f x p).length 0 (acc++tourL es f x p).length,[.arr (tourL es f x p).length 1 ((acc++tourL es f x p).map encI)],[]):=by
 have ho:=hG.ok
 have h0:=hG.n0
 have hlen:=hG.len
 intro f
 induction f with
 | zero=>
  intro x p acc h hf hal
  have:=jli ho h0 h.cn h.inx
  omega
 | succ f ih=>
  intro x p acc h hf hal
  have hnb:=je2 n x es hG hn
  have hall:=j6d es f x p
  have htl:=jmq hG hn ht h hf
  rw[←hall] at htl hal ⊢
  have hnbl:(nbS x es).length≤40:=by have:=jak x es;omega
  refine gc func101 ?_
  have Fz:=fz2 results101 hnb
  repeat refine go1 ?_
  refine jaa (fun(i:Int) s=>s.m 4=some (.box 0 [I n,LE es])∧s.ρ 4=.ptr 4 0 0 0∧s.m 1000=some (.arr (tkL es f x p ((nbS x es).take i.toNat)).length 1 ((acc++tkL es f x p ((nbS x es).take i.toNat)).map encI))∧s.ρ 3=.ref 1000 (tkL es f x p ((nbS x es).take i.toNat)).length 0 (acc++tkL es f x p ((nbS x es).take i.toNat)).length∧s.ρ 1=I x∧s.ρ 2=I p∧s.ρ 9=LI (nbS x es)∧s.ρ 10=I i∧0≤i∧i≤(nbS x es).length) (fun i=>((nbS x es).length-i).toNat) 0 ?_ ?_
  ·refine⟨rfl,rfl,rfl,?_,rfl,rfl,rfl,rfl,by simp,by simp⟩
   simp[upd,tkL]
  rintro i ⟨ρ,m⟩ ⟨m4,e4,m11,e3,e1,e2,e9,e10,g0,g1⟩
  simp only at m4 e4 m11 e3 e1 e2 e9 e10 g0 g1
  by_cases hi:i<(nbS x es).length
  rotate_left
  ·rw[jac (by omega)] at m11 e3
   have Fz:=fz9 results101 m4 e4 m11 e3 e1 e2 e9 e10
   repeat(first|exact trivial|refine go1 ?_)
  have hym:=jab (d:=0) (show i.toNat<(nbS x es).length by omega)
  have hgy:=getI (nbS x es) i.toNat (by omega)
  have htk:=jae 0 g0 hi
  have hsn:=jyg es f x p ((nbS x es).getD i.toNat 0) ((nbS x es).take i.toNat)
  rw[←htk] at hsn
  have hl1:=jqb (es:=es) (f:=f) (x:=x) (p:=p) (l:=nbS x es) i.toNat
  have hl2:=jqb (es:=es) (f:=f) (x:=x) (p:=p) (l:=nbS x es) (i+1).toNat
  generalize (nbS x es).getD i.toNat 0=y at hym hgy hsn
  generalize tkL es f x p ((nbS x es).take i.toNat)=T0 at *
  by_cases hy:y=p
  ·subst hy
   rw[if_pos rfl,List.append_nil] at hsn
   have Fz:=fz10 results101 m4 e4 m11 e3 e1 e2 e9 e10 hgy
   repeat refine go1 ?_
   exact⟨i+1,by rw[hsn],by rw[hsn],by rw[hsn],by rw[hsn],rfl,by omega,by omega,by omega⟩
  ·rw[if_neg hy] at hsn
   rw[hsn] at hl2
   rw[List.length_append,List.length_append] at hl2
   have hk:y∈kidsL es x p:=(jbv ho).2 ⟨(ja8 ho).1 hym,hy⟩
   obtain⟨hk1,hk2⟩:=h.kid ho h0 ht hk
   have hrec:=ih y x (acc++T0) hk1 (by omega) (by rw[List.length_append];omega)
   have htl2:=jmq hG hn ht hk1 (f:=f) (by omega)
   generalize tourL es f y x=U at *
   simp only[List.length_append] at hrec e3
   have Fz:=fz11 results101 m4 e4 m11 e3 e1 e2 e9 e10 hgy hrec
   repeat refine go1 ?_
   have e1:(tkL es f x p (List.take (i+1).toNat (nbS x es))).length=T0.length+U.length+1:=by rw[hsn];simp;omega
   exact⟨i+1,e1.symm,by rw[hsn];simp,e1.symm,by rw[e1];omega,rfl,by omega,by omega,by omega⟩
def findI (xs:List Int) (x:Int):Int:=if x∈xs then(xs.idxOf x:Int) else -1
def stOk (l:List Int):Prop:=∀i,i+1<l.length→eOk (l.getD i 0) (l.getD (i+1) 0)
noncomputable instance decStOk (l:List Int):Decidable (stOk l):=Classical.propDecidable _
def ceP (l:List Int):PV:=if l.length≤1 then .ref 2000 0 0 0 else LE (csL l)
def ceA (l:List Int):List Arr:=if l.length≤1 then [.arr 0 2 []] else []


end Go.Proofs.YtnaaceooknghjaaGreatDoor.X
