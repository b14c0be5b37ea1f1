/- What functions answer, and the plain laws behind it. -/
import Derived.Test.YtnaaceooknghjaaGreatDoorKAA
set_option linter.unusedSimpArgs false
set_option linter.unusedVariables false
set_option maxHeartbeats 2000000
namespace Go.Proofs.YtnaaceooknghjaaGreatDoor.X
open Go Go.Proofs Tryz
def encE (e:Int×Int):List IV:=[.v (.int .i64 e.1),.v (.int .i64 e.2)]
abbrev PE (a b:Int):PV:=.agg [I a,I b]
abbrev LE (es:List (Int×Int)):PV:=.i (.lst (es.map encE))
noncomputable abbrev KP:jci:=KK prog cfg
def edgeOf (x y:Int):Int×Int:=if x<y then(x,y) else(y,x)
theorem j7k (x y:Int):KP 30 [I x,I y] []=some (PE (edgeOf x y).1 (edgeOf x y).2,[],[]):=by
 refine gc func30 ?_
 have Fz:=fz0
 repeat refine goG ?_
 unfold edgeOf
 split
 ·have Fz:=fz0
  repeat refine goG ?_
  have Fz:=fz1 results30
  refine goR ?_
  try trivial
 ·have Fz:=fz0
  repeat refine goG ?_
  have Fz:=fz1 results30
  refine goR ?_
  try trivial
def lessE (a b:Int×Int):Bool:=decide (a.1<b.1∨a.1=b.1∧a.2<b.2)
theorem jo1 (a b c d:Int):KP 33 [PE a b,PE c d] []=some (B (lessE (a,b) (c,d)),[],[]):=by
 refine gc func33 ?_
 cases h1:decide (a<c)
 ·cases h2:decide (a=c)
  ·have Fz:=fz2 h1 h2
   repeat refine goG ?_
   have Fz:=fz3 results33 h1 h2
   refine goR ?_
   try trivial
   simp only[decide_eq_false_iff_not] at h1 h2
   simp[lessE,h1,h2]
  ·have Fz:=fz2 h1 h2
   repeat refine goG ?_
   have Fz:=fz3 results33 h1 h2
   refine goR ?_
   try trivial
   simp only[decide_eq_false_iff_not,decide_eq_true_eq] at h1 h2
   simp[lessE,h2]
 ·have Fz:=fz1 h1
  repeat refine goG ?_
  have Fz:=fz2 results33 h1
  refine goR ?_
  try trivial
  simp only[decide_eq_true_eq] at h1
  simp[lessE,h1]
def jco (es:List (Int×Int)) (e:Int×Int):Int:=if e∈es then(es.idxOf e:Int) else -1
theorem jw1 {e:Int×Int}:∀{es:List (Int×Int)} {i:Nat},es[i]?=some e→e∉es.take i→es.idxOf e=i
 | [],_,h,_=>by simp at h
 | x::r,0,h,_=>by simp at h;subst h;simp
 | x::r,i+1,h,hn=>by
  simp only[List.take_succ_cons,List.mem_cons,not_or] at hn
  have hx:(x == e)=false:=by simpa using fun e'=>hn.1 e'.symm
  rw[List.idxOf_cons,hx,jw1 (by simpa using h) hn.2];rfl
theorem jpo {es:List (Int×Int)} {e:Int×Int} {i:Nat} (h:es[i]?=some e) (hn:e∉es.take i):jco es e=i:=by
 have hin:e∈es:=List.mem_of_getElem? h
 simp[jco,hin,jw1 h hn]
theorem jhw (es:List (Int×Int)) (a b:Int) (hl:es.length≤1048576):KP 31 [LE es,PE a b] []=some (I (jco es (a,b)),[],[]):=by
 refine gc func31 ?_
 have Fz:=fz0
 repeat refine goG ?_
 refine jbo (fun n s=>∃i:Nat,n=es.length-i∧i≤es.length∧(a,b)∉es.take i∧s.ρ 0=LE es∧s.ρ 5=I i∧s.ρ 3=.ptr 3 0 0 0∧s.m 3=some (.box 0 [I a,I b])) ?_ es.length _ ⟨0,by simp,by simp,by simp,rfl,rfl,rfl,rfl⟩
 rintro n ⟨ρ,m⟩ ⟨i,rfl,hi,hni,h0,h5,h3,hm⟩
 simp only at h0 h5 h3 hm
 have hw:IntKind.i64.wrap ((i:Int)+1)=((i+1:Nat):Int):=wr1 (by omega)
 cases hc:decide ((i:Int)<es.length)
 ·have Fz:=fz5 h0 h5 h3 hm hc
  repeat refine goG ?_
  have Fz:=fz5 results31 h0 h5 h3 hm
  refine goR ?_
  try trivial
  simp only[decide_eq_false_iff_not] at hc
  have:(a,b)∉es:=by rw[List.take_of_length_le (by omega)] at hni;exact hni
  simp[jco,this]
 ·simp only[decide_eq_true_eq] at hc
  obtain⟨e,he⟩:∃e,es[i]?=some e:=⟨es[i]'(by omega),by simp⟩
  have Fz:=fz9 h0 h5 h3 hm hc hw he @encE.eq_1 @lgm
  repeat refine goG ?_
  split
  ·rename_i hab
   have Fz:=fz9 h0 h5 h3 hm hc hw he @encE.eq_1 @lgm
   repeat refine goG ?_
   have Fz:=fz5 results31 h0 h5 h3 hm
   refine goR ?_
   try trivial
   have:e=(a,b):=Prod.ext hab.1 hab.2
   subst this
   rw[jpo he hni]
  ·rename_i hab
   have Fz:=fz9 h0 h5 h3 hm hc hw he @encE.eq_1 @lgm
   repeat refine goG ?_
   refine⟨es.length-(i+1),by omega,i+1,rfl,by omega,?_,rfl⟩
   rw[List.take_add_one,he]
   simp only[Option.toList_some,List.mem_append,List.mem_singleton,not_or]
   exact⟨hni,fun e'=>hab (by rw[←e'];exact⟨rfl,rfl⟩)⟩
def encB (b:Int):List IV:=[.v (.int .u8 b)]
def encI (x:Int):List IV:=[.v (.int .i64 x)]
abbrev LB (bs:List Int):PV:=.i (.lst (bs.map encB))
abbrev LI (xs:List Int):PV:=.i (.lst (xs.map encI))
abbrev Rd (bs:List Int) (p:Int):Arr:=.box 0 [LB bs,I p]
def bytes (bs:List Int):Prop:=(∀b∈bs,0≤b∧b<256)∧bs.length≤2000
theorem j6l (bs:List Int):(bs.map encB).all (fun x=>x.length == 1)=true:=by simp[encB]
theorem j6n (bs:List Int):(bs.map encI).all (fun x=>x.length == 1)=true:=by simp[encI]
theorem j6m (es:List (Int×Int)):(es.map encE).all (fun x=>x.length == 2)=true:=by simp[encE]
attribute [go_sem] j6l j6n j6m
theorem j10 (bs:List Int) (hb:∀b∈bs,0≤b∧b<256) (hl:bs.length≤1000000000):∃cs,bytes cs∧KP 13 [LB bs] []=some (.ptr 2000 0 0 0,[],[Rd cs 0]):=by
 cases hc:decide ((2000:Int)<bs.length)
 ·refine⟨bs,⟨hb,by simp at hc;omega⟩,?_⟩
  refine gc func13 ?_
  have Fz:=fz1 hc
  repeat refine goG ?_
  have Fz:=fz1 results13
  refine goR ?_
  try trivial
 ·refine⟨bs.take 2000,⟨fun b h=>hb b (List.mem_of_mem_take h),by simp;omega⟩,?_⟩
  simp only[decide_eq_true_eq] at hc
  refine gc func13 ?_
  have Fz:=fz3 hc (Int.le_of_lt hc) @lmt
  repeat refine goG ?_
  have Fz:=fz4 results13 @Rd.eq_1 @LB.eq_1 @lmt
  refine goR ?_
  try trivial
theorem jek (bs:List Int) (p n:Int) (hb:bytes bs) (hp:0≤p∧p≤1000000) (hn:-1000000≤n∧n≤1000000) :
 ∃x,(1≤n→0≤x∧x<n)∧(n<1→x=0)∧KP 19 [.ptr 1000 0 0 0,I n] [Rd bs p]=some (I x,[Rd bs (p+1)],[]):=by
 have hp1:IntKind.i64.wrap (p+1-1)=p:=by rw[wr (by omega) (by omega)];omega
 cases h1:decide (n<1)
 ·cases h2:decide ((bs.length:Int)=0)
  ·cases h3:decide (p<bs.length)
   ·simp only[decide_eq_false_iff_not] at h1 h2 h3
    have hl:(0:Int)<bs.length:=by omega
    have hlm:(bs.length:Int)≤2000:=by have:=hb.2;omega
    have hm1:0≤p.tmod bs.length∧p.tmod bs.length<bs.length:=by rw[Int.tmod_eq_emod_of_nonneg hp.1];exact⟨Int.emod_nonneg _ (by omega),Int.emod_lt_of_pos _ hl⟩
    have hm2:0≤(p*7+3).tmod bs.length∧(p*7+3).tmod bs.length<bs.length:=by rw[Int.tmod_eq_emod_of_nonneg (by omega)];exact⟨Int.emod_nonneg _ (by omega),Int.emod_lt_of_pos _ hl⟩
    have hq:0≤p.tdiv bs.length∧p.tdiv bs.length≤p:=by rw[Int.tdiv_eq_ediv_of_nonneg hp.1];exact⟨Int.ediv_nonneg hp.1 (by omega),Int.ediv_le_self _ hp.1⟩
    generalize hr1:p.tmod bs.length=r1 at hm1
    generalize hr2:(p*7+3).tmod bs.length=r2 at hm2
    generalize hr3:p.tdiv bs.length=r3 at hq
    obtain⟨u,hu⟩:∃u,bs[r1.toNat]?=some u:=⟨bs[r1.toNat]'(by omega),by simp⟩
    obtain⟨v,hv⟩:∃v,bs[r2.toNat]?=some v:=⟨bs[r2.toNat]'(by omega),by simp⟩
    have hu':=hb.1 u (List.mem_of_getElem? hu)
    have hv':=hb.1 v (List.mem_of_getElem? hv)
    have hx0:0≤u*131+v*1117+p*29+r3*53:=by omega
    have hx1:u*131+v*1117+p*29+r3*53<1000000000:=by omega
    generalize hx:u*131+v*1117+p*29+r3*53=x at hx0 hx1
    have hx2:0≤x.tdiv 64∧x.tdiv 64≤x:=by rw[Int.tdiv_eq_ediv_of_nonneg hx0];exact⟨Int.ediv_nonneg hx0 (by omega),Int.ediv_le_self _ hx0⟩
    have hx3:=jvs (a:=x) (b:=x.tdiv 64) hx0 hx2.1 (by omega) (by omega)
    refine⟨(xorI x (x.tdiv 64)).tmod n,fun _=>?_,fun h=>absurd h h1,gc func19 ?_⟩
    ·rw[Int.tmod_eq_emod_of_nonneg hx3.1]
     exact⟨Int.emod_nonneg _ (by omega),Int.emod_lt_of_pos _ (by omega)⟩
    ·have Fz:=fz14 h1 h2 h3 hp1 hr1 hr2 hr3 hm1.1 hm2.1 hu hv hx @lgm @encB.eq_1
     repeat refine goD ?_
     have Fz:=fz1 results19
     refine goR ?_
     try trivial
   ·simp only[decide_eq_false_iff_not] at h1 h2
    simp only[decide_eq_true_eq] at h3
    obtain⟨u,hu⟩:∃u,bs[p.toNat]?=some u:=⟨bs[p.toNat]'(by omega),by simp⟩
    have hu':=hb.1 u (List.mem_of_getElem? hu)
    refine⟨u.tmod n,fun _=>?_,fun h=>absurd h h1,gc func19 ?_⟩
    ·rw[Int.tmod_eq_emod_of_nonneg hu'.1]
     exact⟨Int.emod_nonneg _ (by omega),Int.emod_lt_of_pos _ (by omega)⟩
    ·have Fz:=fz8 h1 h2 h3 hp1 hp.1 hu @lgm @encB.eq_1
     repeat refine goD ?_
     have Fz:=fz1 results19
     refine goR ?_
     try trivial
  ·refine⟨0,fun h=>⟨by omega,by omega⟩,by simp,gc func19 ?_⟩
   have Fz:=fz2 h1 h2
   repeat refine goD ?_
   have Fz:=fz1 results19
   refine goR ?_
   try trivial
 ·refine⟨0,by simp at h1;omega,by simp,gc func19 ?_⟩
  have Fz:=fz1 h1
  repeat refine goD ?_
  have Fz:=fz1 results19
  refine goR ?_
  try trivial
theorem j2d (bs:List Int) (p:Int) (xs:List Int) (hb:bytes bs) (hp:0≤p∧p≤1000000) (h0:xs≠[]) (hl:xs.length≤1000) :
 ∃x,x∈xs∧KP 17 [.ptr 1000 0 0 0,.ref 1001 0 0 xs.length] [Rd bs p,.arr 0 1 (xs.map encI)]=some (I x,[Rd bs (p+1),.arr 0 1 (xs.map encI)],[]):=by
 have hpos:0<xs.length:=List.length_pos_iff.2 h0
 obtain⟨k,hk,_,hc⟩:=jek bs p xs.length hb hp (by omega)
 have hk':=hk (by omega)
 obtain⟨x,hx⟩:∃x,xs[k.toNat]?=some x:=⟨xs[k.toNat]'(by omega),by simp⟩
 refine⟨x,List.mem_of_getElem? hx,gc func17 ?_⟩
 have Fz:=fz6 hc hk'.1 hk'.2 hx @lgm @encI.eq_1
 repeat refine goD ?_
 have Fz:=fz1 results17
 refine goR ?_
 try trivial
def putE (e:Int×Int):List (Int×Int)→List (Int×Int)
 | []=>[e]
 | x::r=>if lessE e x then e::x::r else x::putE e r
def putS (e:Int×Int) (done:Bool) (acc:List (Int×Int)) (x:Int×Int):Bool×List (Int×Int):=
 if !done && lessE e x then(true,acc++[e,x]) else(done,acc++[x])
theorem jbg (e:Int×Int):∀es:List (Int×Int),(putE e es).length=es.length+1
 | []=>rfl
 | x::r=>by
  simp only[putE]
  split
  ·rfl
  ·simp[jbg e r]
theorem kcf {α:Type} {l:List α} {i:Nat} {x:α} (h:l[i]?=some x):l.drop i=x::l.drop (i+1):=by
 have:=(List.getElem?_eq_some_iff.1 h)
 obtain⟨h1,h2⟩:=this
 rw[List.drop_eq_getElem_cons h1,h2]
theorem jo2 (es:List (Int×Int)) (a b:Int) (hl:es.length≤1048576) :
 KP 29 [LE es,PE a b] []=some (.ref 2000 0 0 (putE (a,b) es).length,[],[.arr 0 2 ((putE (a,b) es).map encE)]):=by
 refine gc func29 ?_
 have Fz:=fz0
 repeat refine goG ?_
 refine jbo (fun n s=>∃(i:Nat) (v:Nat) (d:Bool) (xs:List (Int×Int)),n=es.length-i∧i≤es.length∧xs.length≤2*i∧(d=true→putE (a,b) es=xs++es.drop i)∧(d=false→putE (a,b) es=xs++putE (a,b) (es.drop i))∧
  s.ρ 0=LE es∧s.ρ 7=I i∧s.ρ 3=.ptr 3 0 0 0∧s.ρ 5=.ref 8 v 0 xs.length∧s.ρ 6=B d∧s.m 3=some (.box 0 [I a,I b])∧s.m 8=some (.arr v 2 (xs.map encE))) ?_ es.length _ ⟨0,0,false,[],by simp,by simp,by simp,by simp,by simp,rfl,rfl,rfl,rfl,rfl,rfl,rfl⟩
 rintro n ⟨ρ,m⟩ ⟨i,v,d,xs,rfl,hi,hxl,hd1,hd2,h0,h7,h3,h5,h6,m3,m8⟩
 simp only at h0 h7 h3 h5 h6 m3 m8
 cases hc:decide ((i:Int)<es.length)
 ·simp only[decide_eq_false_iff_not] at hc
  have hdr:es.drop i=[]:=List.drop_of_length_le (by omega)
  cases d
  ·have Fz:=fz9 h0 h7 h3 h5 h6 m3 m8 hc @encE.eq_1
   repeat refine goD ?_
   have Fz:=fz2 results29 h0
   refine goR ?_
   try trivial
   have e:putE (a,b) es=xs++[(a,b)]:=by rw[hd2 rfl,hdr];rfl
   simp[e,encE]
  ·have Fz:=fz8 h0 h7 h3 h5 h6 m3 m8 hc
   repeat refine goD ?_
   have Fz:=fz3 results29 h0 m8
   refine goR ?_
   try trivial
   have e:putE (a,b) es=xs:=by rw[hd1 rfl,hdr];simp
   simp[e]
 ·simp only[decide_eq_true_eq] at hc
  obtain⟨⟨x,y⟩,he⟩:∃e,es[i]?=some e:=⟨es[i]'(by omega),by simp⟩
  have hdr:=kcf he
  have hless:=jo1 a b x y
  cases d
  ·cases hle:lessE (a,b) (x,y)
   ·have Fz:=fz13 h0 h7 h3 h5 h6 m3 m8 hc he @lgm @encE.eq_1 hless hle
    repeat refine goD ?_
    exact⟨es.length-(i+1),by omega,i+1,rfl,by omega,v+1,false,xs++[(x,y)],by simp;omega,by simp,fun _=>by rw[hd2 rfl,hdr];simp[putE,hle],rfl,by simp,rfl,by simp[encE]⟩
   ·have Fz:=fz13 h0 h7 h3 h5 h6 m3 m8 hc he @lgm @encE.eq_1 hless hle
    repeat refine goD ?_
    exact⟨es.length-(i+1),by omega,i+1,rfl,by omega,v+1+1,true,xs++[(a,b),(x,y)],by simp;omega,fun _=>by rw[hd2 rfl,hdr];simp[putE,hle],by simp,rfl,by simp,rfl,by simp[encE]⟩
  ·have Fz:=fz12 h0 h7 h3 h5 h6 m3 m8 hc he @lgm @encE.eq_1 hless
   repeat refine goD ?_
   exact⟨es.length-(i+1),by omega,i+1,rfl,by omega,v+1,true,xs++[(x,y)],by simp;omega,fun _=>by rw[hd1 rfl,hdr];simp,by simp,rfl,by simp,rfl,by simp[encE]⟩
def Ord (es:List (Int×Int)):Prop:=es.Pairwise fun a b=>lessE a b=true
theorem jdv {a b:Int×Int}:lessE a b=true↔a.1<b.1∨a.1=b.1∧a.2<b.2:=by simp[lessE]
theorem jdw {a b c:Int×Int} (h:lessE a b=true) (k:lessE b c=true):lessE a c=true:=by
 rw[jdv] at *;omega
theorem jl1 {a b:Int×Int} (h:lessE a b=false) (hn:a≠b):lessE b a=true:=by
 have h':¬lessE a b=true:=by simp[h]
 rw[jdv] at *
 have:¬(a.1=b.1∧a.2=b.2):=fun e=>hn (Prod.ext e.1 e.2)
 omega
theorem jdl {e x:Int×Int}:∀{es:List (Int×Int)},x∈putE e es↔x=e∨x∈es
 | []=>by simp[putE]
 | y::r=>by
  simp only[putE]
  split
  ·simp
  ·simp only[List.mem_cons,jdl (es:=r)]
   constructor
   ·rintro(h|h | h)<;>simp[h]
   ·rintro(h|h | h)<;>simp[h]
theorem Ord.put {e:Int×Int}:∀{es:List (Int×Int)},Ord es→e∉es→Ord (putE e es)
 | [],_,_=>by simp[Ord,putE]
 | x::r,h,hn=>by
  simp only[Ord,List.pairwise_cons] at h
  simp only[List.mem_cons,not_or] at hn
  simp only[putE]
  split
  ·rename_i hl
   simp only[Ord,List.pairwise_cons]
   refine⟨fun y hy=>?_,h.1,h.2⟩
   rcases List.mem_cons.1 hy with rfl|hy
   ·exact hl
   ·exact jdw hl (h.1 y hy)
  ·rename_i hl
   have hl':lessE e x=false:=by simpa using hl
   simp only[Ord,List.pairwise_cons]
   refine⟨fun y hy=>?_,Ord.put h.2 hn.2⟩
   rcases jdl.1 hy with rfl|hy
   ·exact jl1 hl' hn.1
   ·exact h.1 y hy
def qe (es:List (Int×Int)):IV:=if es=[] then .emp else .lst (es.map encE)
theorem jnz {n:Nat} {es:List (Int×Int)}:frz n (.i (qe es))=.ret (.lst (es.map encE)):=by
 cases es with
 | nil=>cases n<;>rfl
 | cons e r=>cases n<;>rfl
theorem jhc {es:List (Int×Int)}:(qe es).flat=true:=by cases es<;>rfl
theorem ji8 {es:List (Int×Int)}:lenP (.i (qe es))=some es.length:=by
 cases es with
 | nil=>rfl
 | cons e r=>simp[lenP,qe]
theorem j5u {e:Int×Int} {es:List (Int×Int)}:.lst ((putE e es).map encE)=qe (putE e es):=by
 have:putE e es≠[]:=fun h=>by have:=jbg e es;simp[h] at this
 simp[qe,this]
attribute [go_sem] jnz jhc ji8
abbrev GL (n:Int) (es:List (Int×Int)):PV:=.agg [I n,LE es]
structure EL (x:IV) (es:List (Int×Int)):Prop where
 f:∀n,frz n (.i x)=.ret (.lst (es.map encE))
 fl:x.flat=true
theorem EL.qe (es:List (Int×Int)):EL (qe es) es:=⟨fun _=>jnz,jhc⟩
theorem EL.lst (es:List (Int×Int)):EL (.lst (es.map encE)) es:=⟨fun n=>by cases n<;>rfl,rfl⟩
theorem jwc (n:Int) (es:List (Int×Int)) (hl:es.length≤1048576):KP 85 [GL n es] []=some (.agg [I n,.ref 2000 0 0 es.length],[],[.arr 0 2 (es.map encE)]):=by
 refine gc func85 ?_
 have Fz:=fz0
 repeat refine goD ?_
 have Fz:=fz1 results85
 refine goR ?_
 try trivial
theorem j12 (bs:List Int) (p n:Int) (x:IV) (es:List (Int×Int)) (hb:bytes bs) (hp:0≤p∧p≤100000) (hx:EL x es) (hl:es.length≤900) (hn:0≤n∧n≤17) :
 ∃(n':Int) (es':List (Int×Int)) (p':Int),0≤n'∧n'≤17∧es'.length≤es.length+1∧p≤p'∧p'≤p+10∧
  KP 32 [.ptr 1000 0 0 0,.agg [I n,.i x]] [Rd bs p]=some (.agg [I n',.ref 2000 0 0 es'.length],[Rd bs p'],[.arr 0 2 (es'.map encE)]):=by
 suffices h:∃res,(∃(n':Int) (es':List (Int×Int)) (p':Int),0≤n'∧n'≤17∧es'.length≤es.length+1∧p≤p'∧p'≤p+10∧res=(PV.agg [I n',.ref 2000 0 0 es'.length],[Rd bs p'],[Arr.arr 0 2 (es'.map encE)]))∧
  KP 32 [.ptr 1000 0 0 0,.agg [I n,.i x]] [Rd bs p]=some res by
  obtain⟨res,⟨n',es',p',h1,h2,h3,h4,h5,rfl⟩,h6⟩:=h
  exact⟨n',es',p',h1,h2,h3,h4,h5,h6⟩
 have hcopy:=jwc n es (by omega)
 have hf:=hx.f
 have hfl:=hx.fl
 obtain⟨a,ha,_,hpa⟩:=jek bs p 16 hb (by omega) (by omega)
 cases ha0:decide (0<a)
 ·cases hl0:decide ((es.length:Int)=0)
  ·simp only[decide_eq_false_iff_not] at hl0
   have hl0':es.length≠0:=by omega
   obtain⟨k,hk,_,hpk⟩:=jek bs (p+1) es.length hb (by omega) (by omega)
   have hk':=hk (by omega)
   obtain⟨w,hw,_,hpw⟩:=jek bs (p+1+1) 5 hb (by omega) (by omega)
   obtain⟨⟨u,v⟩,he⟩:∃e,es[k.toNat]?=some e:=⟨es[k.toNat]'(by omega),by simp⟩
   cases hw0:decide (w=0)
   ·cases hw1:decide (w=1)
    ·cases hw2:decide (w=2)
     ·refine ge func32 ?_
      have Fz:=fz12 hcopy hf hfl hpa ha0 hl0 hl0' hpk hpw hw0 hw1 hw2
      repeat refine goD ?_
      have Fz:=fz1 results32
      refine goR ?_
      try trivial
      exact⟨n,hn.1,hn.2,es,by omega,p+1+1+1,by omega,by omega,rfl,rfl,rfl⟩
     ·refine ge func32 ?_
      have Fz:=fz17 hcopy hf hfl hpa ha0 hl0 hl0' hpk hpw hw0 hw1 hw2 hk'.1 hk'.2 he @encE.eq_1 @lgm
      repeat refine goD ?_
      have Fz:=fz1 results32
      refine goR ?_
      try trivial
      exact⟨n,hn.1,hn.2,es++[(u,v)],by simp,p+1+1+1,by omega,by omega,by simp,rfl,by simp[encE]⟩
    ·obtain⟨y,hy,hnum⟩:=j2d bs (p+1+1+1) [0,17,1] hb (by omega) (by simp) (by simp)
     have hy':0≤y∧y≤17:=by
      have:∀x∈[0,17,(1:Int)],0≤x∧x≤17:=by decide
      exact this y hy
     simp only[List.map_cons,List.map_nil,encI,List.length_cons,List.length_nil,Nat.reduceAdd] at hnum
     refine ge func32 ?_
     have Fz:=fz12 hcopy hf hfl hpa ha0 hl0 hl0' hpk hpw hw0 hw1 hnum
     repeat refine goD ?_
     have Fz:=fz1 results32
     refine goR ?_
     try trivial
     exact⟨y,hy'.1,hy'.2,es,by omega,p+1+1+1+1,by omega,by omega,rfl,rfl,rfl⟩
   ·obtain⟨y,hy,hnum⟩:=j2d bs (p+1+1+1) [16,-1,0] hb (by omega) (by simp) (by simp)
    simp only[List.map_cons,List.map_nil,encI,List.length_cons,List.length_nil,Nat.reduceAdd] at hnum
    refine ge func32 ?_
    have Fz:=fz16 hcopy hf hfl hpa ha0 hl0 hl0' hpk hpw hw0 hnum hk'.1 hk'.2 he @encE.eq_1 @lgm
    repeat refine goD ?_
    have Fz:=fz1 results32
    refine goR ?_
    try trivial
    exact⟨n,hn.1,hn.2,es.set k.toNat (u,y),by simp,p+1+1+1+1,by omega,by omega,by simp,rfl,by simp[encE,List.map_set]⟩
  ·refine ge func32 ?_
   have Fz:=fz6 hcopy hf hfl hpa ha0 hl0
   repeat refine goD ?_
   have Fz:=fz1 results32
   refine goR ?_
   try trivial
   exact⟨n,hn.1,hn.2,es,by omega,p+1,by omega,by omega,rfl,rfl,rfl⟩
 ·refine ge func32 ?_
  have Fz:=fz5 hcopy hf hfl hpa ha0
  repeat refine goD ?_
  have Fz:=fz1 results32
  refine goR ?_
  try trivial
  exact⟨n,hn.1,hn.2,es,by omega,p+1,by omega,by omega,rfl,rfl,rfl⟩

def okE (n:Int) (e:Int×Int):Prop:=0≤e.1∧e.1<e.2∧e.2<n
def VG (n:Int) (es:List (Int×Int)):Prop:=1≤n∧n≤16∧es.length≤40∧(∀e∈es,okE n e)∧Ord es
noncomputable instance (n:Int) (es:List (Int×Int)):Decidable (VG n es):=Classical.propDecidable _
theorem Ord.snoc {xs:List (Int×Int)} {y z:Int×Int} (h:Ord (xs++[y])) (k:lessE y z=true):Ord (xs++[y]++[z]):=by
 simp only[Ord,List.pairwise_append,List.mem_append,List.mem_singleton] at *
 refine⟨h,List.pairwise_singleton _ _,fun a ha b hb=>?_⟩
 subst hb
 rcases ha with ha|rfl
 ·exact jdw (h.2.2 a ha y rfl) k
 ·exact k
theorem Ord.pre {xs ys:List (Int×Int)} (h:Ord (xs++ys)):Ord xs:=by
 simp only[Ord,List.pairwise_append] at *
 exact h.1
theorem take_at {α:Type} {l:List α} {i:Nat} {x:α} (h:l[i]?=some x):l.take (i+1)=l.take i++[x]:=by
 rw[List.take_add_one,h];rfl
theorem Ord.take_at {es:List (Int×Int)} {i:Nat} {y z:Int×Int} (hy:es[i]?=some y) (hz:es[i+1]?=some z) (h:Ord (es.take (i+1))):Ord (es.take (i+2))↔lessE y z=true:=by
 rw[X.take_at hz,X.take_at hy]
 rw[X.take_at hy] at h
 constructor
 ·intro k
  simp only[Ord,List.pairwise_append,List.mem_append,List.mem_singleton] at k
  exact k.2.2 y (.inr rfl) z rfl
 ·exact h.snoc
theorem VG.take {n:Int} {es:List (Int×Int)} (h:VG n es) (i:Nat):(∀e∈es.take i,okE n e)∧Ord (es.take i):=by
 obtain⟨_,_,_,h1,h2⟩:=h
 refine⟨fun e he=>h1 e (List.mem_of_mem_take he),?_⟩
 rw[←List.take_append_drop i es] at h2
 exact h2.pre
theorem jbb (n:Int) (es:List (Int×Int)) (hl:es.length≤1048576):KP 15 [GL n es] []=some (B (decide (VG n es)),[],[]):=by
 cases h1:decide (n<1)
 ·cases h2:decide (16<n)
  ·cases h3:decide ((40:Int)<es.length)
   ·refine gc func15 ?_
    have Fz:=fz3 h1 h2 h3
    repeat refine goD ?_
    simp only[decide_eq_false_iff_not] at h1 h2 h3
    refine jbo (fun k s=>∃i:Nat,k=es.length-i∧i≤es.length∧(∀e∈es.take i,okE n e)∧Ord (es.take i)∧s.ρ 1=.ptr 1 0 0 0∧s.ρ 3=I i∧s.m 1=some (.box 0 [I n,LE es])) ?_ es.length _ ⟨0,by simp,by simp,by simp,by simp[Ord],rfl,rfl,rfl⟩
    rintro k ⟨ρ,m⟩ ⟨i,rfl,hi,ha,ho,r1,r3,m1⟩
    simp only at r1 r3 m1
    cases hc:decide ((i:Int)<es.length)
    ·have Fz:=fz4 r1 r3 m1 hc
     repeat refine goD ?_
     have Fz:=fz1 results15
     refine goR ?_
     try trivial
     simp only[decide_eq_false_iff_not] at hc
     rw[List.take_of_length_le (by omega)] at ha ho
     have:VG n es:=⟨by omega,by omega,by omega,ha,ho⟩
     simp[this]
    ·simp only[decide_eq_true_eq] at hc
     obtain⟨⟨u,v⟩,he⟩:∃e,es[i]?=some e:=⟨es[i]'(by omega),by simp⟩
     have bad:¬okE n (u,v)→¬VG n es:=fun hb h=>hb (h.2.2.2.1 _ (List.mem_of_getElem? he))
     cases h4:decide (u<0)
     ·cases h5:decide (v≤u)
      ·cases h6:decide (n≤v)
       ·have hok:okE n (u,v):=by simp only[decide_eq_false_iff_not] at h4 h5 h6;exact⟨by simp only;omega,by simp only;omega,by simp only;omega⟩
        have ha':∀e∈es.take (i+1),okE n e:=fun e h=>by
         rw[take_at he] at h
         rcases List.mem_append.1 h with h|h
         ·exact ha e h
         ·simp at h;subst h;exact hok
        cases h7:decide ((0:Int)<i)
        ·have Fz:=fz11 r1 r3 m1 hc he @encE.eq_1 @lgm h4 h5 h6 h7
         repeat refine goD ?_
         simp only[decide_eq_false_iff_not] at h7
         have hi0:i=0:=by omega
         subst hi0
         refine⟨es.length-1,by omega,1,rfl,by omega,ha',?_,rfl⟩
         rw[take_at he];simp[Ord]
        ·obtain⟨j,rfl⟩:∃j,i=j+1:=⟨i-1,by simp at h7;omega⟩
         obtain⟨⟨x,y⟩,hx⟩:∃e,es[j]?=some e:=⟨es[j]'(by omega),by simp⟩
         have hless:=jo1 x y u v
         have hj1:((j+1:Nat):Int)-1=j:=by omega
         cases h8:lessE (x,y) (u,v)
         ·have Fz:=fz15 r1 r3 m1 hc he hx hj1 @encE.eq_1 @lgm h4 h5 h6 h7 hless h8
          repeat refine goD ?_
          have Fz:=fz1 results15
          refine goR ?_
          try trivial
          have:¬VG n es:=fun h=>by
           have:=(Ord.take_at hx he ho).1 (h.take _).2
           rw[h8] at this;cases this
          simp[this]
         ·have Fz:=fz15 r1 r3 m1 hc he hx hj1 @encE.eq_1 @lgm h4 h5 h6 h7 hless h8
          repeat refine goD ?_
          exact⟨es.length-(j+1+1),by omega,j+1+1,rfl,by omega,ha',(Ord.take_at hx he ho).2 h8,rfl⟩
       ·have Fz:=fz10 r1 r3 m1 hc he @encE.eq_1 @lgm h4 h5 h6
        repeat refine goD ?_
        have Fz:=fz1 results15
        refine goR ?_
        try trivial
        simp only[decide_eq_true_eq] at h6
        simp[bad (fun h=>by have:=h.2.2;simp only at this;omega)]
      ·have Fz:=fz9 r1 r3 m1 hc he @encE.eq_1 @lgm h4 h5
       repeat refine goD ?_
       have Fz:=fz1 results15
       refine goR ?_
       try trivial
       simp only[decide_eq_true_eq] at h5
       simp[bad (fun h=>by have:=h.2.1;simp only at this;omega)]
     ·have Fz:=fz8 r1 r3 m1 hc he @encE.eq_1 @lgm h4
      repeat refine goD ?_
      have Fz:=fz1 results15
      refine goR ?_
      try trivial
      simp only[decide_eq_true_eq] at h4
      simp[bad (fun h=>by have:=h.1;simp only at this;omega)]
   ·refine gc func15 ?_
    have Fz:=fz3 h1 h2 h3
    repeat refine goD ?_
    have Fz:=fz1 results15
    refine goR ?_
    try trivial
    simp only[decide_eq_true_eq] at h3
    have:¬VG n es:=fun h=>by have:=h.2.2.1;omega
    simp[this]
  ·refine gc func15 ?_
   have Fz:=fz2 h1 h2
   repeat refine goD ?_
   have Fz:=fz1 results15
   refine goR ?_
   try trivial
   simp only[decide_eq_true_eq] at h2
   have:¬VG n es:=fun h=>by have:=h.2.1;omega
   simp[this]
 ·refine gc func15 ?_
  have Fz:=fz1 h1
  repeat refine goD ?_
  have Fz:=fz1 results15
  refine goR ?_
  try trivial
  simp only[decide_eq_true_eq] at h1
  have:¬VG n es:=fun h=>by have:=h.1;omega
  simp[this]
theorem j1x (a:Int):KP 242 [I a] []=some (B false,[],[]):=by
 refine gc func242 ?_
 have h:decide (a=a)=true:=by simp
 have Fz:=fz1 h
 repeat refine goD ?_
 have Fz:=fz2 results242 h
 refine goR ?_
 try trivial
def cmpI (a b:Int):Int:=if a<b then -1 else if b<a then 1 else 0
theorem jjk (a b:Int):KP 222 [I a,I b] []=some (I (cmpI a b),[],[]):=by
 have h1:=j1x a
 have h2:=j1x b
 unfold cmpI
 cases h3:decide (a<b)
 ·cases h4:decide (b<a)
  ·refine gc func222 ?_
   have Fz:=fz4 h1 h2 h3 h4
   repeat refine goD ?_
   have Fz:=fz1 results222
   refine goR ?_
   try trivial
   simp only[decide_eq_false_iff_not] at h3 h4
   simp[h3,h4]
  ·refine gc func222 ?_
   have Fz:=fz4 h1 h2 h3 h4
   repeat refine goD ?_
   have Fz:=fz1 results222
   refine goR ?_
   try trivial
   simp only[decide_eq_false_iff_not,decide_eq_true_eq] at h3 h4
   simp[h3,h4]
 ·refine gc func222 ?_
  have Fz:=fz3 h1 h2 h3
  repeat refine goD ?_
  have Fz:=fz1 results222
  refine goR ?_
  try trivial
  simp only[decide_eq_true_eq] at h3
  simp[h3]
theorem kbs (a b:Int):KP 221 [.i (.lst [[.v (.int .i64 a)],[.v (.int .i64 b)]])] []=some (I (if a=0 then b else a),[],[]):=by
 cases h1:decide (a=0)
 ·have ha:a≠0:=by simpa using h1
  refine gc func221 ?_
  have Fz:=fz1 h1
  repeat refine goD ?_
  refine jf8 ?_
  have Fz:=fz1 h1
  repeat refine goD ?_
  have Fz:=fz1 results221
  refine goR ?_
  try trivial
  simp[ha]
 ·have ha:a=0:=by simpa using h1
  cases h2:decide (b=0)
  ·refine gc func221 ?_
   have Fz:=fz2 h1 h2
   repeat refine goD ?_
   refine jf8 ?_
   have Fz:=fz2 h1 h2
   repeat refine goD ?_
   refine jf8 ?_
   have Fz:=fz2 h1 h2
   repeat refine goD ?_
   have Fz:=fz1 results221
   refine goR ?_
   try trivial
   simp[ha]
  ·refine gc func221 ?_
   have Fz:=fz2 h1 h2
   repeat refine goD ?_
   refine jf8 ?_
   have Fz:=fz2 h1 h2
   repeat refine goD ?_
   refine jf8 ?_
   have Fz:=fz2 h1 h2
   repeat refine goD ?_
   refine jf8 ?_
   have Fz:=fz2 h1 h2
   repeat refine goD ?_
   have Fz:=fz1 results221
   refine goR ?_
   try trivial
   have hb:b=0:=by simpa using h2
   simp[ha,hb]
def cmpE (a b c d:Int):Int:=if cmpI a c=0 then cmpI b d else cmpI a c
theorem j2s {a b c d:Int}:0≤cmpE a b c d↔lessE (a,b) (c,d)=false:=by
 have:lessE (a,b) (c,d)=false↔¬(a<c∨a=c∧b<d):=by simp[lessE]
 rw[this]
 unfold cmpE cmpI
 split<;>split<;>(try split)<;>(try split)<;>omega
theorem jgv (a b c d:Int):KP 181 [PE a b,PE c d] []=some (I (cmpE a b c d),[],[]):=by
 have h1:=jjk a c
 have h2:=jjk b d
 have h3:=kbs (cmpI a c) (cmpI b d)
 refine gc func181 ?_
 have Fz:=fz3 h1 h2 h3
 repeat refine goD ?_
 have Fz:=fz1 results181
 refine goR ?_
 try trivial
 all_goals rfl
theorem jkc (es:List (Int×Int)) (a b:Int) (hl:es.length≤1048576):KP 131 [LE es,PE a b] []=some (I (jco es (a,b)),[],[]):=by
 refine gc func131 ?_
 have Fz:=fz0
 repeat refine goD ?_
 refine jbo (fun n s=>∃i:Nat,n=es.length-i∧i≤es.length∧(a,b)∉es.take i∧s.ρ 0=LE es∧s.ρ 7=I es.length∧s.ρ 8=I i∧s.ρ 3=.ptr 3 0 0 0∧s.m 3=some (.box 0 [I a,I b])) ?_ es.length _ ⟨0,by simp,by simp,by simp,rfl,rfl,rfl,rfl,rfl⟩
 rintro n ⟨ρ,m⟩ ⟨i,rfl,hi,hni,h0,h7,h8,h3,hm⟩
 simp only at h0 h7 h8 h3 hm
 cases hc:decide ((i:Int)<es.length)
 ·have Fz:=fz6 h0 h7 h8 h3 hm hc
  repeat refine goD ?_
  have Fz:=fz4 results131 h0 h3 hm
  refine goR ?_
  try trivial
  simp only[decide_eq_false_iff_not] at hc
  have:(a,b)∉es:=by rw[List.take_of_length_le (by omega)] at hni;exact hni
  simp[jco,this]
 ·simp only[decide_eq_true_eq] at hc
  obtain⟨⟨u,v⟩,he⟩:∃e,es[i]?=some e:=⟨es[i]'(by omega),by simp⟩
  cases hab:decide (a=u∧b=v)
  ·have Fz:=fz10 h0 h7 h8 h3 hm hc hab he @encE.eq_1 @lgm
   repeat refine goD ?_
   simp only[decide_eq_false_iff_not] at hab
   refine⟨es.length-(i+1),by omega,i+1,rfl,by omega,?_,rfl⟩
   rw[take_at he]
   simp only[List.mem_append,List.mem_singleton,not_or,Prod.mk.injEq]
   exact⟨hni,hab⟩
  ·have Fz:=fz10 h0 h7 h8 h3 hm hc hab he @encE.eq_1 @lgm
   repeat refine goD ?_
   have Fz:=fz4 results131 h0 h3 hm
   refine goR ?_
   try trivial
   simp only[decide_eq_true_eq] at hab
   obtain⟨rfl,rfl⟩:=hab
   rw[jpo he hni]
theorem jjt {es:List (Int×Int)} {e:Int×Int}:decide (0≤jco es e)=decide (e∈es):=by
 unfold jco
 by_cases h:e∈es<;>simp[h]
theorem jkx (es:List (Int×Int)) (a b:Int) (hl:es.length≤1048576):KP 203 [LE es,PE a b] []=some (B (decide ((a,b)∈es)),[],[]):=by
 have h:=jkc es a b hl
 refine gc func203 ?_
 have Fz:=fz2 h @jjt
 repeat refine goD ?_
 have Fz:=fz1 results203
 refine goR ?_
 try trivial
theorem j7g (n:Int) (es:List (Int×Int)) (a b:Int) (hl:es.length≤1048576):KP 141 [GL n es,PE a b] []=some (B (decide ((a,b)∈es)),[],[]):=by
 have h:=jkx es a b hl
 refine gc func141 ?_
 have Fz:=fz1 h
 repeat refine goD ?_
 have Fz:=fz1 results141
 refine goR ?_
 try trivial
theorem jce (n:Int) (es:List (Int×Int)) (hl:es.length≤1048576):KP 112 [GL n es] []=some (B (decide (VG n es)),[],[]):=by
 cases h1:decide (n<1)
 ·cases h2:decide (16<n)
  ·cases h3:decide ((40:Int)<es.length)
   ·refine gc func112 ?_
    have Fz:=fz3 h1 h2 h3
    repeat refine goD ?_
    simp only[decide_eq_false_iff_not] at h1 h2 h3
    refine jbo (fun k s=>∃i:Nat,k=es.length-i∧i≤es.length∧(∀e∈es.take i,okE n e)∧Ord (es.take i)∧s.ρ 1=.ptr 1 0 0 0∧s.ρ 20=LE es∧s.ρ 21=I es.length∧s.ρ 22=I i∧s.m 1=some (.box 0 [I n,LE es])) ?_ es.length _ ⟨0,by simp,by simp,by simp,by simp[Ord],rfl,rfl,rfl,rfl,rfl⟩
    rintro k ⟨ρ,m⟩ ⟨i,rfl,hi,ha,ho,r1,r20,r21,r22,m1⟩
    simp only at r1 r20 r21 r22 m1
    cases hc:decide ((i:Int)<es.length)
    ·have Fz:=fz6 r1 r20 r21 r22 m1 hc
     repeat refine goD ?_
     have Fz:=fz1 results112
     refine goR ?_
     try trivial
     simp only[decide_eq_false_iff_not] at hc
     rw[List.take_of_length_le (by omega)] at ha ho
     have:VG n es:=⟨by omega,by omega,by omega,ha,ho⟩
     simp[this]
    ·simp only[decide_eq_true_eq] at hc
     obtain⟨⟨u,v⟩,he⟩:∃e,es[i]?=some e:=⟨es[i]'(by omega),by simp⟩
     have bad:¬okE n (u,v)→¬VG n es:=fun hb h=>hb (h.2.2.2.1 _ (List.mem_of_getElem? he))
     cases h4:decide (u<0)
     ·cases h5:decide (v≤u)
      ·cases h6:decide (n≤v)
       ·have hok:okE n (u,v):=by simp only[decide_eq_false_iff_not] at h4 h5 h6;exact⟨by simp only;omega,by simp only;omega,by simp only;omega⟩
        have ha':∀e∈es.take (i+1),okE n e:=fun e h=>by
         rw[take_at he] at h
         rcases List.mem_append.1 h with h|h
         ·exact ha e h
         ·simp at h;subst h;exact hok
        cases h7:decide ((0:Int)<i)
        ·have Fz:=fz13 r1 r20 r21 r22 m1 hc he @encE.eq_1 @lgm h4 h5 h6 h7
         repeat refine goD ?_
         simp only[decide_eq_false_iff_not] at h7
         have hi0:i=0:=by omega
         subst hi0
         refine⟨es.length-1,by omega,1,rfl,by omega,ha',?_,rfl⟩
         rw[take_at he];simp[Ord]
        ·obtain⟨j,rfl⟩:∃j,i=j+1:=⟨i-1,by simp at h7;omega⟩
         obtain⟨⟨x,y⟩,hx⟩:∃e,es[j]?=some e:=⟨es[j]'(by omega),by simp⟩
         have hcmp:=jgv x y u v
         have hsg:decide (0≤cmpE x y u v)=!lessE (x,y) (u,v):=by
          have:=@j2s x y u v
          cases h:lessE (x,y) (u,v)<;>simp_all
         have hj1:((j+1:Nat):Int)-1=j:=by omega
         cases h8:lessE (x,y) (u,v)
         ·have Fz:=fz18 r1 r20 r21 r22 m1 hc he hx hj1 @encE.eq_1 @lgm h4 h5 h6 h7 hcmp hsg h8
          repeat refine goD ?_
          have Fz:=fz1 results112
          refine goR ?_
          try trivial
          have:¬VG n es:=fun h=>by
           have:=(Ord.take_at hx he ho).1 (h.take _).2
           rw[h8] at this;cases this
          simp[this]
         ·have Fz:=fz18 r1 r20 r21 r22 m1 hc he hx hj1 @encE.eq_1 @lgm h4 h5 h6 h7 hcmp hsg h8
          repeat refine goD ?_
          exact⟨es.length-(j+1+1),by omega,j+1+1,rfl,by omega,ha',(Ord.take_at hx he ho).2 h8,rfl⟩
       ·have Fz:=fz12 r1 r20 r21 r22 m1 hc he @encE.eq_1 @lgm h4 h5 h6
        repeat refine goD ?_
        have Fz:=fz1 results112
        refine goR ?_
        try trivial
        simp only[decide_eq_true_eq] at h6
        simp[bad (fun h=>by have:=h.2.2;simp only at this;omega)]
      ·have Fz:=fz11 r1 r20 r21 r22 m1 hc he @encE.eq_1 @lgm h4 h5
       repeat refine goD ?_
       have Fz:=fz1 results112
       refine goR ?_
       try trivial
       simp only[decide_eq_true_eq] at h5
       simp[bad (fun h=>by have:=h.2.1;simp only at this;omega)]
     ·have Fz:=fz10 r1 r20 r21 r22 m1 hc he @encE.eq_1 @lgm h4
      repeat refine goD ?_
      have Fz:=fz1 results112
      refine goR ?_
      try trivial
      simp only[decide_eq_true_eq] at h4
      simp[bad (fun h=>by have:=h.1;simp only at this;omega)]
   ·refine gc func112 ?_
    have Fz:=fz3 h1 h2 h3
    repeat refine goD ?_
    have Fz:=fz1 results112
    refine goR ?_
    try trivial
    simp only[decide_eq_true_eq] at h3
    have:¬VG n es:=fun h=>by have:=h.2.2.1;omega
    simp[this]
  ·refine gc func112 ?_
   have Fz:=fz2 h1 h2
   repeat refine goD ?_
   have Fz:=fz1 results112
   refine goR ?_
   try trivial
   simp only[decide_eq_true_eq] at h2
   have:¬VG n es:=fun h=>by have:=h.2.1;omega
   simp[this]
 ·refine gc func112 ?_
  have Fz:=fz1 h1
  repeat refine goD ?_
  have Fz:=fz1 results112
  refine goR ?_
  try trivial
  simp only[decide_eq_true_eq] at h1
  have:¬VG n es:=fun h=>by have:=h.1;omega
  simp[this]
theorem jqr (n:Int) (es:List (Int×Int)) (v:Int) (hl:es.length≤1048576):KP 137 [GL n es,I v] []=some (B (decide (VG n es∧0≤v∧v<n)),[],[]):=by
 have hv:=jce n es hl
 cases h1:decide (VG n es)
 ·refine gc func137 ?_
  have Fz:=fz2 hv h1
  repeat refine goD ?_
  have Fz:=fz1 results137
  refine goR ?_
  try trivial
  simp only[decide_eq_false_iff_not] at h1
  simp[h1]
 ·cases h2:decide (0≤v)
  ·refine gc func137 ?_
   have Fz:=fz3 hv h1 h2
   repeat refine goD ?_
   have Fz:=fz1 results137
   refine goR ?_
   try trivial
   simp only[decide_eq_true_eq,decide_eq_false_iff_not] at h1 h2
   simp[h1,h2]
  ·refine gc func137 ?_
   have Fz:=fz3 hv h1 h2
   repeat refine goD ?_
   have Fz:=fz1 results137
   refine goR ?_
   try trivial
   simp only[decide_eq_true_eq] at h1 h2
   simp[h1,h2]
def alone (v:Int) (es:List (Int×Int)):List (Int×Int):=es.filter fun e=>decide (e.1≠v∧e.2≠v)
theorem jk2 (n:Int) (es:List (Int×Int)) (v:Int) (hl:es.length≤1048576):KP 158 [GL n es,I v] []=some (.agg [I n,.ref 2000 0 0 (alone v es).length],[],[.arr 0 2 ((alone v es).map encE)]):=by
 refine gc func158 ?_
 have Fz:=fz0
 repeat refine goD ?_
 refine jbo (fun k s=>∃(i:Nat) (w:Nat),k=es.length-i∧i≤es.length∧s.ρ 1=I v∧s.ρ 2=.ptr 2 0 0 0∧s.ρ 4=.ptr 4 0 0 0∧s.ρ 5=.ptr 5 0 0 0∧s.ρ 6=I i∧
  s.m 2=some (.box 0 [I n,LE es])∧s.m 4=some (.box 0 [I 0,.i .emp])∧s.m 5=some (.box 0 [I n,.ref 9 w 0 (alone v (es.take i)).length])∧s.m 9=some (.arr w 2 ((alone v (es.take i)).map encE))) ?_ es.length _ ⟨0,0,by simp,by simp,rfl,rfl,rfl,rfl,rfl,rfl,rfl,rfl,rfl⟩
 rintro k ⟨ρ,m⟩ ⟨i,w,rfl,hi,r1,r2,r4,r5,r6,m2,m4,m5,m9⟩
 simp only at r1 r2 r4 r5 r6 m2 m4 m5 m9
 have hal:(alone v (es.take i)).length≤1048576:=by
  have h1:=List.length_filter_le (fun e:Int×Int=>decide (e.1≠v∧e.2≠v)) (es.take i)
  have h2:(es.take i).length≤es.length:=by simp;omega
  unfold alone;omega
 cases hc:decide ((i:Int)<es.length)
 ·have Fz:=fz10 r1 r2 r4 r5 r6 m2 m4 m5 m9 hc
  repeat refine goD ?_
  have Fz:=fz5 results158 m9 m5 m4 r4
  refine goR ?_
  try trivial
  simp only[decide_eq_false_iff_not] at hc
  rw[List.take_of_length_le (by omega)]
  exact⟨rfl,rfl⟩
 ·simp only[decide_eq_true_eq] at hc
  obtain⟨⟨x,y⟩,he⟩:∃e,es[i]?=some e:=⟨es[i]'(by omega),by simp⟩
  cases h1:decide (x=v)
  ·cases h2:decide (y=v)
   ·have Fz:=fz15 r1 r2 r4 r5 r6 m2 m4 m5 m9 hc h1 h2 he @encE.eq_1 @lgm
    repeat refine goD ?_
    simp only[decide_eq_false_iff_not] at h1 h2
    have e:alone v (es.take (i+1))=alone v (es.take i)++[(x,y)]:=by rw[take_at he];simp[alone,h1,h2]
    exact⟨es.length-(i+1),by omega,i+1,rfl,by omega,rfl,w+1,by rw[e];simp,by rw[e];simp[encE]⟩
   ·have Fz:=fz15 r1 r2 r4 r5 r6 m2 m4 m5 m9 hc h1 h2 he @encE.eq_1 @lgm
    repeat refine goD ?_
    simp only[decide_eq_false_iff_not,decide_eq_true_eq] at h1 h2
    have e:alone v (es.take (i+1))=alone v (es.take i):=by rw[take_at he];simp[alone,h2]
    exact⟨es.length-(i+1),by omega,i+1,rfl,by omega,rfl,w,by rw[e],by rw[e]⟩
  ·have Fz:=fz14 r1 r2 r4 r5 r6 m2 m4 m5 m9 hc h1 he @encE.eq_1 @lgm
   repeat refine goD ?_
   simp only[decide_eq_true_eq] at h1
   have e:alone v (es.take (i+1))=alone v (es.take i):=by rw[take_at he];simp[alone,h1]
   exact⟨es.length-(i+1),by omega,i+1,rfl,by omega,rfl,w,by rw[e],by rw[e]⟩
section
structure OKG (n:Int) (es:List (Int×Int)):Prop where
 n0:0≤n
 n1:n≤16
 len:es.length≤40
 ok:∀e∈es,okE n e
theorem VG.okg {n:Int} {es:List (Int×Int)} (h:VG n es):OKG n es:=⟨by have:=h.1;omega,h.2.1,h.2.2.1,h.2.2.2.1⟩
theorem nc0:((0:Nat):Int)=0:=rfl
theorem nc1:((1:Nat):Int)=1:=rfl
theorem nc2:((2:Nat):Int)=2:=rfl
theorem nc3:((3:Nat):Int)=3:=rfl
section
variable {P:Program} {cf:Cfg} {C:jci} {me:FuncId} {st:St}
theorem kcs {b:Bool} {o:Oper}:gdo P cf C me (some b) o st=if b=true then fin1 o.dst ((ja0 P cf C me o st.ρ).run st.m) else some ⟨o.dst,.i (.v undef),[],[]⟩:=by
 cases b<;>rfl
theorem kb4 {α:Type} {a b:Bool} {x:Mm α}:Mm.chk (a && b) x=Mm.chk a (Mm.chk b x):=by cases a<;>rfl
theorem kb5 {α:Type} {p:Prop} [Decidable p] {x:Mm α} (h:p):Mm.chk (decide p) x=x:=by simp[Mm.chk,h]
theorem kha {b:Bool}:(b == true)=b:=by cases b<;>rfl
theorem kg9 {b:Bool}:(b == false)=!b:=by cases b<;>rfl
theorem kf1 {k:IntKind} {a b:Int}:(if b<a then b else a)=min a b:=by omega
theorem kf3 {k:IntKind} {a b:Int}:(if a<b then b else a)=max a b:=by omega
theorem j81 {α:Sort _} {p q:Prop} [Decidable p] [Decidable q] {a b:α}:(if p∧q then a else b)=if p then if q then a else b else b:=by
 by_cases h1:p<;>by_cases h2:q<;>simp[h1,h2]
theorem kcy {α:Sort _} {p q:Prop} [Decidable p] [Decidable q] {a b:α}:(if p∨q then a else b)=if p then a else if q then a else b:=by
 by_cases h1:p<;>by_cases h2:q<;>simp[h1,h2]
theorem kdd {k k':IntKind} {a b:Int}:minB (.i (.v (.int k a))) (.i (.v (.int k' b)))=.ret (.i (.v (.int k (min a b))),[]):=by
 simp only[minB,intP,@kf1 k]
theorem kdc {k k':IntKind} {a b:Int}:maxB (.i (.v (.int k a))) (.i (.v (.int k' b)))=.ret (.i (.v (.int k (max a b))),[]):=by
 simp only[maxB,intP,gt_iff_lt,@kf3 k]
end
@[congr] theorem kgm {P:Program} {cf:Cfg} {me:FuncId} {c:Code} {s s':St} {Q:Ex→St→Prop} (h:s=s'):XW P cf me c s Q=XW P cf me c s' Q:=by rw[h]
def LQ {σ:Type} (R:σ→St→Prop) (μ:σ→Nat) (n:Nat) (Q:Ex→St→Prop):Ex→St→Prop
 | .normal,s=>∃x,R x s∧μ x<n
 | .exit i,s=>Q (.exit i) s
 | .ret,s=>Q .ret s
theorem jaa {P:Program} {cf:Cfg} {me:FuncId} {b:Code} {Q:Ex→St→Prop} {σ:Type} (R:σ→St→Prop) (μ:σ→Nat) (x:σ) {s:St} (h0:R x s)
 (h:∀x s,R x s→XW P cf me b s (LQ R μ (μ x) Q)):XW P cf me (.loop b) s Q:=by
 refine jbo (fun n s=>∃x,R x s∧μ x=n) ?_ (μ x) s ⟨x,h0,rfl⟩
 rintro n s ⟨x,hx,rfl⟩
 refine(h x s hx).mono fun e s' hq=>?_
 cases e with
 | normal=>
  obtain⟨y,h1,h2⟩:=hq
  exact⟨μ y,h2,y,h1,rfl⟩
 | exit i=>exact hq
 | ret=>exact hq
theorem jae {α:Type} {l:List α} {i:Int} (d:α) (h0:0≤i) (h1:i<l.length):l.take (i+1).toNat=l.take i.toNat++[l.getD i.toNat d]:=by
 have:(i+1).toNat=i.toNat+1:=by omega
 rw[this,List.take_add_one]
 have h:i.toNat<l.length:=by omega
 simp[h]
theorem jtl {α:Type} {l:List α} {i:Int} {x:α} (h0:0≤i) (h1:i<l.length):(l.set i.toNat x).take (i+1).toNat=l.take i.toNat++[x]:=by
 rw[jae x h0 (by simpa using h1),List.take_set_of_le (Nat.le_refl _)]
 have h:i.toNat<l.length:=by omega
 simp[h]
theorem jrj {α:Type} {l:List α} {i j:Int} {x:α} (h:i<j) (h0:0≤i):(l.set i.toNat x).drop j.toNat=l.drop j.toNat:=by
 rw[List.drop_set_of_lt (by omega)]
theorem jr1 {α:Type} {l r:List α} {n:Nat} {d:α} (h:l.drop n=r.drop n):l.getD n d=r.getD n d:=by
 have:=congrArg (fun x=>x.getD 0 d) h
 simpa[List.getD,List.getElem?_drop] using this
theorem jjq {α:Type} {l r:List α} {j:Int} (h0:0≤j) (h:l.drop j.toNat=r.drop j.toNat):l.drop (j+1).toNat=r.drop (j+1).toNat:=by
 have e:(j+1).toNat=j.toNat+1:=by omega
 rw[e,←List.drop_drop,←List.drop_drop,h]
theorem jac {α:Type} {l:List α} {n:Nat} (h:l.length≤n):l.take n=l:=List.take_of_length_le h
theorem jab {α:Type} {l:List α} {i:Nat} {d:α} (h:i<l.length):l.getD i d∈l:=by
 simp[h]
theorem jjr {a b:List (Int×Int)}:a.map encE=b.map encE↔a=b:=by
 refine⟨fun h=>?_,fun h=>by rw[h]⟩
 induction a generalizing b with
 | nil=>cases b<;>simp_all
 | cons x a ih=>
  cases b with
  | nil=>simp at h
  | cons y b=>
   simp only[List.map_cons,List.cons.injEq,encE,IV.v.injEq,Value.int.injEq,true_and,and_true] at h
   rw[ih h.2,Prod.ext h.1.1 h.1.2]
theorem jrm {a b:List Int}:a.map encI=b.map encI↔a=b:=by
 refine⟨fun h=>?_,fun h=>by rw[h]⟩
 induction a generalizing b with
 | nil=>cases b<;>simp_all
 | cons x a ih=>
  cases b with
  | nil=>simp at h
  | cons y b=>
   simp only[List.map_cons,List.cons.injEq,encI,IV.v.injEq,Value.int.injEq,true_and,and_true] at h
   rw[ih h.2,h.1]
theorem getE (es:List (Int×Int)) (i:Nat) (h:i<es.length):(es.map encE)[i]?=some [.v (.int .i64 (es.getD i (0,0)).1),.v (.int .i64 (es.getD i (0,0)).2)]:=by
 simp[encE,h]
theorem getI (xs:List Int) (i:Nat) (h:i<xs.length):(xs.map encI)[i]?=some [.v (.int .i64 (xs.getD i 0))]:=by
 simp[encI,h]
theorem setI (xs:List Int) (i:Nat) (x:Int):(xs.map encI).set i [.v (.int .i64 x)]=(xs.set i x).map encI:=by
 simp[encI,List.map_set]
theorem setE (es:List (Int×Int)) (i:Nat) (x y:Int):(es.map encE).set i [.v (.int .i64 x),.v (.int .i64 y)]=(es.set i (x,y)).map encE:=by
 simp[encE,List.map_set]
theorem appI (xs:List Int) (x:Int):xs.map encI++[[.v (.int .i64 x)]]=(xs++[x]).map encI:=by simp[encI]
theorem appE (es:List (Int×Int)) (x y:Int):es.map encE++[[.v (.int .i64 x),.v (.int .i64 y)]]=(es++[(x,y)]).map encE:=by simp[encE]
theorem kda {xs ys:List Int}:xs.map encI++ys.map encI=(xs++ys).map encI:=by simp
theorem kc9 {xs ys:List (Int×Int)}:xs.map encE++ys.map encE=(xs++ys).map encE:=by simp
theorem khh {xs:List Int} {n:Nat}:(xs.map encI).drop n=(xs.drop n).map encI:=by simp
theorem khg {xs:List (Int×Int)} {n:Nat}:(xs.map encE).drop n=(xs.drop n).map encE:=by simp
theorem kia {xs:List Int} {n:Nat}:(xs.map encI).take n=(xs.take n).map encI:=by simp
theorem kh9 {xs:List (Int×Int)} {n:Nat}:(xs.map encE).take n=(xs.take n).map encE:=by simp
def zE (n:Nat):List (Int×Int):=List.replicate n (0,0)
def zI (n:Nat):List Int:=List.replicate n 0
theorem repE (n:Nat):List.replicate n [IV.v (.int .i64 0),IV.v (.int .i64 0)]=(zE n).map encE:=by simp[zE,encE]
theorem repI (n:Nat):List.replicate n [IV.v (.int .i64 0)]=(zI n).map encI:=by simp[zI,encI]
theorem kgl (n:Nat):(zE n).length=n:=by simp[zE]
theorem kbj (n:Nat):(zI n).length=n:=by simp[zI]
theorem j32 {xs:List Int}:(xs.map encI).all (fun e=>e.all jd5)=true:=by simp[encI,jd5]
theorem j31 {xs:List (Int×Int)}:(xs.map encE).all (fun e=>e.all jd5)=true:=by simp[encE,jd5]
theorem kdu {s v o l s' v' o' l':Nat}:PV.ref s v o l=PV.ref s' v' o' l'↔s=s'∧v=v'∧o=o'∧l=l':=by simp
theorem j02 {v k v' k':Nat} {xs xs':List (List IV)}:Arr.arr v k xs=Arr.arr v' k' xs'↔v=v'∧k=k'∧xs=xs':=by simp
theorem kcu {a b:Int}:(PV.i (.v (.int .i64 a))=PV.i (.v (.int .i64 b)))↔a=b:=by simp
theorem kg8 {a b:Bool}:(PV.i (.v (.bool a))=PV.i (.v (.bool b)))↔a=b:=by simp
attribute [go_sem] j32 j31 repE repI kgl kbj List.length_set List.take_length List.length_replicate getE getI setI setE appI appE kda kc9 khh khg kia kh9 jjr jrm kdu j02 kcu kg8 wr Prod.exists Prod.eta
attribute [go_sem] j7k jo1 jhw jo2 jbb jgv jkc jkx j7g jce jqr jk2
attribute [go_sem] nc0 nc1 nc2 nc3 j81 kcy Bool.not_eq_false' Bool.not_not decide_not kcs kb4 kb5 kha kg9 if_pos if_neg LQ ite_not Classical.not_not kdd kdc
end
structure Clo (c:IV) (dom:Int×Int→Prop) (p:Int×Int→Bool):Prop where
 frz:∀n,X.frz n (.i c)=.ret c
 flat:c.flat=true
 call:∀me d x y,dom (x,y)→dynP cfg (KK prog cfg) me (some d) (.i c) [PE x y]=.ret (B (p (x,y)),[])
def fidx (p:Int×Int→Bool) (es:List (Int×Int)):Int:=if es.findIdx p<es.length then(es.findIdx p:Int) else -1
theorem kcl {p:Int×Int→Bool} {es:List (Int×Int)} {i:Int} (h0:0≤i) (h:i<es.length) (hp:p (es.getD i.toNat (0,0))=true) (hn:∀e∈es.take i.toNat,p e=false):fidx p es=i:=by
 have hi:i.toNat<es.length:=by omega
 have:es.findIdx p=i.toNat:=by
  rw[List.findIdx_eq hi]
  refine⟨by simpa[hi] using hp,fun j hj=>hn _ ?_⟩
  rw[List.mem_take_iff_getElem]
  exact⟨j,by omega,rfl⟩
 unfold fidx
 rw[this,if_pos hi];omega
theorem j3u {p:Int×Int→Bool} {es:List (Int×Int)} (hn:∀e∈es,p e=false):fidx p es=-1:=by
 have:es.findIdx p=es.length:=List.findIdx_eq_length.2 hn
 unfold fidx
 rw[this,if_neg (by omega)]
theorem jjl {c:IV} {dom:Int×Int→Prop} {p:Int×Int→Bool} (hc:Clo c dom p) (es:List (Int×Int)) (hd:∀e∈es,dom e) (hl:es.length≤1048576):KP 247 [LE es,.i c] []=some (I (fidx p es),[],[]):=by
 obtain⟨hc1,hc2,hc3⟩:=hc
 refine gc func247 ?_
 have Fz:=fz1 results247
 repeat refine go1 ?_
 refine jaa (fun(i:Int) s=>s.ρ 0=LE es∧s.ρ 1=.i c∧s.ρ 7=I es.length∧s.ρ 8=I i∧0≤i∧i≤es.length∧∀e∈es.take i.toNat,p e=false) (fun i=>(es.length-i).toNat) 0 (by simp[upd]) ?_
 rintro i ⟨ρ,m⟩ ⟨h0,h1,h7,h8,hi0,hi,hp⟩
 simp only at h0 h1 h7 h8
 by_cases hj:i<es.length
 ·have hm:dom ((es.getD i.toNat (0,0)).1,(es.getD i.toNat (0,0)).2):=hd _ (jab (by omega))
  have Fz:=fz7 results247 h0 h1 h7 h8 hc3 hc1
  repeat'(first|refine go1 ?_|(refine go2 ?_ ?_<;>intro _<;>try omega))
  ·exact(kcl hi0 ‹_› ‹_› hp).symm
  ·refine⟨by omega,by omega,?_,by omega⟩
   rw[jae (0,0) hi0 ‹_›]
   grind
 ·have Fz:=fz7 results247 h0 h1 h7 h8 hc3 hc1
  repeat refine go1 ?_
  rw[j3u (by rwa [jac (by omega)] at hp)]
theorem j3v {p:Int×Int→Bool} {es:List (Int×Int)} (h:¬fidx p es=-1):0≤fidx p es∧fidx p es<es.length∧p (es.getD (fidx p es).toNat (0,0))=true∧es.filter (fun e=>!p e)=(es.take (fidx p es).toNat)++(es.drop ((fidx p es).toNat+1)).filter (fun e=>!p e)∧∀e∈es.take (fidx p es).toNat,p e=false:=by
 unfold fidx at h ⊢
 split at h
 ·rename_i hl
  rw[if_pos hl]
  have hp:p (es.getD (es.findIdx p) (0,0))=true:=by
   have:=List.findIdx_getElem (w:=hl)
   simpa[hl] using this
  have hn:∀e∈es.take (es.findIdx p),p e=false:=by
   intro e he
   rw[List.mem_take_iff_getElem] at he
   obtain⟨j,hj,rfl⟩:=he
   exact Bool.not_eq_true _▸List.not_of_lt_findIdx (by omega)
  refine⟨by omega,by omega,by simpa using hp,?_,by simpa using hn⟩
  simp only[Int.toNat_natCast]
  conv=>lhs;rw[←List.take_append_drop (es.findIdx p) es,List.filter_append]
  congr 1
  ·exact List.filter_eq_self.2 fun e he=>by simp[hn e he]
  ·rw[List.drop_eq_getElem_cons hl,List.filter_cons]
   have:p es[es.findIdx p]=true:=by simpa[hl] using hp
   simp[this]
 ·simp at h
theorem jz4 (p:Int×Int→Bool) (es:List (Int×Int)):-1≤fidx p es∧fidx p es<es.length:=by
 unfold fidx;split<;>omega
theorem j8h {p:Int×Int→Bool}:fidx p []=-1:=rfl
theorem jmy {c:IV} {dom:Int×Int→Prop} {p:Int×Int→Bool} (hc:Clo c dom p):KP 225 [.i .emp,.i c] []=some (.i .emp,[],[]):=by
 have hx:KP 247 [.i (.lst []),.i c] []=_:=jjl hc [] (by simp) (by simp)
 obtain⟨hc1,hc2,hc3⟩:=hc
 refine gc func225 ?_
 have Fz:=fz6 results225 hc1 hc2 hc3 hx @j8h
 repeat(first|exact trivial|refine go1 ?_)
theorem jox {c:IV} {dom:Int×Int→Prop} {p:Int×Int→Bool} (hc:Clo c dom p) (es:List (Int×Int)) (hdom:∀e∈es,dom e) (hl:es.length≤1048576):KP 225 [.ref 1000 0 0 es.length,.i c] [.arr 0 2 (es.map encE)]=
 some (.ref 1000 0 0 (es.filter fun e=>!p e).length,[.arr 0 2 ((es.filter (fun e=>!p e)++zE (es.length-(es.filter (fun e=>!p e)).length)).map encE)],[]):=by
 have hx:=jjl hc es hdom hl
 have hb:=jz4 p es
 obtain⟨hc1,hc2,hc3⟩:=hc
 refine gc func225 ?_
 have Fz:=fz5 results225 hc1 hc2 hc3 hx
 repeat'(first|refine go1 ?_|(refine go2 ?_ ?_<;>intro _<;>try omega))
 ·have hn:∀e∈es,p e=false:=by
   rename_i h
   intro e he
   unfold fidx at h
   split at h
   ·omega
   ·rename_i h2
    have:=List.findIdx_eq_length.1 (Nat.le_antisymm List.findIdx_le_length (Nat.le_of_not_lt h2))
    exact this e he
  have:es.filter (fun e=>!p e)=es:=List.filter_eq_self.2 fun e he=>by simp[hn e he]
  rw[this]
  simp[zE]
 ·rename_i h
  obtain⟨f0,f1,f2,f3,f4⟩:=j3v h
  generalize hk:fidx p es=k at *
  refine jaa (fun(x:Int×Int×List (Int×Int)) s=>s.m 1000=some (.arr 0 2 (x.2.2.map encE))∧s.ρ 0=.ref 1000 0 0 es.length∧s.ρ 1=.i c∧s.ρ 5=I x.1∧s.ρ 6=I x.2.1∧
   0≤x.1∧x.1<x.2.1∧x.2.1≤es.length∧x.2.2.length=es.length∧x.2.2.take x.1.toNat=(es.take x.2.1.toNat).filter (fun e=>!p e)∧x.2.2.drop x.2.1.toNat=es.drop x.2.1.toNat)
   (fun x=>(es.length-x.2.1).toNat) (k,k+1,es) (by
     refine⟨rfl,rfl,rfl,rfl,rfl,f0,by simp only;omega,by simp only;omega,rfl,?_,rfl⟩
     simp only
     rw[jae (0,0) f0 f1,List.filter_append]
     have:(es.take k.toNat).filter (fun e=>!p e)=es.take k.toNat:=List.filter_eq_self.2 fun e he=>by simp[f4 e he]
     rw[this,List.filter_cons_of_neg (by rw[f2];decide)]
     simp) ?_
  rintro⟨i,j,xs⟩ ⟨ρ,m⟩ ⟨m1,h0,h1,h5,h6,g0,g1,g2,g3,g4,g5⟩
  simp only at m1 h0 h1 h5 h6 g0 g1 g2 g3 g4 g5
  have hd:=jr1 (d:=(0,0)) g5
  by_cases hj:j<es.length
  ·have hm:dom ((xs.getD j.toNat (0,0)).1,(xs.getD j.toNat (0,0)).2):=by
    rw[hd];exact hdom _ (jab (by omega))
   have Fz:=fz8 results225 m1 h0 h1 h5 h6 hc3 hc1
   repeat'(first|refine go1 ?_|(refine go2 ?_ ?_<;>intro _<;>try omega))
   ·refine⟨by omega,by omega,by omega,by simpa using g3,?_,?_,by omega⟩
    ·rw[jtl g0 (by omega),jae (0,0) (by omega) (by omega),List.filter_append,g4]
     clear hm hc3
     simp_all
    ·rw[jrj (by omega) g0,jjq (by omega) g5]
   ·refine⟨by omega,by omega,by omega,g3,?_,jjq (by omega) g5,by omega⟩
    rw[g4,jae (0,0) (by omega) (by omega),List.filter_append]
    clear hm hc3
    simp_all
  ·have Fz:=fz8 results225 m1 h0 h1 h5 h6 hc3 hc1
   repeat refine go1 ?_
   rw[jac (l:=es) (by omega)] at g4
   have hi:i.toNat=(es.filter fun e=>!p e).length:=by rw[←g4];simp;omega
   rw[hi] at g4 ⊢
   have hle:=List.length_filter_le (fun e=>!p e) es
   rw[g4,List.drop_of_length_le (by omega)]
   simp
theorem juj (v:Int):Clo (.fn 208 [] [.eptr [.v (.int .i64 v)] 0]) (fun _=>True) (fun e=>decide (e.1=v∨e.2=v)):=by
 have h:∀x y:Int,KP 208 [PE x y,.i (.eptr [.v (.int .i64 v)] 0)] []=some (B (decide (x=v∨y=v)),[],[]):=by
  intro x y
  refine gc func208 ?_
  have Fz:=fz1 results208
  repeat'(first|refine go1 ?_|(refine go4 ?_;split<;>first|omega|refine go3 ?_|skip))
  all_goals simp_all
 refine⟨fun n=>by cases n<;>rfl,rfl,fun me d x y _=>?_⟩
 simp only[go_sem,↓reduceIte,Int.reduceLE,Int.reduceLT,Int.reduceToNat,Int.reduceNeg,Int.reduceAdd,Int.reduceSub,Int.reduceMul,Int.reduceEq,Int.reduceNe,Nat.reduceEqDiff,Nat.reduceAdd,Nat.reduceSub,Nat.reduceMul,Nat.reduceLT,Nat.reduceLeDiff,Nat.reduceBEq,Nat.reduceBNe,UInt8.reduceToNat,h,ite_self]
def delE (p:Int×Int→Bool) (es:List (Int×Int)):IV:=if es=[] then .emp else .lst ((es.filter fun e=>!p e).map encE)
def delA (p:Int×Int→Bool) (es:List (Int×Int)):List Arr:=if es=[] then [] else [.arr 0 2 ((es.filter (fun e=>!p e)++zE (es.length-(es.filter (fun e=>!p e)).length)).map encE)]
def delP (p:Int×Int→Bool) (es:List (Int×Int)):PV:=if es=[] then .i .emp else .ref 2000 0 0 (es.filter fun e=>!p e).length
theorem jdd {P:Program} {cf:Cfg} {f:FuncId} {g:List PV→List Arr→Option (PV×List Arr×List Arr)} {args:List PV} {ps:List Arr} {r:PV×List Arr×List Arr} (h:cf.prim f=some g) (h2:g args ps=some r):KK P cf f args ps=some r:=
 keq (.all fun n=>by show jda P cf (exec P cf n) f args ps=some r;unfold jda primC;rw[h];simp only[h2])
@[go_sem] theorem j1t:KP 198 [.i (.lst [])] []=some (.i .emp,[],[]):=jdd rfl rfl
theorem jow (es:List (Int×Int)) (h:es≠[]) (hl:es.length≤1048576):KP 198 [LE es] []=some (.ref 2000 0 0 es.length,[],[.arr 0 2 (es.map encE)]):=by
 have hp:primC cfg 198 [LE es] []=none:=by
  cases es with
  | nil=>exact absurd rfl h
  | cons e r=>rfl
 have hm:es.map encE≠[]:=by simpa using h
 refine gp hp func198 ?_
 have Fz:=fz2 results198 hm
 repeat(first|exact trivial|refine go1 ?_)
theorem jhy {c:IV} {dom:Int×Int→Prop} {p:Int×Int→Bool} (hc:Clo c dom p) (n:Int) (es:List (Int×Int)) (hdom:∀e∈es,dom e) (hl:es.length≤1048576):KP 185 [GL n es,.i c] []=some (.agg [I n,delP p es],[],delA p es):=by
 by_cases he:es=[]
 ·subst he
  have hd:=jmy hc
  obtain⟨hc1,hc2,hc3⟩:=hc
  refine gc func185 ?_
  have Fz:=fz6 results185 hc1 hc2 hc3 hd @LE.eq_1
  repeat refine go1 ?_
  exact⟨rfl,rfl⟩
 ·have hd:=jox hc es hdom hl
  have hcl:=jow es he hl
  obtain⟨hc1,hc2,hc3⟩:=hc
  refine gc func185 ?_
  have Fz:=fz6 results185 hc1 hc2 hc3 hd hcl
  repeat refine go1 ?_
  simp[delP,delA,he]
theorem j4i {p:Int×Int→Bool} {es:List (Int×Int)} {n:Nat}:imm (n+1) (delA p es) (delP p es)=some (.i (delE p es)):=by
 unfold delA delP delE
 split
 ·rfl
 ·simp[imm,imm1]
theorem j38 {p:Int×Int→Bool} {es:List (Int×Int)} {n:Nat}:frz n (.i (delE p es))=.ret (.lst ((es.filter fun e=>!p e).map encE)):=by
 unfold delE
 split
 ·rename_i h;subst h;cases n<;>rfl
 ·cases n<;>rfl
theorem jww {p:Int×Int→Bool} {es:List (Int×Int)}:(delE p es).flat=true:=by unfold delE;split<;>rfl
theorem jxq {p:Int×Int→Bool} {es:List (Int×Int)}:lenP (.i (delE p es))=some (es.filter fun e=>!p e).length:=by
 unfold delE
 split
 ·rename_i h;subst h;rfl
 ·simp[lenP]
theorem j4h {p:Int×Int→Bool} {es:List (Int×Int)} {el:TypeId} {n:Int} (h0:0≤n) (h:n<(es.filter fun e=>!p e).length) :
 iaR prog (some (.slice el)) (some n) (.i (delE p es))=iaR prog (some (.slice el)) (some n) (.i (.lst ((es.filter fun e=>!p e).map encE))):=by
 unfold delE
 split
 ·rename_i he;subst he;simp at h;omega
 ·rfl
theorem j3y {v:Nat} {es:List (Int×Int)}:ji6 (.arr v 2 (es.map encE))=true:=by simp[ji6,encE,jd5]
theorem kcm {v:Nat} {xs:List Int}:ji6 (.arr v 1 (xs.map encI))=true:=by simp[ji6,encI,jd5]
theorem j33 {p:Int×Int→Bool} {es:List (Int×Int)} {n:Nat}:flatP (n+1) (delP p es)=true:=by unfold delP;split<;>rfl
theorem j3z {p:Int×Int→Bool} {es:List (Int×Int)}:(delA p es).all ji6=true:=by
 unfold delA
 split
 ·rfl
 ·simp only[List.all_cons,List.all_nil,j3y,Bool.and_self]
attribute [go_sem] j4i j38 jww jxq j4h j3y kcm j33 j3z
theorem jky (n v:Int) (es:List (Int×Int)) (hl:es.length≤1048576):KP 151 [GL n es,I v] []=some (.agg [I n,.i (delE (fun e=>decide (e.1=v∨e.2=v)) es)],[],[]):=by
 have hw:=jhy (juj v) n es (fun _ _=>trivial) hl
 refine gc func151 ?_
 have Fz:=fz2 results151 hw
 repeat(first|exact trivial|refine go1 ?_)
theorem jho (v:Int) (es:List (Int×Int)):(es.filter fun e=>!decide (e.1=v∨e.2=v))=alone v es:=by
 unfold alone
 congr 1
 funext e
 by_cases h1:e.1=v<;>by_cases h2:e.2=v<;>simp[h1,h2]
def nbL (v:Int) (es:List (Int×Int)):List Int:=es.filterMap fun e=>if v=e.1 then some e.2 else if v=e.2 then some e.1 else none
def jje (xs:List Int):List Int:=xs.mergeSort fun a b=>decide (a≤b)
def nbS (v:Int) (es:List (Int×Int)):List Int:=jje (nbL v es)
theorem jpv (v:Int) (es:List (Int×Int)) (e:Int×Int):nbL v (es++[e])=nbL v es++if v=e.1 then [e.2] else if v=e.2 then [e.1] else []:=by
 unfold nbL
 rw[List.filterMap_append]
 congr 1
 by_cases h1:v=e.1
 ·rw[List.filterMap_cons,if_pos h1,if_pos h1];rfl
 ·by_cases h2:v=e.2
  ·rw[List.filterMap_cons,if_neg h1,if_neg h1,if_pos h2,if_pos h2];rfl
  ·rw[List.filterMap_cons,if_neg h1,if_neg h1,if_neg h2,if_neg h2];rfl
theorem joi (xs:List Int):kd6 (xs.map encI)=(jje xs).map encI:=by
 unfold kd6 jje
 rw[List.map_mergeSort]
 intro a _ b _
 rfl
theorem jf6 (xs:List Int):(jje xs).length=xs.length:=List.length_mergeSort _
@[go_sem] theorem khe (xs:List Int) (n:Nat) (h:n=xs.length) (hl:xs.length≤4000000):KP 207 [.ref 1000 0 0 n] [.arr 0 1 (xs.map encI)]=some (.tup [],[.arr 0 1 ((jje xs).map encI)],[]):=by
 refine jdd rfl ?_
 have:(xs.map encI).all j4z=true:=by simp[encI,j4z]
 simp only[kab,List.length_map,h,hl,this,and_self,if_true,joi]
theorem jb8 (n v:Int) (es:List (Int×Int)) (hl:es.length≤1048576):KP 148 [GL n es,I v] []=some (.ref 2000 0 0 (nbS v es).length,[],[.arr 0 1 ((nbS v es).map encI)]):=by
 refine gc func148 ?_
 have Fz:=fz1 results148
 repeat refine go1 ?_
 refine jaa (fun(x:Int×Nat×List Int) s=>s.m 8=some (.arr x.2.1 1 (x.2.2.map encI))∧s.ρ 5=.ref 8 x.2.1 0 x.2.2.length∧s.ρ 12=I x.1∧s.ρ 1=I v∧s.ρ 10=LE es∧s.ρ 11=I es.length∧
  0≤x.1∧x.1≤es.length∧(x.2.2.length:Int)≤x.1∧x.2.2=nbL v (es.take x.1.toNat)) (fun x=>(es.length-x.1).toNat) (0,0,[]) (by simp[upd,nbL]) ?_
 rintro⟨i,w,xs⟩ ⟨ρ,m⟩ ⟨m8,h5,h12,h1,h10,h11,g0,g1,g2,g3⟩
 simp only at m8 h5 h12 h1 h10 h11 g0 g1 g2 g3
 have Fz:=fz7 results148 m8 h5 h12 h1 h10 h11
 repeat'(first|refine go1 ?_|(refine go2 ?_ ?_<;>intro _<;>try omega))
 ·refine⟨by omega,by omega,by omega,?_,by omega⟩
  rw[jae (0,0) g0 (by omega),jpv,←g3,if_pos (by assumption)]
 ·refine⟨by omega,by omega,by omega,?_,by omega⟩
  rw[jae (0,0) g0 (by omega),jpv,←g3,if_neg (by assumption),if_pos (by assumption)]
 ·refine⟨by omega,by omega,by omega,?_,by omega⟩
  rw[jae (0,0) g0 (by omega),jpv,←g3,if_neg (by assumption),if_neg (by assumption),List.append_nil]
 ·rw[jac (by omega)] at g3
  rw[g3]
  exact⟨(jf6 _).symm,rfl⟩
def pcs (c:UInt8):List UInt8→List (List UInt8)
 | []=>[[]]
 | b::r=>if b=c then []::pcs c r else
  match pcs c r with
  | []=>[[b]]
  | p::q=>(b::p)::q
theorem jx0 (c:UInt8) (l:List UInt8):pcs c l≠[]:=by
 cases l with
 | nil=>simp[pcs]
 | cons b r=>
  unfold pcs
  split
  ·simp
  ·split<;>simp
theorem jmd {c:UInt8}:∀{a:List UInt8} (b:List UInt8),c∉a→pcs c (a++c::b)=a::pcs c b
 | [],b,_=>by simp[pcs]
 | x::a,b,h=>by
  simp only[List.mem_cons,not_or] at h
  rw[List.cons_append,pcs,if_neg (fun e=>h.1 e.symm),jmd b h.2]
theorem jfa {c:UInt8}:∀{a:List UInt8},c∉a→pcs c a=[a]
 | [],_=>rfl
 | x::a,h=>by
  simp only[List.mem_cons,not_or] at h
  rw[pcs,if_neg (fun e=>h.1 e.symm),jfa h.2]
def ixB (c:UInt8) (l:List UInt8):Int:=if c∈l then(l.idxOf c:Int) else -1
theorem kfz {c:UInt8} {l:List UInt8} {i:Nat} (h:l[i]?=some c) (hn:c∉l.take i):ixB c l=i:=by
 have hm:c∈l:=List.mem_of_getElem? h
 unfold ixB
 rw[if_pos hm]
 have key:∀(l:List UInt8) (i:Nat),l[i]?=some c→c∉l.take i→l.idxOf c=i:=by
  intro l
  induction l with
  | nil=>intro i h;simp at h
  | cons x r ih=>
   intro i h hn
   cases i with
   | zero=>simp at h;subst h;simp
   | succ i=>
    simp only[List.take_succ_cons,List.mem_cons,not_or] at hn
    have hx:(x == c)=false:=by simpa using fun e=>hn.1 e.symm
    rw[List.idxOf_cons,hx,ih i (by simpa using h) hn.2];rfl
 rw[key l i h hn]
theorem j84 {c:UInt8} {l:List UInt8} (h:c∉l):ixB c l=-1:=if_neg h
theorem jxn {c:UInt8} {l:List UInt8}:ixB c l<l.length∧-1≤ixB c l:=by
 unfold ixB
 split
 ·rename_i h
  have:=List.idxOf_lt_length_of_mem h
  omega
 ·omega
theorem jsb {c:UInt8} {l:List UInt8} (h:0≤ixB c l):c∉l.take (ixB c l).toNat∧l=l.take (ixB c l).toNat++c::l.drop ((ixB c l).toNat+1):=by
 have hm:c∈l:=by
  unfold ixB at h
  split at h
  ·assumption
  ·omega
 have e:(ixB c l).toNat=l.idxOf c:=by unfold ixB;rw[if_pos hm];omega
 rw[e]
 have key:∀l:List UInt8,c∈l→c∉l.take (l.idxOf c)∧l=l.take (l.idxOf c)++c::l.drop (l.idxOf c+1):=by
  intro l
  induction l with
  | nil=>intro h;simp at h
  | cons x r ih=>
   intro h
   by_cases hx:x=c
   ·subst hx;simp
   ·have hb:(x == c)=false:=by simpa using hx
    have hr:c∈r:=by
     rcases List.mem_cons.1 h with h|h
     ·exact absurd h.symm hx
     ·exact h
    obtain⟨h1,h2⟩:=ih hr
    have e0:(x::r).idxOf c=r.idxOf c+1:=by rw[List.idxOf_cons,hb];rfl
    rw[e0]
    refine⟨?_,?_⟩
    ·rw[List.take_succ_cons,List.mem_cons,not_or]
     exact⟨fun e=>hx e.symm,h1⟩
    ·rw[List.take_succ_cons,List.drop_succ_cons,List.cons_append,←h2]
 exact key l hm
theorem kcz {c:UInt8} {l:List UInt8} (h:ixB c l<0):c∉l:=by
 intro hm
 unfold ixB at h
 rw[if_pos hm] at h
 omega
theorem j93 {c:UInt8} {l:List UInt8} (h:0≤ixB c l):pcs c l=l.take (ixB c l).toNat::pcs c (l.drop ((ixB c l).toNat+1)):=by
 obtain⟨h1,h2⟩:=jsb h
 generalize ixB c l=i at *
 rw[←jmd _ h1,←h2]
theorem kdp {c:UInt8} {l:List UInt8} (h:ixB c l<0):pcs c l=[l]:=jfa (kcz h)
theorem jpy {c:UInt8}:∀(l:List UInt8),(pcs c l).length=l.count c+1
 | []=>by simp[pcs]
 | b::r=>by
  have ih:=jpy (c:=c) r
  unfold pcs
  split
  ·rename_i h
   subst h
   simp[ih]
  ·rename_i h
   have hb:¬(b == c)=true:=by simpa using h
   rw[List.count_cons,if_neg hb,Nat.add_zero,←ih]
   have:=jx0 c r
   split
   ·rename_i e;exact absurd e this
   ·rename_i p q e;simp[e]
theorem jsv {c:UInt8} (l:List UInt8):(pcs c l).length≤l.length+1:=by
 rw[jpy]
 have:=List.count_le_length (a:=c) (l:=l)
 omega
theorem jdz {c:UInt8}:∀(l:List UInt8),∀p∈pcs c l,p.length≤l.length
 | [],p,h=>by simp[pcs] at h;subst h;simp
 | b::r,p,h=>by
  have ih:=jdz (c:=c) r
  unfold pcs at h
  split at h
  ·rcases List.mem_cons.1 h with rfl|h
   ·simp
   ·have:=ih p h;simp;omega
  ·split at h
   ·simp at h;subst h;simp
   ·rename_i p' q e
    rcases List.mem_cons.1 h with rfl|h
    ·have:=ih p' (by rw[e];simp);simp;omega
    ·have:=ih p (by rw[e];simp[h]);simp;omega
theorem jbj {n:Nat}:1≤(dec2 n).length∧(dec2 n).length≤2:=by unfold dec2;split<;>simp
theorem j77 {n:Nat} (h:n<100):∀b∈dec2 n,48≤b.toNat∧b.toNat≤57:=by
 have key:∀n:Fin 100,∀b∈dec2 n.1,48≤b.toNat∧b.toNat≤57:=by decide
 exact key ⟨n,h⟩
theorem j23 {n:Nat} (h:n<100):Lib.atoi (dec2 n)=some n:=by
 have key:∀n:Fin 100,Lib.atoi (dec2 n.1)=some (n.1:Int):=by decide
 exact key ⟨n,h⟩
theorem ji5 {n:Nat} (h:n<100) {c:UInt8} (hc:c.toNat<48):c∉dec2 n:=fun hm=>by
 have:=j77 h c hm
 omega
abbrev dgt (n:Int):List UInt8:=dec2 n.toNat
def jaw (l:List Int):List UInt8:=l.flatMap fun n=>32::dgt n
def edT (e:Int×Int):List UInt8:=dgt e.1++45::dgt e.2
def edsT (l:List (Int×Int)):List UInt8:=l.flatMap fun e=>32::edT e
def fmtG (n:Int) (es:List (Int×Int)):List UInt8:=dgt n++edsT es
def smallL (l:List Int):Prop:=∀n∈l,0≤n∧n<100
def smallE (l:List (Int×Int)):Prop:=∀e∈l,(0≤e.1∧e.1<100)∧0≤e.2∧e.2<100
theorem j0g (n:Int) (l:List Int):jaw (n::l)=32::(dgt n++jaw l):=by simp[jaw]
theorem jn9 (n:Int) (l:List Int):jaw (l++[n])=jaw l++32::dgt n:=by simp[jaw]
theorem j8e:edsT []=[]:=rfl
theorem jrl (e:Int×Int) (l:List (Int×Int)):edsT (e::l)=32::(edT e++edsT l):=by simp[edsT]
theorem jlj (e:Int×Int) (l:List (Int×Int)):edsT (l++[e])=edsT l++32::edT e:=by simp[edsT]
theorem jas:∀l:List Int,(jaw l).length≤3*l.length
 | []=>by simp[jaw]
 | n::l=>by
  have:=jas l
  have:(dgt n).length≤2:=(jbj (n:=n.toNat)).2
  rw[j0g];simp only[List.length_cons,List.length_append];omega
theorem jpn (e:Int×Int):3≤(edT e).length∧(edT e).length≤5:=by
 have h1:1≤(dgt e.1).length∧(dgt e.1).length≤2:=jbj (n:=e.1.toNat)
 have h2:1≤(dgt e.2).length∧(dgt e.2).length≤2:=jbj (n:=e.2.toNat)
 unfold edT;simp only[List.length_cons,List.length_append];omega
theorem ja6:∀l:List (Int×Int),(edsT l).length≤6*l.length
 | []=>by simp[edsT]
 | e::l=>by
  have:=ja6 l
  have:=(jpn e).2
  rw[jrl];simp only[List.length_cons,List.length_append];omega
theorem je5 (n:Int) (es:List (Int×Int)):1≤(fmtG n es).length∧(fmtG n es).length≤6*es.length+2:=by
 have h1:1≤(dgt n).length∧(dgt n).length≤2:=jbj (n:=n.toNat)
 have h2:=ja6 es
 unfold fmtG;simp only[List.length_append];omega
theorem kfp {e:Int×Int} (h:(0≤e.1∧e.1<100)∧0≤e.2∧e.2<100) {c:UInt8} (hc:c.toNat<48) (h45:c≠45):c∉edT e:=by
 unfold edT
 simp only[List.mem_append,List.mem_cons,not_or]
 exact⟨ji5 (by omega) hc,h45,ji5 (by omega) hc⟩
theorem j5q:∀{l:List (Int×Int)} (a:List UInt8),smallE l→(32:UInt8)∉a→pcs 32 (a++edsT l)=a::l.map edT
 | [],a,_,ha=>by rw[j8e,List.append_nil,jfa ha];rfl
 | e::l,a,h,ha=>by
  have he:=h e (by simp)
  rw[jrl,jmd _ ha,j5q (edT e) (fun x hx=>h x (by simp[hx])) (kfp he (by decide) (by decide))]
  rfl
theorem jxz {n:Int} {es:List (Int×Int)} (hn:0≤n∧n<100) (h:smallE es):pcs 32 (fmtG n es)=dgt n::es.map edT:=
 j5q _ h (ji5 (by omega) (by decide))
section
def eqS:List UInt8→List UInt8→Bool
 | [],[]=>true
 | a::x,b::y=>(a.toNat == b.toNat) && eqS x y
 | _,_=>false
theorem jrp:∀{a b:List UInt8},eqS a b=decide (a=b)
 | [],[]=>by simp[eqS]
 | [],b::y=>by simp[eqS]
 | a::x,[]=>by simp[eqS]
 | a::x,b::y=>by
  rw[eqS,jrp (a:=x) (b:=y),Bool.eq_iff_iff]
  simp only[Bool.and_eq_true,beq_iff_eq,decide_eq_true_eq,List.cons.injEq]
  exact⟨fun h=>⟨UInt8.toNat_inj.1 h.1,h.2⟩,fun h=>⟨by rw[h.1],h.2⟩⟩
theorem j8f {a:List UInt8}:eqS a a=true:=by rw[jrp];simp
theorem ja2 {a b:List UInt8} (h:a≠b):eqS a b=false:=by rw[jrp];simp[h]
theorem kft:eqS [] []=true:=rfl
theorem kfs {b:UInt8} {y:List UInt8}:eqS [] (b::y)=false:=rfl
theorem kfr {b:UInt8} {y:List UInt8}:eqS (b::y) []=false:=rfl
theorem kfq {a b:UInt8} {x y:List UInt8}:eqS (a::x) (b::y)=((a.toNat == b.toNat) && eqS x y):=rfl
theorem jor {l:List UInt8}:(ByteArray.mk l.toArray).size=l.length:=by simp[ByteArray.size]
theorem ke5 {a b:List UInt8}:(ByteArray.mk a.toArray++ByteArray.mk b.toArray)=ByteArray.mk (a++b).toArray:=by
 apply ByteArray.ext
 simp
theorem ke6 {a:List UInt8} {i j:Nat}:(ByteArray.mk a.toArray).extract i j=ByteArray.mk ((a.drop i).take (j-i)).toArray:=by
 apply ByteArray.ext
 simp[ByteArray.data_extract]
theorem ke7 {a:List UInt8} {i:Nat}:(ByteArray.mk a.toArray)[i]?=a[i]?:=by
 rw[show(ByteArray.mk a.toArray)[i]?=(ByteArray.mk a.toArray).data[i]? from by
  simp only[getElem?_def]
  rfl]
 simp
theorem j1m {a:List UInt8}:(ByteArray.mk a.toArray).toList=a:=by
 rw[ByteArray.toList_eq]
section
variable {P:Program} {t:TypeId} {a b:List UInt8}
theorem j1f (h:a.length+b.length≤1000000000):binV P .add t (S a) (S b)=some (.string ⟨(a++b).toArray⟩):=by
 have h2:¬(((ByteArray.mk a.toArray).size+(ByteArray.mk b.toArray).size:Nat):Int) > IntKind.i64.max:=by
  rw[jor,jor]
  show ¬_ > (9223372036854775807:Int)
  omega
 simp only[binV,binOp,Op.stringOp,if_neg h2,ke5]
 rfl
theorem j1g:binV P .eql t (S a) (S b)=some (.bool (eqS a b)):=by
 have:(a == b)=decide (a=b):=by rw[Bool.eq_iff_iff];simp
 simp only[binV,binOp,Op.stringOp,j1m,jrp,this]
 rfl
theorem j1i:binV P .neq t (S a) (S b)=some (.bool (!eqS a b)):=by
 have:(a == b)=decide (a=b):=by rw[Bool.eq_iff_iff];simp
 simp only[binV,binOp,Op.stringOp,j1m,jrp,this]
 rfl
end
def encS (l:List UInt8):List IV:=[.v (.string ⟨l.toArray⟩)]
theorem getS (xs:List (List UInt8)) (i:Nat) (h:i<xs.length):(xs.map encS)[i]?=some [.v (.string ⟨(xs.getD i []).toArray⟩)]:=by
 simp[encS,h]
theorem appS (xs:List (List UInt8)) (x:List UInt8):xs.map encS++[[.v (.string ⟨x.toArray⟩)]]=(xs++[x]).map encS:=by simp[encS]
attribute [go_sem] j8f kft kfs kfr kfq jor ke6 ke7 j1f j1g j1i
end
def Adj (es:List (Int×Int)) (x y:Int):Prop:=(x,y)∈es∨(y,x)∈es
theorem Adj.symm {es:List (Int×Int)} {x y:Int} (h:Adj es x y):Adj es y x:=h.elim .inr .inl
inductive Conn (es:List (Int×Int)):Int→Int→Prop
 | refl (x:Int):Conn es x x
 | step {x y z:Int} (h:Conn es x y) (a:Adj es y z):Conn es x z
noncomputable instance decConn (es:List (Int×Int)) (x y:Int):Decidable (Conn es x y):=Classical.propDecidable _
theorem Conn.of {es:List (Int×Int)} {x y:Int} (h:Adj es x y):Conn es x y:=.step (.refl x) h
theorem Conn.trans {es:List (Int×Int)} {x y z:Int} (h:Conn es x y) (k:Conn es y z):Conn es x z:=by
 induction k with
 | refl=>exact h
 | step _ a ih=>exact .step ih a
theorem Conn.symm {es:List (Int×Int)} {x y:Int} (h:Conn es x y):Conn es y x:=by
 induction h with
 | refl=>exact .refl _
 | step _ a ih=>exact(Conn.of a.symm).trans ih
theorem Adj.mono {es fs:List (Int×Int)} (hs:∀e∈es,e∈fs) {x y:Int} (h:Adj es x y):Adj fs x y:=h.elim (fun h=>.inl (hs _ h)) fun h=>.inr (hs _ h)
theorem Conn.mono {es fs:List (Int×Int)} (hs:∀e∈es,e∈fs) {x y:Int} (h:Conn es x y):Conn fs x y:=by
 induction h with
 | refl=>exact .refl _
 | step _ a ih=>exact .step ih (a.mono hs)
theorem Adj.ok {n:Int} {es:List (Int×Int)} (ho:∀e∈es,okE n e) {x y:Int} (h:Adj es x y):0≤x∧x<n∧0≤y∧y<n∧x≠y:=by
 rcases h with h|h
 ·have:=ho _ h;unfold okE at this;simp only at this;omega
 ·have:=ho _ h;unfold okE at this;simp only at this;omega
theorem Conn.ok {n:Int} {es:List (Int×Int)} (ho:∀e∈es,okE n e) {x y:Int} (h:Conn es x y):x=y∨(0≤x∧x<n∧0≤y∧y<n):=by
 induction h with
 | refl=>exact .inl rfl
 | step _ a ih=>
  have:=a.ok ho
  rcases ih with rfl|ih
  ·exact .inr ⟨by omega,by omega,by omega,by omega⟩
  ·exact .inr ⟨by omega,by omega,by omega,by omega⟩
theorem Conn.closed {es:List (Int×Int)} {p:Int→Prop} (hp:∀x y,Adj es x y→p x→p y) {x y:Int} (h:Conn es x y) (hx:p x):p y:=by
 induction h with
 | refl=>exact hx
 | step _ a ih=>exact hp _ _ a ih
def Rk (es:List (Int×Int)) (x:Int):Nat→Int→Prop
 | 0,y=>y=x
 | k+1,y=>Rk es x k y∨∃z,Rk es x k z∧Adj es z y
theorem Rk.conn {es:List (Int×Int)} {x:Int}:∀{k:Nat} {y:Int},Rk es x k y→Conn es x y
 | 0,y,h=>by cases h;exact .refl _
 | k+1,y,h=>by
  rcases h with h | ⟨z,h,a⟩
  ·exact h.conn
  ·exact .step h.conn a
theorem Rk.self {es:List (Int×Int)} {x:Int}:∀k,Rk es x k x
 | 0=>rfl
 | k+1=>.inl (Rk.self k)
theorem jlr {α:Type} {p q:α→Bool}:∀{l:List α},(∀x∈l,p x=true→q x=true)→(∃x∈l,q x=true∧p x=false)→(l.filter p).length<(l.filter q).length
 | [],_,⟨x,hx,_⟩=>by simp at hx
 | y::l,h,⟨x,hx,hq,hp⟩=>by
  have hle:(l.filter p).length≤(l.filter q).length:=by
   clear hx
   have h':=fun x hx=>h x (List.mem_cons_of_mem _ hx)
   clear h
   induction l with
   | nil=>simp
   | cons z l ih=>
    have:=ih fun x hx=>h' x (List.mem_cons_of_mem _ hx)
    simp only[List.filter_cons]
    cases hpz:p z
    ·simp only[Bool.false_eq_true,if_false];split<;>simp<;>omega
    ·rw[h' z (by simp) hpz];simp only[if_true,List.length_cons];omega
  rcases List.mem_cons.1 hx with rfl|hx
  ·simp only[List.filter_cons,hp,hq,Bool.false_eq_true,if_false,if_true,List.length_cons];omega
  ·have ih:=jlr (l:=l) (fun x hx=>h x (List.mem_cons_of_mem _ hx)) ⟨x,hx,hq,hp⟩
   simp only[List.filter_cons]
   cases hpz:p y
   ·simp only[Bool.false_eq_true,if_false];split<;>simp<;>omega
   ·rw[h y (by simp) hpz];simp only[if_true,List.length_cons];omega
open Classical in
theorem Rk.all {n:Nat} {es:List (Int×Int)} (ho:∀e∈es,okE n e) {x y:Int} (h:Conn es x y):Rk es x n y:=by
 let c:=fun k=>((List.range n).filter fun i=>decide (Rk es x k (i:Nat))).length
 have key:∀k,k+1≤c k∨(∀y z,Rk es x k y→Adj es y z→Rk es x k z):=by
  intro k
  induction k with
  | zero=>
   by_cases hx:0≤x∧x<n
   ·left
    have:x.toNat∈(List.range n).filter fun i=>decide (Rk es x 0 (i:Nat)):=by
     simp only[List.mem_filter,List.mem_range,decide_eq_true_eq]
     exact⟨by omega,by show((x.toNat:Nat):Int)=x;omega⟩
    have:=List.length_pos_of_mem this
    exact this
   ·right
    intro y z hy a
    have:=a.ok ho
    have hy':y=x:=hy
    omega
  | succ k ih=>
   by_cases hcl:∀y z,Rk es x k y→Adj es y z→Rk es x k z
   ·right
    intro y z hy a
    have hy':Rk es x k y:=by
     rcases hy with h | ⟨u,h,b⟩
     ·exact h
     ·exact hcl _ _ h b
    exact .inl (hcl _ _ hy' a)
   ·rcases ih with ih|ih
    ·left
     have hlt:c k<c (k+1):=by
      refine jlr (fun i _ hi=>?_) ?_
      ·simp only[decide_eq_true_eq] at hi ⊢
       exact .inl hi
      ·refine byContradiction fun hno=>hcl fun y z hy a=>byContradiction fun hz=>hno ?_
       have:=a.ok ho
       refine⟨z.toNat,List.mem_range.2 (by omega),?_,?_⟩
       ·simp only[decide_eq_true_eq,Int.toNat_of_nonneg (show 0≤z by omega)]
        exact .inr ⟨y,hy,a⟩
       ·simp only[decide_eq_false_iff_not,Int.toNat_of_nonneg (show 0≤z by omega)]
        exact hz
     omega
    ·exact absurd ih hcl
 have hn:c n≤n:=by
  have:=List.length_filter_le (fun i=>decide (Rk es x n ((i:Nat):Int))) (List.range n)
  simpa using this
 rcases key n with h1|h1
 ·omega
 ·refine h.closed (p:=fun y=>Rk es x n y) (fun y z a hy=>h1 y z hy a) ?_
  exact Rk.self n
open Classical in
noncomputable def least (es:List (Int×Int)) (x:Nat):Nat:=((List.range (x+1)).find? fun y=>decide (Conn es (y:Nat) (x:Nat))).getD x
theorem jaz (es:List (Int×Int)) (x:Nat):least es x≤x∧Conn es (least es x:Nat) (x:Nat)∧∀y:Nat,y<least es x→¬Conn es (y:Nat) (x:Nat):=by
 unfold least
 cases h:(List.range (x+1)).find? fun y=>@decide (Conn es (y:Nat) (x:Nat)) (Classical.propDecidable _) with
 | none=>
  rw[List.find?_eq_none] at h
  exact absurd (Conn.refl (x:Int)) (by simpa using h x (by simp))
 | some y=>
  rw[List.find?_range_eq_some] at h
  obtain⟨h1,h2,h3⟩:=h
  simp only[decide_eq_true_eq] at h1
  refine⟨?_,h1,fun z hz=>by simpa using h3 z hz⟩
  have:=List.mem_range.1 h2
  simp only[Option.getD_some];omega
noncomputable def lab (n:Int) (es:List (Int×Int)):List Int:=(List.range n.toNat).map fun x=>((least es x:Nat):Int)
theorem jap (n:Int) (es:List (Int×Int)):(lab n es).length=n.toNat:=by simp[lab]
theorem jee {n:Int} {es:List (Int×Int)} {x:Nat} (h:x<n.toNat):(lab n es).getD x 0=(least es x:Nat):=by simp[lab,h]
theorem jer {es:List (Int×Int)} {x y:Nat} (h:Conn es (x:Nat) (y:Nat)):least es x=least es y:=by
 obtain⟨h1,h2,h3⟩:=jaz es x
 obtain⟨k1,k2,k3⟩:=jaz es y
 rcases Nat.lt_trichotomy (least es x) (least es y) with e|e | e
 ·exact absurd (h2.trans h) (k3 _ e)
 ·exact e
 ·exact absurd (k2.trans h.symm) (h3 _ e)
theorem jl0 {es:List (Int×Int)} {x y:Nat}:least es x=least es y↔Conn es (x:Nat) (y:Nat):=by
 refine⟨fun h=>?_,jer⟩
 have h1:=(jaz es x).2.1
 have h2:=(jaz es y).2.1
 rw[h] at h1
 exact h1.symm.trans h2
theorem jfz {n:Int} {es:List (Int×Int)} {x y:Int} (hx:0≤x∧x<n) (hy:0≤y∧y<n):(lab n es).getD x.toNat 0=(lab n es).getD y.toNat 0↔Conn es x y:=by
 rw[jee (by omega),jee (by omega)]
 have:=@jl0 es x.toNat y.toNat
 rw[Int.toNat_of_nonneg hx.1,Int.toNat_of_nonneg hy.1] at this
 rw[←this];omega
def Snd (n:Int) (es:List (Int×Int)) (out:List Int):Prop:=out.length=n.toNat∧∀x:Nat,x<n.toNat→∃y:Nat,out.getD x 0=y∧y≤x∧Conn es (y:Nat) (x:Nat)
theorem Snd.ge {n:Int} {es:List (Int×Int)} {out:List Int} (h:Snd n es out) {x:Nat} (hx:x<n.toNat):(least es x:Nat)≤out.getD x 0:=by
 obtain⟨y,h1,h2,h3⟩:=h.2 x hx
 rw[h1]
 have:=(jaz es x).2.2 y
 refine Int.ofNat_le.2 (Nat.le_of_not_lt fun hl=>this hl h3)
theorem j44 {n:Int} {es:List (Int×Int)} {out:List Int} (h:Snd n es out) (hle:∀x:Nat,x<n.toNat→out.getD x 0≤(least es x:Nat)):out=lab n es:=by
 refine List.ext_getElem (by rw[h.1,jap]) fun i h1 h2=>?_
 have hi:i<n.toNat:=by rw[←h.1];exact h1
 have a:=hle i hi
 have b:=h.ge hi
 have e1:out.getD i 0=out[i]:=by simp[h1]
 have e2:(lab n es).getD i 0=(lab n es)[i]:=by simp[h2]
 rw[←e1,←e2,jee hi];omega
theorem jxo {n:Int} {es:List (Int×Int)} {out:List Int} (ho:∀e∈es,okE n e) (h:Snd n es out) (he:∀e∈es,out.getD e.1.toNat 0=out.getD e.2.toNat 0):out=lab n es:=by
 refine j44 h fun x hx=>?_
 obtain⟨h1,h2,h3⟩:=jaz es x
 have key:out.getD ((x:Nat):Int).toNat 0=out.getD ((least es x:Nat):Int).toNat 0:=by
  refine Conn.closed (p:=fun y=>out.getD y.toNat 0=out.getD ((least es x:Nat):Int).toNat 0) (fun y z a hy=>?_) h2 rfl
  rcases a with a|a
  ·exact(he _ a).symm.trans hy
  ·exact(he _ a).trans hy
 simp only[Int.toNat_natCast] at key
 rw[key]
 obtain⟨y,k1,k2,_⟩:=h.2 (least es x) (by omega)
 rw[k1];omega
def stepE (out:List Int) (e:Int×Int):List Int:=(out.set e.1.toNat (min (out.getD e.1.toNat 0) (out.getD e.2.toNat 0))).set e.2.toNat (min (out.getD e.1.toNat 0) (out.getD e.2.toNat 0))
def kf9 (es:List (Int×Int)) (out:List Int):List Int:=es.foldl stepE out
def iota (n:Int):List Int:=(List.range n.toNat).map fun x=>((x:Nat):Int)
def rounds (es:List (Int×Int)):Nat→List Int→List Int
 | 0,out=>out
 | k+1,out=>kf9 es (rounds es k out)
theorem jcq {l:List Int} {i j:Nat} {x d:Int} (h:j<l.length):(l.set i x).getD j d=if i=j then x else l.getD j d:=by
 simp only[List.getD,List.getElem?_set]
 split
 ·subst i;simp[h]
 ·rfl
theorem jik {n:Int} {out:List Int} {e:Int×Int} (hl:out.length=n.toNat) (ho:okE n e) {x:Nat} (hx:x<n.toNat) :
 (stepE out e).getD x 0=if x=e.1.toNat∨x=e.2.toNat then min (out.getD e.1.toNat 0) (out.getD e.2.toNat 0) else out.getD x 0:=by
 unfold stepE
 rw[jcq (by simp;omega),jcq (by omega)]
 by_cases h1:e.2.toNat=x
 ·rw[if_pos h1,if_pos (.inr h1.symm)]
 ·rw[if_neg h1]
  by_cases h2:e.1.toNat=x
  ·rw[if_pos h2,if_pos (.inl h2.symm)]
  ·rw[if_neg h2,if_neg (by omega)]
theorem jtf (out:List Int) (e:Int×Int):(stepE out e).length=out.length:=by simp[stepE]
theorem jp6 {n:Int} {out:List Int} {e:Int×Int} (hl:out.length=n.toNat) (ho:okE n e) {x:Nat} (hx:x<n.toNat):(stepE out e).getD x 0≤out.getD x 0:=by
 rw[jik hl ho hx]
 split
 ·rename_i h
  rcases h with rfl|rfl<;>omega
 ·omega
theorem j53 {n:Int} {es:List (Int×Int)} {out:List Int} {e:Int×Int} (ho:okE n e) (he:e∈es) (h:Snd n es out):Snd n es (stepE out e):=by
 refine⟨by rw[jtf,h.1],fun x hx=>?_⟩
 rw[jik h.1 ho hx]
 have ho':=ho
 unfold okE at ho'
 split
 ·rename_i hxe
  obtain⟨y1,a1,b1,c1⟩:=h.2 e.1.toNat (by omega)
  obtain⟨y2,a2,b2,c2⟩:=h.2 e.2.toNat (by omega)
  rw[a1,a2]
  rw[Int.toNat_of_nonneg ho'.1] at c1
  rw[Int.toNat_of_nonneg (by omega)] at c2
  have hadj:Conn es e.1 e.2:=.of (.inl he)
  have hc:∀y:Nat,Conn es (y:Nat) e.1→Conn es (y:Nat) (x:Nat):=by
   intro y hy
   rcases hxe with rfl|rfl
   ·rw[Int.toNat_of_nonneg ho'.1];exact hy
   ·rw[Int.toNat_of_nonneg (by omega)];exact hy.trans hadj
  refine⟨min y1 y2,by omega,by omega,?_⟩
  rcases Nat.le_total y1 y2 with hle|hle
  ·rw[Nat.min_eq_left hle];exact hc _ c1
  ·rw[Nat.min_eq_right hle];exact hc _ (c2.trans hadj.symm)
 ·exact h.2 x hx
theorem jf4 {n:Int} {es:List (Int×Int)}:∀{fs:List (Int×Int)} {out:List Int},(∀e∈fs,okE n e)→(∀e∈fs,e∈es)→Snd n es out→
 Snd n es (fs.foldl stepE out)∧(∀x:Nat,x<n.toNat→(fs.foldl stepE out).getD x 0≤out.getD x 0)∧
 ∀e∈fs,(fs.foldl stepE out).getD e.1.toNat 0≤out.getD e.2.toNat 0∧(fs.foldl stepE out).getD e.2.toNat 0≤out.getD e.1.toNat 0
 | [],out,_,_,h=>⟨h,fun _ _=>Int.le_refl _,by simp⟩
 | e::fs,out,ho,hs,h=>by
  have h1:=j53 (ho e (by simp)) (hs e (by simp)) h
  obtain⟨a,b,c⟩:=jf4 (fs:=fs) (fun e he=>ho e (by simp[he])) (fun e he=>hs e (by simp[he])) h1
  simp only[List.foldl_cons]
  refine⟨a,fun x hx=>Int.le_trans (b x hx) (jp6 h.1 (ho e (by simp)) hx),fun f hf=>?_⟩
  have hf':=ho f hf
  unfold okE at hf'
  rcases List.mem_cons.1 hf with rfl|hf
  ·have h2:=b f.1.toNat (by omega)
   have h3:=b f.2.toNat (by omega)
   rw[jik h.1 (ho f (by simp)) (by omega),if_pos (.inl rfl)] at h2
   rw[jik h.1 (ho f (by simp)) (by omega),if_pos (.inr rfl)] at h3
   omega
  ·have h2:=c f hf
   have h3:=jp6 h.1 (ho e (by simp)) (show f.1.toNat<n.toNat by omega)
   have h4:=jp6 h.1 (ho e (by simp)) (show f.2.toNat<n.toNat by omega)
   omega
theorem jki (n:Int) (es:List (Int×Int)):Snd n es (iota n):=⟨by simp[iota],fun x hx=>⟨x,by simp[iota,hx],Nat.le_refl _,.refl _⟩⟩
theorem jjc {n:Int} {es:List (Int×Int)} (ho:∀e∈es,okE n e):∀k,Snd n es (rounds es k (iota n))
 | 0=>jki n es
 | k+1=>(jf4 ho (fun _ h=>h) (jjc ho k)).1
theorem jmg {n:Int} {es:List (Int×Int)} (ho:∀e∈es,okE n e) {r:Nat} (hr:r<n.toNat):∀(k:Nat) {y:Int},Rk es (r:Nat) k y→0≤y∧y<n∧(rounds es k (iota n)).getD y.toNat 0≤(r:Nat)
 | 0,y,h=>by
  cases h
  exact⟨by omega,by omega,by simp[rounds,iota,hr]⟩
 | k+1,y,h=>by
  obtain⟨-,f2,f3⟩:=jf4 ho (fun _ h=>h) (jjc ho k)
  rcases h with h | ⟨z,h,a⟩
  ·obtain⟨h1,h2,h3⟩:=jmg ho hr k h
   exact⟨h1,h2,Int.le_trans (f2 _ (by omega)) h3⟩
  ·obtain⟨h1,h2,h3⟩:=jmg ho hr k h
   have hok:=a.ok ho
   refine⟨by omega,by omega,?_⟩
   rcases a with a|a
   ·exact Int.le_trans (f3 _ a).2 h3
   ·exact Int.le_trans (f3 _ a).1 h3
theorem j0n {n:Int} {es:List (Int×Int)} (ho:∀e∈es,okE n e):rounds es n.toNat (iota n)=lab n es:=by
 refine j44 (jjc ho _) fun x hx=>?_
 obtain⟨h1,h2,_⟩:=jaz es x
 have ho':∀e∈es,okE ((n.toNat:Nat):Int) e:=fun e he=>by have:=ho e he;unfold okE at this ⊢;omega
 have:=(jmg ho (show least es x<n.toNat by omega) n.toNat (Rk.all ho' h2)).2.2
 simpa using this
theorem j43 {n:Int} {es:List (Int×Int)} {x y:Int} (hx:0≤x∧x<n) (hy:0≤y∧y<n):decide ((lab n es).getD x.toNat 0=(lab n es).getD y.toNat 0)=decide (Conn es x y):=
 decide_eq_decide.2 (jfz hx hy)
theorem jp9 {l:List Int} {k:Nat} {v:Int} (h:k<l.length):(l.set k v).sum=l.sum+v-l.getD k 0:=by
 induction l generalizing k with
 | nil=>simp at h
 | cons x l ih=>
  cases k with
  | zero=>simp;omega
  | succ k=>
   have:=ih (k:=k) (by simpa using h)
   simp only[List.set_cons_succ,List.sum_cons,this,List.getD_cons_succ];omega
theorem j0s {l:List Int} (h:∀x∈l,0≤x):0≤l.sum:=by
 induction l with
 | nil=>simp
 | cons x l ih=>
  have h1:=h x (by simp)
  have h2:=ih fun y hy=>h y (by simp[hy])
  simp only[List.sum_cons];omega
theorem Snd.sum {n:Int} {es:List (Int×Int)} {out:List Int} (h:Snd n es out):0≤out.sum:=by
 refine j0s fun x hx=>?_
 obtain⟨i,hi,rfl⟩:=List.getElem_of_mem hx
 obtain⟨y,hy,_⟩:=h.2 i (by rw[←h.1];exact hi)
 have:out.getD i 0=out[i]:=by simp[hi]
 rw[←this,hy];omega
theorem Snd.set1 {n:Int} {es:List (Int×Int)} {out:List Int} {e:Int×Int} (h:Snd n es out) (ho:okE n e) (he:e∈es):Snd n es (out.set e.2.toNat (out.getD e.1.toNat 0)):=by
 unfold okE at ho
 refine⟨by simp[h.1],fun x hx=>?_⟩
 rw[jcq (by rw[h.1];exact hx)]
 split
 ·rename_i hx'
  obtain⟨y,a,b,c⟩:=h.2 e.1.toNat (by omega)
  refine⟨y,a,by omega,?_⟩
  rw[Int.toNat_of_nonneg ho.1] at c
  rw[←hx',Int.toNat_of_nonneg (by omega)]
  exact .step c (.inl he)
 ·exact h.2 x hx
theorem Snd.set2 {n:Int} {es:List (Int×Int)} {out:List Int} {e:Int×Int} (h:Snd n es out) (ho:okE n e) (he:e∈es) (hl:out.getD e.2.toNat 0<out.getD e.1.toNat 0):Snd n es (out.set e.1.toNat (out.getD e.2.toNat 0)):=by
 unfold okE at ho
 refine⟨by simp[h.1],fun x hx=>?_⟩
 rw[jcq (by rw[h.1];exact hx)]
 split
 ·rename_i hx'
  obtain⟨y,a,b,c⟩:=h.2 e.2.toNat (by omega)
  obtain⟨y',a',b',c'⟩:=h.2 e.1.toNat (by omega)
  refine⟨y,a,by omega,?_⟩
  rw[Int.toNat_of_nonneg (by omega)] at c
  rw[←hx',Int.toNat_of_nonneg ho.1]
  exact .step c (.inr he)
 ·exact h.2 x hx
end Go.Proofs.YtnaaceooknghjaaGreatDoor.X
