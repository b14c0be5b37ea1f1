/- What functions answer, and the plain laws behind it. -/
import Derived.Test.YtnaaceooknghjaaGreatDoorKAN
import Derived.Test.YtnaaceooknghjaaGreatDoorKAD
import Derived.Test.YtnaaceooknghjaaGreatDoorC124
import Derived.Test.YtnaaceooknghjaaGreatDoorKAM
import Derived.Lib.ItoaLen
import Derived.Test.YtnaaceooknghjaaGreatDoorKAL
import Derived.Test.YtnaaceooknghjaaGreatDoorKAG
import Derived.Test.YtnaaceooknghjaaGreatDoorKAK
import Derived.Test.YtnaaceooknghjaaGreatDoorC46
set_option linter.unusedSimpArgs false
set_option linter.unusedVariables false
set_option maxHeartbeats 8000000
set_option maxRecDepth 100000
namespace Go.Proofs.YtnaaceooknghjaaGreatDoor.X
open Go Go.Proofs Tryz
theorem jjb {n:Int} {es:List (Int×Int)} {a b:Int} (hV:VG n es) (ha:0≤a∧a<n) (hb:0≤b∧b<n) (hc:Conn es a b):smallL (jb2 n es a b)∧(jb2 n es a b).length≤17:=by
 have ho:=hV.okg.ok
 have hn:0≤n:=by have:=hV.1;omega
 have hn2:=hV.2.1
 refine⟨fun v hv=>?_,?_⟩
 ·obtain⟨i,hi,rfl⟩:=List.getElem_of_mem hv
  have h1:=jkl ho hn hc hi
  have h2:=Conn.ok ho h1.1
  have e:(jb2 n es a b).getD i 0=(jb2 n es a b)[i]:=by simp[hi]
  rw[e] at h2
  omega
 ·rw[jmc]
  have:=jrk (t:=b) (x:=a) ho hn
  omega
theorem j2a (n a b:Int) (x y z:IV) (ts:List Tl) (h3:LV3 x y z ts) (hV:VG n (esT ts)) (ha:0≤a∧a<n) (hb:0≤b∧b<n) (hc:Conn (esT ts) a b) :
 KP 28 [.ptr 1000 0 0 0,S [112,97,116,104],.i (.lst [[.v (.int .i64 a)],[.v (.int .i64 b)]])] [.box 0 [I n,.i x,.i y,.i z]]=
  some (S ([112,97,116,104]++jaw (jb2 n (esT ts) a b)++[10]),[.box 0 [I n,.i x,.i y,.i z]],[]):=by
 have hfx:=h3.fx
 have hlx:=h3.lx
 have hel:=hV.2.2.1
 obtain⟨hs,hl⟩:=jjb hV ha hb hc
 have hp:=jht n a b (esT ts) (by omega)
 rw[if_pos ⟨hV,ha.1,ha.2,hb.1,hb.2,hc⟩] at hp
 have he:=jc8 a b
 have hnt:=ja5 [112,97,116,104] (jb2 n (esT ts) a b) hs (by simp) (by omega)
 generalize jb2 n (esT ts) a b=P at *
 generalize hR:([112,97,116,104]:List UInt8)++jaw P++[10]=R at *
 by_cases hE:eOk a b
 ·rw[if_pos hE] at he
  refine gc func28 ?_
  have Fz:=fz6 results28 hfx hlx he hp hnt
  repeat(first|exact trivial|refine go1 ?_)
 ·rw[if_neg hE] at he
  refine gc func28 ?_
  have Fz:=fz6 results28 hfx hlx he hp hnt
  repeat(first|exact trivial|refine go1 ?_)
theorem jk7 (w:List UInt8) (hl:w.length≤1000000):∃v:Int,(∀k,numW w=some k→v=k)∧KP 75 [S w] []=some (.tup [I v,B (numW w).isSome],[],[]):=by
 have hat:=jt1 w (by omega)
 cases hq:numW w with
 | some k=>
  obtain⟨h1,h2,h3⟩:=jig hq
  have hlt:=kdg hq
  rw[jks (by omega) (j5i hq)] at hat
  have hit:=joy (k:Int) (by omega) (by omega)
  rw[j0e hq] at hit
  refine⟨k,(fun j hj=>by cases hj;rfl),?_⟩
  show KP 75 [S w] []=some (.tup [I k,B true],[],[])
  refine gc func75 ?_
  have Fz:=fz3 results75 hat hit
  repeat(first|exact trivial|refine go1 ?_)
 | none=>
  show ∃v:Int,(∀k:Nat,none=some k→v=k)∧KP 75 [S w] []=some (.tup [I v,B false],[],[])
  cases ha:Lib.atoiAll w with
  | ok v=>
   have hr:jiw w=.tup [I v,.i (.v .nilIface)]:=by unfold jiw;rw[ha]
   rw[hr] at hat
   obtain⟨b1,b2⟩:=Lib.atoiAll_bounds ha
   refine⟨v,(fun k h=>by cases h),?_⟩
   by_cases hv:v<0
   ·refine gc func75 ?_
    have Fz:=fz2 results75 hat
    repeat(first|exact trivial|refine go1 ?_)
   by_cases hlen:(17:Int)<w.length
   ·refine gc func75 ?_
    have Fz:=fz2 results75 hat
    repeat(first|exact trivial|refine go1 ?_)
   have hit:=joy v (by omega) (by omega)
   have hne:eqS (Lib.itoa v) w=false:=ja2 fun h=>by
    rw[jsl (by omega) (by omega) h] at hq;cases hq
   generalize Lib.itoa v=D at hit hne
   refine gc func75 ?_
   have Fz:=fz4 results75 hat hit hne
   repeat(first|exact trivial|refine go1 ?_)
  | range=>
   have hr:jiw w=.tup [I (Lib.atoiSat w),.i .err]:=by unfold jiw;rw[ha]
   rw[hr] at hat
   refine⟨Lib.atoiSat w,(fun k h=>by cases h),gc func75 ?_⟩
   have Fz:=fz2 results75 hat
   repeat(first|exact trivial|refine go1 ?_)
  | _=>
   have hr:jiw w=.tup [I 0,.i .err]:=by unfold jiw;rw[ha]
   rw[hr] at hat
   refine⟨0,(fun k h=>by cases h),gc func75 ?_⟩
   have Fz:=fz2 results75 hat
   repeat(first|exact trivial|refine go1 ?_)
def allW (ws:List (List UInt8)):Bool:=ws.all fun w=>(numW w).isSome
def valW (ws:List (List UInt8)):List Int:=ws.map fun w=>(((numW w).getD 0:Nat):Int)
theorem jgr (ws:List (List UInt8)):(valW ws).length=ws.length:=by simp[valW]
def numsO (T:List UInt8):List Int:=if allW (pcs 32 T)=true then valW (pcs 32 T) else []
theorem jj6 (T:List UInt8) (many:Int) (hl:T.length≤100000) :
 ∃(r:PV) (own:List Arr) (x:IV),(allW (pcs 32 T)=true∧((pcs 32 T).length:Int)=many→x=.lst ((valW (pcs 32 T)).map encI))∧imm 2 own r=some (.tup [.i x,B (allW (pcs 32 T) && decide (((pcs 32 T).length:Int)=many))])∧
  KP 27 [S T,I many] []=some (r,[],own):=by
 have hsp:=j1p T 32 (by omega)
 have hwl:∀w∈pcs 32 T,w.length≤T.length:=fun w hw=>jdz T w hw
 have hpl:=jsv (c:=32) T
 generalize pcs 32 T=ws at *
 suffices hgoal:∃res,(∃(r:PV) (own:List Arr) (x:IV),((allW ws=true∧(ws.length:Int)=many→x=.lst ((valW ws).map encI))∧imm 2 own r=some (.tup [.i x,B (allW ws && decide ((ws.length:Int)=many))]))∧res=(r,[],own))∧KP 27 [S T,I many] []=some res by
  obtain⟨res,⟨r,own,x,⟨h1,h2⟩,rfl⟩,h3⟩:=hgoal
  exact⟨r,own,x,h1,h2,h3⟩
 have hlen:(ws.map encS).length=ws.length:=by simp
 refine ge func27 ?_
 have Fz:=fz3 results27 hsp hlen
 repeat refine go1 ?_
 refine jaa (fun(k:Int) s=>s.ρ 15=.i (.lst (ws.map encS))∧s.ρ 16=I ws.length∧s.ρ 17=I k∧s.ρ 1=I many∧s.m 14=some (.arr k.toNat 1 ((valW (ws.take k.toNat)).map encI))∧s.ρ 7=.ref 14 k.toNat 0 k.toNat∧0≤k∧k≤ws.length∧allW (ws.take k.toNat)=true) (fun k=>(ws.length-k).toNat) 0 ?_ ?_
 ·refine⟨?_,?_,rfl,rfl,rfl,rfl,by omega,by omega,by simp[allW]⟩
  all_goals(simp[upd];done)
 rintro k ⟨ρ,m⟩ ⟨e15,e16,e17,e1,m14,e7,g0,g1,g2⟩
 simp only at e15 e16 e17 e1 m14 e7 g0 g1 g2
 have hvl:=jgr (ws.take k.toNat)
 rw[List.length_take] at hvl
 by_cases hi:k<ws.length
 rotate_left
 ·rw[jac (by omega)] at m14 g2
  have hkn:k.toNat=ws.length:=by omega
  rw[hkn] at m14 e7
  have ht:((valW ws).map encI).take ws.length=(valW ws).map encI:=List.take_of_length_le (by simp[jgr])
  rw[g2]
  by_cases hm:(ws.length:Int)=many
  ·rw[decide_eq_true hm]
   have Fz:=fz8 results27 e15 e16 e17 e1 m14 e7 hm
   repeat refine go1 ?_
   exact⟨_,_,.lst ((valW ws).map encI),fun _=>rfl,by simp[imm,imm1,mapO,ht],rfl,rfl⟩
  ·rw[decide_eq_false hm]
   have Fz:=fz8 results27 e15 e16 e17 e1 m14 e7 hm
   repeat refine go1 ?_
   exact⟨_,_,.lst ((valW ws).map encI),fun h=>h.elim,by simp[imm,imm1,mapO,ht],rfl,rfl⟩
 have hgi:=getS ws k.toNat (by omega)
 have hwk:=hwl _ (jab (d:=[]) (show k.toNat<ws.length by omega))
 have hwm:=jab (d:=[]) (show k.toNat<ws.length by omega)
 have hvl':(valW (ws.take k.toNat)).length=k.toNat:=by omega
 have htk:=jae (l:=ws) [] g0 hi
 have hk1:(k+1).toNat=k.toNat+1:=by omega
 generalize ws.getD k.toNat []=w at hgi hwk htk hwm
 obtain⟨v,hv1,hv2⟩:=jk7 w (by omega)
 cases hq:numW w with
 | none=>
  rw[hq] at hv2
  have hno:allW ws=false:=by
   unfold allW
   rw[List.all_eq_false]
   exact⟨w,hwm,by simp[hq]⟩
  rw[hno]
  have Fz:=fz9 results27 e15 e16 e17 e1 m14 e7 hgi hv2
  repeat refine go1 ?_
  exact⟨_,_,.emp,fun h=>h.1.elim,rfl,rfl,rfl⟩
 | some j=>
  rw[hq] at hv2
  rw[hv1 j hq] at hv2
  have h1:valW (ws.take (k+1).toNat)=valW (ws.take k.toNat)++[(j:Int)]:=by rw[htk];simp[valW,hq]
  have h2:allW (ws.take (k+1).toNat)=true:=by rw[htk];unfold allW at g2 ⊢;rw[List.all_append,g2];simp[hq]
  generalize valW (ws.take k.toNat)=V at *
  have Fz:=fz10 results27 e15 e16 e17 e1 m14 e7 hgi hv2 hvl'
  repeat refine go1 ?_
  exact⟨hk1.symm,h1.symm,hk1.symm,hk1.symm,by omega,by omega,h2,by omega⟩
abbrev jcc:List UInt8:=[119,104,97,116,10]
theorem jec (D:List UInt8) (v:Int) (h0:-9223372036854775808≤v) (h1:v≤9223372036854775807) (hD:D.length≤100000):KP 61 [S D,.i (.lst [[.v (.int .i64 v)]])] []=some (S (D++32::Lib.itoa v++[10]),[],[]):=by
 have hi:=joy v h0 h1
 have hl:=Lib.itoa_length_le v h0 h1
 generalize Lib.itoa v=T at *
 refine gc func61 ?_
 have Fz:=fz1 results61
 repeat refine go1 ?_
 refine jaa (fun(i:Int) s=>s.ρ 7=.i (.lst [[.v (.int .i64 v)]])∧s.ρ 8=I 1∧s.ρ 9=I i∧0≤i∧i≤1∧(i=0→s.ρ 0=S D)∧(i=1→s.ρ 0=S (D++32::T))) (fun i=>(1-i).toNat) 0 ?_ ?_
 ·exact⟨rfl,rfl,rfl,by omega,by omega,fun _=>rfl,fun h=>by cases h⟩
 rintro i ⟨ρ,m⟩ ⟨h7,h8,h9,g0,g1,c0,c1⟩
 simp only at h7 h8 h9 g0 g1 c0 c1
 by_cases hi0:i=0
 ·have e0:=c0 hi0
  subst hi0
  have Fz:=fz6 results61 h7 h8 h9 e0 hi
  repeat refine go1 ?_
  simp
 ·have hi1:i=1:=by omega
  have e0:=c1 hi1
  subst hi1
  have Fz:=fz5 results61 h7 h8 h9 e0
  repeat(first|exact trivial|refine go1 ?_)
abbrev kbi:List (List UInt8):=[[115,104,111,119],[112,97,114,116,115],[99,117,116,115],[115,97,102,101],[98,114,105,100,103,101,115],[98,108,111,99,107,115],[99,104,97,105,110,115],[102,111,114,101,115,116],[108,101,118,101,108,115],[98,101,115,116],[119,101,97,107,101,115,116]]
theorem j2m (w:List UInt8) (hw:w∉kbi) (n:Int) (x y z:IV) (ts:List Tl) (h3:LV3 x y z ts) :
 KP 25 [.ptr 1000 0 0 0,S w] [.box 0 [I n,.i x,.i y,.i z]]=some (S jcc,[.box 0 [I n,.i x,.i y,.i z]],[]):=by
 have hlx:=h3.lx
 have hly:=h3.ly
 have hlz:=h3.lz
 simp only[List.mem_cons,List.not_mem_nil,or_false,not_or] at hw
 obtain⟨w1,w2,w3,w4,w5,w6,w7,w8,w9,w10,w11⟩:=hw
 have q1:=ja2 w1
 have q2:=ja2 w2
 have q3:=ja2 w3
 have q4:=ja2 w4
 have q5:=ja2 w5
 have q6:=ja2 w6
 have q7:=ja2 w7
 have q8:=ja2 w8
 have q9:=ja2 w9
 have q10:=ja2 w10
 have q11:=ja2 w11
 refine gc func25 ?_
 have Fz:=fz15 results25 hlx hly hlz q1 q2 q3 q4 q5 q6 q7 q8 q9 q10 q11
 repeat(first|exact trivial|refine go1 ?_)
theorem jlz (n:Int) (es:List (Int×Int)) (hn:n≤16):smallL (lab n es):=fun v hv=>by
 obtain⟨i,hi,rfl⟩:=List.getElem_of_mem hv
 have hll:=jap n es
 have h1:=jee (n:=n) (es:=es) (x:=i) (by omega)
 have h2:=(jaz es i).1
 have e:(lab n es).getD i 0=(lab n es)[i]:=by simp[hi]
 rw[e] at h1
 omega
theorem jzj (n:Int) (x y z:IV) (ts:List Tl) (h3:LV3 x y z ts) (hV:VG n (esT ts)) :
 KP 25 [.ptr 1000 0 0 0,S [112,97,114,116,115]] [.box 0 [I n,.i x,.i y,.i z]]=some (S ([112,97,114,116,115]++jaw (lab n (esT ts))++[10]),[.box 0 [I n,.i x,.i y,.i z]],[]):=by
 have hfx:=h3.fx
 have hlx:=h3.lx
 have hel:=hV.2.2.1
 have hp:=j1o n (esT ts) (by omega)
 rw[if_pos hV] at hp
 have hll:=jap n (esT ts)
 have hn1:=hV.1
 have hn2:=hV.2.1
 have hs:smallL (lab n (esT ts)):=jlz n (esT ts) hn2
 have hnt:=ja5 [112,97,114,116,115] (lab n (esT ts)) hs (by simp) (by omega)
 generalize lab n (esT ts)=L at *
 generalize hR:([112,97,114,116,115]:List UInt8)++jaw L++[10]=R at *
 refine gc func25 ?_
 have Fz:=fz5 results25 hfx hlx hp hnt
 repeat(first|exact trivial|refine go1 ?_)
theorem jui (n:Int) (x y z:IV) (ts:List Tl) (h3:LV3 x y z ts) (hL:LV n ts) :
 KP 25 [.ptr 1000 0 0 0,S [108,101,118,101,108,115]] [.box 0 [I n,.i x,.i y,.i z]]=some (S ([108,101,118,101,108,115]++jaw (lvT ts)++[10]),[.box 0 [I n,.i x,.i y,.i z]],[]):=by
 have hfy:=h3.fy
 have hly:=h3.ly
 have hlx:=h3.lx
 have hlz:=h3.lz
 have hel:=hL.vg.2.2.1
 have l1:=jaq ts
 have l2:=jax ts
 have hs:smallL (lvT ts):=fun v hv=>by
  obtain⟨t,ht,rfl⟩:=List.mem_map.1 hv
  have:=hL.lv t ht
  omega
 have hnt:=ja5 [108,101,118,101,108,115] (lvT ts) hs (by simp) (by omega)
 generalize lvT ts=L at *
 generalize hR:([108,101,118,101,108,115]:List UInt8)++jaw L++[10]=R at *
 refine gc func25 ?_
 have Fz:=fz6 results25 hfy hlx hly hlz hnt
 repeat(first|exact trivial|refine go1 ?_)
theorem jq9 (n:Int) (x y z:IV) (ts:List Tl) (h3:LV3 x y z ts) (hV:VG n (esT ts)) :
 KP 25 [.ptr 1000 0 0 0,S [119,101,97,107,101,115,116]] [.box 0 [I n,.i x,.i y,.i z]]=
  some (S (if 2≤n then [119,101,97,107,101,115,116]++32::Lib.itoa (weak n (esT ts):Int)++[10] else [110,111,110,101,10]),[.box 0 [I n,.i x,.i y,.i z]],[]):=by
 have hfx:=h3.fx
 have hlx:=h3.lx
 have hel:=hV.2.2.1
 have hp:=jqq n (esT ts) (by omega)
 by_cases h2:2≤n
 ·rw[if_pos ⟨hV,h2⟩] at hp
  rw[if_pos h2]
  have hwl:(weak n (esT ts):Int)≤9223372036854775807:=by
   have ho:=hV.okg.ok
   obtain⟨y,y1,y2,e⟩:=jqd ho hV.nodup h2 hV.2.1
   rw[e]
   have h1:=(jgg ho hV.nodup (show 0≤(0:Int)∧0<n by omega) (show 0≤y∧y<n by omega) (by omega)).1
   have h2:=jak 0 (esT ts)
   omega
  have hnt:=jec [119,101,97,107,101,115,116] (weak n (esT ts):Int) (by omega) hwl (by simp)
  generalize (weak n (esT ts):Int)=v at *
  generalize hR:([119,101,97,107,101,115,116]:List UInt8)++32::Lib.itoa v++[10]=R at *
  refine gc func25 ?_
  have Fz:=fz5 results25 hfx hlx hp hnt
  repeat(first|exact trivial|refine go1 ?_)
 ·rw[if_neg (fun h=>h2 h.2)] at hp
  rw[if_neg h2]
  refine gc func25 ?_
  have Fz:=fz4 results25 hfx hlx hp
  repeat(first|exact trivial|refine go1 ?_)
theorem jmz (T:List UInt8) (hT:¬jym T) (hl:T.length≤100000) (n:Int) (x y z:IV) (ts:List Tl) (h3:LV3 x y z ts) :
 KP 26 [.ptr 1000 0 0 0,S T] [.box 0 [I n,.i x,.i y,.i z]]=some (S jcc,[.box 0 [I n,.i x,.i y,.i z]],[]):=by
 have hlx:=h3.lx
 have hly:=h3.ly
 have hlz:=h3.lz
 have hp:=jkv T hT hl
 refine gc func26 ?_
 have Fz:=fz5 results26 hp hlx hly hlz
 repeat(first|exact trivial|refine go1 ?_)
theorem jlh {n:Int} {es:List (Int×Int)} {a b:Int} (hP:Pr n a b es):(∀p∈dpPs n es a b (flN n es a b),smallL p∧p.length≤100)∧(dpPs n es a b (flN n es a b)).length≤40:=by
 obtain⟨hV,hxn,hyn,hxy⟩:=hP
 have ho:=hV.okg.ok
 have hnd:=hV.nodup
 have hn16:=hV.2.1
 have hel:=hV.2.2.1
 refine⟨fun p hp=>?_,?_⟩
 ·obtain⟨i,hi,rfl⟩:=List.mem_map.1 hp
  have hw:=j3g ho hnd hxn hyn hxy (List.mem_range.1 hi)
  have h1:=jvq ho hw hyn hn16
  refine⟨fun v hv=>?_,by omega⟩
  obtain⟨j,hj,rfl⟩:=List.getElem_of_mem hv
  have h2:=j6i ho hw hyn j hj
  have e:(dpP n es a b i).getD j 0=(dpP n es a b i)[j]:=by simp[hj]
  rw[e] at h2
  omega
 ·rw[jpk]
  have h1:=(jgg ho hnd hxn hyn hxy).1
  have h2:=jak a es
  omega
theorem j19 (n a b:Int) (x y z:IV) (ts:List Tl) (h3:LV3 x y z ts) (hP:Pr n a b (esT ts)) (hl:(esT ts).length≤40) :
 KP 28 [.ptr 1000 0 0 0,S [102,108,111,119],.i (.lst [[.v (.int .i64 a)],[.v (.int .i64 b)]])] [.box 0 [I n,.i x,.i y,.i z]]=
  some (S ([102,108,111,119]++jaw [((dpPs n (esT ts) a b (flN n (esT ts) a b)).length:Int)]++[10]++linesT [112,97,116,104] (dpPs n (esT ts) a b (flN n (esT ts) a b))),[.box 0 [I n,.i x,.i y,.i z]],[]):=by
 have hfx:=h3.fx
 have hlx:=h3.lx
 obtain⟨hs,hk⟩:=jlh hP
 have hp:=jfp n a b (esT ts) (by omega)
 rw[if_pos hP] at hp
 have he:=jc8 a b
 generalize dpPs n (esT ts) a b (flN n (esT ts) a b)=P at *
 have hnt:KP 61 [S [102,108,111,119],.i (.lst [[.v (.int .i64 (P.length:Int))]])] []=_:=ja5 [102,108,111,119] [(P.length:Int)] (fun v hv=>by simp at hv;omega) (by simp) (by simp)
 have hll:=jk4 [112,97,116,104] P (fun p hp=>(hs p hp).1) (fun p hp=>(hs p hp).2) (by simp) (by omega)
 have hb1:=jcf [112,97,116,104] 100 P (fun p hp=>(hs p hp).2)
 have hb2:(linesT [112,97,116,104] P).length≤40*305:=Nat.le_trans hb1 (Nat.mul_le_mul hk (by simp))
 have hb3:=jas [(P.length:Int)]
 generalize hR:([102,108,111,119]:List UInt8)++jaw [(P.length:Int)]++[10]=R at *
 have hRl:R.length≤1000:=by rw[←hR];simp only[List.length_cons,List.length_nil] at hb3;simp;omega
 generalize linesT [112,97,116,104] P=Q at *
 by_cases hE:eOk a b
 ·rw[if_pos hE] at he
  refine gc func28 ?_
  have Fz:=fz7 results28 hfx hlx he hp hnt hll
  repeat(first|exact trivial|refine go1 ?_)
 ·rw[if_neg hE] at he
  refine gc func28 ?_
  have Fz:=fz7 results28 hfx hlx he hp hnt hll
  repeat(first|exact trivial|refine go1 ?_)
noncomputable def j5b (es:List (Int×Int)) (e:Int×Int):List (Int×Int):=es.filter fun f=>decide (Brg es f) && !(decide (f∈putE e es) && decide (Brg (putE e es) f))
theorem j9h {es:List (Int×Int)} {e f:Int×Int} (hf:f∈es) (hne:e∉es):(Brg es f∧¬Brg (putE e es) f)↔(Conn es e.1 e.2∧¬Conn (cutE f es) e.1 e.2):=by
 have hfe:e≠f:=fun h=>hne (h▸hf)
 have hK:∀x y,Conn (cutE f (putE e es)) x y↔Conn ((e.1,e.2)::cutE f es) x y:=fun x y=>by
  have h:∀g,g∈cutE f (putE e es)↔g∈(e.1,e.2)::cutE f es:=fun g=>by
   rw[jdi,jdl,List.mem_cons,jdi]
   constructor
   ·rintro⟨h|h,h2⟩
    ·exact .inl h
    ·exact .inr ⟨h,h2⟩
   ·rintro(h|h)
    ·exact⟨.inl h,fun c=>hfe ((show g=e from h).symm.trans c)⟩
    ·exact⟨.inr h.1,h.2⟩
  exact⟨Conn.mono fun g=>(h g).1,Conn.mono fun g=>(h g).2⟩
 unfold Brg
 rw[hK,jb4,jwn hf e.1 e.2,jb4]
 generalize cutE f es=H
 constructor
 ·rintro⟨h1,h2⟩
  have h3:=Classical.not_not.1 h2
  rcases h3 with h | ⟨p,q⟩ | ⟨p,q⟩
  ·exact absurd h h1
  ·exact⟨.inr (.inl ⟨p.symm,q.symm⟩),fun h=>h1 (p.trans (h.trans q))⟩
  ·exact⟨.inr (.inr ⟨q,p⟩),fun h=>h1 (p.trans (h.symm.trans q))⟩
 ·rintro⟨h | ⟨p,q⟩ | ⟨p,q⟩,h2⟩
  ·exact absurd h h2
  ·exact⟨fun h=>h2 (p.trans (h.trans q)),fun h3=>h3 (.inr (.inl ⟨p.symm,q.symm⟩))⟩
  ·exact⟨fun h=>h2 (p.trans (h.symm.trans q)),fun h3=>h3 (.inr (.inr ⟨q,p⟩))⟩
theorem kc6 {es:List (Int×Int)} {e:Int×Int} (hne:e∉es):j5b es e=if Conn es e.1 e.2 then es.filter (fun f=>!decide (Conn (cutE f es) e.1 e.2)) else []:=by
 have h:∀f∈es,(decide (Brg es f) && !(decide (f∈putE e es) && decide (Brg (putE e es) f)))=decide (Conn es e.1 e.2∧¬Conn (cutE f es) e.1 e.2):=fun f hf=>by
  have hi:=j9h hf hne
  rw[decide_eq_true (jdl.2 (.inr hf)),Bool.true_and]
  by_cases h3:Conn es e.1 e.2∧¬Conn (cutE f es) e.1 e.2
  ·have h4:=hi.2 h3
   rw[decide_eq_true h3]
   simp[h4.1,h4.2]
  ·rw[decide_eq_false h3]
   by_cases h1:Brg es f
   ·by_cases h2:Brg (putE e es) f
    ·simp[h1,h2]
    ·exact absurd (hi.1 ⟨h1,h2⟩) h3
   ·simp[h1]
 unfold j5b
 rw[List.filter_congr h]
 by_cases hc:Conn es e.1 e.2
 ·rw[if_pos hc]
  refine List.filter_congr fun f _=>?_
  by_cases h2:Conn (cutE f es) e.1 e.2<;>simp[hc,h2]
 ·rw[if_neg hc]
  refine List.filter_eq_nil_iff.2 fun f _=>?_
  simp[hc]
noncomputable def jes (n:Int) (es:List (Int×Int)) (e:Int×Int):Nat:=if jfl n es e then(j5b es e).length else 0
theorem jxs (n:Int) (es:List (Int×Int)) (e:Int×Int):jes n es e≤es.length:=by
 unfold jes j5b
 split
 ·exact List.length_filter_le _ _
 ·omega
theorem jsg {n:Int} {es:List (Int×Int)} {a b:Int} (h:¬(0≤a∧a<b∧b<n)):jes n es (a,b)=0:=by
 unfold jes
 rw[if_neg]
 intro hp
 exact h (hp.2.2.2.2.2.1 (a,b) (jdl.2 (.inl rfl)))
noncomputable def jj4 (n:Int) (es:List (Int×Int)) (s:(Int×Int)×Nat) (e:Int×Int):(Int×Int)×Nat:=if s.2<jes n es e then(e,jes n es e) else s
noncomputable def jfn (n:Int) (es:List (Int×Int)) (a b k:Nat) (s:(Int×Int)×Nat):(Int×Int)×Nat:=(List.range' b k).foldl (fun s (j:Nat)=>jj4 n es s ((a:Int),(j:Int))) s
noncomputable def jg4 (n:Int) (es:List (Int×Int)) (a k:Nat) (s:(Int×Int)×Nat):(Int×Int)×Nat:=(List.range' a k).foldl (fun s (i:Nat)=>jfn n es i (i+1) (16-(i+1)) s) s
noncomputable def jez (n:Int) (es:List (Int×Int)):(Int×Int)×Nat:=jg4 n es 0 16 ((0,0),0)
theorem jne {n:Int} {es:List (Int×Int)} {a b:Nat} {s:(Int×Int)×Nat} (h:b<16):jfn n es a b (16-b) s=jfn n es a (b+1) (16-(b+1)) (jj4 n es s ((a:Int),(b:Int))):=by
 unfold jfn
 rw[show 16-b=(16-(b+1))+1 by omega,List.range'_succ,List.foldl_cons]
theorem jnd {n:Int} {es:List (Int×Int)} {a:Nat} {s:(Int×Int)×Nat} (h:a<16):jg4 n es a (16-a) s=jg4 n es (a+1) (16-(a+1)) (jfn n es a (a+1) (16-(a+1)) s):=by
 unfold jg4
 rw[show 16-a=(16-(a+1))+1 by omega,List.range'_succ,List.foldl_cons]
theorem jql {n:Int} {es:List (Int×Int)} {a b:Nat} {s:(Int×Int)×Nat} (h:n≤b) (k:Nat):jfn n es a b k s=s:=by
 induction k generalizing b with
 | zero=>rfl
 | succ k ih=>
  unfold jfn
  rw[List.range'_succ,List.foldl_cons]
  have e:jj4 n es s ((a:Int),(b:Int))=s:=by
   unfold jj4
   rw[jsg (by omega),if_neg (by omega)]
  rw[e]
  exact ih (b:=b+1) (by omega)
theorem j08 {n:Int} {es:List (Int×Int)} {a:Nat} {s:(Int×Int)×Nat} (h:n≤a) (k:Nat):jg4 n es a k s=s:=by
 induction k generalizing a with
 | zero=>rfl
 | succ k ih=>
  unfold jg4
  rw[List.range'_succ,List.foldl_cons,jql (by omega)]
  exact ih (a:=a+1) (by omega)
theorem jla (n:Int) (es fs:List (Int×Int)) (h:OKG n es) (h2:OKG n fs) :
 Clo (.fn 226 [] [.eptr [.v (.int .i64 n),.lst (es.map encE)] 0,.eptr [.v (.int .i64 n),.lst (fs.map encE)] 0]) (okE n) (fun f=>decide (Brg es f) && !(decide (f∈fs) && decide (Brg fs f))):=by
 have hl:=h.len
 have hl2:=h2.len
 have k:∀a b:Int,okE n (a,b)→KP 226 [PE a b,.i (.eptr [.v (.int .i64 n),.lst (es.map encE)] 0),.i (.eptr [.v (.int .i64 n),.lst (fs.map encE)] 0)] []=some (B (decide (Brg es (a,b)) && !(decide ((a,b)∈fs) && decide (Brg fs (a,b)))),[],[]):=by
  intro a b hok
  have h1:=ji2 n a b es h hok
  have h2:=ji2 n a b fs h2 hok
  have h3:=j7g n fs a b (by omega)
  generalize decide (Brg es (a,b))=p at *
  generalize decide (Brg fs (a,b))=q at *
  generalize decide ((a,b)∈fs)=r at *
  cases p<;>cases q<;>cases r
  all_goals
   refine gc func226 ?_
   have Fz:=fz4 results226 h1 h2 h3
   repeat(first|exact trivial|refine go1 ?_)
 refine⟨fun n=>by cases n<;>rfl,rfl,fun me d a b hd=>?_⟩
 have hx:=k a b hd
 simp only[go_sem,↓reduceIte,Int.reduceLE,Int.reduceLT,Int.reduceToNat,Int.reduceNeg,Int.reduceAdd,Int.reduceSub,Int.reduceMul,Int.reduceEq,Int.reduceNe,Nat.reduceEqDiff,Nat.reduceAdd,Nat.reduceSub,Nat.reduceMul,Nat.reduceLT,Nat.reduceLeDiff,Nat.reduceBEq,Nat.reduceBNe,UInt8.reduceToNat,hx,ite_self]
theorem jov (n:Int) (es fs:List (Int×Int)) (h:OKG n es) (h2:OKG n fs) :
 KP 192 [GL n es,GL n fs] []=some (.i (delF (fun f=>decide (Brg es f) && !(decide (f∈fs) && decide (Brg fs f))) es),[],[]):=by
 have hl:=h.len
 have hw:=jkz (jla n es fs h h2) n es h.ok (by omega)
 refine gc func192 ?_
 have Fz:=fz3 results192 hw @jph
 repeat(first|exact trivial|refine go1 ?_)
theorem j7a (n a b:Int) (es:List (Int×Int)) (hl:es.length≤1000) :
 KP 126 [GL n es,PE a b] []=some (if jfl n es (a,b) then .tup [.i (delF (fun f=>decide (Brg es f) && !(decide (f∈putE (a,b) es) && decide (Brg (putE (a,b) es) f))) es),B true] else .tup [.i .emp,B false],[],[]):=by
 by_cases hP:jfl n es (a,b)
 ·rw[if_pos hP]
  obtain⟨r,own,hpe,hpi⟩:=jni n a b es hP hl
  have hb:=jov n es (putE (a,b) es) hP.1.okg hP.2.2.okg
  refine gc func126 ?_
  have Fz:=fz4 results126 hpe hpi hb
  repeat(first|exact trivial|refine go1 ?_)
 ·rw[if_neg hP]
  have hp:=jkw n a b es hl
  rw[if_neg hP] at hp
  refine gc func126 ?_
  have Fz:=fz2 results126 hp
  repeat(first|exact trivial|refine go1 ?_)
theorem jyt (n:Int) (es:List (Int×Int)) (hl:es.length≤1000) :
 KP 71 [GL n es] []=some (.tup [PE (jez n es).1.1 (jez n es).1.2,B (decide ((0:Int)<((jez n es).2:Nat)))],[],[]):=by
 generalize hR:jez n es=R
 have hR0:jg4 n es 0 (16-0) ((0,0),0)=R:=hR
 refine gc func71 ?_
 have Fz:=fz1 results71
 repeat refine go1 ?_
 refine jaa (fun(w:Nat×Int×Int×Nat) s=>s.ρ 1=.ptr 1 0 0 0∧s.m 1=some (.box 0 [I n,LE es])∧s.ρ 2=.ptr 2 0 0 0∧s.m 2=some (.box 0 [I 0,I 0])∧s.ρ 4=.ptr 4 0 0 0∧s.m 4=some (.box 0 [I w.2.1,I w.2.2.1])∧s.ρ 5=I w.2.2.2∧s.ρ 12=I w.1∧w.1≤16∧jg4 n es w.1 (16-w.1) ((w.2.1,w.2.2.1),w.2.2.2)=R) (fun w=>16-w.1) (0,0,0,0) ?_ ?_
 ·exact⟨rfl,rfl,rfl,rfl,rfl,rfl,rfl,rfl,by simp,hR0⟩
 rintro⟨a,c,d,k⟩ ⟨ρ,m⟩ ⟨e1,m1,e2,m2,e4,m4,e5,e12,g0,g1⟩
 simp only at e1 m1 e2 m2 e4 m4 e5 e12 g0 g1
 by_cases ha:a<16
 rotate_left
 ·have ha16:a=16:=by omega
  subst ha16
  have hRe:((c,d),k)=R:=g1
  subst hRe
  have Fz:=fz9 results71 e1 m1 e2 m2 e4 m4 e5 e12
  repeat(first|exact trivial|refine go1 ?_)
 rw[jnd ha] at g1
 generalize hR1:jfn n es a (a+1) (16-(a+1)) ((c,d),k)=R1 at g1
 have Fz:=fz9 results71 e1 m1 e2 m2 e4 m4 e5 e12
 repeat refine go1 ?_
 refine jaa (fun(w:Nat×Int×Int×Nat) s=>s.ρ 1=.ptr 1 0 0 0∧s.m 1=some (.box 0 [I n,LE es])∧s.ρ 2=.ptr 2 0 0 0∧s.m 2=some (.box 0 [I 0,I 0])∧s.ρ 4=.ptr 4 0 0 0∧s.m 4=some (.box 0 [I w.2.1,I w.2.2.1])∧s.ρ 5=I w.2.2.2∧s.ρ 12=I a∧s.ρ 6=I a∧s.ρ 7=I w.1∧w.1≤16∧jfn n es a w.1 (16-w.1) ((w.2.1,w.2.2.1),w.2.2.2)=R1) (fun w=>16-w.1) (a+1,c,d,k) ?_ ?_
 ·refine⟨?_,?_,?_,?_,?_,?_,?_,?_,?_,?_,by simp only;omega,hR1⟩
  all_goals first|rfl|assumption | (simp[upd];done)
 clear e1 m1 e2 m2 e4 m4 e5 e12 hR1
 rintro⟨b,c,d,k⟩ ⟨ρ,m⟩ ⟨e1,m1,e2,m2,e4,m4,e5,e12,e6,e7,f0,f1⟩
 simp only at e1 m1 e2 m2 e4 m4 e5 e12 e6 e7 f0 f1
 by_cases hb:b<16
 rotate_left
 ·have hb16:b=16:=by omega
  subst hb16
  have hRe:((c,d),k)=R1:=f1
  subst hRe
  have Fz:=fz11 results71 e1 m1 e2 m2 e4 m4 e5 e12 e6 e7
  repeat refine go1 ?_
  exact⟨a+1,c,d,rfl,k,rfl,by omega,by omega,g1,by omega⟩
 rw[jne hb] at f1
 have hlo:=j7a n a b es hl
 have hle:=jxs n es ((a:Int),(b:Int))
 by_cases hP:jfl n es ((a:Int),(b:Int))
 ·rw[if_pos hP] at hlo
  have hN:jes n es ((a:Int),(b:Int))=(j5b es ((a:Int),(b:Int))).length:=by unfold jes;rw[if_pos hP]
  have hln:lenP (.i (delF (fun f=>decide (Brg es f) && !(decide (f∈putE ((a:Int),(b:Int)) es) && decide (Brg (putE ((a:Int),(b:Int)) es) f))) es))=some (jes n es ((a:Int),(b:Int))):=by
   rw[jsd,hN];rfl
  have hfl:(delF (fun f=>decide (Brg es f) && !(decide (f∈putE ((a:Int),(b:Int)) es) && decide (Brg (putE ((a:Int),(b:Int)) es) f))) es).flat=true:=jrv
  unfold jj4 at f1
  generalize jes n es ((a:Int),(b:Int))=q at *
  generalize delF (fun f=>decide (Brg es f) && !(decide (f∈putE ((a:Int),(b:Int)) es) && decide (Brg (putE ((a:Int),(b:Int)) es) f))) es=D at *
  by_cases hq:k<q
  ·rw[if_pos hq] at f1
   have Fz:=fz14 results71 e1 m1 e2 m2 e4 m4 e5 e12 e6 e7 hlo hln hfl
   repeat refine go1 ?_
   exact⟨b+1,a,b,rfl,q,rfl,by omega,by omega,f1,by omega⟩
  ·rw[if_neg hq] at f1
   have Fz:=fz14 results71 e1 m1 e2 m2 e4 m4 e5 e12 e6 e7 hlo hln hfl
   repeat refine go1 ?_
   exact⟨b+1,c,d,rfl,k,rfl,by omega,by omega,f1,by omega⟩
 ·rw[if_neg hP] at hlo
  have hN:jes n es ((a:Int),(b:Int))=0:=by unfold jes;rw[if_neg hP]
  unfold jj4 at f1
  rw[hN,if_neg (by simp)] at f1
  have Fz:=fz12 results71 e1 m1 e2 m2 e4 m4 e5 e12 e6 e7 hlo
  repeat refine go1 ?_
  exact⟨b+1,c,d,rfl,k,rfl,by omega,by omega,f1,by omega⟩
theorem jqw (n a b:Int) (x y z:IV) (ts:List Tl) (h3:LV3 x y z ts) (hV:VG n (esT ts)) (ha:0≤a∧a<n) (hb:0≤b∧b<n) (hc:Conn (esT ts) a b) :
 KP 28 [.ptr 1000 0 0 0,S [98,101,116,119,101,101,110],.i (.lst [[.v (.int .i64 a)],[.v (.int .i64 b)]])] [.box 0 [I n,.i x,.i y,.i z]]=
  some (S ([98,114,105,100,103,101,115]++edsT ((esT ts).filter fun e=>!decide (Conn (cutE e (esT ts)) a b))++[10]++([99,117,116,115]++jaw (cutsB n a b (esT ts))++[10])),[.box 0 [I n,.i x,.i y,.i z]],[]):=by
 have hfx:=h3.fx
 have hlx:=h3.lx
 have hel:=hV.2.2.1
 have hp:=jfe n a b (esT ts) (by omega)
 rw[if_pos ⟨hV,ha.1,ha.2,hb.1,hb.2,hc⟩] at hp
 have hq:=ji1 n a b (esT ts) (by omega)
 rw[if_pos ⟨hV,ha.1,ha.2,hb.1,hb.2,hc⟩] at hq
 have he:=jc8 a b
 have hfl:=List.length_filter_le (fun e=>!decide (Conn (cutE e (esT ts)) a b)) (esT ts)
 have hne:=jcx [98,114,105,100,103,101,115] ((esT ts).filter fun e=>!decide (Conn (cutE e (esT ts)) a b)) (jf5 hV.small.1 _) (by simp) (by omega)
 have hle:=ja6 ((esT ts).filter fun e=>!decide (Conn (cutE e (esT ts)) a b))
 have hin:∀v∈cutsB n a b (esT ts),0≤v∧v<n:=fun v hv=>mem_iota.1 (List.mem_filter.1 hv).1
 have hcl:(cutsB n a b (esT ts)).length≤16:=by
  have h1:=List.length_filter_le (fun v=>decide (v≠a∧v≠b∧¬Conn (alone v (esT ts)) a b)) (iota n)
  have h2:=jat n
  have h4:=hV.2.1
  unfold cutsB
  omega
 have hnt:=ja5 [99,117,116,115] (cutsB n a b (esT ts)) (jii hV.2.1 hin) (by simp) (by omega)
 have hnl:=jas (cutsB n a b (esT ts))
 generalize cutsB n a b (esT ts)=C at *
 generalize hE:([98,114,105,100,103,101,115]:List UInt8)++edsT ((esT ts).filter fun e=>!decide (Conn (cutE e (esT ts)) a b))=E at *
 generalize hR:([99,117,116,115]:List UInt8)++jaw C++[10]=R at *
 have hEl:E.length≤1000:=by rw[←hE];simp only[List.length_append,List.length_cons,List.length_nil];omega
 have hRl:R.length≤1000:=by rw[←hR];simp only[List.length_append,List.length_cons,List.length_nil];omega
 by_cases hE:eOk a b
 ·rw[if_pos hE] at he
  refine gc func28 ?_
  have Fz:=fz8 results28 hfx hlx he hp hq hne hnt
  repeat(first|exact trivial|refine go1 ?_)
 ·rw[if_neg hE] at he
  refine gc func28 ?_
  have Fz:=fz8 results28 hfx hlx he hp hq hne hnt
  repeat(first|exact trivial|refine go1 ?_)
end Go.Proofs.YtnaaceooknghjaaGreatDoor.X
