/- What functions answer, and the plain laws behind it. -/
import Derived.Test.YtnaaceooknghjaaGreatDoorKAK
set_option linter.unusedSimpArgs false
set_option linter.unusedVariables false
set_option maxHeartbeats 8000000
set_option maxRecDepth 100000
namespace Go.Proofs.YtnaaceooknghjaaGreatDoor.X
open Go Go.Proofs Tryz
theorem jx7 {n:Int} {es:List (Int×Int)} (hV:VG n es):∀u∈ordL n (seek n es).num,inR n u:=fun u hu=>by
 have D:=jgn hV.okg.ok hV.nodup (n:=n) (by have:=hV.1;omega)
 exact(ju4 (jvf hV) D.inj).1 hu
theorem j07 {n:Int} {es:List (Int×Int)} (hV:VG n es) (i:Nat):(((ordL n (seek n es).num).take i).flatMap (bkOf es (seek n es))).length≤640:=by
 have key:∀l:List Int,(l.flatMap (bkOf es (seek n es))).length≤40*l.length:=by
  intro l
  induction l with
  | nil=>simp
  | cons a l ih=>
   rw[List.flatMap_cons,List.length_append,List.length_cons]
   have:=jv5 es (seek n es) a
   have:=hV.2.2.1
   omega
 have h1:=key ((ordL n (seek n es).num).take i)
 have h2:=jl9 n (seek n es).num
 have h3:=hV.2.1
 rw[List.length_take] at h1
 omega
theorem jnc {n:Int} {es:List (Int×Int)} (hV:VG n es):(backsL n es (seek n es)).length≤640:=by
 have:=j07 hV (ordL n (seek n es).num).length
 rw[List.take_length] at this
 exact this
theorem appL (xs:List (List Int)) (x:List Int):xs.map encL++[[.lst (x.map encI)]]=(xs++[x]).map encL:=by simp[encL]
theorem kar {n:Int} {es:List (Int×Int)} (hV:VG n es) {b:Int×Int} (hb:b∈backsL n es (seek n es)):Bk n es (seek n es) b∧Anc n (seek n es).par b.1 b.2:=by
 have D:=jgn hV.okg.ok hV.nodup (n:=n) (by have:=hV.1;omega)
 have h:=(joo hV.okg.ok hV.nodup (by have:=hV.1;omega)).1 hb
 exact⟨h,h.anc D⟩
theorem jyv (n:Int) (es:List (Int×Int)) (hl:es.length≤1000):KP 69 [GL n es] []=some (if VG n es then(.ref 2000 0 0 (chainsL n es).length,[],[.arr 0 1 ((chainsL n es).map encL)]) else(.i .emp,[],[])):=by
 by_cases hV:VG n es
 rotate_left
 ·rw[if_neg hV]
  have hg:=decide_eq_false hV
  refine gc func69 ?_
  have Fz:=fz2 results69 hg
  repeat(first|exact trivial|refine go1 ?_)
 rw[if_pos hV]
 have hg:=decide_eq_true hV
 have hs:=j7v n es hV
 obtain⟨hl1,hl2⟩:=js8 hV
 have hb:=kbq n es (seek n es) hV hl1 hl2 (jvf hV) (jx7 hV)
 have D:=jgn hV.okg.ok hV.nodup (n:=n) (by have:=hV.1;omega)
 have hbl:=jnc hV
 have hbk:=fun b hb=>kar hV (b:=b) hb
 have hch:chainsL n es=(chFold n (seek n es).par (backsL n es (seek n es))).2:=rfl
 rw[hch]
 have hci:=fun j hj=>(CI.take hV.okg.ok D (fun b hb=>(hbk b hb).1) j hj).ln
 have hn1:=hV.1
 have hn16:=hV.2.1
 generalize backsL n es (seek n es)=bs at *
 generalize hS:seek n es=S at *
 refine gc func69 ?_
 have Fz:=fz5 results69 hg hs hb @repT
 repeat refine go1 ?_
 refine jaa (fun(x:Int×Nat×List Bool×List (List Int)) s=>s.m 3=some (.box 0 [LI S.num,LI S.par,LI S.low])∧s.ρ 3=.ptr 3 0 0 0∧s.m 15=some (.arr x.2.1 1 (x.2.2.2.map encL))∧s.ρ 4=.ref 15 x.2.1 0 x.2.2.2.length∧s.m 18=some (.arr 0 1 (x.2.2.1.map encT))∧s.ρ 5=.ref 18 0 0 n.toNat∧s.ρ 21=LE bs∧s.ρ 22=I bs.length∧s.ρ 23=I x.1∧
  (x.2.2.1,x.2.2.2)=chFold n S.par (bs.take x.1.toNat)∧0≤x.1∧x.1≤bs.length) (fun x=>(bs.length-x.1).toNat) (0,0,fB n.toNat,[]) ?_ ?_
 ·exact⟨rfl,rfl,rfl,rfl,rfl,rfl,rfl,rfl,rfl,rfl,by simp,by simp⟩
 rintro⟨i,v,mk,outs⟩ ⟨ρ,m⟩ ⟨m3,e3,m15,e4,m18,e5,e21,e22,e23,hf,g0,g1⟩
 simp only at m3 e3 m15 e4 m18 e5 e21 e22 e23 hf g0 g1
 have hmk:=hci i.toNat (by omega)
 rw[←hf] at hmk
 simp only at hmk
 have hol:outs.length=i.toNat:=by
  have h1:=congrArg (fun p=>p.2.length) hf
  have h2:=jem (n:=n) (par:=S.par) (bs:=bs) i.toNat (by omega)
  simp only at h1
  rw[h1,h2];simp
 by_cases hi:i<bs.length
 rotate_left
 ·have hoe:(chFold n S.par bs).2=outs:=by rw[jac (by omega)] at hf;rw[←hf]
  rw[hoe]
  have Fz:=fz10 results69 m3 e3 m15 e4 m18 e5 e21 e22 e23
  repeat(first|exact trivial|refine go1 ?_)
 have hbm:=jab (d:=(0,0)) (show i.toNat<bs.length by omega)
 obtain⟨hB,hA⟩:=hbk _ hbm
 have hge:=getE bs i.toNat (by omega)
 have hsn:chFold n S.par (bs.take (i+1).toNat)=((chOne n S.par mk (bs.getD i.toNat (0,0))).1,outs++[(chOne n S.par mk (bs.getD i.toNat (0,0))).2]):=by
  rw[jae (0,0) g0 hi,je3,←hf];rfl
 generalize bs.getD i.toNat (0,0)=b at hB hA hge hsn
 obtain⟨⟨b0,b1⟩,⟨d0,d1⟩,-,-,-⟩:=id hB
 have hun:=j6f (mk.set b.1.toNat true)
 rw[List.length_set,hmk] at hun
 have hgb:gB (mk.set b.1.toNat true) b.1=true:=by rw[jjv hmk hB.a hB.a,if_pos rfl]
 have Fz:=fz13 results69 m3 e3 m15 e4 m18 e5 e21 e22 e23 hge @getT @setT
 repeat refine go1 ?_
 refine jaa (fun(x:Nat×Nat×List Bool×Int×List Int) s=>s.m 3=some (.box 0 [LI S.num,LI S.par,LI S.low])∧s.ρ 3=.ptr 3 0 0 0∧s.m 15=some (.arr v 1 (outs.map encL))∧s.ρ 4=.ref 15 v 0 outs.length∧s.m 18=some (.arr 0 1 (x.2.2.1.map encT))∧s.ρ 5=.ref 18 0 0 n.toNat∧s.ρ 21=LE bs∧s.ρ 22=I bs.length∧s.ρ 23=I i∧
  s.m 35=some (.arr x.2.1 1 (x.2.2.2.2.map encI))∧s.ρ 8=.ref 35 x.2.1 0 x.2.2.2.2.length∧s.ρ 9=I x.2.2.2.1∧x.2.2.1.length=n.toNat∧inR n x.2.2.2.1∧Anc n S.par b.1 x.2.2.2.1∧gB x.2.2.1 b.1=true∧unm x.2.2.1≤x.1∧x.2.2.2.2.length+x.1≤n.toNat+2∧
  chW S.par x.1 x.2.2.1 x.2.2.2.1 x.2.2.2.2=chOne n S.par mk b) (fun x=>x.1) (n.toNat,nv (m 35),mk.set b.1.toNat true,b.2,[b.1,b.2]) ?_ ?_
 ·exact⟨m3,e3,m15,e4,rfl,e5,e21,e22,e23,rfl,rfl,rfl,by simpa using hmk,hB.z,hA,hgb,hun,by simp;omega,rfl⟩
 rintro⟨f,w,mk',l,acc⟩ ⟨ρ,m⟩ ⟨m3,e3,m15,e4,m18,e5,e21,e22,e23,m35,e8,e9,k1,k2,k3,k4,k5,k6,k7⟩
 simp only at m3 e3 m15 e4 m18 e5 e21 e22 e23 m35 e8 e9 k1 k2 k3 k4 k5 k6 k7
 obtain⟨l0,l1⟩:=id k2
 by_cases hm:gB mk' l=true
 ·have hm':mk'.getD l.toNat false=true:=hm
  rw[jh1 hm] at k7
  rw[←k7] at hsn
  simp only at hsn
  have Fz:=fz16 results69 m3 e3 m15 e4 m18 e5 e21 e22 e23 m35 e8 e9 @getT hm' @appL
  repeat refine go1 ?_
  exact⟨i+1,mk',outs++[acc],rfl,by simp,rfl,rfl,hsn.symm,by omega,by omega,by omega⟩
 have hmf:gB mk' l=false:=by simpa using hm
 have hm':mk'.getD l.toNat false=false:=hmf
 have hne:b.1≠l:=fun e=>hm (e▸k4)
 obtain⟨hp,ha'⟩:=D.above k3 hne
 have hun:=jmr (mk:=mk') (i:=l.toNat) (by omega) (by simpa[gB] using hmf)
 rw[jwg hmf (by omega)] at k7
 have hgp:S.par.getD l.toNat 0=gI S.par l:=rfl
 have hk4:gB (mk'.set l.toNat true) b.1=true:=by rw[jjv k1 k2 hB.a,if_neg (Ne.symm hne)];exact k4
 generalize gI S.par l=p at hp ha' k7 hgp
 have Fz:=fz18 results69 m3 e3 m15 e4 m18 e5 e21 e22 e23 m35 e8 e9 @getT @setT hm' hgp hl2
 repeat refine go1 ?_
 first
  | exact⟨f-1,w+1,mk'.set l.toNat true,rfl,rfl,rfl,by simpa using k1,hp,ha',hk4,by omega,by omega,k7,by omega⟩
  | exact⟨by simpa using k1,hp,ha',hk4,f-1,by omega,by omega,k7,by omega⟩
end Go.Proofs.YtnaaceooknghjaaGreatDoor.X
