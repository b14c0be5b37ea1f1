/- What functions answer, and the plain laws behind it. -/
import Derived.Test.YtnaaceooknghjaaGreatDoorC52
import Derived.Test.YtnaaceooknghjaaGreatDoorKAH
set_option linter.unusedSimpArgs false
set_option linter.unusedVariables false
set_option maxHeartbeats 8000000
set_option maxRecDepth 100000
namespace Go.Proofs.YtnaaceooknghjaaGreatDoor.X
open Go Go.Proofs Tryz
theorem kb3 {n:Int} {es:List (Int×Int)} {S:Sr} (ho:∀e∈es,okE n e) (D:Dfs n es S) {bs:List (Int×Int)} (hg:∀b∈bs,Bk n es S b):(chFold n S.par bs).1.length=n.toNat∧(chFold n S.par bs).2.length=bs.length:=by
 have h1:=(CI.take ho D hg bs.length (Nat.le_refl _)).ln
 have h2:=jem (n:=n) (par:=S.par) (bs:=bs) bs.length (Nat.le_refl _)
 rw[List.take_length] at h1 h2
 exact⟨h1,by rw[h2];simp⟩
theorem jop {es:List (Int×Int)} {S:Sr} {u:Int}:bkOf es S u=(bkN es S u).map fun w=>(u,w):=rfl
theorem jy9 (n:Int) (es:List (Int×Int)) (hV:VG n es):KP 160 [GL n es] []=some (.ref 2000 0 0 (chainsL n es).length,[],[.arr 0 1 ((chainsL n es).map encL)]):=by
 have hs:=kby n es hV
 obtain⟨hl1,hl2⟩:=js8 hV
 have hbd:=jvf hV
 have hord:=jx7 hV
 have ho:=hV.okg.ok
 have hn1:=hV.1
 have hn16:=hV.2.1
 have hel:=hV.2.2.1
 have D:=jgn ho hV.nodup (n:=n) (by omega)
 have hbk:∀b∈backsL n es (seek n es),Bk n es (seek n es) b:=fun b hb=>(kar hV hb).1
 have hch:chainsL n es=(chFold n (seek n es).par (backsL n es (seek n es))).2:=rfl
 rw[hch]
 have hor:=j17 n (seek n es) hn1 hn16 hl1 hbd
 have holn:=jl9 n (seek n es).num
 have hbl:=fun u hu=>j7t n es (seek n es) hV hl1 hl2 u hu
 have hbks:backsL n es (seek n es)=(ordL n (seek n es).num).flatMap (bkOf es (seek n es)):=rfl
 rw[hbks] at hbk ⊢
 generalize seek n es=S at *
 generalize hor2:ordL n S.num=od at *
 have hodt:od.take n.toNat=od:=List.take_of_length_le (by omega)
 refine gc func160 ?_
 have Fz:=fz4 results160 hs hor hodt
 repeat refine go1 ?_
 refine jaa (fun(x:Int×Nat×List Bool×List (List Int)) s=>s.m 1=some (.box 0 [I n,LE es])∧s.ρ 1=.ptr 1 0 0 0∧s.m 4=some (.box 0 [LI S.num,LI S.par,LI S.low])∧s.ρ 4=.ptr 4 0 0 0∧s.m 12=some (.arr x.2.1 1 (x.2.2.2.map encL))∧s.ρ 3=.ref 12 x.2.1 0 x.2.2.2.length∧s.m 17=some (.arr 0 1 (x.2.2.1.map encT))∧s.ρ 5=.ref 17 0 0 n.toNat∧s.ρ 6=LI od∧s.ρ 7=I x.1∧
  (x.2.2.1,x.2.2.2)=chFold n S.par ((od.take x.1.toNat).flatMap (bkOf es S))∧(x.2.2.2.length:Int)≤40*x.1∧0≤x.1∧x.1≤n) (fun x=>(n-x.1).toNat) (0,0,fB n.toNat,[]) ?_ ?_
 ·exact⟨rfl,rfl,rfl,rfl,rfl,rfl,by simp[upd,hl1],by simp[upd,hl1],rfl,rfl,rfl,by simp,by simp,by simp only;omega⟩
 rintro⟨i,v,mk,outs⟩ ⟨ρ,m⟩ ⟨m1,e1,m4,e4,m12,e3,m17,e5,e6,e7,hf,hol,g0,g1⟩
 simp only at m1 e1 m4 e4 m12 e3 m17 e5 e6 e7 hf hol g0 g1
 have hpre:∀b∈(od.take i.toNat).flatMap (bkOf es S),Bk n es S b:=fun b hb=>by
  obtain⟨u,hu,hb⟩:=List.mem_flatMap.1 hb
  exact hbk b (List.mem_flatMap.2 ⟨u,List.mem_of_mem_take hu,hb⟩)
 by_cases hi:i<n
 rotate_left
 ·have hoe:(chFold n S.par (od.flatMap (bkOf es S))).2=outs:=by rw[jac (by omega)] at hf;rw[←hf]
  rw[hoe]
  have Fz:=fz11 results160 m1 e1 m4 e4 m12 e3 m17 e5 e6 e7
  repeat(first|exact trivial|refine go1 ?_)
 have hum:=jab (d:=0) (show i.toNat<od.length by omega)
 have hu:=hord _ hum
 have htk:=jae (l:=od) (i:=i) 0 g0 (by omega)
 have hgo:=getI od i.toNat (by omega)
 generalize od.getD i.toNat 0=u at hu htk hgo hum
 have hb1:=hbl u hu
 have hbl1:=jv5 es S u
 rw[jop,List.length_map] at hbl1
 have hinb:∀w∈bkN es S u,Bk n es S (u,w):=fun w hw=>hbk (u,w) (List.mem_flatMap.2 ⟨u,hum,by rw[jop];exact List.mem_map.2 ⟨w,hw,rfl⟩⟩)
 obtain⟨u0,u1⟩:=id hu
 have Fz:=fz13 results160 m1 e1 m4 e4 m12 e3 m17 e5 e6 e7 hgo hb1
 repeat refine go1 ?_
 refine jaa (fun(x:Int×Nat×List Bool×List (List Int)) s=>s.m 1=some (.box 0 [I n,LE es])∧s.ρ 1=.ptr 1 0 0 0∧s.m 4=some (.box 0 [LI S.num,LI S.par,LI S.low])∧s.ρ 4=.ptr 4 0 0 0∧s.m 12=some (.arr x.2.1 1 (x.2.2.2.map encL))∧s.ρ 3=.ref 12 x.2.1 0 x.2.2.2.length∧s.m 17=some (.arr 0 1 (x.2.2.1.map encT))∧s.ρ 5=.ref 17 0 0 n.toNat∧s.ρ 6=LI od∧s.ρ 7=I i∧
  s.ρ 8=LI (bkN es S u)∧s.ρ 9=I x.1∧(x.2.2.1,x.2.2.2)=chFold n S.par ((od.take i.toNat).flatMap (bkOf es S)++((bkN es S u).take x.1.toNat).map fun w=>(u,w))∧(x.2.2.2.length:Int)≤40*i+x.1∧0≤x.1∧x.1≤(bkN es S u).length) (fun x=>((bkN es S u).length-x.1).toNat) (0,v,mk,outs) ?_ ?_
 ·exact⟨m1,e1,m4,e4,m12,e3,m17,e5,e6,e7,rfl,rfl,by simpa using hf,by simp only;omega,by simp,by simp⟩
 rintro⟨k,v,mk,outs⟩ ⟨ρ,m⟩ ⟨m1,e1,m4,e4,m12,e3,m17,e5,e6,e7,e8,e9,hf,hol,f0,f1⟩
 simp only at m1 e1 m4 e4 m12 e3 m17 e5 e6 e7 e8 e9 hf hol f0 f1
 have hpre2:∀b∈(od.take i.toNat).flatMap (bkOf es S)++((bkN es S u).take k.toNat).map (fun w=>(u,w)),Bk n es S b:=fun b hb=>by
  rcases List.mem_append.1 hb with hb|hb
  ·exact hpre b hb
  ·obtain⟨w,hw,rfl⟩:=List.mem_map.1 hb
   exact hinb w (List.mem_of_mem_take hw)
 have hmk:=(kb3 ho D hpre2).1
 rw[←hf] at hmk
 simp only at hmk
 by_cases hk:k<(bkN es S u).length
 rotate_left
 ·have Fz:=fz13 results160 m1 e1 m4 e4 m12 e3 m17 e5 e6 e7 e8 e9
  repeat refine go1 ?_
  refine⟨i+1,mk,outs,rfl,rfl,rfl,rfl,?_,by omega,by omega,by omega,by omega⟩
  rw[htk,List.flatMap_append,hf,jac (l:=bkN es S u) (n:=k.toNat) (by omega)]
  simp[jop]
 have hwm:=jab (d:=0) (show k.toNat<(bkN es S u).length by omega)
 have hB:=hinb _ hwm
 have hge:=getI (bkN es S u) k.toNat (by omega)
 have hsn:chFold n S.par ((od.take i.toNat).flatMap (bkOf es S)++((bkN es S u).take (k+1).toNat).map fun w=>(u,w))=((chOne n S.par mk (u,(bkN es S u).getD k.toNat 0)).1,outs++[(chOne n S.par mk (u,(bkN es S u).getD k.toNat 0)).2]):=by
  rw[jae 0 f0 hk,List.map_append,←List.append_assoc]
  show chFold n S.par (_++[_])=_
  rw[je3,←hf];rfl
 generalize (bkN es S u).getD k.toNat 0=b1 at hB hge hsn
 have hA:=hB.anc D
 obtain⟨d0,d1⟩:=hB.z
 simp only at d0 d1 hA
 have hun:=j6f (mk.set u.toNat true)
 rw[List.length_set,hmk] at hun
 have hgb:gB (mk.set u.toNat true) u=true:=by rw[jjv hmk hu hu,if_pos rfl]
 have Fz:=fz17 results160 m1 e1 m4 e4 m12 e3 m17 e5 e6 e7 e8 e9 hgo hge @getT @setT
 repeat refine go1 ?_
 refine jaa (fun(x:Nat×Nat×List Bool×Int×List Int) s=>s.m 1=some (.box 0 [I n,LE es])∧s.ρ 1=.ptr 1 0 0 0∧s.m 4=some (.box 0 [LI S.num,LI S.par,LI S.low])∧s.ρ 4=.ptr 4 0 0 0∧s.m 12=some (.arr v 1 (outs.map encL))∧s.ρ 3=.ref 12 v 0 outs.length∧s.m 17=some (.arr 0 1 (x.2.2.1.map encT))∧s.ρ 5=.ref 17 0 0 n.toNat∧s.ρ 6=LI od∧s.ρ 7=I i∧s.ρ 8=LI (bkN es S u)∧s.ρ 9=I k∧
  s.m 53=some (.arr x.2.1 1 (x.2.2.2.2.map encI))∧s.ρ 10=.ref 53 x.2.1 0 x.2.2.2.2.length∧s.ρ 11=I x.2.2.2.1∧x.2.2.1.length=n.toNat∧inR n x.2.2.2.1∧Anc n S.par u x.2.2.2.1∧gB x.2.2.1 u=true∧unm x.2.2.1≤x.1∧x.2.2.2.2.length+x.1≤n.toNat+2∧
  chW S.par x.1 x.2.2.1 x.2.2.2.1 x.2.2.2.2=chOne n S.par mk (u,b1)) (fun x=>x.1) (n.toNat,nv (m 53),mk.set u.toNat true,b1,[u,b1]) ?_ ?_
 ·exact⟨m1,e1,m4,e4,m12,e3,rfl,e5,e6,e7,e8,e9,rfl,rfl,rfl,by simpa using hmk,⟨d0,d1⟩,hA,hgb,hun,by simp;omega,rfl⟩
 rintro⟨f,w,mk',l,acc⟩ ⟨ρ,m⟩ ⟨m1,e1,m4,e4,m12,e3,m17,e5,e6,e7,e8,e9,m53,e10,e11,k1,k2,k3,k4,k5,k6,k7⟩
 simp only at m1 e1 m4 e4 m12 e3 m17 e5 e6 e7 e8 e9 m53 e10 e11 k1 k2 k3 k4 k5 k6 k7
 obtain⟨l0,l1⟩:=id k2
 by_cases hm:gB mk' l=true
 ·have hm':mk'.getD l.toNat false=true:=hm
  rw[jh1 hm] at k7
  rw[←k7] at hsn
  simp only at hsn
  have Fz:=fz19 results160 m1 e1 m4 e4 m12 e3 m17 e5 e6 e7 e8 e9 m53 e10 e11 @getT hm' @appL
  repeat refine go1 ?_
  exact⟨k+1,mk',outs++[acc],rfl,by simp,rfl,rfl,hsn.symm,by rw[List.length_append,List.length_singleton];omega,by omega,by omega,by omega⟩
 have hmf:gB mk' l=false:=by simpa using hm
 have hm':mk'.getD l.toNat false=false:=hmf
 have hne:u≠l:=fun e=>hm (e▸k4)
 obtain⟨hp,ha'⟩:=D.above k3 hne
 have hun:=jmr (mk:=mk') (i:=l.toNat) (by omega) (by simpa[gB] using hmf)
 rw[jwg hmf (by omega)] at k7
 have hgp:S.par.getD l.toNat 0=gI S.par l:=rfl
 have hk4:gB (mk'.set l.toNat true) u=true:=by rw[jjv k1 k2 hu,if_neg (Ne.symm hne)];exact k4
 generalize gI S.par l=p at hp ha' k7 hgp
 have Fz:=fz21 results160 m1 e1 m4 e4 m12 e3 m17 e5 e6 e7 e8 e9 m53 e10 e11 @getT @setT hm' hgp hl2
 repeat refine go1 ?_
 first
  | exact⟨f-1,w+1,mk'.set l.toNat true,rfl,rfl,rfl,by simpa using k1,hp,ha',hk4,by omega,by omega,k7,by omega⟩
  | exact⟨by simpa using k1,hp,ha',hk4,f-1,by omega,by omega,k7,by omega⟩
theorem juc (n:Int) (es:List (Int×Int)) (hl:es.length≤1000):KP 91 [GL n es] []=some (if VG n es then(LL (chainsL n es),[],[]) else(.ref 2000 0 0 0,[],[.arr 0 1 []])):=by
 by_cases hV:VG n es
 ·rw[if_pos hV]
  have h:=jy9 n es hV
  refine gc func91 ?_
  have Fz:=fz2 results91 h
  repeat(first|exact trivial|refine go1 ?_)
 ·rw[if_neg hV]
  refine gc func91 ?_
  have Fz:=fz1 results91
  repeat(first|exact trivial|refine go1 ?_)
noncomputable def rdL (n:Int) (es:List (Int×Int)):List Int:=if VG n es then kd1 n es (chainsL n es).length else []
end Go.Proofs.YtnaaceooknghjaaGreatDoor.X
