/- What functions answer, and the plain laws behind it. -/
import Derived.Test.YtnaaceooknghjaaGreatDoorKAF
set_option linter.unusedSimpArgs false
set_option linter.unusedVariables false
set_option maxHeartbeats 16000000
set_option maxRecDepth 100000
namespace Go.Proofs.YtnaaceooknghjaaGreatDoor.X
open Go Go.Proofs Tryz
abbrev arrT (l:List Bool):Arr:=.arr 0 1 (l.map encT)
abbrev arrL (l:List Int):Arr:=.arr 0 1 (l.map encI)
abbrev boxL (n:Int) (es:List (Int×Int)) (k:Nat):Arr:=.box 0 [I n,LE es,.ref 1001 0 0 k,.ref 1002 0 0 k]
theorem jzf {S:Int→Prop} [DecidablePred S] (n a b k c:Int) (ts:List Tl) (x0:List Int) (y0:List Bool) (hV:VG n (esT ts)) (hlv:∀t∈ts,0≤t.2.1∧t.2.1≤4) (ha:inN n a) (hb:inN n b) (hk:0≤k∧k≤4) (hx0:x0.length≤1) (hy0:y0.length≤1)
 (hcc:c=if szC n (abT ts k true) b<szC n (abT ts k true) a then b else a) (hS:∀u,inN n u→(lbl (abT ts k true) u=lbl (abT ts k true) c↔S u)) :
 KP 145 [.ptr 1000 0 0 0,PE a b,I k] [boxL n (esT ts) ts.length,arrL (lvT ts++x0),arrT (trT ts++y0)]=
  some (.tup [I (((ts.filter fun t=>decide (t.2.2=true∧t.2.1=k∧S t.1.1∧S t.1.2)).length:Int)+(scanT S k (ts.map (up1 S k))).2.1),B (scanT S k (ts.map (up1 S k))).2.2],[boxL n (esT ts) ts.length,arrL (lvT (scanT S k (ts.map (up1 S k))).1++x0),arrT (trT (scanT S k (ts.map (up1 S k))).1++y0)],[]):=by
 have l1:=jaq ts
 have l2:=jax ts
 have l3:=ja9 ts
 have hn16:=hV.2.1
 have hel:=hV.2.2.1
 have ho:=hV.2.2.2.1
 have htk2:(lvT ts++x0).take ts.length=lvT ts:=List.take_left' l2
 have htk3:(trT ts++y0).take ts.length=trT ts:=List.take_left' l3
 have hab:=jot n k true ts (by omega)
 have hF:OKG n (abT ts k true):=jiv hV
 have hpar:=ji4 n (abT ts k true) hF
 have hll:=jap n (abT ts k true)
 obtain⟨a0,a1⟩:=id ha
 obtain⟨b0,b1⟩:=id hb
 have hbx:∀u,inN n u→((lab n (abT ts k true)).map encI)[u.toNat]?=some [.v (.int .i64 (lbl (abT ts k true) u))]:=fun u hu=>by obtain⟨u0,u1⟩:=id hu;rw[getI _ _ (by omega),jsc hu]
 have hga:=hbx a ha
 have hgb:=hbx b hb
 have hca:=jnn (lab n (abT ts k true)) (lbl (abT ts k true) a) (by omega)
 have hcb:=jnn (lab n (abT ts k true)) (lbl (abT ts k true) b) (by omega)
 rw[jpc ha] at hca
 rw[jpc hb] at hcb
 have hlen40:ts.length≤40:=by omega
 have hes:∀i:Nat,i<ts.length→((esT ts).map encE)[i]?=some [.v (.int .i64 (ts.getD i dT).1.1),.v (.int .i64 (ts.getD i dT).1.2)]∧inN n (ts.getD i dT).1.1∧inN n (ts.getD i dT).1.2:=fun i hi=>by
  refine⟨jz8 ts i hi,?_⟩
  have hm:=ho (ts.getD i dT).1 (List.mem_map.2 ⟨_,jab hi,rfl⟩)
  unfold okE at hm
  exact⟨⟨hm.1,by omega⟩,⟨by omega,hm.2.2⟩⟩
 have hlvi:∀i:Nat,i<ts.length→0≤(ts.getD i dT).2.1∧(ts.getD i dT).2.1≤4:=fun i hi=>hlv _ (jab hi)
 generalize abT ts k true=F at *
 refine jc6 (fn:=Tryz.f145) rfl func145 rfl ⟨Nat.le_of_ble_eq_true rfl,rfl,rfl⟩ ?_
 repeat'(first|(refine na ?_;constructor)|(refine jav ?_ ?_<;>intro _<;>first|(exfalso;omega)|skip)|refine ord_split (by kernel_rfl) ?_|((first|(refine nb ?_;constructor)|refine pn rfl ?_|refine pe rfl ?_|((first|refine at2 ?_|refine at_cond ?_);split<;>first|(exfalso;omega;done)|skip))<;>try simp(config:={maxSteps:=3000000})(disch:=first|assumption|omega|exact VG.okg (by assumption)|(simp only[List.length_set,List.length_append,List.length_cons,List.length_nil,List.length_replicate];omega))only[go_sem,simprocAttr,results145,hab,hpar,htk2,htk3,hga,hgb,hca,hcb]))
 all_goals
  rename_i hlt
  refine jaa (fun(i:Int) s=>s.m 1000=some (boxL n (esT ts) ts.length)∧s.m 1001=some (arrL (lvT (mxT (up1 S k) ts i.toNat)++x0))∧s.m 1002=some (arrT (trT ts++y0))∧s.m 8=some (.box 0 [LI (lab n F)])∧s.ρ 8=.ptr 8 0 0 0∧s.ρ 0=.ptr 1000 0 0 0∧s.ρ 2=I k∧s.ρ 10=I (lbl F c)∧s.ρ 11=I (((ts.take i.toNat).filter fun t=>decide (t.2.2=true∧t.2.1=k∧S t.1.1∧S t.1.2)).length:Nat)∧s.ρ 54=LE (esT ts)∧s.ρ 55=I (ts.length:Int)∧s.ρ 56=I i∧0≤i∧i≤ts.length) (fun i=>(ts.length-i).toNat) 0 ?_ ?_
  ·refine⟨rfl,rfl,rfl,rfl,rfl,rfl,rfl,?_,rfl,rfl,?_,rfl,by omega,by omega⟩
   ·first
     | (rw[if_pos hlt] at hcc;subst hcc;simp[upd];done)
     | (rw[if_neg hlt] at hcc;subst hcc;simp[upd];done)
   ·simp[upd,l1]
  rintro i ⟨ρ,m⟩ ⟨m0,m1,m2,m8,e8,e0,e2,e10,e11,e54,e55,e56,g0,g1⟩
  simp only at m0 m1 m2 m8 e8 e0 e2 e10 e11 e54 e55 e56 g0 g1
  by_cases hi:i<ts.length
  ·obtain⟨he,hia,hib⟩:=hes i.toNat (by omega)
   have hla:=hbx _ hia
   have hlb:=hbx _ hib
   have hSa:=hS _ hia
   have hSb:=hS _ hib
   have hlvb:=hlvi i.toNat (by omega)
   have hml:=j5e (up1 S k) ts i.toNat
   have hgl:=jtj (x0:=x0) (A:=lvT (mxT (up1 S k) ts i.toNat)) (i:=i.toNat) (v:=(ts.getD i.toNat dT).2.1) (by rw[jax,hml];omega) (by rw[jl5 (by rw[hml];omega),jpt (by omega)])
   have hgt:=jtk (x0:=y0) (A:=trT ts) (i:=i.toNat) (v:=(ts.getD i.toNat dT).2.2) (by omega) (kee (by omega))
   have hnx:=jxx (f:=up1 S k) (ts:=ts) (i:=i.toNat) (by omega)
   have hcs:=jyi (S:=S) (k:=k) g0 hi
   have hfl:=List.length_filter_le (fun t:Tl=>decide (t.2.2=true∧t.2.1=k∧S t.1.1∧S t.1.2)) (ts.take i.toNat)
   rw[List.length_take] at hfl
   have hi1:(i+1).toNat=i.toNat+1:=by omega
   have hlself:(lvT (mxT (up1 S k) ts i.toNat)).set i.toNat (ts.getD i.toNat dT).2.1=lvT (mxT (up1 S k) ts i.toNat):=by
    have:=jx9 (l:=lvT (mxT (up1 S k) ts i.toNat)) (i:=i.toNat) (d:=0) (by rw[jax,hml];omega)
    rw[jl5 (by rw[hml];omega),jpt (by omega)] at this
    exact this
   have hnl:=congrArg lvT hnx
   rw[j5c,←hi1] at hnl
   have hsa:∀v:Int,(lvT (mxT (up1 S k) ts i.toNat)++x0).set i.toNat v=(lvT (mxT (up1 S k) ts i.toNat)).set i.toNat v++x0:=fun v=>jvh (by rw[jax,hml];omega)
   have hml1:(lvT (mxT (up1 S k) ts i.toNat)).length=ts.length:=by rw[jax,hml]
   clear hnx
   generalize lvT (mxT (up1 S k) ts i.toNat)=A at *
   generalize (((ts.take i.toNat).filter fun t=>decide (t.2.2=true∧t.2.1=k∧S t.1.1∧S t.1.2)).length:Nat)=q0 at *
   have hup:up1 S k (ts.getD i.toNat dT)=if(ts.getD i.toNat dT).2.2=true∧(ts.getD i.toNat dT).2.1=k∧S (ts.getD i.toNat dT).1.1∧S (ts.getD i.toNat dT).1.2 then raT (ts.getD i.toNat dT) else ts.getD i.toNat dT:=rfl
   generalize ts.getD i.toNat dT=t at *
   obtain⟨⟨u,v⟩,l,q⟩:=t
   simp only at he hia hib hla hlb hSa hSb hlvb hgl hgt hcs hlself hup
   generalize lbl F u=lu at *
   generalize lbl F v=lv at *
   by_cases hall:q=true∧l=k∧S u∧S v
   ·rw[if_pos hall] at hcs hup
    rw[hup] at hnl
    obtain⟨rfl,rfl,hsu,hsv⟩:=hall
    have hlu:lu=lbl F c:=hSa.2 hsu
    have hlv':lv=lbl F c:=hSb.2 hsv
    subst hlu
    subst hlv'
    repeat'(first|(refine na ?_;constructor)|(refine jav ?_ ?_<;>intro _<;>first|(exfalso;omega)|skip)|refine ord_split (by kernel_rfl) ?_|((first|(refine nb ?_;constructor)|refine pn rfl ?_|refine pe rfl ?_|((first|refine at2 ?_|refine at_cond ?_);split<;>first|(exfalso;omega;done)|skip))<;>try simp(config:={maxSteps:=3000000})(disch:=first|assumption|omega|exact VG.okg (by assumption)|(simp only[List.length_set,List.length_append,List.length_cons,List.length_nil,List.length_replicate];omega))only[go_sem,simprocAttr,results145,m0,m1,m2,m8,e8,e0,e2,e10,e11,e54,e55,e56,he,hla,hlb,hgl,hgt,hsa]))
    exact⟨i+1,by rw[hnl];rfl,hcs.symm,rfl,by omega,by omega,by omega⟩
   ·rw[if_neg hall] at hcs hup
    rw[hup] at hnl
    have hnl':lvT (mxT (up1 S k) ts (i+1).toNat)=A:=hnl.trans hlself
    have hkeep:∃w:Int,w=i+1∧A++x0=lvT (mxT (up1 S k) ts w.toNat)++x0:=⟨i+1,rfl,by rw[hnl']⟩
    cases q with
    | false=>
     repeat'(first|(refine na ?_;constructor)|(refine jav ?_ ?_<;>intro _<;>first|(exfalso;omega)|skip)|refine ord_split (by kernel_rfl) ?_|((first|(refine nb ?_;constructor)|refine pn rfl ?_|refine pe rfl ?_|((first|refine at2 ?_|refine at_cond ?_);split<;>first|(exfalso;omega;done)|skip))<;>try simp(config:={maxSteps:=3000000})(disch:=first|assumption|omega|exact VG.okg (by assumption)|(simp only[List.length_set,List.length_append,List.length_cons,List.length_nil,List.length_replicate];omega))only[go_sem,simprocAttr,results145,m0,m1,m2,m8,e8,e0,e2,e10,e11,e54,e55,e56,he,hgl,hgt]))
     exact⟨i+1,by rw[hnl'],by omega,rfl,by omega,by omega,by omega⟩
    | true=>
     by_cases hl:l=k
     ·subst hl
      by_cases hsu:S u
      ·have hlu:lu=lbl F c:=hSa.2 hsu
       have hsv:¬S v:=fun h=>hall ⟨rfl,rfl,hsu,h⟩
       have hlv':¬lv=lbl F c:=fun h=>hsv (hSb.1 h)
       subst hlu
       repeat'(first|(refine na ?_;constructor)|(refine jav ?_ ?_<;>intro _<;>first|(exfalso;omega)|skip)|refine ord_split (by kernel_rfl) ?_|((first|(refine nb ?_;constructor)|refine pn rfl ?_|refine pe rfl ?_|((first|refine at2 ?_|refine at_cond ?_);split<;>first|(exfalso;omega;done)|skip))<;>try simp(config:={maxSteps:=3000000})(disch:=first|assumption|omega|exact VG.okg (by assumption)|(simp only[List.length_set,List.length_append,List.length_cons,List.length_nil,List.length_replicate];omega))only[go_sem,simprocAttr,results145,m0,m1,m2,m8,e8,e0,e2,e10,e11,e54,e55,e56,he,hla,hlb,hgl,hgt,hlv']))
       exact⟨i+1,by rw[hnl'],by omega,rfl,by omega,by omega,by omega⟩
      ·have hlu:¬lu=lbl F c:=fun h=>hsu (hSa.1 h)
       repeat'(first|(refine na ?_;constructor)|(refine jav ?_ ?_<;>intro _<;>first|(exfalso;omega)|skip)|refine ord_split (by kernel_rfl) ?_|((first|(refine nb ?_;constructor)|refine pn rfl ?_|refine pe rfl ?_|((first|refine at2 ?_|refine at_cond ?_);split<;>first|(exfalso;omega;done)|skip))<;>try simp(config:={maxSteps:=3000000})(disch:=first|assumption|omega|exact VG.okg (by assumption)|(simp only[List.length_set,List.length_append,List.length_cons,List.length_nil,List.length_replicate];omega))only[go_sem,simprocAttr,results145,m0,m1,m2,m8,e8,e0,e2,e10,e11,e54,e55,e56,he,hla,hgl,hgt,hlu]))
       exact⟨i+1,by rw[hnl'],by omega,rfl,by omega,by omega,by omega⟩
     ·repeat'(first|(refine na ?_;constructor)|(refine jav ?_ ?_<;>intro _<;>first|(exfalso;omega)|skip)|refine ord_split (by kernel_rfl) ?_|((first|(refine nb ?_;constructor)|refine pn rfl ?_|refine pe rfl ?_|((first|refine at2 ?_|refine at_cond ?_);split<;>first|(exfalso;omega;done)|skip))<;>try simp(config:={maxSteps:=3000000})(disch:=first|assumption|omega|exact VG.okg (by assumption)|(simp only[List.length_set,List.length_append,List.length_cons,List.length_nil,List.length_replicate];omega))only[go_sem,simprocAttr,results145,m0,m1,m2,m8,e8,e0,e2,e10,e11,e54,e55,e56,he,hgl,hgt,hl]))
      exact⟨i+1,by rw[hnl'],by omega,rfl,by omega,by omega,by omega⟩
  rw[jac (by omega)] at e11
  have hmx:mxT (up1 S k) ts i.toNat=ts.map (up1 S k):=by
   unfold mxT
   rw[jac (by omega),List.drop_eq_nil_of_le (by omega),List.append_nil]
  rw[hmx] at m1
  have htr1:trT ts=trT (ts.map (up1 S k)):=by
   unfold trT
   rw[List.map_map]
   exact List.map_congr_left fun t _=>(kbf t).symm
  rw[htr1] at m2
  have hes1:∀i:Nat,i<ts.length→((ts.map (up1 S k)).getD i dT).1=(ts.getD i dT).1:=fun i hi=>by
   simp only[List.getD,List.getElem?_map,List.getElem?_eq_getElem hi,Option.map_some,Option.getD_some]
   exact kbe _
  have hlen1:(ts.map (up1 S k)).length=ts.length:=List.length_map ..
  have hr0:(ts.filter fun t=>decide (t.2.2=true∧t.2.1=k∧S t.1.1∧S t.1.2)).length≤ts.length:=List.length_filter_le _ _
  generalize (ts.filter fun t=>decide (t.2.2=true∧t.2.1=k∧S t.1.1∧S t.1.2)).length=r0 at *
  generalize hts1:ts.map (up1 S k)=us at *
  repeat'(first|(refine na ?_;constructor)|(refine jav ?_ ?_<;>intro _<;>first|(exfalso;omega)|skip)|refine ord_split (by kernel_rfl) ?_|((first|(refine nb ?_;constructor)|refine pn rfl ?_|refine pe rfl ?_|((first|refine at2 ?_|refine at_cond ?_);split<;>first|(exfalso;omega;done)|skip))<;>try simp(config:={maxSteps:=3000000})(disch:=first|assumption|omega|exact VG.okg (by assumption)|(simp only[List.length_set,List.length_append,List.length_cons,List.length_nil,List.length_replicate];omega))only[go_sem,simprocAttr,results145,m0,m1,m2,m8,e8,e0,e2,e10,e11,e54,e55,e56]))
  refine jaa (fun(w:Int×List Tl×Int) s=>s.m 1000=some (boxL n (esT ts) ts.length)∧s.m 1001=some (arrL (lvT (w.2.1++us.drop w.1.toNat)++x0))∧s.m 1002=some (arrT (trT (w.2.1++us.drop w.1.toNat)++y0))∧s.m 8=some (.box 0 [LI (lab n F)])∧s.ρ 8=.ptr 8 0 0 0∧s.ρ 0=.ptr 1000 0 0 0∧s.ρ 2=I k∧s.ρ 10=I (lbl F c)∧s.ρ 11=I ((r0:Int)+w.2.2)∧s.ρ 113=LE (esT ts)∧s.ρ 114=I (ts.length:Int)∧s.ρ 115=I w.1∧0≤w.1∧w.1≤ts.length∧0≤w.2.2∧w.2.2≤w.1∧(w.2.1.length:Int)=w.1∧
   (scanT S k us).1=w.2.1++(scanT S k (us.drop w.1.toNat)).1∧(scanT S k us).2.1=w.2.2+(scanT S k (us.drop w.1.toNat)).2.1∧(scanT S k us).2.2=(scanT S k (us.drop w.1.toNat)).2.2) (fun w=>(ts.length-w.1).toNat) (0,[],0) ?_ ?_
  ·exact⟨m0,by simpa using m1,by simpa using m2,m8,e8,e0,e2,e10,by simpa[upd] using e11,rfl,by simp[upd,l1],rfl,by simp,by simp,by simp,by simp,by simp,by simp,by simp,by simp⟩
  clear m0 m1 m2 m8 e8 e0 e2 e10 e11 e54 e55 e56 g0 g1 hi
  rintro⟨i,D,cc⟩ ⟨ρ,m⟩ ⟨m0,m1,m2,m8,e8,e0,e2,e10,e11,e113,e114,e115,g0,g1,c0,c1,hD,s1,s2,s3⟩
  simp only at m0 m1 m2 m8 e8 e0 e2 e10 e11 e113 e114 e115 g0 g1 c0 c1 hD s1 s2 s3
  by_cases hi:i<ts.length
  rotate_left
  ·have hz:us.drop i.toNat=[]:=List.drop_eq_nil_of_le (by omega)
   rw[hz,scanT] at s1 s2 s3
   rw[hz,List.append_nil] at m1 m2
   simp only[List.append_nil] at s1 s2 s3
   rw[Int.add_zero] at s2
   rw[s1,s2,s3]
   repeat'(first|(refine na ?_;constructor)|(refine jav ?_ ?_<;>intro _<;>first|(exfalso;omega)|skip)|refine ord_split (by kernel_rfl) ?_|((first|(refine nb ?_;constructor)|refine pn rfl ?_|refine pe rfl ?_|((first|refine at2 ?_|refine at_cond ?_);split<;>first|(exfalso;omega;done)|skip))<;>try simp(config:={maxSteps:=3000000})(disch:=first|assumption|omega|exact VG.okg (by assumption)|(simp only[List.length_set,List.length_append,List.length_cons,List.length_nil,List.length_replicate];omega))only[go_sem,simprocAttr,results145,m0,m1,m2,m8,e8,e0,e2,e10,e11,e113,e114,e115]))
  obtain⟨he,hia,hib⟩:=hes i.toNat (by omega)
  have hla:=hbx _ hia
  have hlb:=hbx _ hib
  have hSa:=hS _ hia
  have hSb:=hS _ hib
  have h1e:=hes1 i.toNat (by omega)
  have hdr:us.drop i.toNat=us.getD i.toNat dT::us.drop (i+1).toNat:=by
   have hlt:i.toNat<us.length:=by omega
   rw[List.drop_eq_getElem_cons hlt,show(i+1).toNat=i.toNat+1 by omega]
   simp[List.getD,hlt]
  rw[hdr] at m1 m2 s1 s2 s3
  rw[←h1e] at he hia hib hla hlb hSa hSb
  generalize hr:us.drop (i+1).toNat=r at *
  clear hdr h1e
  generalize us.getD i.toNat dT=t at *
  have hDn:D.length=i.toNat:=by omega
  have hgl:=jtj (x0:=x0) (A:=lvT (D++t::r)) (i:=i.toNat) (v:=t.2.1) (by rw[jax];simp;omega) (by rw[jef,ju5 (by rw[jax];exact hDn)])
  have hgt:=jtk (x0:=y0) (A:=trT (D++t::r)) (i:=i.toNat) (v:=t.2.2) (by rw[ja9];simp;omega) (by rw[jei,ju5 (by rw[ja9];exact hDn)])
  have hsl:∀v:Int,(lvT (D++t::r)++x0).set i.toNat v=lvT (D++(t.1,v,t.2.2)::r)++x0:=fun v=>by
   rw[jvh (by rw[jax];simp;omega),jef,jef,jps (by rw[jax];exact hDn)]
  have hst:∀v:Bool,(trT (D++t::r)++y0).set i.toNat v=trT (D++(t.1,t.2.1,v)::r)++y0:=fun v=>by
   rw[jvh (by rw[ja9];simp;omega),jei,jei,jps (by rw[ja9];exact hDn)]
  have hskip:((D++[t])++r)=D++t::r:=by simp
  obtain⟨⟨u,v⟩,l,q⟩:=t
  have hraT:((D++[raT ((u,v),l,q)])++r)=D++((u,v),l+1,q)::r:=by simp[raT]
  have htr2:trT (D++((u,v),l+1,q)::r)=trT (D++((u,v),l,q)::r):=by rw[jei,jei]
  have hlv2:lvT (D++((u,v),l,true)::r)=lvT (D++((u,v),l,q)::r):=by rw[jef,jef]
  simp only at he hia hib hla hlb hSa hSb hgl hgt hsl hst
  generalize lbl F u=lu at *
  generalize lbl F v=lv at *
  have hsu:(lu=lbl F c↔S u):=hSa
  have hsv:(lv=lbl F c↔S v):=hSb
  by_cases hsk:q=true∨l≠k∨(¬S u∧¬S v)
  ·rw[joe (S:=S) (k:=k) (t:=((u,v),l,q)) hsk] at s1 s2 s3
   have hw:(scanT S k us).1=(D++[((u,v),l,q)])++(scanT S k r).1:=by rw[s1];simp
   cases q with
   | true=>
    repeat'(first|(refine na ?_;constructor)|(refine jav ?_ ?_<;>intro _<;>first|(exfalso;omega)|skip)|refine ord_split (by kernel_rfl) ?_|((first|(refine nb ?_;constructor)|refine pn rfl ?_|refine pe rfl ?_|((first|refine at2 ?_|refine at_cond ?_);split<;>first|(exfalso;omega;done)|skip))<;>try simp(config:={maxSteps:=3000000})(disch:=first|assumption|omega|exact VG.okg (by assumption)|(simp only[List.length_set,List.length_append,List.length_cons,List.length_nil,List.length_replicate];omega))only[go_sem,simprocAttr,results145,m0,m1,m2,m8,e8,e0,e2,e10,e11,e113,e114,e115,he,hla,hlb,hgl,hgt]))
    exact⟨i+1,D++[((u,v),l,true)],by rw[hr,hskip],by rw[hr,hskip],cc,rfl,rfl,by omega,by omega,c0,by omega,by simp;omega,by rw[hr];exact hw,by rw[hr];exact s2,by rw[hr];exact s3,by omega⟩
   | false=>
    by_cases hl:l=k
    ·subst hl
     have hno:¬S u∧¬S v:=by simpa using hsk
     have h1:¬lu=lbl F c:=fun h=>hno.1 (hsu.1 h)
     have h2:¬lv=lbl F c:=fun h=>hno.2 (hsv.1 h)
     repeat'(first|(refine na ?_;constructor)|(refine jav ?_ ?_<;>intro _<;>first|(exfalso;omega)|skip)|refine ord_split (by kernel_rfl) ?_|((first|(refine nb ?_;constructor)|refine pn rfl ?_|refine pe rfl ?_|((first|refine at2 ?_|refine at_cond ?_);split<;>first|(exfalso;omega;done)|skip))<;>try simp(config:={maxSteps:=3000000})(disch:=first|assumption|omega|exact VG.okg (by assumption)|(simp only[List.length_set,List.length_append,List.length_cons,List.length_nil,List.length_replicate];omega))only[go_sem,simprocAttr,results145,m0,m1,m2,m8,e8,e0,e2,e10,e11,e113,e114,e115,he,hla,hlb,hgl,hgt,h1,h2]))
     exact⟨i+1,D++[((u,v),l,false)],by rw[hr,hskip],by rw[hr,hskip],cc,rfl,rfl,by omega,by omega,c0,by omega,by simp;omega,by rw[hr];exact hw,by rw[hr];exact s2,by rw[hr];exact s3,by omega⟩
    ·repeat'(first|(refine na ?_;constructor)|(refine jav ?_ ?_<;>intro _<;>first|(exfalso;omega)|skip)|refine ord_split (by kernel_rfl) ?_|((first|(refine nb ?_;constructor)|refine pn rfl ?_|refine pe rfl ?_|((first|refine at2 ?_|refine at_cond ?_);split<;>first|(exfalso;omega;done)|skip))<;>try simp(config:={maxSteps:=3000000})(disch:=first|assumption|omega|exact VG.okg (by assumption)|(simp only[List.length_set,List.length_append,List.length_cons,List.length_nil,List.length_replicate];omega))only[go_sem,simprocAttr,results145,m0,m1,m2,m8,e8,e0,e2,e10,e11,e113,e114,e115,he,hla,hlb,hgl,hgt,hl]))
     exact⟨i+1,D++[((u,v),l,false)],by rw[hr,hskip],by rw[hr,hskip],cc,rfl,rfl,by omega,by omega,c0,by omega,by simp;omega,by rw[hr];exact hw,by rw[hr];exact s2,by rw[hr];exact s3,by omega⟩
  ·have hq:q=false:=by
    cases q with
    | false=>rfl
    | true=>exact absurd (.inl rfl) hsk
   have hl:l=k:=Classical.byContradiction fun h=>hsk (.inr (.inl h))
   subst hq
   subst hl
   by_cases hbo:S u∧S v
   ·rw[jod (S:=S) (k:=l) (t:=((u,v),l,false)) rfl rfl hbo] at s1 s2 s3
    have h1:lu=lbl F c:=hsu.2 hbo.1
    have h2:lv=lbl F c:=hsv.2 hbo.2
    subst h1
    subst h2
    have hw:(scanT S l us).1=(D++[raT ((u,v),l,false)])++(scanT S l r).1:=by rw[s1];simp
    repeat'(first|(refine na ?_;constructor)|(refine jav ?_ ?_<;>intro _<;>first|(exfalso;omega)|skip)|refine ord_split (by kernel_rfl) ?_|((first|(refine nb ?_;constructor)|refine pn rfl ?_|refine pe rfl ?_|((first|refine at2 ?_|refine at_cond ?_);split<;>first|(exfalso;omega;done)|skip))<;>try simp(config:={maxSteps:=3000000})(disch:=first|assumption|omega|exact VG.okg (by assumption)|(simp only[List.length_set,List.length_append,List.length_cons,List.length_nil,List.length_replicate];omega))only[go_sem,simprocAttr,results145,m0,m1,m2,m8,e8,e0,e2,e10,e11,e113,e114,e115,he,hla,hlb,hgl,hgt,hsl]))
    exact⟨i+1,D++[raT ((u,v),l,false)],by rw[hr,hraT],by rw[hr,hraT,htr2],cc+1,by omega,rfl,by omega,by omega,by omega,by omega,by simp;omega,by rw[hr];exact hw,by rw[hr];simp only at s2;omega,by rw[hr];exact s3,by omega⟩
   ·have hnn:¬(¬S u∧¬S v):=fun h=>hsk (.inr (.inr h))
    rw[js7 (S:=S) (k:=l) (t:=((u,v),l,false)) rfl rfl hbo hnn] at s1 s2 s3
    rw[Int.add_zero] at s2
    simp only at s1 s3
    rw[s1,s2,s3]
    by_cases h1:lu=lbl F c
    ·have h2:¬lv=lbl F c:=fun h=>hbo ⟨hsu.1 h1,hsv.1 h⟩
     subst h1
     repeat'(first|(refine na ?_;constructor)|(refine jav ?_ ?_<;>intro _<;>first|(exfalso;omega)|skip)|refine ord_split (by kernel_rfl) ?_|((first|(refine nb ?_;constructor)|refine pn rfl ?_|refine pe rfl ?_|((first|refine at2 ?_|refine at_cond ?_);split<;>first|(exfalso;omega;done)|skip))<;>try simp(config:={maxSteps:=3000000})(disch:=first|assumption|omega|exact VG.okg (by assumption)|(simp only[List.length_set,List.length_append,List.length_cons,List.length_nil,List.length_replicate];omega))only[go_sem,simprocAttr,results145,m0,m1,m2,m8,e8,e0,e2,e10,e11,e113,e114,e115,he,hla,hlb,hgl,hgt,hst,h2]))
     all_goals first | (rw[hlv2];done) | (simp only[hlv2];done)|trace_state
    ·have h2:lv=lbl F c:=Classical.byContradiction fun h=>hnn ⟨fun q=>h1 (hsu.2 q),fun q=>h (hsv.2 q)⟩
     subst h2
     repeat'(first|(refine na ?_;constructor)|(refine jav ?_ ?_<;>intro _<;>first|(exfalso;omega)|skip)|refine ord_split (by kernel_rfl) ?_|((first|(refine nb ?_;constructor)|refine pn rfl ?_|refine pe rfl ?_|((first|refine at2 ?_|refine at_cond ?_);split<;>first|(exfalso;omega;done)|skip))<;>try simp(config:={maxSteps:=3000000})(disch:=first|assumption|omega|exact VG.okg (by assumption)|(simp only[List.length_set,List.length_append,List.length_cons,List.length_nil,List.length_replicate];omega))only[go_sem,simprocAttr,results145,m0,m1,m2,m8,e8,e0,e2,e10,e11,e113,e114,e115,he,hla,hlb,hgl,hgt,hst,h1]))
     all_goals first | (rw[hlv2];done) | (simp only[hlv2];done)|trace_state
end Go.Proofs.YtnaaceooknghjaaGreatDoor.X
