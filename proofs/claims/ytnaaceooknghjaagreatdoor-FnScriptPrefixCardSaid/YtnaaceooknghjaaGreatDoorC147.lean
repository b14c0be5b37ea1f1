/- What functions answer, and the plain laws behind it. -/
import Derived.Test.YtnaaceooknghjaaGreatDoorKAM
import Derived.Test.YtnaaceooknghjaaGreatDoorKAJ
set_option linter.unusedSimpArgs false
set_option linter.unusedVariables false
set_option maxHeartbeats 16000000
set_option maxRecDepth 100000
namespace Go.Proofs.YtnaaceooknghjaaGreatDoor.X
open Go Go.Proofs Tryz
theorem j7s (n a b:Int) (F:List (Int×Int)) (hV:VG n F) (ha:inN n a) (hb:inN n b):KP 215 [GL n F,I a,I b] []=some (LI (ptL n F (jdu n F a b)),[],[]):=by
 have h1:=jjm n a F hV ha
 have h2:=jjm n b F hV hb
 have s1:=kbb n F a
 have s2:=kbb n F b
 have t1:((ptL n F a).map encI).take (ptL n F a).length=(ptL n F a).map encI:=List.take_of_length_le (by simp)
 have t2:((ptL n F b).map encI).take (ptL n F b).length=(ptL n F b).map encI:=List.take_of_length_le (by simp)
 unfold jdu
 by_cases hlt:szC n F b<szC n F a
 ·rw[if_pos hlt]
  have hlt':((ptL n F b).length:Int)<(ptL n F a).length:=by omega
  refine gc func215 ?_
  have Fz:=fz6 results215 h1 h2 t1 t2 hlt'
  repeat(first|exact trivial|refine go1 ?_)
 ·rw[if_neg hlt]
  have hlt':¬((ptL n F b).length:Int)<(ptL n F a).length:=by omega
  refine gc func215 ?_
  have Fz:=fz6 results215 h1 h2 t1 t2 hlt'
  repeat(first|exact trivial|refine go1 ?_)
theorem jy8 {S:Int→Prop} [DecidablePred S] (n a b k:Int) (ts:List Tl) (Z:List Int) (hV:VG n (esT ts)) (hlv:∀t∈ts,0≤t.2.1∧t.2.1≤4) (hk:0≤k∧k≤4) (hZl:Z.length≤1000)
 (hside:KP 215 [GL n (abT ts k true),I a,I b] []=some (LI Z,[],[])) (hZ:∀u,inN n u→(u∈Z↔S u)) (hSe:∀t∈ts,t.2.2=true→t.2.1=k→(S t.1.1↔S t.1.2)) :
 KP 169 [LvP n ts,I a,I b,I k] []=
  some (.tup [.agg [I n,.ref 2000 0 0 ts.length,.ref 2001 0 0 ts.length,.ref 2002 0 0 ts.length],I (((ts.filter fun t=>decide (t.2.2=true∧t.2.1=k∧S t.1.1∧S t.1.2)).length:Int)+(scanT S k (ts.map (up1 S k))).2.1),B (scanT S k (ts.map (up1 S k))).2.2],[],
   [.arr 0 2 ((esT ts).map encE),arrL (lvT (scanT S k (ts.map (up1 S k))).1),arrT (trT (scanT S k (ts.map (up1 S k))).1)]):=by
 have l1:=jaq ts
 have l2:=jax ts
 have l3:=ja9 ts
 have hn16:=hV.2.1
 have hel:=hV.2.2.1
 have ho:=hV.2.2.2.1
 have hab:=jwe n k true ts (by omega)
 have hcp:=j7p n ts (by omega)
 have hF:OKG n (abT ts k true):=jiv hV
 have hft:((abT ts k true).map encE).take (abT ts k true).length=(abT ts k true).map encE:=List.take_of_length_le (by simp)
 have hlen40:ts.length≤40:=by omega
 have hes:∀i:Nat,i<ts.length→((esT ts).map encE)[i]?=some [.v (.int .i64 (ts.getD i dT).1.1),.v (.int .i64 (ts.getD i dT).1.2)]∧inN n (ts.getD i dT).1.1∧inN n (ts.getD i dT).1.2:=fun i hi=>by
  refine⟨jz8 ts i hi,?_⟩
  have hm:=ho (ts.getD i dT).1 (List.mem_map.2 ⟨_,jab hi,rfl⟩)
  unfold okE at hm
  exact⟨⟨hm.1,by omega⟩,⟨by omega,hm.2.2⟩⟩
 have hlvi:∀i:Nat,i<ts.length→0≤(ts.getD i dT).2.1∧(ts.getD i dT).2.1≤4:=fun i hi=>hlv _ (jab hi)
 have hsei:∀i:Nat,i<ts.length→(ts.getD i dT).2.2=true→(ts.getD i dT).2.1=k→(S (ts.getD i dT).1.1↔S (ts.getD i dT).1.2):=fun i hi=>hSe _ (jab hi)
 have hin:∀u:Int,KP 217 [LI Z,I u] []=some (B (decide (u∈Z)),[],[]):=fun u=>kfd Z u (by omega)
 generalize abT ts k true=F at *
 refine gc func169 ?_
 have Fz:=fz5 results169 hab hft hside hcp
 repeat refine go1 ?_
 refine jaa (fun(i:Int) s=>s.ρ 12=.ptr 12 0 0 0∧s.m 12=some (.box 0 [I n,.ref 3200 0 0 ts.length,.ref 3201 0 0 ts.length,.ref 3202 0 0 ts.length])∧s.m 3200=some (.arr 0 2 ((esT ts).map encE))∧s.m 3201=some (arrL (lvT (mxT (up1 S k) ts i.toNat)))∧s.m 3202=some (arrT (trT ts))∧s.ρ 8=.ptr 8 0 0 0∧s.m 8=some (.box 0 [I 0,.i .emp,.i .emp,.i .emp])∧s.ρ 3=I k∧s.ρ 11=LI Z∧
  s.ρ 13=I (((ts.take i.toNat).filter fun t=>decide (t.2.2=true∧t.2.1=k∧S t.1.1∧S t.1.2)).length:Nat)∧s.ρ 14=I i∧0≤i∧i≤ts.length) (fun i=>(ts.length-i).toNat) 0 ?_ ?_
 ·refine⟨rfl,?_,?_,?_,?_,rfl,rfl,rfl,rfl,rfl,rfl,by omega,by omega⟩
  all_goals first|rfl | (simp[upd,mxT];done) | (simp[upd,mxT,l1,l2,l3];done)
 rintro i ⟨ρ,m⟩ ⟨e12,m12,m0,m1,m2,e8,m8,e3,e11,e13,e14,g0,g1⟩
 simp only at e12 m12 m0 m1 m2 e8 m8 e3 e11 e13 e14 g0 g1
 by_cases hi:i<ts.length
 ·obtain⟨he,hia,hib⟩:=hes i.toNat (by omega)
  have hSa:=hZ _ hia
  have hlvb:=hlvi i.toNat (by omega)
  have hsee:=hsei i.toNat (by omega)
  have hml:=j5e (up1 S k) ts i.toNat
  have hgl:((lvT (mxT (up1 S k) ts i.toNat)).map encI)[i.toNat]?=some [.v (.int .i64 (ts.getD i.toNat dT).2.1)]:=by
   rw[getI _ _ (by rw[jax,hml];omega),jl5 (by rw[hml];omega),jpt (by omega)]
  have hgt:=j4d ts i.toNat (by omega)
  have hnx:=jxx (f:=up1 S k) (ts:=ts) (i:=i.toNat) (by omega)
  have hcs:=jyi (S:=S) (k:=k) g0 hi
  have hfl:=List.length_filter_le (fun t:Tl=>decide (t.2.2=true∧t.2.1=k∧S t.1.1∧S t.1.2)) (ts.take i.toNat)
  rw[List.length_take] at hfl
  have hi1:(i+1).toNat=i.toNat+1:=by omega
  have hlself:(lvT (mxT (up1 S k) ts i.toNat)).set i.toNat (ts.getD i.toNat dT).2.1=lvT (mxT (up1 S k) ts i.toNat):=by
   have:=jx9 (l:=lvT (mxT (up1 S k) ts i.toNat)) (i:=i.toNat) (d:=0) (by rw[jax,hml];omega)
   rw[jl5 (by rw[hml];omega),jpt (by omega)] at this
   exact this
  have hnl:=congrArg lvT hnx
  rw[j5c,←hi1] at hnl
  have hml1:(lvT (mxT (up1 S k) ts i.toNat)).length=ts.length:=by rw[jax,hml]
  clear hnx
  generalize lvT (mxT (up1 S k) ts i.toNat)=A at *
  generalize (((ts.take i.toNat).filter fun t=>decide (t.2.2=true∧t.2.1=k∧S t.1.1∧S t.1.2)).length:Nat)=q0 at *
  have hup:up1 S k (ts.getD i.toNat dT)=if(ts.getD i.toNat dT).2.2=true∧(ts.getD i.toNat dT).2.1=k∧S (ts.getD i.toNat dT).1.1∧S (ts.getD i.toNat dT).1.2 then raT (ts.getD i.toNat dT) else ts.getD i.toNat dT:=rfl
  generalize ts.getD i.toNat dT=t at *
  obtain⟨⟨u,v⟩,l,q⟩:=t
  simp only at he hia hib hSa hlvb hsee hgl hgt hcs hlself hup
  have hiu:=hin u
  by_cases hall:q=true∧l=k∧S u∧S v
  ·rw[if_pos hall] at hcs hup
   rw[hup] at hnl
   obtain⟨rfl,rfl,hsu,hsv⟩:=hall
   rw[decide_eq_true (hSa.2 hsu)] at hiu
   have Fz:=fz16 results169 e12 m12 m0 m1 m2 e8 m8 e3 e11 e13 e14 he hgl hgt hiu
   repeat refine go1 ?_
   all_goals first | (exact⟨i+1,by rw[hnl];rfl,hcs.symm,rfl,by omega,by omega,by omega⟩)
  ·rw[if_neg hall] at hcs hup
   rw[hup] at hnl
   have hnl':lvT (mxT (up1 S k) ts (i+1).toNat)=A:=hnl.trans hlself
   cases q with
   | false=>
    have Fz:=fz15 results169 e12 m12 m0 m1 m2 e8 m8 e3 e11 e13 e14 he hgl hgt
    repeat refine go1 ?_
    all_goals first | (exact⟨i+1,by rw[hnl'],by omega,rfl,by omega,by omega,by omega⟩)
   | true=>
    by_cases hl:l=k
    ·have hsu:¬S u:=fun h=>hall ⟨rfl,hl,h,(hsee rfl hl).1 h⟩
     subst hl
     rw[decide_eq_false (fun h=>hsu (hSa.1 h))] at hiu
     have Fz:=fz16 results169 e12 m12 m0 m1 m2 e8 m8 e3 e11 e13 e14 he hgl hgt hiu
     repeat refine go1 ?_
     all_goals first | (exact⟨i+1,by rw[hnl'],by omega,rfl,by omega,by omega,by omega⟩)
    ·have Fz:=fz16 results169 e12 m12 m0 m1 m2 e8 m8 e3 e11 e13 e14 he hgl hgt hl
     repeat refine go1 ?_
     all_goals first | (exact⟨i+1,by rw[hnl'],by omega,rfl,by omega,by omega,by omega⟩)
 rw[jac (by omega)] at e13
 have hmx:mxT (up1 S k) ts i.toNat=ts.map (up1 S k):=by
  unfold mxT
  rw[jac (by omega),List.drop_eq_nil_of_le (by omega),List.append_nil]
 rw[hmx] at m1
 have htr1:trT ts=trT (ts.map (up1 S k)):=by
  unfold trT
  rw[List.map_map]
  exact List.map_congr_left fun t _=>(kbf t).symm
 rw[htr1] at m2
 have hes1:∀i:Nat,i<ts.length→((ts.map (up1 S k)).getD i dT).1=(ts.getD i dT).1:=fun i hi=>by
  simp only[List.getD,List.getElem?_map,List.getElem?_eq_getElem hi,Option.map_some,Option.getD_some]
  exact kbe _
 have hlen1:(ts.map (up1 S k)).length=ts.length:=List.length_map ..
 have hr0:(ts.filter fun t=>decide (t.2.2=true∧t.2.1=k∧S t.1.1∧S t.1.2)).length≤ts.length:=List.length_filter_le _ _
 generalize (ts.filter fun t=>decide (t.2.2=true∧t.2.1=k∧S t.1.1∧S t.1.2)).length=r0 at *
 generalize hts1:ts.map (up1 S k)=us at *
 have ul2:=jax us
 have Fz:=fz12 results169 e12 m12 m0 m1 m2 e8 m8 e3 e11 e13 e14
 repeat refine go1 ?_
 refine jaa (fun(w:Int×List Tl×Int) s=>s.ρ 12=.ptr 12 0 0 0∧s.m 12=some (.box 0 [I n,.ref 3200 0 0 ts.length,.ref 3201 0 0 ts.length,.ref 3202 0 0 ts.length])∧s.m 3200=some (.arr 0 2 ((esT ts).map encE))∧s.m 3201=some (arrL (lvT (w.2.1++us.drop w.1.toNat)))∧s.m 3202=some (arrT (trT (w.2.1++us.drop w.1.toNat)))∧s.ρ 8=.ptr 8 0 0 0∧s.m 8=some (.box 0 [I 0,.i .emp,.i .emp,.i .emp])∧s.ρ 3=I k∧s.ρ 11=LI Z∧
  s.ρ 13=I ((r0:Int)+w.2.2)∧s.ρ 16=I w.1∧0≤w.1∧w.1≤ts.length∧0≤w.2.2∧w.2.2≤w.1∧(w.2.1.length:Int)=w.1∧
  (scanT S k us).1=w.2.1++(scanT S k (us.drop w.1.toNat)).1∧(scanT S k us).2.1=w.2.2+(scanT S k (us.drop w.1.toNat)).2.1∧(scanT S k us).2.2=(scanT S k (us.drop w.1.toNat)).2.2) (fun w=>(ts.length-w.1).toNat) (0,[],0) ?_ ?_
 ·exact⟨e12,m12,m0,by simpa using m1,by simpa using m2,e8,m8,e3,e11,by simpa[upd] using e13,rfl,by simp,by simp,by simp,by simp,by simp,by simp,by simp,by simp⟩
 clear m0 m1 m2 m8 e8 e12 m12 e3 e11 e13 e14 g0 g1 hi
 rintro⟨i,D,cc⟩ ⟨ρ,m⟩ ⟨e12,m12,m0,m1,m2,e8,m8,e3,e11,e13,e16,g0,g1,c0,c1,hD,s1,s2,s3⟩
 simp only at e12 m12 m0 m1 m2 e8 m8 e3 e11 e13 e16 g0 g1 c0 c1 hD s1 s2 s3
 by_cases hi:i<ts.length
 rotate_left
 ·have hz:us.drop i.toNat=[]:=List.drop_eq_nil_of_le (by omega)
  rw[hz,scanT] at s1 s2 s3
  rw[hz,List.append_nil] at m1 m2
  simp only[List.append_nil] at s1 s2 s3
  rw[Int.add_zero] at s2
  rw[s1,s2,s3]
  have Fz:=fz12 results169 e12 m12 m0 m1 m2 e8 m8 e3 e11 e13 e16
  repeat(first|exact trivial|refine go1 ?_)
  all_goals first|rfl
 obtain⟨he,hia,hib⟩:=hes i.toNat (by omega)
 have hSa:=hZ _ hia
 have hSb:=hZ _ hib
 have h1e:=hes1 i.toNat (by omega)
 have hdr:us.drop i.toNat=us.getD i.toNat dT::us.drop (i+1).toNat:=by
  have hlt:i.toNat<us.length:=by omega
  rw[List.drop_eq_getElem_cons hlt,show(i+1).toNat=i.toNat+1 by omega]
  simp[List.getD,hlt]
 rw[hdr] at m1 m2 s1 s2 s3
 rw[←h1e] at he hia hib hSa hSb
 generalize hr:us.drop (i+1).toNat=r at *
 have hrl:D.length+r.length+1=ts.length:=by
  have:=congrArg List.length hr
  rw[List.length_drop] at this
  omega
 clear hdr h1e
 generalize us.getD i.toNat dT=t at *
 have hDn:D.length=i.toNat:=by omega
 have hgl:((lvT (D++t::r)).map encI)[i.toNat]?=some [.v (.int .i64 t.2.1)]:=by
  rw[getI _ _ (by rw[jax];simp;omega),jef,ju5 (by rw[jax];exact hDn)]
 have hgt:((trT (D++t::r)).map encT)[i.toNat]?=some [.v (.bool t.2.2)]:=by
  rw[jei,List.map_append,List.map_cons,List.getElem?_append_right (by simp[ja9];omega)]
  simp[ja9,hDn,encT]
 have hsl:∀v:Int,(lvT (D++t::r)).set i.toNat v=lvT (D++(t.1,v,t.2.2)::r):=fun v=>by
  rw[jef,jef,jps (by rw[jax];exact hDn)]
 have hst:∀v:Bool,(trT (D++t::r)).set i.toNat v=trT (D++(t.1,t.2.1,v)::r):=fun v=>by
  rw[jei,jei,jps (by rw[ja9];exact hDn)]
 have hll:(lvT (D++t::r)).length=ts.length:=by rw[jax];simp;omega
 have hlt:(trT (D++t::r)).length=ts.length:=by rw[ja9];simp;omega
 have hskip:((D++[t])++r)=D++t::r:=by simp
 obtain⟨⟨u,v⟩,l,q⟩:=t
 have hraT:((D++[raT ((u,v),l,q)])++r)=D++((u,v),l+1,q)::r:=by simp[raT]
 have htr2:trT (D++((u,v),l+1,q)::r)=trT (D++((u,v),l,q)::r):=by rw[jei,jei]
 have hlv2:lvT (D++((u,v),l,true)::r)=lvT (D++((u,v),l,q)::r):=by rw[jef,jef]
 simp only at he hia hib hSa hSb hgl hgt hsl hst
 have hiu:=hin u
 have hiv:=hin v
 by_cases hsk:q=true∨l≠k∨(¬S u∧¬S v)
 ·rw[joe (S:=S) (k:=k) (t:=((u,v),l,q)) hsk] at s1 s2 s3
  have hw:(scanT S k us).1=(D++[((u,v),l,q)])++(scanT S k r).1:=by rw[s1];simp
  cases q with
  | true=>
   have Fz:=fz15 results169 e12 m12 m0 m1 m2 e8 m8 e3 e11 e13 e16 he hgl hgt
   repeat refine go1 ?_
   all_goals first | (exact⟨i+1,D++[((u,v),l,true)],by rw[hr,hskip],by rw[hr,hskip],cc,rfl,rfl,by omega,by omega,c0,by omega,by simp;omega,by rw[hr];exact hw,by rw[hr];exact s2,by rw[hr];exact s3,by omega⟩)
  | false=>
   by_cases hl:l=k
   ·subst hl
    have hno:¬S u∧¬S v:=by simpa using hsk
    rw[decide_eq_false (fun h=>hno.1 (hSa.1 h))] at hiu
    rw[decide_eq_false (fun h=>hno.2 (hSb.1 h))] at hiv
    have Fz:=fz17 results169 e12 m12 m0 m1 m2 e8 m8 e3 e11 e13 e16 he hgl hgt hiu hiv
    repeat refine go1 ?_
    all_goals first | (exact⟨i+1,D++[((u,v),l,false)],by rw[hr,hskip],by rw[hr,hskip],cc,rfl,rfl,by omega,by omega,c0,by omega,by simp;omega,by rw[hr];exact hw,by rw[hr];exact s2,by rw[hr];exact s3,by omega⟩)
   ·have Fz:=fz16 results169 e12 m12 m0 m1 m2 e8 m8 e3 e11 e13 e16 he hgl hgt hl
    repeat refine go1 ?_
    all_goals first | (exact⟨i+1,D++[((u,v),l,false)],by rw[hr,hskip],by rw[hr,hskip],cc,rfl,rfl,by omega,by omega,c0,by omega,by simp;omega,by rw[hr];exact hw,by rw[hr];exact s2,by rw[hr];exact s3,by omega⟩)
 ·have hq:q=false:=by
   cases q with
   | false=>rfl
   | true=>exact absurd (.inl rfl) hsk
  have hl:l=k:=Classical.byContradiction fun h=>hsk (.inr (.inl h))
  subst hq
  subst hl
  by_cases hbo:S u∧S v
  ·rw[jod (S:=S) (k:=l) (t:=((u,v),l,false)) rfl rfl hbo] at s1 s2 s3
   rw[decide_eq_true (hSa.2 hbo.1)] at hiu
   rw[decide_eq_true (hSb.2 hbo.2)] at hiv
   have hw:(scanT S l us).1=(D++[raT ((u,v),l,false)])++(scanT S l r).1:=by rw[s1];simp
   have Fz:=fz18 results169 e12 m12 m0 m1 m2 e8 m8 e3 e11 e13 e16 he hgl hgt hsl hiu hiv
   repeat refine go1 ?_
   all_goals first | (exact⟨i+1,D++[raT ((u,v),l,false)],by rw[hr,hraT],by rw[hr,hraT,htr2],cc+1,by omega,rfl,by omega,by omega,by omega,by omega,by simp;omega,by rw[hr];exact hw,by rw[hr];simp only at s2;omega,by rw[hr];exact s3,by omega⟩)
  ·have hnn:¬(¬S u∧¬S v):=fun h=>hsk (.inr (.inr h))
   rw[js7 (S:=S) (k:=l) (t:=((u,v),l,false)) rfl rfl hbo hnn] at s1 s2 s3
   rw[Int.add_zero] at s2
   simp only at s1 s3
   rw[s1,s2,s3]
   by_cases h1:S u
   ·have h2:¬S v:=fun h=>hbo ⟨h1,h⟩
    rw[decide_eq_true (hSa.2 h1)] at hiu
    rw[decide_eq_false (fun h=>h2 (hSb.1 h))] at hiv
    have Fz:=fz18 results169 e12 m12 m0 m1 m2 e8 m8 e3 e11 e13 e16 he hgl hgt hst hiu hiv
    repeat refine go1 ?_
    all_goals first | (rw[hlv2];done) | (simp only[hlv2];done)|rfl
   ·have h2:S v:=Classical.byContradiction fun h=>hnn ⟨h1,h⟩
    rw[decide_eq_false (fun h=>h1 (hSa.1 h))] at hiu
    rw[decide_eq_true (hSb.2 h2)] at hiv
    have Fz:=fz18 results169 e12 m12 m0 m1 m2 e8 m8 e3 e11 e13 e16 he hgl hgt hst hiu hiv
    repeat refine go1 ?_
    all_goals first | (rw[hlv2];done) | (simp only[hlv2];done)|rfl
end Go.Proofs.YtnaaceooknghjaaGreatDoor.X
