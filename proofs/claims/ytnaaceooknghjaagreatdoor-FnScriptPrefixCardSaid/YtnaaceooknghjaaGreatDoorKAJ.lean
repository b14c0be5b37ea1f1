/- What functions answer, and the plain laws behind it. -/
import Derived.Test.YtnaaceooknghjaaGreatDoorKAC
import Derived.Test.YtnaaceooknghjaaGreatDoorKAD
import Derived.Test.YtnaaceooknghjaaGreatDoorKAE
import Derived.Test.YtnaaceooknghjaaGreatDoorKAH
set_option linter.unusedSimpArgs false
set_option linter.unusedVariables false
set_option maxHeartbeats 16000000
set_option maxRecDepth 100000
namespace Go.Proofs.YtnaaceooknghjaaGreatDoor.X
open Go Go.Proofs Tryz
theorem wr8 {n:Int} (h1:0≤n) (h2:n<256):IntKind.u8.wrap n=n:=by rw[IntKind.wrap_u8];omega
theorem j26 {k:Nat}:((k:Int)).tmod 10=((k % 10:Nat):Int):=by rw[Int.tmod_eq_emod_of_nonneg (by omega)];omega
theorem j25 {k:Nat}:((k:Int)).tdiv 10=((k / 10:Nat):Int):=by rw[Int.tdiv_eq_ediv_of_nonneg (by omega)];omega
theorem kaz {k:Nat}:(48+(k:Int)).toNat=48+k:=by omega
theorem kfo {k:Nat} (h:k<10):dgt (k:Int)=[UInt8.ofNat (48+k % 10)]:=by
 show dec2 ((k:Int)).toNat=_
 rw[Int.toNat_natCast,dec2,if_pos h,Nat.mod_eq_of_lt h]
theorem kfn {k:Nat} (h:¬k<10) (h2:k<100):dgt (k:Int)=[UInt8.ofNat (48+k / 10 % 10),UInt8.ofNat (48+k % 10)]:=by
 show dec2 ((k:Int)).toNat=_
 rw[Int.toNat_natCast,dec2,if_neg h,Nat.mod_eq_of_lt (show k / 10<10 by omega)]
theorem jke (n:Int) (h0:0≤n) (h1:n<100):KP 34 [I n] []=some (S (dgt n),[],[]):=by
 obtain⟨k,rfl⟩:=Int.eq_ofNat_of_zero_le h0
 have hk2:k<100:=by omega
 have hmod:=@j26
 have hdiv:=@j25
 have h48:=@kaz
 refine jc6 (fn:=Tryz.f34) rfl func34 rfl ⟨Nat.le_of_ble_eq_true rfl,rfl,rfl⟩ ?_
 repeat'(first|(refine na ?_;constructor)|(refine jav ?_ ?_<;>intro _<;>first|(exfalso;omega)|skip)|refine ord_split (by kernel_rfl) ?_|((first|(refine nb ?_;constructor)|refine pn rfl ?_|refine pe rfl ?_|((first|refine at2 ?_|refine at_cond ?_);split<;>first|(exfalso;omega;done)|skip))<;>try simp(config:={maxSteps:=3000000})(disch:=first|assumption|omega|exact VG.okg (by assumption)|(simp only[List.length_set,List.length_append,List.length_cons,List.length_nil,List.length_replicate];omega))only[go_sem,simprocAttr,results34]))
 refine jaa (fun(b:Bool) s=>(b=false→s.ρ 0=I k∧s.ρ 3=S [])∧(b=true→s.ρ 0=I ((k / 10:Nat):Int)∧s.ρ 3=S [UInt8.ofNat (48+k % 10)]∧¬k<10)) (fun b=>if b=true then 0 else 1) false ?_ ?_
 ·exact⟨fun _=>⟨rfl,rfl⟩,fun h=>by cases h⟩
 rintro b ⟨ρ,m⟩ ⟨hb1,hb2⟩
 simp only at hb1 hb2
 cases b with
 | false=>
  obtain⟨e0,e3⟩:=hb1 rfl
  by_cases hk1:k<10
  ·have hw8:IntKind.u8.wrap (48+(k:Int))=48+(k:Int):=wr8 (by omega) (by omega)
   have hm:=Nat.mod_eq_of_lt hk1
   rw[kfo hk1,hm]
   repeat'(first|(refine na ?_;constructor)|(refine jav ?_ ?_<;>intro _<;>first|(exfalso;omega)|skip)|refine ord_split (by kernel_rfl) ?_|((first|(refine nb ?_;constructor)|refine pn rfl ?_|refine pe rfl ?_|((first|refine at2 ?_|refine at_cond ?_);split<;>first|(exfalso;omega;done)|skip))<;>try simp(config:={maxSteps:=3000000})(disch:=first|assumption|omega|exact VG.okg (by assumption)|(simp only[List.length_set,List.length_append,List.length_cons,List.length_nil,List.length_replicate];omega))only[go_sem,simprocAttr,results34,e0,e3,h48,hw8]))
  ·have hw8:IntKind.u8.wrap (48+((k % 10:Nat):Int))=48+((k % 10:Nat):Int):=wr8 (by omega) (by omega)
   repeat'(first|(refine na ?_;constructor)|(refine jav ?_ ?_<;>intro _<;>first|(exfalso;omega)|skip)|refine ord_split (by kernel_rfl) ?_|((first|(refine nb ?_;constructor)|refine pn rfl ?_|refine pe rfl ?_|((first|refine at2 ?_|refine at_cond ?_);split<;>first|(exfalso;omega;done)|skip))<;>try simp(config:={maxSteps:=3000000})(disch:=first|assumption|omega|exact VG.okg (by assumption)|(simp only[List.length_set,List.length_append,List.length_cons,List.length_nil,List.length_replicate];omega))only[go_sem,simprocAttr,results34,e0,e3,hmod,hdiv,h48,hw8]))
   exact⟨true,(fun h=>by cases h),fun _=>hk1,by simp⟩
 | true=>
  obtain⟨e0,e3,hk1⟩:=hb2 rfl
  have hw8:IntKind.u8.wrap (48+((k / 10:Nat):Int))=48+((k / 10:Nat):Int):=wr8 (by omega) (by omega)
  have hm:k / 10 % 10=k / 10:=Nat.mod_eq_of_lt (by omega)
  rw[kfn hk1 hk2,hm]
  repeat'(first|(refine na ?_;constructor)|(refine jav ?_ ?_<;>intro _<;>first|(exfalso;omega)|skip)|refine ord_split (by kernel_rfl) ?_|((first|(refine nb ?_;constructor)|refine pn rfl ?_|refine pe rfl ?_|((first|refine at2 ?_|refine at_cond ?_);split<;>first|(exfalso;omega;done)|skip))<;>try simp(config:={maxSteps:=3000000})(disch:=first|assumption|omega|exact VG.okg (by assumption)|(simp only[List.length_set,List.length_append,List.length_cons,List.length_nil,List.length_replicate];omega))only[go_sem,simprocAttr,results34,e0,e3,hmod,hdiv,h48,hw8]))
theorem jo3 (a b:Int) (ha:0≤a∧a<100) (hb:0≤b∧b<100):KP 35 [PE a b] []=some (S (edT (a,b)),[],[]):=by
 have h1:=jke a ha.1 ha.2
 have h2:=jke b hb.1 hb.2
 have la:1≤(dgt a).length∧(dgt a).length≤2:=jbj (n:=a.toNat)
 have lb:1≤(dgt b).length∧(dgt b).length≤2:=jbj (n:=b.toNat)
 unfold edT
 simp only
 generalize dgt a=A at *
 generalize dgt b=B' at *
 refine jc6 (fn:=Tryz.f35) rfl func35 rfl ⟨Nat.le_of_ble_eq_true rfl,rfl,rfl⟩ ?_
 repeat'(first|(refine na ?_;constructor)|(refine jav ?_ ?_<;>intro _<;>first|(exfalso;omega)|skip)|refine ord_split (by kernel_rfl) ?_|((first|(refine nb ?_;constructor)|refine pn rfl ?_|refine pe rfl ?_|((first|refine at2 ?_|refine at_cond ?_);split<;>first|(exfalso;omega;done)|skip))<;>try simp(config:={maxSteps:=3000000})(disch:=first|assumption|omega|exact VG.okg (by assumption)|(simp only[List.length_set,List.length_append,List.length_cons,List.length_nil,List.length_replicate];omega))only[go_sem,simprocAttr,results35,h1,h2]))
 simp
theorem VG.small {n:Int} {es:List (Int×Int)} (h:VG n es):smallE es∧0≤n∧n<100:=by
 refine⟨fun e he=>?_,by have:=h.1;omega,by have:=h.2.1;omega⟩
 have h1:=h.2.2.2.1 e he
 have h2:=h.2.1
 unfold okE at h1
 omega
theorem jc9 (n:Int) (es:List (Int×Int)) (hl:es.length≤1048576):KP 16 [GL n es] []=some (S (if VG n es then fmtG n es else []),[],[]):=by
 have hgv:=jbb n es hl
 by_cases hV:VG n es
 rotate_left
 ·rw[if_neg hV]
  rw[decide_eq_false hV] at hgv
  refine jc6 (fn:=Tryz.f16) rfl func16 rfl ⟨Nat.le_of_ble_eq_true rfl,rfl,rfl⟩ ?_
  repeat'(first|(refine na ?_;constructor)|(refine jav ?_ ?_<;>intro _<;>first|(exfalso;omega)|skip)|refine ord_split (by kernel_rfl) ?_|((first|(refine nb ?_;constructor)|refine pn rfl ?_|refine pe rfl ?_|((first|refine at2 ?_|refine at_cond ?_);split<;>first|(exfalso;omega;done)|skip))<;>try simp(config:={maxSteps:=3000000})(disch:=first|assumption|omega|exact VG.okg (by assumption)|(simp only[List.length_set,List.length_append,List.length_cons,List.length_nil,List.length_replicate];omega))only[go_sem,simprocAttr,results16,hgv]))
 rw[if_pos hV]
 rw[decide_eq_true hV] at hgv
 obtain⟨hs,n0,n1⟩:=hV.small
 have hel:=hV.2.2.1
 have hd:=jke n n0 n1
 have ln:1≤(dgt n).length∧(dgt n).length≤2:=jbj (n:=n.toNat)
 unfold fmtG
 generalize dgt n=D at *
 refine jc6 (fn:=Tryz.f16) rfl func16 rfl ⟨Nat.le_of_ble_eq_true rfl,rfl,rfl⟩ ?_
 repeat'(first|(refine na ?_;constructor)|(refine jav ?_ ?_<;>intro _<;>first|(exfalso;omega)|skip)|refine ord_split (by kernel_rfl) ?_|((first|(refine nb ?_;constructor)|refine pn rfl ?_|refine pe rfl ?_|((first|refine at2 ?_|refine at_cond ?_);split<;>first|(exfalso;omega;done)|skip))<;>try simp(config:={maxSteps:=3000000})(disch:=first|assumption|omega|exact VG.okg (by assumption)|(simp only[List.length_set,List.length_append,List.length_cons,List.length_nil,List.length_replicate];omega))only[go_sem,simprocAttr,results16,hgv,hd]))
 refine jaa (fun(i:Int) s=>s.ρ 1=.ptr 1 0 0 0∧s.m 1=some (.box 0 [I n,LE es])∧s.ρ 3=S (D++edsT (es.take i.toNat))∧s.ρ 4=I i∧0≤i∧i≤es.length) (fun i=>(es.length-i).toNat) 0 ?_ ?_
 ·refine⟨rfl,rfl,?_,rfl,by omega,by omega⟩
  simp[upd,edsT]
 rintro i ⟨ρ,m⟩ ⟨h1,m1,h3,h4,g0,g1⟩
 simp only at h1 m1 h3 h4 g0 g1
 have hnl:=ja6 (es.take i.toNat)
 rw[List.length_take] at hnl
 by_cases hi:i<es.length
 rotate_left
 ·rw[jac (by omega)] at h3
  repeat'(first|(refine na ?_;constructor)|(refine jav ?_ ?_<;>intro _<;>first|(exfalso;omega)|skip)|refine ord_split (by kernel_rfl) ?_|((first|(refine nb ?_;constructor)|refine pn rfl ?_|refine pe rfl ?_|((first|refine at2 ?_|refine at_cond ?_);split<;>first|(exfalso;omega;done)|skip))<;>try simp(config:={maxSteps:=3000000})(disch:=first|assumption|omega|exact VG.okg (by assumption)|(simp only[List.length_set,List.length_append,List.length_cons,List.length_nil,List.length_replicate];omega))only[go_sem,simprocAttr,results16,h1,m1,h3,h4]))
 have hgi:=getE es i.toNat (by omega)
 have hsm:=hs _ (jab (d:=(0,0)) (show i.toNat<es.length by omega))
 have hnx:edsT (es.take (i+1).toNat)=edsT (es.take i.toNat)++32::edT (es.getD i.toNat (0,0)):=by
  rw[jae (0,0) g0 hi,jlj]
 generalize edsT (es.take i.toNat)=T at *
 generalize es.getD i.toNat (0,0)=e at hgi hsm hnx
 obtain⟨a,b⟩:=e
 simp only at hgi hsm
 have hte:=jo3 a b hsm.1 hsm.2
 have lt:=jpn (a,b)
 generalize edT (a,b)=E at *
 repeat'(first|(refine na ?_;constructor)|(refine jav ?_ ?_<;>intro _<;>first|(exfalso;omega)|skip)|refine ord_split (by kernel_rfl) ?_|((first|(refine nb ?_;constructor)|refine pn rfl ?_|refine pe rfl ?_|((first|refine at2 ?_|refine at_cond ?_);split<;>first|(exfalso;omega;done)|skip))<;>try simp(config:={maxSteps:=3000000})(disch:=first|assumption|omega|exact VG.okg (by assumption)|(simp only[List.length_set,List.length_append,List.length_cons,List.length_nil,List.length_replicate];omega))only[go_sem,simprocAttr,results16,h1,m1,h3,h4,hgi,hte]))
 exact⟨i+1,by rw[hnx];simp,rfl,by omega,by omega,by omega⟩
theorem jcx (D:List UInt8) (es:List (Int×Int)) (hs:smallE es) (hD:D.length≤100000) (hl:es.length≤1000):KP 65 [S D,LE es] []=some (S (D++edsT es),[],[]):=by
 refine jc6 (fn:=Tryz.f65) rfl func65 rfl ⟨Nat.le_of_ble_eq_true rfl,rfl,rfl⟩ ?_
 repeat'(first|(refine na ?_;constructor)|(refine jav ?_ ?_<;>intro _<;>first|(exfalso;omega)|skip)|refine ord_split (by kernel_rfl) ?_|((first|(refine nb ?_;constructor)|refine pn rfl ?_|refine pe rfl ?_|((first|refine at2 ?_|refine at_cond ?_);split<;>first|(exfalso;omega;done)|skip))<;>try simp(config:={maxSteps:=3000000})(disch:=first|assumption|omega|exact VG.okg (by assumption)|(simp only[List.length_set,List.length_append,List.length_cons,List.length_nil,List.length_replicate];omega))only[go_sem,simprocAttr,results65]))
 refine jaa (fun(i:Int) s=>s.ρ 7=LE es∧s.ρ 8=I es.length∧s.ρ 0=S (D++edsT (es.take i.toNat))∧s.ρ 9=I i∧0≤i∧i≤es.length) (fun i=>(es.length-i).toNat) 0 ?_ ?_
 ·refine⟨rfl,rfl,?_,rfl,by omega,by omega⟩
  simp[upd,edsT]
 rintro i ⟨ρ,m⟩ ⟨h7,h8,h0,h9,g0,g1⟩
 simp only at h7 h8 h0 h9 g0 g1
 have hnl:=ja6 (es.take i.toNat)
 rw[List.length_take] at hnl
 by_cases hi:i<es.length
 rotate_left
 ·rw[jac (by omega)] at h0
  repeat'(first|(refine na ?_;constructor)|(refine jav ?_ ?_<;>intro _<;>first|(exfalso;omega)|skip)|refine ord_split (by kernel_rfl) ?_|((first|(refine nb ?_;constructor)|refine pn rfl ?_|refine pe rfl ?_|((first|refine at2 ?_|refine at_cond ?_);split<;>first|(exfalso;omega;done)|skip))<;>try simp(config:={maxSteps:=3000000})(disch:=first|assumption|omega|exact VG.okg (by assumption)|(simp only[List.length_set,List.length_append,List.length_cons,List.length_nil,List.length_replicate];omega))only[go_sem,simprocAttr,results65,h7,h8,h0,h9]))
 have hgi:=getE es i.toNat (by omega)
 have hsm:=hs _ (jab (d:=(0,0)) (show i.toNat<es.length by omega))
 have hnx:edsT (es.take (i+1).toNat)=edsT (es.take i.toNat)++32::edT (es.getD i.toNat (0,0)):=by
  rw[jae (0,0) g0 hi,jlj]
 generalize edsT (es.take i.toNat)=T at *
 generalize es.getD i.toNat (0,0)=e at hgi hsm hnx
 obtain⟨a,b⟩:=e
 simp only at hgi hsm
 have hta:=jwa a hsm.1.1 hsm.1.2
 have htb:=jwa b hsm.2.1 hsm.2.2
 have la:1≤(dgt a).length∧(dgt a).length≤2:=jbj (n:=a.toNat)
 have lb:1≤(dgt b).length∧(dgt b).length≤2:=jbj (n:=b.toNat)
 unfold edT at hnx
 simp only at hnx
 generalize dgt a=A at *
 generalize dgt b=B' at *
 repeat'(first|(refine na ?_;constructor)|(refine jav ?_ ?_<;>intro _<;>first|(exfalso;omega)|skip)|refine ord_split (by kernel_rfl) ?_|((first|(refine nb ?_;constructor)|refine pn rfl ?_|refine pe rfl ?_|((first|refine at2 ?_|refine at_cond ?_);split<;>first|(exfalso;omega;done)|skip))<;>try simp(config:={maxSteps:=3000000})(disch:=first|assumption|omega|exact VG.okg (by assumption)|(simp only[List.length_set,List.length_append,List.length_cons,List.length_nil,List.length_replicate];omega))only[go_sem,simprocAttr,results65,h7,h8,h0,h9,hgi,hta,htb]))
 exact⟨i+1,by rw[hnx];simp,rfl,by omega,by omega,by omega⟩
theorem je1 (n:Int) (es:List (Int×Int)) (hl:es.length≤1048576):KP 60 [GL n es] []=some (S (if VG n es then fmtG n es else []),[],[]):=by
 have hgv:=jce n es hl
 by_cases hV:VG n es
 rotate_left
 ·rw[if_neg hV]
  rw[decide_eq_false hV] at hgv
  refine jc6 (fn:=Tryz.f60) rfl func60 rfl ⟨Nat.le_of_ble_eq_true rfl,rfl,rfl⟩ ?_
  repeat'(first|(refine na ?_;constructor)|(refine jav ?_ ?_<;>intro _<;>first|(exfalso;omega)|skip)|refine ord_split (by kernel_rfl) ?_|((first|(refine nb ?_;constructor)|refine pn rfl ?_|refine pe rfl ?_|((first|refine at2 ?_|refine at_cond ?_);split<;>first|(exfalso;omega;done)|skip))<;>try simp(config:={maxSteps:=3000000})(disch:=first|assumption|omega|exact VG.okg (by assumption)|(simp only[List.length_set,List.length_append,List.length_cons,List.length_nil,List.length_replicate];omega))only[go_sem,simprocAttr,results60,hgv]))
 rw[if_pos hV]
 rw[decide_eq_true hV] at hgv
 obtain⟨hs,n0,n1⟩:=hV.small
 have hel:=hV.2.2.1
 have hd:=jwa n n0 n1
 have ln:1≤(dgt n).length∧(dgt n).length≤2:=jbj (n:=n.toNat)
 have het:=jcx (dgt n) es hs (by omega) (by omega)
 unfold fmtG
 generalize dgt n=D at *
 refine jc6 (fn:=Tryz.f60) rfl func60 rfl ⟨Nat.le_of_ble_eq_true rfl,rfl,rfl⟩ ?_
 repeat'(first|(refine na ?_;constructor)|(refine jav ?_ ?_<;>intro _<;>first|(exfalso;omega)|skip)|refine ord_split (by kernel_rfl) ?_|((first|(refine nb ?_;constructor)|refine pn rfl ?_|refine pe rfl ?_|((first|refine at2 ?_|refine at_cond ?_);split<;>first|(exfalso;omega;done)|skip))<;>try simp(config:={maxSteps:=3000000})(disch:=first|assumption|omega|exact VG.okg (by assumption)|(simp only[List.length_set,List.length_append,List.length_cons,List.length_nil,List.length_replicate];omega))only[go_sem,simprocAttr,results60,hgv,hd,het]))
theorem jwt (xs:List (List UInt8)):(xs.map encS).all (fun e=>e.length == 1)=true:=by simp[encS]
theorem kch (e:Int×Int) (h:(0≤e.1∧e.1<100)∧0≤e.2∧e.2<100):KP 24 [S (edT e),S [45]] []=some (.tup [S (dgt e.1),S (dgt e.2),B true],[],[]):=by
 have l1:(dgt e.1).length≤2:=(jbj (n:=e.1.toNat)).2
 have l2:(dgt e.2).length≤2:=(jbj (n:=e.2.toNat)).2
 exact j68 (dgt e.1) (dgt e.2) 45 (ji5 (by omega) (by decide)) (by omega)
theorem jfq (n:Int) (es:List (Int×Int)) (hV:VG n es):KP 73 [S (fmtG n es)] []=some (.tup [.agg [I n,qP es],B true],[],qA es):=by
 obtain⟨hs,n0,n1⟩:=hV.small
 have hel:=hV.2.2.1
 have hlen:=je5 n es
 have hpc:=jxz ⟨n0,n1⟩ hs
 have hsp:=j7b (fmtG n es) 32 42 (by omega) (by rw[hpc];simp;omega) (by omega)
 rw[hpc] at hsp
 simp only[List.map_cons,encS] at hsp
 have hfg:=je1 n es (by omega)
 rw[if_pos hV] at hfg
 have hne:eqS (fmtG n es) []=false:=ja2 (fun h=>by rw[h] at hlen;simp at hlen)
 have han:=j1r n n0 n1
 have hWl:((es.map edT).map encS).length=es.length:=by simp
 have hWt:((es.map edT).map encS).take es.length=(es.map edT).map encS:=List.take_of_length_le (by simp)
 have hWa:=jwt (es.map edT)
 have hWg:∀i:Nat,i<es.length→((es.map edT).map encS)[i]?=some [.v (.string ⟨(edT (es.getD i (0,0))).toArray⟩)]:=fun i hi=>by simp[encS,hi]
 generalize hW:(es.map edT).map encS=W at *
 have hsub:es.length+1-1=es.length:=by omega
 generalize hT:fmtG n es=T at *
 refine gc func73 ?_
 have Fz:=fz7 results73 hsp han hWl hWt hWa hsub
 repeat refine go1 ?_
 refine jaa (fun(x:Int×Nat) s=>s.ρ 29=.i (.lst W)∧s.ρ 30=I es.length∧s.ρ 31=I x.1∧s.ρ 5=I n∧s.ρ 6=.i (.v .nilIface)∧s.ρ 0=S T∧s.ρ 2=.ptr 2 0 0 0∧s.m 2=some (.box 0 [I 0,.i .emp])∧s.ρ 7=.ptr 7 0 0 0∧s.m 7=some (.box 0 [I n,fP 68 x.2 (es.take x.1.toNat)])∧(es.take x.1.toNat≠[]→s.m 68=some (.arr x.2 2 ((es.take x.1.toNat).map encE)))∧
  0≤x.1∧x.1≤es.length) (fun x=>(es.length-x.1).toNat) (0,0) ?_ ?_
 ·exact⟨rfl,by simp[upd,hWl],rfl,rfl,rfl,rfl,rfl,rfl,rfl,rfl,fun h=>absurd rfl h,by simp,by simp⟩
 rintro⟨i,w⟩ ⟨ρ,m⟩ ⟨e29,e30,e31,e5,e6,e0,e2,m2,e7,m7,m68,g0,g1⟩
 simp only at e29 e30 e31 e5 e6 e0 e2 m2 e7 m7 m68 g0 g1
 by_cases hi:i<es.length
 rotate_left
 ·have ht:es.take i.toNat=es:=jac (by omega)
  rw[ht] at m7 m68
  unfold qP qA
  by_cases hz:es=[]
  ·subst hz
   have m7':m 7=some (.box 0 [I n,.i .emp]):=m7
   have hfg':KP 60 [.agg [I n,.i (.lst [])]] []=some (S T,[],[]):=hfg
   have Fz:=fz13 results73 e29 e30 e31 e5 e6 e0 e2 m2 e7 m7' hne hfg'
   repeat(first|exact trivial|refine go1 ?_)
  ·have m7':m 7=some (.box 0 [I n,.ref 68 w 0 es.length]):=by rw[m7,fP,if_neg hz]
   have m68':=m68 hz
   rw[if_neg hz,if_neg hz]
   have Fz:=fz14 results73 e29 e30 e31 e5 e6 e0 e2 m2 e7 m7' m68' hne hfg
   repeat(first|exact trivial|refine go1 ?_)
 have hgi:=hWg i.toNat (by omega)
 have hsm:=hs _ (jab (d:=(0,0)) (show i.toNat<es.length by omega))
 have htk:=jae (l:=es) (0,0) g0 hi
 have hcu:=kch (es.getD i.toNat (0,0)) hsm
 generalize es.getD i.toNat (0,0)=e at hgi hsm htk hcu
 obtain⟨a,b⟩:=e
 simp only at hgi hsm hcu
 have ha:=j1r a hsm.1.1 hsm.1.2
 have hb:=j1r b hsm.2.1 hsm.2.2
 have htl:(es.take i.toNat).length=i.toNat:=by rw[List.length_take];omega
 generalize es.take i.toNat=xs at m7 m68 htk htl
 by_cases hz:xs=[]
 ·subst hz
  have m7':m 7=some (.box 0 [I n,.i .emp]):=m7
  have Fz:=fz15 results73 e29 e30 e31 e5 e6 e0 e2 m2 e7 m7' hgi hcu ha hb
  repeat refine go1 ?_
  exact⟨nv (m 68),by rw[htk];simp[fP],fun _=>⟨rfl,by rw[htk];rfl⟩,by omega,by omega,by omega⟩
 ·have m7':m 7=some (.box 0 [I n,.ref 68 w 0 xs.length]):=by rw[m7,fP,if_neg hz]
  have m68':=m68 hz
  have Fz:=fz16 results73 e29 e30 e31 e5 e6 e0 e2 m2 e7 m7' m68' hgi hcu ha hb
  repeat refine go1 ?_
  exact⟨w+1,by rw[htk,fP,if_neg (by simp)];simp,fun _=>⟨rfl,by rw[htk]⟩,by omega,by omega,by omega⟩
noncomputable def ptL (n:Int) (es:List (Int×Int)) (r:Int):List Int:=(iota n).filter fun v=>decide (Conn es r v)
theorem jpr {n:Int} {es:List (Int×Int)} {r v:Int}:v∈ptL n es r↔inN n v∧Conn es r v:=by
 rw[ptL,List.mem_filter,mem_iota,decide_eq_true_eq]
theorem j5s (n:Int) (es:List (Int×Int)) (r:Int):(ptL n es r).Nodup:=(jgk n).sublist List.filter_sublist
theorem kdq (n:Int) (es:List (Int×Int)) (r:Int):(ptL n es r).length≤n.toNat:=by
 have:=List.length_filter_le (fun v=>decide (Conn es r v)) (iota n)
 rw[jat] at this
 exact this
theorem kbb (n:Int) (es:List (Int×Int)) (r:Int):((ptL n es r).length:Int)=szC n es r:=rfl
theorem j95 {n i:Int} {p:Int→Bool} (h0:0≤i) (h1:i<n):(iota (i+1)).filter p=(iota i).filter p++if p i=true then [i] else []:=by
 have:iota (i+1)=iota i++[i]:=by
  unfold iota
  rw[show(i+1).toNat=i.toNat+1 by omega,List.range_succ,List.map_append]
  simp[Int.toNat_of_nonneg h0]
 rw[this,List.filter_append]
 cases h:p i<;>simp[h]
theorem jjm (n r:Int) (es:List (Int×Int)) (hV:VG n es) (hr:inN n r):KP 241 [GL n es,I r] []=some (.ref 2000 0 0 (ptL n es r).length,[],[.arr 0 1 ((ptL n es r).map encI)]):=by
 have hel:=hV.2.2.1
 have hn16:=hV.2.1
 have hhn:=jwd n r es (by omega)
 rw[decide_eq_true (show VG n es∧0≤r∧r<n from⟨hV,hr.1,hr.2⟩)] at hhn
 have hp:=jdm n es hV.okg
 have hll:=jap n es
 obtain⟨r0,r1⟩:=id hr
 have hgr:=getI (lab n es) r.toNat (by omega)
 have hiff:∀v,inN n v→((lab n es).getD v.toNat 0=(lab n es).getD r.toNat 0↔Conn es r v):=fun v hv=>by
  rw[jfz hv hr];exact⟨Conn.symm,Conn.symm⟩
 refine gc func241 ?_
 have Fz:=fz3 results241 hhn hp
 repeat refine go1 ?_
 refine jaa (fun(u:Int×Nat) s=>s.m 8=some (.arr u.2 1 (((iota u.1).filter fun v=>decide (Conn es r v)).map encI))∧s.ρ 5=.ref 8 u.2 0 ((iota u.1).filter fun v=>decide (Conn es r v)).length∧s.ρ 6=LI (lab n es)∧s.ρ 1=I r∧s.ρ 7=I u.1∧0≤u.1∧u.1≤n) (fun u=>(n-u.1).toNat) (0,0) ?_ ?_
 ·exact⟨rfl,rfl,rfl,rfl,rfl,by simp,by simp only;omega⟩
 rintro⟨i,w⟩ ⟨ρ,m⟩ ⟨m8,e5,e6,e1,e7,g0,g1⟩
 simp only at m8 e5 e6 e1 e7 g0 g1
 have hfl:=List.length_filter_le (fun v=>decide (Conn es r v)) (iota i)
 rw[jat] at hfl
 by_cases hi:i<n
 rotate_left
 ·have hin:i=n:=by omega
  subst hin
  have Fz:=fz6 results241 m8 e5 e6 e1 e7
  repeat refine go1 ?_
  exact⟨rfl,rfl⟩
 have hgi:=getI (lab n es) i.toNat (by omega)
 have hii:=hiff i ⟨g0,hi⟩
 have hsn:=j95 (p:=fun v=>decide (Conn es r v)) g0 hi
 generalize (lab n es).getD i.toNat 0=a at *
 generalize (lab n es).getD r.toNat 0=b at *
 generalize (iota i).filter (fun v=>decide (Conn es r v))=T at *
 by_cases hq:a=b
 ·rw[if_pos (by simpa using hii.1 hq)] at hsn
  subst hq
  have Fz:=fz8 results241 m8 e5 e6 e1 e7 hgi hgr
  repeat refine go1 ?_
  exact⟨i+1,by rw[hsn],by rw[hsn];simp,rfl,by omega,by omega,by omega⟩
 ·rw[if_neg (by simpa using fun h=>hq (hii.2 h)),List.append_nil] at hsn
  have Fz:=fz9 results241 m8 e5 e6 e1 e7 hgi hgr hq
  repeat refine go1 ?_
  exact⟨i+1,by rw[hsn],by rw[hsn],rfl,by omega,by omega,by omega⟩
theorem jcl (xs:List Int) (hs:smallL xs) (hl:xs.length≤1000):KP 36 [LI xs] []=some (S (jaw xs++[10]),[],[]):=by
 refine gc func36 ?_
 have Fz:=fz1 results36
 repeat refine go1 ?_
 refine jaa (fun(i:Int) s=>s.ρ 0=LI xs∧s.ρ 3=S (jaw (xs.take i.toNat))∧s.ρ 4=I i∧0≤i∧i≤xs.length) (fun i=>(xs.length-i).toNat) 0 ?_ ?_
 ·refine⟨rfl,?_,rfl,by omega,by omega⟩
  simp[upd,jaw]
 rintro i ⟨ρ,m⟩ ⟨h0,h3,h4,g0,g1⟩
 simp only at h0 h3 h4 g0 g1
 have hnl:=jas (xs.take i.toNat)
 rw[List.length_take] at hnl
 by_cases hi:i<xs.length
 rotate_left
 ·rw[jac (by omega)] at h3
  have hnf:=jas xs
  have Fz:=fz4 results36 h0 h3 h4
  repeat(first|exact trivial|refine go1 ?_)
 have hgi:=getI xs i.toNat (by omega)
 have hsm:=hs _ (jab (d:=0) (show i.toNat<xs.length by omega))
 have hnx:jaw (xs.take (i+1).toNat)=jaw (xs.take i.toNat)++32::dgt (xs.getD i.toNat 0):=by
  rw[jae 0 g0 hi,jn9]
 generalize jaw (xs.take i.toNat)=T at *
 generalize xs.getD i.toNat 0=v at *
 have hd:=jke v hsm.1 hsm.2
 have ld:1≤(dgt v).length∧(dgt v).length≤2:=jbj (n:=v.toNat)
 generalize dgt v=D at *
 have Fz:=fz6 results36 h0 h3 h4 hgi hd
 repeat refine go1 ?_
 exact⟨i+1,by rw[hnx];simp,rfl,by omega,by omega,by omega⟩
theorem jf9 (es:List (Int×Int)) (hs:smallE es) (hl:es.length≤1000):KP 38 [LE es] []=some (S (edsT es++[10]),[],[]):=by
 refine gc func38 ?_
 have Fz:=fz1 results38
 repeat refine go1 ?_
 refine jaa (fun(i:Int) s=>s.ρ 0=LE es∧s.ρ 3=S (edsT (es.take i.toNat))∧s.ρ 4=I i∧0≤i∧i≤es.length) (fun i=>(es.length-i).toNat) 0 ?_ ?_
 ·refine⟨rfl,?_,rfl,by omega,by omega⟩
  simp[upd,edsT]
 rintro i ⟨ρ,m⟩ ⟨h0,h3,h4,g0,g1⟩
 simp only at h0 h3 h4 g0 g1
 have hnl:=ja6 (es.take i.toNat)
 rw[List.length_take] at hnl
 by_cases hi:i<es.length
 rotate_left
 ·rw[jac (by omega)] at h3
  have hnf:=ja6 es
  have Fz:=fz4 results38 h0 h3 h4
  repeat(first|exact trivial|refine go1 ?_)
 have hgi:=getE es i.toNat (by omega)
 have hsm:=hs _ (jab (d:=(0,0)) (show i.toNat<es.length by omega))
 have hnx:edsT (es.take (i+1).toNat)=edsT (es.take i.toNat)++32::edT (es.getD i.toNat (0,0)):=by
  rw[jae (0,0) g0 hi,jlj]
 generalize edsT (es.take i.toNat)=T at *
 generalize es.getD i.toNat (0,0)=e at hgi hsm hnx
 obtain⟨a,b⟩:=e
 simp only at hgi hsm
 have hte:=jo3 a b hsm.1 hsm.2
 have lt:=jpn (a,b)
 generalize edT (a,b)=E at *
 have Fz:=fz6 results38 h0 h3 h4 hgi hte
 repeat refine go1 ?_
 exact⟨i+1,by rw[hnx];simp,rfl,by omega,by omega,by omega⟩
theorem jwe (n k:Int) (f:Bool) (ts:List Tl) (hl:ts.length≤1000):KP 93 [LvP n ts,I k,B f] []=some (.agg [I n,.ref 2000 0 0 (abT ts k f).length],[],[.arr 0 2 ((abT ts k f).map encE)]):=by
 have l1:=jaq ts
 have l2:=jax ts
 have l3:=ja9 ts
 refine gc func93 ?_
 have Fz:=fz1 results93
 repeat refine go1 ?_
 refine jaa (fun(x:Int×Nat) s=>s.m 3=some (.box 0 [I n,LE (esT ts),LI (lvT ts),LT (trT ts)])∧s.ρ 3=.ptr 3 0 0 0∧s.m 7=some (.box 0 [I n,.ref 12 x.2 0 (abT (ts.take x.1.toNat) k f).length])∧s.ρ 7=.ptr 7 0 0 0∧s.m 12=some (.arr x.2 2 ((abT (ts.take x.1.toNat) k f).map encE))∧s.ρ 6=.ptr 6 0 0 0∧s.m 6=some (.box 0 [I 0,.i .emp])∧
  s.ρ 8=I x.1∧s.ρ 1=I k∧s.ρ 2=B f∧0≤x.1∧x.1≤ts.length) (fun x=>(ts.length-x.1).toNat) (0,0) ?_ ?_
 ·exact⟨rfl,rfl,rfl,rfl,rfl,rfl,rfl,rfl,rfl,rfl,by simp,by simp⟩
 rintro⟨i,w⟩ ⟨ρ,m⟩ ⟨m3,e3,m7,e7,m12,e6,m6,e8,e1,e2,g0,g1⟩
 simp only at m3 e3 m7 e7 m12 e6 m6 e8 e1 e2 g0 g1
 by_cases hi:i<ts.length
 rotate_left
 ·rw[jac (by omega)] at m7 m12
  have Fz:=fz12 results93 m3 e3 m7 e7 m12 e6 m6 e8 e1 e2 l1
  repeat(first|exact trivial|refine go1 ?_)
 have hE:=jz8 ts i.toNat (by omega)
 have hL:=j8o ts i.toNat (by omega)
 have hT:=j4d ts i.toNat (by omega)
 have hsn:=jvu (k:=k) (f:=f) g0 hi
 have hxl:=jiu (ts.take i.toNat) k f
 rw[List.length_take] at hxl
 generalize abT (ts.take i.toNat) k f=xs at *
 generalize ts.getD i.toNat dT=t at hE hL hT hsn
 obtain⟨⟨a,b⟩,l,q⟩:=t
 simp only at hE hL hT hsn
 have hdec:abP k f ((a,b),l,q)=(decide (k≤l) && (!f || q)):=rfl
 rw[hdec] at hsn
 by_cases hk:k≤l
 ·have hkd:=decide_eq_true hk
  rw[hkd] at hsn
  cases f<;>cases q
  ·have hsn':abT (ts.take (i+1).toNat) k false=xs++[(a,b)]:=hsn
   have Fz:=fz15 results93 m3 e3 m7 e7 m12 e6 m6 e8 e1 e2 hE hL hT l1
   repeat refine go1 ?_
   exact⟨i+1,w+1,by rw[hsn'];simp,rfl,by rw[hsn'],rfl,by omega,by omega,by omega⟩
  ·have hsn':abT (ts.take (i+1).toNat) k false=xs++[(a,b)]:=hsn
   have Fz:=fz15 results93 m3 e3 m7 e7 m12 e6 m6 e8 e1 e2 hE hL hT l1
   repeat refine go1 ?_
   exact⟨i+1,w+1,by rw[hsn'];simp,rfl,by rw[hsn'],rfl,by omega,by omega,by omega⟩
  ·have hsn':abT (ts.take (i+1).toNat) k true=xs:=hsn.trans (List.append_nil _)
   have Fz:=fz15 results93 m3 e3 m7 e7 m12 e6 m6 e8 e1 e2 hE hL hT l1
   repeat refine go1 ?_
   exact⟨i+1,w,by rw[hsn'],rfl,by rw[hsn'],rfl,by omega,by omega,by omega⟩
  ·have hsn':abT (ts.take (i+1).toNat) k true=xs++[(a,b)]:=hsn
   have Fz:=fz15 results93 m3 e3 m7 e7 m12 e6 m6 e8 e1 e2 hE hL hT l1
   repeat refine go1 ?_
   exact⟨i+1,w+1,by rw[hsn'];simp,rfl,by rw[hsn'],rfl,by omega,by omega,by omega⟩
 ·have hkd:=decide_eq_false hk
  rw[hkd] at hsn
  simp only[Bool.false_and,Bool.false_eq_true,if_false,List.append_nil] at hsn
  have Fz:=fz15 results93 m3 e3 m7 e7 m12 e6 m6 e8 e1 e2 hE hL hT l1
  repeat refine go1 ?_
  exact⟨i+1,w,by rw[hsn],rfl,by rw[hsn],rfl,by omega,by omega,by omega⟩
theorem j7r (n k:Int) (h0:0≤n∧n≤1000) (hk:0≤k∧k≤10):KP 163 [I n,I k] []=some (I (n / 2 ^ k.toNat),[],[]):=by
 refine gc func163 ?_
 have Fz:=fz1 results163
 repeat refine go1 ?_
 refine jaa (fun(i:Int) s=>s.ρ 0=I (n / 2 ^ i.toNat)∧s.ρ 1=I k∧s.ρ 5=I i∧0≤i∧i≤k) (fun i=>(k-i).toNat) 0 ⟨by simp[upd,jdk],rfl,rfl,by omega,hk.1⟩ ?_
 rintro i ⟨ρ,m⟩ ⟨e0,e1,e5,g0,g1⟩
 simp only at e0 e1 e5 g0 g1
 have hq0:0≤n / 2 ^ i.toNat:=Int.ediv_nonneg h0.1 (Int.pow_nonneg (by omega))
 have hq1:n / 2 ^ i.toNat≤n:=Int.ediv_le_self _ h0.1
 by_cases hi:i<k
 ·have hnx:n / 2 ^ (i+1).toNat=(n / 2 ^ i.toNat) / 2:=by
   rw[show(i+1).toNat=i.toNat+1 by omega,Int.pow_succ,Int.ediv_ediv_of_nonneg (Int.pow_nonneg (by omega))]
  have htd:=Int.tdiv_eq_ediv_of_nonneg (b:=2) hq0
  generalize n / 2 ^ i.toNat=q at *
  have Fz:=fz5 results163 e0 e1 e5 htd
  repeat refine go1 ?_
  exact⟨i+1,by rw[hnx],rfl,by omega,by omega,by omega⟩
 ·have hik:i=k:=by omega
  subst hik
  have Fz:=fz4 results163 e0 e1 e5
  repeat(first|exact trivial|refine go1 ?_)
end Go.Proofs.YtnaaceooknghjaaGreatDoor.X
