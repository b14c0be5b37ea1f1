/- What functions answer, and the plain laws behind it. -/
import Derived.Test.YtnaaceooknghjaaGreatDoorKAJ
import Derived.Test.YtnaaceooknghjaaGreatDoorKAH
import Derived.Test.YtnaaceooknghjaaGreatDoorKAI
import Derived.Test.YtnaaceooknghjaaGreatDoorKAD
import Derived.Test.YtnaaceooknghjaaGreatDoorKAE
set_option linter.unusedSimpArgs false
set_option linter.unusedVariables false
set_option maxHeartbeats 8000000
set_option maxRecDepth 100000
namespace Go.Proofs.YtnaaceooknghjaaGreatDoor.X
open Go Go.Proofs Tryz
theorem ja5 (D:List UInt8) (xs:List Int) (hs:smallL xs) (hD:D.length≤100000) (hl:xs.length≤1000):KP 61 [S D,LI xs] []=some (S (D++jaw xs++[10]),[],[]):=by
 refine gc func61 ?_
 have Fz:=fz1 results61
 repeat refine go1 ?_
 refine jaa (fun(i:Int) s=>s.ρ 7=LI xs∧s.ρ 8=I xs.length∧s.ρ 0=S (D++jaw (xs.take i.toNat))∧s.ρ 9=I i∧0≤i∧i≤xs.length) (fun i=>(xs.length-i).toNat) 0 ?_ ?_
 ·refine⟨rfl,rfl,?_,rfl,by omega,by omega⟩
  simp[upd,jaw]
 rintro i ⟨ρ,m⟩ ⟨h7,h8,h0,h9,g0,g1⟩
 simp only at h7 h8 h0 h9 g0 g1
 have hnl:=jas (xs.take i.toNat)
 rw[List.length_take] at hnl
 by_cases hi:i<xs.length
 rotate_left
 ·rw[jac (by omega)] at h0 hnl
  have Fz:=fz5 results61 h7 h8 h0 h9
  repeat(first|exact trivial|refine go1 ?_)
 have hgi:=getI xs i.toNat (by omega)
 have hsm:=hs _ (jab (d:=0) (show i.toNat<xs.length by omega))
 have hnx:jaw (xs.take (i+1).toNat)=jaw (xs.take i.toNat)++32::dgt (xs.getD i.toNat 0):=by
  rw[jae 0 g0 hi,jn9]
 generalize jaw (xs.take i.toNat)=T at *
 generalize xs.getD i.toNat 0=a at hgi hsm hnx
 have hta:=jwa a hsm.1 hsm.2
 have la:1≤(dgt a).length∧(dgt a).length≤2:=jbj (n:=a.toNat)
 generalize dgt a=A at *
 have Fz:=fz7 results61 h7 h8 h0 h9 hgi hta
 repeat refine go1 ?_
 exact⟨i+1,by rw[hnx];simp,rfl,by omega,by omega,by omega⟩
noncomputable def ldT (es:List (Int×Int)):List Tl:=es.foldl (fun ts e=>plL ts e) []
theorem jgh (xs:List (Int×Int)) (e:Int×Int):ldT (xs++[e])=plL (ldT xs) e:=by simp[ldT,List.foldl_append]
theorem jp0 {e:Int×Int}:∀{es:List (Int×Int)},(∀x∈es,lessE e x=false)→putE e es=es++[e]
 | [],_=>rfl
 | x::r,h=>by
  have h1:=h x (by simp)
  rw[putE,if_neg (by simp[h1]),jp0 fun y hy=>h y (by simp[hy])];rfl
theorem jx2 {e:Int×Int} {b:Bool}:∀{ts:List Tl},(∀x∈esT ts,lessE e x=false)→putT e b ts=ts++[(e,0,b)]
 | [],_=>rfl
 | t::r,h=>by
  have h1:=h t.1 (by simp[esT])
  rw[putT,if_neg (by simp[h1]),jx2 fun y hy=>h y (by simp only[esT,List.map_cons,List.mem_cons];exact .inr hy)];rfl
theorem j5m {xs:List (Int×Int)} {e:Int×Int} (h:Ord (xs++[e])):∀x∈xs,lessE e x=false:=fun x hx=>by
 simp only[Ord,List.pairwise_append,List.mem_singleton] at h
 have h1:=h.2.2 x hx e rfl
 cases h2:lessE e x with
 | false=>rfl
 | true=>
  rw[jdv] at h1 h2
  omega
structure LD (n:Int) (es:List (Int×Int)):Prop where
 es':esT (ldT es)=es
 lv:LV n (ldT es)
 z:∀t∈ldT es,t.2.1=0
 fo:abT (ldT es) 0 true=jai es
theorem LD.put {n:Int} {xs:List (Int×Int)} {e:Int×Int} (h:LD n xs) (hV:VG n (xs++[e])):PlOK n (ldT xs) e:=by
 have hd:=j5m hV.2.2.2.2
 refine⟨h.lv,?_,?_,?_⟩
 ·rw[h.es'];exact hV.sub (List.sublist_append_left _ _)
 ·rw[h.es']
  have:=hV.2.2.2.2.nodup
  rw[List.nodup_append] at this
  exact fun hm=>this.2.2 e hm e (by simp) rfl
 ·rw[h.es',jp0 hd];exact hV
theorem j46 {n:Int}:∀(k:Nat) (es:List (Int×Int)),es.length=k→VG n es→LD n es
 | 0,es,hk,hV=>by
  obtain rfl:=List.length_eq_zero_iff.1 hk
  exact⟨rfl,LV.nil hV.1 hV.2.1,fun t ht=>by simp[ldT] at ht,rfl⟩
 | k+1,es,hk,hV=>by
  obtain⟨xs,e,rfl⟩:∃xs e,es=xs++[e]:=⟨es.dropLast,es.getLast (by intro h;rw[h] at hk;simp at hk),(List.dropLast_concat_getLast _).symm⟩
  have hVx:VG n xs:=hV.sub (List.sublist_append_left _ _)
  have h:=j46 k xs (by simpa using hk) hVx
  have hP:=h.put hV
  have hd:=j5m hV.2.2.2.2
  have ho:=hVx.2.2.2.1
  have hpt:plL (ldT xs) e=ldT xs++[(e,0,!decide (Conn (esT (ldT xs)) e.1 e.2))]:=jx2 (by rw[h.es'];exact hd)
  refine⟨?_,?_,?_,?_⟩
  ·rw[jgh]
   have:=jfb e (!decide (Conn (esT (ldT xs)) e.1 e.2)) (ldT xs)
   rw[this,h.es',jp0 hd]
  ·rw[jgh];exact h.lv.putT hP.2
  ·rw[jgh,hpt]
   intro t ht
   rcases List.mem_append.1 ht with ht|ht
   ·exact h.z t ht
   ·rw[List.mem_singleton.1 ht]
  ·rw[jgh,hpt,j0x,h.fo,h.es']
   have hf:jai (xs++[e])=fstep (jai xs) e:=by simp[jai,List.foldl_append]
   rw[hf,fstep]
   by_cases hc:Conn xs e.1 e.2
   ·rw[if_pos ((jhd ho).2 hc)]
    simp[abT,abP,hc]
   ·rw[if_neg (fun q=>hc ((jhd ho).1 q))]
    simp[abT,abP,hc]
theorem ld {n:Int} {es:List (Int×Int)} (hV:VG n es):LD n es:=j46 _ es rfl hV
structure LV3 (x y z:IV) (ts:List Tl):Prop where
 fx:∀n,frz n (.i x)=.ret (.lst ((esT ts).map encE))
 fy:∀n,frz n (.i y)=.ret (.lst ((lvT ts).map encI))
 fz:∀n,frz n (.i z)=.ret (.lst ((trT ts).map encT))
 lx:x.flat=true
 ly:y.flat=true
 lz:z.flat=true
theorem LV3.emp:LV3 .emp .emp .emp []:=⟨fun n=>by cases n<;>rfl,fun n=>by cases n<;>rfl,fun n=>by cases n<;>rfl,rfl,rfl,rfl⟩
theorem LV3.lst (ts:List Tl):LV3 (.lst ((esT ts).map encE)) (.lst ((lvT ts).map encI)) (.lst ((trT ts).map encT)) ts:=⟨fun n=>by cases n<;>rfl,fun n=>by cases n<;>rfl,fun n=>by cases n<;>rfl,rfl,rfl,rfl⟩
def exI (k:Nat) (ts:List Tl):IV:=if k=0 then .emp else .lst ((esT ts).map encE)
def eyI (k:Nat) (ts:List Tl):IV:=if k=0 then .emp else .lst ((lvT ts).map encI)
def ezI (k:Nat) (ts:List Tl):IV:=if k=0 then .emp else .lst ((trT ts).map encT)
theorem exyz {k:Nat} {ts:List Tl} (h:k=0→ts=[]):LV3 (exI k ts) (eyI k ts) (ezI k ts) ts:=by
 unfold exI eyI ezI
 by_cases hk:k=0
 ·rw[if_pos hk,if_pos hk,if_pos hk,h hk];exact LV3.emp
 ·rw[if_neg hk,if_neg hk,if_neg hk];exact LV3.lst ts
theorem jos (n:Int) (es:List (Int×Int)) (hV:VG n es):∃r own,KP 73 [S (fmtG n es)] []=some (r,[],own)∧imm 2 own r=some (.tup [.agg [I n,.i (qe es)],B true]):=by
 refine⟨_,_,jfq n es hV,?_⟩
 unfold qP qA qe
 split
 ·rfl
 ·have:List.take es.length (es.map encE)=es.map encE:=List.take_of_length_le (by simp)
  simp[imm,imm1,mapO,this]
theorem jjj (n:Int) (h:1≤n∧n≤16):KP 10 [I n] []=some (.tup [.agg [I n,.i .emp,.i .emp,.i .emp],B true],[],[]):=by
 obtain⟨h1,h2⟩:=h
 refine gc func10 ?_
 have Fz:=fz1 results10
 repeat(first|exact trivial|refine go1 ?_)
theorem jt3 (n:Int) (es:List (Int×Int)) (hV:VG n es) (n0:Int) (x y z:IV) (ts0:List Tl) (h3:LV3 x y z ts0) :
 KP 26 [.ptr 1000 0 0 0,S (fmtG n es)] [.box 0 [I n0,.i x,.i y,.i z]]=some (S [111,107,10],[.box 0 [I n,.i (exI es.length (ldT es)),.i (eyI es.length (ldT es)),.i (ezI es.length (ldT es))]],[]):=by
 obtain⟨hs,m0,m1⟩:=hV.small
 have hel:=hV.2.2.1
 obtain⟨rp,op,hpg,hpi⟩:=jos n es hV
 have hnl:=jjj n ⟨hV.1,hV.2.1⟩
 have hlx:=h3.lx
 have hly:=h3.ly
 have hlz:=h3.lz
 have hqe:=ji8 (es:=es)
 have hqf:=jhc (es:=es)
 have hia:=(EQ.qe es).ia
 refine gc func26 ?_
 have Fz:=fz9 results26 hpg hpi hnl hlx hly hlz hqe hqf
 repeat refine go1 ?_
 refine jaa (fun(i:Int) s=>s.ρ 0=.ptr 1000 0 0 0∧s.m 1000=some (.box 0 [I n0,.i x,.i y,.i z])∧s.ρ 5=.ptr 5 0 0 0∧s.m 5=some (.box 0 [I n,.i (qe es)])∧s.ρ 7=.ptr 7 0 0 0∧
  s.m 7=some (.box 0 [I n,.i (exI i.toNat (ldT (es.take i.toNat))),.i (eyI i.toNat (ldT (es.take i.toNat))),.i (ezI i.toNat (ldT (es.take i.toNat)))])∧s.ρ 25=.i (qe es)∧s.ρ 26=I es.length∧s.ρ 27=I i∧0≤i∧i≤es.length) (fun i=>(es.length-i).toNat) 0 ?_ ?_
 ·refine⟨?_,?_,?_,?_,?_,?_,?_,?_,?_,by omega,by omega⟩
  all_goals first|rfl | (simp[upd];done)
 rintro i ⟨ρ,m⟩ ⟨e0,m1000,e5,m5,e7,m7,e25,e26,e27,g0,g1⟩
 simp only at e0 m1000 e5 m5 e7 m7 e25 e26 e27 g0 g1
 have hL:=exyz (k:=i.toNat) (ts:=ldT (es.take i.toNat)) (fun h=>by rw[h];rfl)
 have hfx:=hL.fx
 have hfy:=hL.fy
 have hfz:=hL.fz
 have hx':=hL.lx
 have hy':=hL.ly
 have hz':=hL.lz
 by_cases hi:i<es.length
 rotate_left
 ·have hlen:i.toNat=es.length:=by omega
  rw[jac (by omega),hlen] at m7 hx' hy' hz'
  have Fz:=fz16 results26 e0 m1000 e5 m5 e7 m7 e25 e26 e27 hlx hly hlz hx' hy' hz'
  repeat(first|exact trivial|refine go1 ?_)
 have hgi:=getE es i.toNat (by omega)
 have htk:=jae (l:=es) (0,0) g0 hi
 have hld:LD n (es.take i.toNat):=ld (hV.sub (List.take_sublist _ _))
 have hld1:VG n (es.take (i+1).toNat):=hV.sub (List.take_sublist _ _)
 have hia':=fun el=>hia el i g0 hi
 generalize es.getD i.toNat (0,0)=e at hgi htk
 obtain⟨a,b⟩:=e
 simp only at hgi
 rw[htk] at hld1
 have hP:=hld.put hld1
 obtain⟨r,own,hpl,him⟩:=jnj n a b (ldT (es.take i.toNat)) hP
 have hnx:ldT (es.take (i+1).toNat)=plL (ldT (es.take i.toNat)) (a,b):=by rw[htk,jgh]
 have h1:¬(i+1).toNat=0:=by omega
 have hX:exI (i+1).toNat (ldT (es.take (i+1).toNat))=.lst ((esT (plL (ldT (es.take i.toNat)) (a,b))).map encE):=by rw[exI,if_neg h1,hnx]
 have hY:eyI (i+1).toNat (ldT (es.take (i+1).toNat))=.lst ((lvT (plL (ldT (es.take i.toNat)) (a,b))).map encI):=by rw[eyI,if_neg h1,hnx]
 have hZ:ezI (i+1).toNat (ldT (es.take (i+1).toNat))=.lst ((trT (plL (ldT (es.take i.toNat)) (a,b))).map encT):=by rw[ezI,if_neg h1,hnx]
 generalize plL (ldT (es.take i.toNat)) (a,b)=us at *
 generalize ldT (es.take i.toNat)=ts at *
 generalize exI i.toNat ts=X0 at *
 generalize eyI i.toNat ts=Y0 at *
 generalize ezI i.toNat ts=Z0 at *
 have Fz:=fz20 results26 e0 m1000 e5 m5 e7 m7 e25 e26 e27 hx' hy' hz' hfx hfy hfz hgi hia' hpl him
 repeat refine go1 ?_
 exact⟨i+1,by rw[hX,hY,hZ],rfl,by omega,by omega,by omega⟩
theorem jf5 {es:List (Int×Int)} (h:smallE es) (p:Int×Int→Bool):smallE (es.filter p):=fun e he=>h e (List.mem_filter.1 he).1
theorem jii {n:Int} {xs:List Int} (hn:n≤16) (h:∀x∈xs,0≤x∧x<n):smallL xs:=fun x hx=>by have:=h x hx;omega
theorem j2l (n:Int) (x y z:IV) (ts:List Tl) (h3:LV3 x y z ts) (hV:VG n (esT ts)) :
 KP 25 [.ptr 1000 0 0 0,S [115,104,111,119]] [.box 0 [I n,.i x,.i y,.i z]]=some (S (fmtG n (esT ts)++[10]),[.box 0 [I n,.i x,.i y,.i z]],[]):=by
 have hfx:=h3.fx
 have hlx:=h3.lx
 have hel:=hV.2.2.1
 have hfg:=je1 n (esT ts) (by omega)
 rw[if_pos hV] at hfg
 have hlen:=je5 n (esT ts)
 generalize fmtG n (esT ts)=T at *
 refine gc func25 ?_
 have Fz:=fz4 results25 hfx hlx hfg
 repeat(first|exact trivial|refine go1 ?_)
def jcu (l:List UInt8) (n:Int) (x y z:IV) (R:List UInt8) (n':Int) (x' y' z':IV):Prop:=
 KP 12 [.ptr 1000 0 0 0,S l] [.box 0 [I n,.i x,.i y,.i z]]=some (S R,[.box 0 [I n',.i x',.i y',.i z']],[])
def jex (w:List UInt8):Prop:=w=[112,117,116]∨w=[99,117,116]∨w=[112,97,116,104]∨w=[98,101,116,119,101,101,110]∨w=[102,108,111,119]
inductive Runs:List (List UInt8)→Int→IV→IV→IV→List UInt8→List UInt8→Prop
 | nil {n:Int} {x y z:IV} {o:List UInt8}:Runs [] n x y z o o
 | skip {r:List (List UInt8)} {n:Int} {x y z:IV} {o R:List UInt8} (h:Runs r n x y z o R):Runs ([]::r) n x y z o R
 | line {l:List UInt8} {r:List (List UInt8)} {n n':Int} {x y z x' y' z':IV} {o t R:List UInt8} (hl:l≠[]) (ho:o.length≤40000) (ht:t.length≤100000) (h1:jcu l n x y z t n' x' y' z') (h:Runs r n' x' y' z' (o++t) R):Runs (l::r) n x y z o R
abbrev SR (s:Sr):PV:=.agg [LI s.num,LI s.par,LI s.low]
section
structure Dfs (n:Int) (es:List (Int×Int)) (S:Sr):Prop where
 bd:∃N:Int,∀u,inR n u→gI S.num u≤N
 pa:∀u,inR n u→gI S.par u=-1∨(inR n (gI S.par u)∧gI S.num (gI S.par u)<gI S.num u∧u∈nbS (gI S.par u) es)
 inj:∀u w,inR n u→inR n w→gI S.num u=gI S.num w→u=w
 an:∀x,inR n x→∀w∈nbS x es,gI S.num x<gI S.num w→Anc n S.par x w
 lo:∀u,inR n u→gI S.low u=jet S u (nbS u es)
theorem jgn {n:Int} {es:List (Int×Int)} (ho:∀e∈es,okE n e) (hn:es.Nodup) (h0:0≤n):Dfs n es (seek n es):=by
 obtain⟨h1,h2,h3⟩:=jea ho hn n.toNat (by omega)
 obtain⟨ht,he⟩:=js9 ho hn n.toNat (by omega)
 have hz:∀u,inR n u→gI (seekS n es n.toNat).1.num u≠0:=fun u hu=>h3 u hu.1 (by obtain⟨a,b⟩:=hu;omega)
 exact⟨⟨_,fun u hu=>(h1.nn u hu).2⟩,fun u hu=>(ht.pa u hu (hz u hu)).imp id fun h=>⟨h.1,h.2.2.1,h.2.2.2⟩,fun u w hu hw h=>ht.inj u w hu hw (hz u hu) h,fun x hx=>he x hx (hz x hx),fun u hu=>(h2 u hu (hz u hu)).2⟩
namespace Dfs
variable {n:Int} {es:List (Int×Int)} {S:Sr}
theorem num_le (D:Dfs n es S) {a u:Int} (h:Anc n S.par a u):gI S.num a≤gI S.num u:=by
 induction h with
 | refl=>exact Int.le_refl _
 | @up u hu hp _ ih=>
  rcases D.pa u hu with h|h
  ·obtain⟨h1,h2⟩:=hp;omega
  ·omega
theorem above (D:Dfs n es S) {a u:Int} (h:Anc n S.par a u) (hne:a≠u):inR n (gI S.par u)∧Anc n S.par a (gI S.par u):=by
 cases h with
 | refl=>exact absurd rfl hne
 | up hu hp h=>exact⟨hp,h⟩
theorem jfm {v x y:Int} (h:Adj es x y) (hx:x≠v) (hy:y≠v):Conn (alone v es) x y:=by
 refine .of ?_
 unfold alone
 rcases h with h|h
 ·exact .inl (List.mem_filter.2 ⟨h,decide_eq_true ⟨hx,hy⟩⟩)
 ·exact .inr (List.mem_filter.2 ⟨h,decide_eq_true ⟨hy,hx⟩⟩)
theorem comp (D:Dfs n es S) {a b u:Int} (ha:Anc n S.par a u) (hb:Anc n S.par b u):Anc n S.par a b∨Anc n S.par b a:=by
 induction ha with
 | refl=>exact .inr hb
 | up hu hp h ih=>
  cases hb with
  | refl=>exact .inl (.up hu hp h)
  | up _ _ hb=>exact ih hb
theorem kid (D:Dfs n es S) {v z:Int} (h:Anc n S.par v z) (hne:z≠v) (hv:inR n v):∃i,inR n i∧gI S.par i=v∧Anc n S.par i z:=by
 induction h with
 | refl=>exact absurd rfl hne
 | @up u hu hp h ih=>
  by_cases e:gI S.par u=v
  ·exact⟨u,hu,e,.refl⟩
  ·obtain⟨i,h1,h2,h3⟩:=ih e
   exact⟨i,h1,h2,.up hu hp h3⟩
end Dfs
end
def encL (p:List Int):List IV:=[.lst (p.map encI)]
abbrev LL (ps:List (List Int)):PV:=.i (.lst (ps.map encL))
theorem kh0 (ps:List (List Int)) (i:Nat) (h:i<ps.length):(ps.map encL)[i]?=some [.lst ((ps.getD i []).map encI)]:=by simp[encL,h]
theorem kg6 (ps:List (List Int)) (p:List Int):ps.map encL++[[.lst (p.map encI)]]=(ps++[p]).map encL:=by simp[encL]
attribute [go_sem] kh0 kg6
def linesT (D:List UInt8) (ps:List (List Int)):List UInt8:=ps.flatMap fun p=>D++jaw p++[10]
theorem jhf (D:List UInt8) (ps:List (List Int)) (p:List Int):linesT D (ps++[p])=linesT D ps++(D++jaw p++[10]):=by simp[linesT]
theorem jcf (D:List UInt8) (k:Nat):∀ps:List (List Int),(∀p∈ps,p.length≤k)→(linesT D ps).length≤ps.length*(D.length+3*k+1)
 | [],_=>by simp[linesT]
 | p::ps,h=>by
  have h1:=jcf D k ps (fun q hq=>h q (by simp[hq]))
  have h2:=jas p
  have h3:=h p (by simp)
  have e:linesT D (p::ps)=D++jaw p++[10]++linesT D ps:=by simp[linesT]
  rw[e,List.length_append,List.length_append,List.length_append,List.length_cons,List.length_cons,Nat.add_mul ps.length 1,Nat.one_mul]
  simp only[List.length_nil]
  omega
theorem jk4 (D:List UInt8) (ps:List (List Int)) (hs:∀p∈ps,smallL p) (hk:∀p∈ps,p.length≤100) (hD:D.length≤100) (hl:ps.length≤1000):KP 68 [S D,LL ps] []=some (S (linesT D ps),[],[]):=by
 refine gc func68 ?_
 have Fz:=fz1 results68
 repeat refine go1 ?_
 refine jaa (fun(i:Int) s=>s.ρ 8=LL ps∧s.ρ 9=I ps.length∧s.ρ 0=S D∧s.ρ 5=S (linesT D (ps.take i.toNat))∧s.ρ 10=I i∧0≤i∧i≤ps.length) (fun i=>(ps.length-i).toNat) 0 ?_ ?_
 ·refine⟨rfl,?_,rfl,?_,rfl,by omega,by omega⟩
  ·simp[upd]
  ·simp[upd,linesT]
 rintro i ⟨ρ,m⟩ ⟨h8,h9,h0,h5,h10,g0,g1⟩
 simp only at h8 h9 h0 h5 h10 g0 g1
 have hnl:=jcf D 100 (ps.take i.toNat) (fun p hp=>hk p (List.mem_of_mem_take hp))
 rw[List.length_take] at hnl
 have hnl2:(linesT D (ps.take i.toNat)).length≤1000*401:=Nat.le_trans hnl (Nat.mul_le_mul (by omega) (by omega))
 by_cases hi:i<ps.length
 rotate_left
 ·rw[jac (by omega)] at h5
  have Fz:=fz6 results68 h8 h9 h0 h5 h10
  repeat(first|exact trivial|refine go1 ?_)
 have hm:=jab (d:=[]) (show i.toNat<ps.length by omega)
 have hgi:(ps.map encL)[i.toNat]?=some [.lst ((ps.getD i.toNat []).map encI)]:=by
  have:i.toNat<ps.length:=by omega
  simp[encL,this]
 have hnx:linesT D (ps.take (i+1).toNat)=linesT D (ps.take i.toNat)++(D++jaw (ps.getD i.toNat [])++[10]):=by
  rw[jae [] g0 hi,jhf]
 generalize linesT D (ps.take i.toNat)=T at *
 generalize ps.getD i.toNat []=p at hgi hm hnx
 have hnt:=ja5 D p (hs p hm) (by omega) (by have:=hk p hm;omega)
 have l1:=jas p
 have l2:=hk p hm
 generalize hQ:D++jaw p++[10]=Q at *
 have hQl:Q.length≤1000:=by rw[←hQ];simp only[List.length_append,List.length_cons,List.length_nil];omega
 have Fz:=fz8 results68 h8 h9 h0 h5 h10 hgi hnt
 repeat refine go1 ?_
 exact⟨i+1,by rw[hnx],rfl,by omega,by omega,by omega⟩
section
theorem jp4 {n:Int} {es:List (Int×Int)} (ho:∀e∈es,okE n e) (hn:es.Nodup) (h0:0≤n) {u:Int} (hu:inR n u):1≤gI (seek n es).num u∧gI (seek n es).num u≤n:=by
 obtain⟨h1,h2,h3⟩:=jea ho hn n.toNat (by omega)
 have hz:=h3 u hu.1 (by obtain⟨a,b⟩:=hu;omega)
 have hb:=h1.nn u hu
 have hc:=jkn ho hn h0 n.toNat (by omega)
 have hd:seek n es=(seekS n es n.toNat).1:=rfl
 rw[hd]
 omega
theorem kes {l m:List Int} (hn:l.Nodup) (hs:∀x∈l,x∈m) (hl:m.length≤l.length) {x:Int} (hx:x∈m):x∈l:=by
 refine Classical.byContradiction fun h=>?_
 have:=jan (l:=x::l) (m:=m) (List.nodup_cons.2 ⟨h,hn⟩) fun y hy=>by
  rcases List.mem_cons.1 hy with rfl|hy
  ·exact hx
  ·exact hs y hy
 simp at this;omega
def ordL (n:Int) (num:List Int):List Int:=(iota n).foldl (fun acc i=>acc.set (gI num i-1).toNat i) (List.replicate n.toNat 0)
theorem jx8 {num:List Int} {k:Nat} {i0:Int}:∀(vs acc:List Int),(∀i∈vs,(gI num i-1).toNat=k→i=i0)→((i0∈vs∧(gI num i0-1).toNat=k)∨acc.getD k 0=i0)→k<acc.length→(vs.foldl (fun acc i=>acc.set (gI num i-1).toNat i) acc).getD k 0=i0
 | [],acc,_,h,_=>by
  rcases h with h|h
  ·simp at h
  ·exact h
 | v::vs,acc,h1,h,hk=>by
  rw[List.foldl_cons]
  refine jx8 vs _ (fun i hi=>h1 i (List.mem_cons_of_mem _ hi)) ?_ (by rw[List.length_set];exact hk)
  by_cases c:(gI num v-1).toNat=k
  ·refine .inr ?_
   rw[jcq hk,if_pos c]
   exact h1 v (by simp) c
  ·rw[jcq hk,if_neg c]
   rcases h with⟨h,h2⟩ | h
   ·refine .inl ⟨?_,h2⟩
    rcases List.mem_cons.1 h with rfl|h
    ·exact absurd h2 c
    ·exact h
   ·exact .inr h
theorem jl9 (n:Int) (num:List Int):(ordL n num).length=n.toNat:=by
 have:∀(vs acc:List Int),(vs.foldl (fun acc i=>acc.set (gI num i-1).toNat i) acc).length=acc.length:=by
  intro vs
  induction vs with
  | nil=>intro acc;rfl
  | cons v vs ih=>intro acc;rw[List.foldl_cons,ih,List.length_set]
 unfold ordL
 rw[this,List.length_replicate]
theorem ka9 {n:Int} {num:List Int} (h1:∀u,inR n u→1≤gI num u∧gI num u≤n) (h2:∀u w,inR n u→inR n w→gI num u=gI num w→u=w) {k:Nat} (hk:k<n.toNat):∃i,inR n i∧gI num i=k+1∧(ordL n num).getD k 0=i:=by
 have hnd:((iota n).map fun i=>gI num i-1).Nodup:=jl7 ((jd0 n).imp fun h=>by omega) fun x hx y hy h=>h2 x y (mem_iota.1 hx) (mem_iota.1 hy) (by omega)
 have hm:(k:Int)∈(iota n).map fun i=>gI num i-1:=by
  refine kes (m:=iota n) hnd (fun x hx=>?_) (by simp) (mem_iota.2 (by omega))
  obtain⟨i,hi,rfl⟩:=List.mem_map.1 hx
  have:=h1 i (mem_iota.1 hi)
  exact mem_iota.2 (by omega)
 obtain⟨i,hi,he⟩:=List.mem_map.1 hm
 refine⟨i,mem_iota.1 hi,by omega,?_⟩
 unfold ordL
 refine jx8 _ _ (fun j hj hjk=>?_) (.inl ⟨hi,by omega⟩) (by simpa using hk)
 have:=h1 j (mem_iota.1 hj)
 exact h2 j i (mem_iota.1 hj) (mem_iota.1 hi) (by omega)
theorem ju4 {n:Int} {num:List Int} (h1:∀u,inR n u→1≤gI num u∧gI num u≤n) (h2:∀u w,inR n u→inR n w→gI num u=gI num w→u=w) {u:Int}:u∈ordL n num↔inR n u:=by
 constructor
 ·intro h
  obtain⟨k,hk,he⟩:=List.mem_iff_getElem.1 h
  have hk':=hk
  rw[jl9] at hk'
  obtain⟨a,a1,a2,a3⟩:=ka9 h1 h2 hk'
  have e1:(ordL n num)[k]=a:=by rw[←a3];simp[List.getD,jl9,hk']
  rw[←he,e1];exact a1
 ·intro h
  have hb:=h1 u h
  obtain⟨a,a1,a2,a3⟩:=ka9 h1 h2 (k:=(gI num u-1).toNat) (by omega)
  have:a=u:=h2 a u a1 h (by omega)
  rw[←this,←a3]
  exact jab (by rw[jl9];omega)
def bkOf (es:List (Int×Int)) (S:Sr) (u:Int):List (Int×Int):=((nbS u es).filter fun w=>decide (gI S.num u<gI S.num w) && !decide (gI S.par w=u)).map fun w=>(u,w)
def backsL (n:Int) (es:List (Int×Int)) (S:Sr):List (Int×Int):=(ordL n S.num).flatMap (bkOf es S)
theorem jxu {es:List (Int×Int)} {S:Sr} {u:Int} {b:Int×Int}:b∈bkOf es S u↔b.1=u∧b.2∈nbS u es∧gI S.num u<gI S.num b.2∧gI S.par b.2≠u:=by
 unfold bkOf
 rw[List.mem_map]
 simp only[List.mem_filter,Bool.and_eq_true,decide_eq_true_eq,Bool.not_eq_true',decide_eq_false_iff_not]
 constructor
 ·rintro⟨w,⟨h1,h2,h3⟩,rfl⟩;exact⟨rfl,h1,h2,h3⟩
 ·rintro⟨h1,h2,h3,h4⟩;exact⟨b.2,⟨h2,h3,h4⟩,by rw[←h1]⟩
def gB (mk:List Bool) (x:Int):Bool:=mk.getD x.toNat false
def unm (mk:List Bool):Nat:=(mk.filter fun b=>!b).length
theorem jmr:∀{mk:List Bool} {i:Nat},i<mk.length→mk.getD i false=false→unm (mk.set i true)+1=unm mk
 | [],i,h,_=>by simp at h
 | x::l,0,h,h1=>by
  have:x=false:=by simpa using h1
  subst this
  simp[unm]
 | x::l,i+1,h,h1=>by
  have ih:=jmr (mk:=l) (i:=i) (by simpa using h) (by simpa using h1)
  unfold unm at ih ⊢
  simp only[List.set_cons_succ,List.filter_cons]
  split<;>(try simp only[List.length_cons])<;>omega
theorem jjv {n:Int} {mk:List Bool} {x y:Int} {b:Bool} (hl:mk.length=n.toNat) (hx:inR n x) (hy:inR n y):gB (mk.set x.toNat b) y=if x=y then b else gB mk y:=by
 obtain⟨x0,x1⟩:=hx
 obtain⟨y0,y1⟩:=hy
 unfold gB
 rw[List.getD_eq_getElem?_getD,List.getElem?_set]
 by_cases h:x=y
 ·subst h;rw[if_pos rfl,if_pos (by omega),if_pos rfl];rfl
 ·rw[if_neg (by omega),if_neg h,←List.getD_eq_getElem?_getD]
def chW (par:List Int):Nat→List Bool→Int→List Int→List Bool×List Int
 | 0,mk,_,acc=>(mk,acc)
 | f+1,mk,l,acc=>if gB mk l=true then(mk,acc) else chW par f (mk.set l.toNat true) (gI par l) (acc++[gI par l])
theorem jh1 {par:List Int} {f:Nat} {mk:List Bool} {l:Int} {acc:List Int} (h:gB mk l=true):chW par f mk l acc=(mk,acc):=by
 cases f with
 | zero=>rfl
 | succ f=>rw[chW,if_pos h]
theorem jwg {par:List Int} {f:Nat} {mk:List Bool} {l:Int} {acc:List Int} (h:gB mk l=false) (hf:0<f):chW par f mk l acc=chW par (f-1) (mk.set l.toNat true) (gI par l) (acc++[gI par l]):=by
 cases f with
 | zero=>omega
 | succ f=>rw[chW,if_neg (by simp[h])];rfl
def chOne (n:Int) (par:List Int) (mk:List Bool) (b:Int×Int):List Bool×List Int:=chW par n.toNat (mk.set b.1.toNat true) b.2 [b.1,b.2]
def kaw (n:Int) (par:List Int) (st:List Bool×List (List Int)) (b:Int×Int):List Bool×List (List Int):=((chOne n par st.1 b).1,st.2++[(chOne n par st.1 b).2])
def chFold (n:Int) (par:List Int) (bs:List (Int×Int)):List Bool×List (List Int):=bs.foldl (kaw n par) (List.replicate n.toNat false,[])
theorem je3 {n:Int} {par:List Int} {bs:List (Int×Int)} {b:Int×Int}:chFold n par (bs++[b])=kaw n par (chFold n par bs) b:=by
 unfold chFold
 rw[List.foldl_append];rfl
theorem jyf {α:Type} {l:List α} {j:Nat} (d:α) (h:j<l.length):l.take (j+1)=l.take j++[l.getD j d]:=by
 rw[List.take_add_one,List.getD_eq_getElem?_getD,List.getElem?_eq_getElem h];rfl
theorem jem {n:Int} {par:List Int} {bs:List (Int×Int)}:∀j,j≤bs.length→(chFold n par (bs.take j)).2=(List.range j).map fun i=>(chOne n par (chFold n par (bs.take i)).1 (bs.getD i (0,0))).2
 | 0,_=>rfl
 | j+1,h=>by
  rw[jyf (0,0) (by omega),je3,List.range_succ,List.map_append,←jem j (by omega)]
  rfl
section
variable {n:Int} {es:List (Int×Int)} {S:Sr}
theorem jvy (ho:∀e∈es,okE n e) (D:Dfs n es S) {a u:Int} (h:Anc n S.par a u):Conn es a u:=by
 induction h with
 | refl=>exact .refl _
 | @up u hu hp h ih=>
  rcases D.pa u hu with h2|h2
  ·obtain⟨h3,h4⟩:=hp;omega
  ·exact ih.trans (.of ((ja8 ho).1 h2.2.2))
theorem jkb (D:Dfs n es S) {a b:Int} (h1:Anc n S.par a b) (h2:Anc n S.par b a) (ha:inR n a) (hb:inR n b):a=b:=by
 have:=D.num_le h1
 have:=D.num_le h2
 exact D.inj a b ha hb (by omega)
theorem kf8 (D:Dfs n es S) {u:Int} (hu:inR n u) (hp:inR n (gI S.par u)):gI S.num (gI S.par u)<gI S.num u:=by
 rcases D.pa u hu with h|h
 ·obtain⟨h1,h2⟩:=hp;omega
 ·exact h.2.1
theorem j7y (D:Dfs n es S) {u:Int}:∀(f:Nat) (mk:List Bool) (l:Int) (acc:List Int),mk.length=n.toNat→inR n l→inR n u→gB mk u=true→Anc n S.par u l→unm mk≤f→0<acc.length→acc.getD (acc.length-1) 0=l→
 ∃z,inR n z∧gB mk z=true∧Anc n S.par z l∧Anc n S.par u z∧(∀x,inR n x→Anc n S.par x l→Anc n S.par z x→x≠z→gB mk x=false)∧
  (∀x,inR n x→(gB (chW S.par f mk l acc).1 x=true↔gB mk x=true∨(Anc n S.par z x∧Anc n S.par x l∧x≠z)))∧
  (chW S.par f mk l acc).2.getD ((chW S.par f mk l acc).2.length-1) 0=z∧(chW S.par f mk l acc).2.getD 0 0=acc.getD 0 0∧(chW S.par f mk l acc).1.length=n.toNat∧
  0<(chW S.par f mk l acc).2.length∧(chW S.par f mk l acc).2.length≤acc.length+f:=by
 intro f
 induction f with
 | zero=>
  intro mk l acc hl hlr hur hu ha hf hacc hlast
  have hm:gB mk l=true:=Classical.byContradiction fun h=>by
   have:=jmr (mk:=mk) (i:=l.toNat) (by obtain⟨a,b⟩:=hlr;omega) (by simpa[gB] using h)
   omega
  rw[jh1 hm]
  refine⟨l,hlr,hm,.refl,ha,fun x hx h1 h2 h3=>absurd (jkb D h1 h2 hx hlr) h3,fun x hx=>⟨.inl,fun h=>h.elim id fun h=>absurd (jkb D h.2.1 h.1 hx hlr) h.2.2⟩,hlast,rfl,hl,hacc,Nat.le_refl _⟩
 | succ f ih=>
  intro mk l acc hl hlr hur hu ha hf hacc hlast
  by_cases hm:gB mk l=true
  ·rw[jh1 hm]
   refine⟨l,hlr,hm,.refl,ha,fun x hx h1 h2 h3=>absurd (jkb D h1 h2 hx hlr) h3,fun x hx=>⟨.inl,fun h=>h.elim id fun h=>absurd (jkb D h.2.1 h.1 hx hlr) h.2.2⟩,hlast,rfl,hl,hacc,Nat.le_add_right _ _⟩
  ·have hm':gB mk l=false:=by simpa using hm
   have hne:u≠l:=fun e=>hm (e▸hu)
   obtain⟨hp,ha'⟩:=D.above ha hne
   have hlt:=kf8 D hlr hp
   have hun:=jmr (mk:=mk) (i:=l.toNat) (by obtain⟨a,b⟩:=hlr;omega) (by simpa[gB] using hm')
   have hset:=fun x (hx:inR n x)=>jjv (b:=true) hl hlr hx
   rw[jwg hm' (by omega),Nat.add_sub_cancel]
   obtain⟨z,z1,z2,z3,z4,z5,z6,z7,z8,z9,z10,z11⟩:=ih (mk.set l.toNat true) (gI S.par l) (acc++[gI S.par l]) (by rw[List.length_set];exact hl) hp hur (by rw[hset u hur,if_neg (Ne.symm hne)];exact hu) ha' (by omega) (by simp) (by simp)
   have hzl:z≠l:=fun e=>by have:=D.num_le z3;rw[e] at this;omega
   refine⟨z,z1,?_,.up hlr hp z3,z4,fun x hx h1 h2 h3=>?_,fun x hx=>?_,z7,?_,z9,z10,?_⟩
   ·rw[hset z z1,if_neg (Ne.symm hzl)] at z2;exact z2
   ·by_cases e:x=l
    ·rw[e];exact hm'
    ·have:=z5 x hx (D.above h1 e).2 h2 h3
     rw[hset x hx,if_neg (Ne.symm e)] at this;exact this
   ·rw[z6 x hx,hset x hx]
    constructor
    ·rintro(h | ⟨h1,h2,h3⟩)
     ·by_cases e:l=x
      ·exact .inr ⟨e▸.up hlr hp z3,e▸.refl,fun q=>hzl (q.symm.trans e.symm)⟩
      ·rw[if_neg e] at h;exact .inl h
     ·exact .inr ⟨h1,.up hlr hp h2,h3⟩
    ·rintro(h | ⟨h1,h2,h3⟩)
     ·refine .inl ?_
      by_cases e:l=x
      ·rw[if_pos e]
      ·rw[if_neg e];exact h
     ·by_cases e:x=l
      ·exact .inl (by rw[if_pos e.symm])
      ·exact .inr ⟨h1,(D.above h2 e).2,h3⟩
   ·rw[z8]
    match acc,hacc with
    | a::acc,_=>rfl
   ·rw[List.length_append,List.length_singleton] at z11;omega
structure Bk (n:Int) (es:List (Int×Int)) (S:Sr) (b:Int×Int):Prop where
 a:inR n b.1
 z:inR n b.2
 nb:b.2∈nbS b.1 es
 lt:gI S.num b.1<gI S.num b.2
 np:gI S.par b.2≠b.1
theorem Bk.anc (D:Dfs n es S) {b:Int×Int} (h:Bk n es S b):Anc n S.par b.1 b.2:=D.an b.1 h.a b.2 h.nb h.lt
structure CI (n:Int) (es:List (Int×Int)) (S:Sr) (bs:List (Int×Int)) (mk:List Bool):Prop where
 ln:mk.length=n.toNat
 cn:∀x,inR n x→gB mk x=true→∃b∈bs,Conn es b.1 x
 up:∀x,inR n x→gB mk x=true→(∃b∈bs,b.1=x)∨(inR n (gI S.par x)∧gB mk (gI S.par x)=true)
 en:∀b∈bs,inR n b.2∧gB mk b.2=true
theorem j6f (mk:List Bool):unm mk≤mk.length:=List.length_filter_le _ _
theorem CI.spec (D:Dfs n es S) {bs:List (Int×Int)} {mk:List Bool} (c:CI n es S bs mk) {b:Int×Int} (hb:Bk n es S b) :
 ∃z,inR n z∧(z=b.1∨gB mk z=true)∧Anc n S.par z b.2∧Anc n S.par b.1 z∧(∀x,inR n x→Anc n S.par x b.2→Anc n S.par z x→x≠z→gB mk x=false)∧
  (∀x,inR n x→(gB (chOne n S.par mk b).1 x=true↔(x=b.1∨gB mk x=true)∨(Anc n S.par z x∧Anc n S.par x b.2∧x≠z)))∧
  (chOne n S.par mk b).2.getD ((chOne n S.par mk b).2.length-1) 0=z∧(chOne n S.par mk b).2.getD 0 0=b.1∧(chOne n S.par mk b).1.length=n.toNat∧
  0<(chOne n S.par mk b).2.length∧(chOne n S.par mk b).2.length≤2+n.toNat:=by
 have hset:=fun x (hx:inR n x)=>jjv (b:=true) c.ln hb.a hx
 have hs:∀x,inR n x→(gB (mk.set b.1.toNat true) x=true↔x=b.1∨gB mk x=true):=fun x hx=>by
  rw[hset x hx]
  by_cases e:b.1=x
  ·rw[if_pos e];exact⟨fun _=>.inl e.symm,fun _=>rfl⟩
  ·rw[if_neg e];exact⟨.inr,fun h=>h.elim (fun h=>absurd h.symm e) id⟩
 obtain⟨z,z1,z2,z3,z4,z5,z6,z7,z8,z9,z10,z11⟩:=j7y D n.toNat (mk.set b.1.toNat true) b.2 [b.1,b.2] (by rw[List.length_set];exact c.ln) hb.z hb.a ((hs _ hb.a).2 (.inl rfl)) (hb.anc D) (by
  have h1:=j6f (mk.set b.1.toNat true);rw[List.length_set,c.ln] at h1;exact h1) (by simp) rfl
 refine⟨z,z1,(hs z z1).1 z2,z3,z4,fun x hx h1 h2 h3=>?_,fun x hx=>?_,z7,z8,z9,z10,z11⟩
 ·have:=z5 x hx h1 h2 h3
  cases hg:gB mk x with
  | false=>rfl
  | true=>rw[(hs x hx).2 (.inr hg)] at this;cases this
 ·show gB (chW S.par n.toNat (mk.set b.1.toNat true) b.2 [b.1,b.2]).1 x=true↔_
  rw[z6 x hx,hs x hx]
theorem CI.step (ho:∀e∈es,okE n e) (D:Dfs n es S) {bs:List (Int×Int)} {mk:List Bool} (c:CI n es S bs mk) {b:Int×Int} (hb:Bk n es S b):CI n es S (bs++[b]) (chOne n S.par mk b).1:=by
 obtain⟨z,z1,z2,z3,z4,z5,z6,z7,z8,z9,z10,z11⟩:=c.spec D hb
 refine⟨z9,fun x hx h=>?_,fun x hx h=>?_,fun e he=>?_⟩
 ·rcases(z6 x hx).1 h with(h|h) | ⟨h1,h2,h3⟩
  ·exact⟨b,by simp,h▸.refl _⟩
  ·obtain⟨e,e1,e2⟩:=c.cn x hx h
   exact⟨e,by simp[e1],e2⟩
  ·exact⟨b,by simp,(jvy ho D (hb.anc D)).trans (jvy ho D h2).symm⟩
 ·rcases(z6 x hx).1 h with(h|h) | ⟨h1,h2,h3⟩
  ·exact .inl ⟨b,by simp,h.symm⟩
  ·rcases c.up x hx h with⟨e,e1,e2⟩ | ⟨e1,e2⟩
   ·exact .inl ⟨e,by simp[e1],e2⟩
   ·exact .inr ⟨e1,(z6 _ e1).2 (.inl (.inr e2))⟩
  ·obtain⟨p1,p2⟩:=D.above h1 (Ne.symm h3)
   refine .inr ⟨p1,(z6 _ p1).2 ?_⟩
   by_cases e:gI S.par x=z
   ·rw[e];exact .inl z2
   ·exact .inr ⟨p2,Anc.trans (.up hx p1 .refl) h2,e⟩
 ·rcases List.mem_append.1 he with he|he
  ·obtain⟨her,hm⟩:=c.en e he
   exact⟨her,(z6 _ her).2 (.inl (.inr hm))⟩
  ·rw[List.mem_singleton.1 he]
   refine⟨hb.z,(z6 _ hb.z).2 ?_⟩
   by_cases e:b.2=z
   ·rw[e];exact .inl z2
   ·exact .inr ⟨z3,.refl,e⟩
theorem CI.nil (n:Int) (es:List (Int×Int)) (S:Sr):CI n es S [] (List.replicate n.toNat false):=
 ⟨by simp,fun x hx h=>by simp[gB,List.getElem?_replicate] at h;split at h<;>simp at h,fun x hx h=>by simp[gB,List.getElem?_replicate] at h;split at h<;>simp at h,fun b hb=>by simp at hb⟩
theorem CI.take (ho:∀e∈es,okE n e) (D:Dfs n es S) {bs:List (Int×Int)} (hg:∀b∈bs,Bk n es S b):∀j,j≤bs.length→CI n es S (bs.take j) (chFold n S.par (bs.take j)).1
 | 0,_=>CI.nil n es S
 | j+1,h=>by
  have c:=CI.take ho D hg j (by omega)
  rw[jyf (0,0) (by omega),je3]
  exact c.step ho D (hg _ (jab (by omega)))
end
section
variable {n:Int} {es:List (Int×Int)}
theorem joo (ho:∀e∈es,okE n e) (hn:es.Nodup) (h0:0≤n) {b:Int×Int}:b∈backsL n es (seek n es)↔Bk n es (seek n es) b:=by
 have D:=jgn ho hn h0
 unfold backsL
 rw[List.mem_flatMap]
 constructor
 ·rintro⟨u,hu,hb⟩
  have hur:=(ju4 (fun u hu=>jp4 ho hn h0 hu) D.inj).1 hu
  obtain⟨rfl,h2,h3,h4⟩:=jxu.1 hb
  exact⟨hur,(jfk ho h2).1,h2,h3,h4⟩
 ·intro h
  exact⟨b.1,(ju4 (fun u hu=>jp4 ho hn h0 hu) D.inj).2 h.a,jxu.2 ⟨rfl,h.nb,h.lt,h.np⟩⟩
noncomputable def chainsL (n:Int) (es:List (Int×Int)):List (List Int):=(chFold n (seek n es).par (backsL n es (seek n es))).2
noncomputable def kd1 (n:Int) (es:List (Int×Int)) (i:Int):List Int:=(iota i).filter fun j=>decide (((chainsL n es).getD j.toNat []).getD 0 0=((chainsL n es).getD j.toNat []).getD (((chainsL n es).getD j.toNat []).length-1) 0)
theorem jnq:(chainsL n es).length=(backsL n es (seek n es)).length:=by
 have:=jem (n:=n) (par:=(seek n es).par) (bs:=backsL n es (seek n es)) _ (Nat.le_refl _)
 rw[List.take_length] at this
 unfold chainsL
 rw[this];simp
theorem j2q {i:Nat} (hi:i<(backsL n es (seek n es)).length):(chainsL n es).getD i []=(chOne n (seek n es).par (chFold n (seek n es).par ((backsL n es (seek n es)).take i)).1 ((backsL n es (seek n es)).getD i (0,0))).2:=by
 have:=jem (n:=n) (par:=(seek n es).par) (bs:=backsL n es (seek n es)) _ (Nat.le_refl _)
 rw[List.take_length] at this
 unfold chainsL
 rw[this];simp[hi]
end
end
theorem js8 {n:Int} {es:List (Int×Int)} (hV:VG n es):(seek n es).num.length=n.toNat∧(seek n es).par.length=n.toNat:=by
 obtain⟨h1,-,-⟩:=jea hV.okg.ok hV.nodup n.toNat (by have:=hV.1;omega)
 exact⟨h1.ln,h1.lp⟩
theorem jvf {n:Int} {es:List (Int×Int)} (hV:VG n es):∀u,inR n u→1≤gI (seek n es).num u∧gI (seek n es).num u≤n:=fun u hu=>jp4 hV.okg.ok hV.nodup (by have:=hV.1;omega) hu
def ordF (n:Int) (num:List Int) (i:Int):List Int:=(iota i).foldl (fun acc i=>acc.set (gI num i-1).toNat i) (zI n.toNat)
theorem j5k (n:Int) (num:List Int):ordF n num n=ordL n num:=rfl
theorem jsq {n i:Int} {num:List Int} (h:0≤i):ordF n num (i+1)=(ordF n num i).set (gI num i-1).toNat i:=by
 unfold ordF
 rw[jby h,List.foldl_append];rfl
theorem jxy (n i:Int) (num:List Int):(ordF n num i).length=n.toNat:=by
 have:∀(vs acc:List Int),(vs.foldl (fun acc i=>acc.set (gI num i-1).toNat i) acc).length=acc.length:=by
  intro vs
  induction vs with
  | nil=>intro acc;rfl
  | cons v vs ih=>intro acc;rw[List.foldl_cons,ih,List.length_set]
 unfold ordF
 rw[this,kbj]
theorem jv5 (es:List (Int×Int)) (S:Sr) (u:Int):(bkOf es S u).length≤es.length:=by
 unfold bkOf
 rw[List.length_map]
 have h1:=List.length_filter_le (fun w=>decide (gI S.num u<gI S.num w) && !decide (gI S.par w=u)) (nbS u es)
 have h2:=jak u es
 omega
theorem kbq (n:Int) (es:List (Int×Int)) (S:Sr) (hV:VG n es) (h1:S.num.length=n.toNat) (h2:S.par.length=n.toNat) (hb:∀u,inR n u→1≤gI S.num u∧gI S.num u≤n) (ho:∀u∈ordL n S.num,inR n u) :
 KP 123 [GL n es,SR S] []=some (.ref 2000 0 0 (backsL n es S).length,[],[.arr 0 2 ((backsL n es S).map encE)]):=by
 have hn1:=hV.1
 have hn16:=hV.2.1
 have hel:=hV.2.2.1
 refine gc func123 ?_
 have Fz:=fz1 results123
 repeat refine go1 ?_
 refine jaa (fun(i:Int) s=>s.m 2=some (.box 0 [I n,LE es])∧s.ρ 2=.ptr 2 0 0 0∧s.m 3=some (.box 0 [LI S.num,LI S.par,LI S.low])∧s.ρ 3=.ptr 3 0 0 0∧s.m 15=some (.arr 0 1 ((ordF n S.num i).map encI))∧s.ρ 5=.ref 15 0 0 n.toNat∧
  s.ρ 17=LI S.num∧s.ρ 18=I n∧s.ρ 19=I i∧0≤i∧i≤n) (fun i=>(n-i).toNat) 0 ?_ ?_
 ·refine⟨rfl,rfl,rfl,rfl,rfl,rfl,rfl,?_,rfl,by omega,by omega⟩
  simp[upd,h1];omega
 rintro i ⟨ρ,m⟩ ⟨m2,e2,m3,e3,m15,e5,e17,e18,e19,g0,g1⟩
 simp only at m2 e2 m3 e3 m15 e5 e17 e18 e19 g0 g1
 have hfl:=jxy n i S.num
 by_cases hi:i<n
 ·have hbi:=hb i ⟨g0,hi⟩
  have hsn:=jsq (n:=n) (num:=S.num) g0
  have hgi:S.num.getD i.toNat 0=gI S.num i:=rfl
  generalize ordF n S.num i=os at m15 hfl hsn
  have Fz:=fz11 results123 m2 e2 m3 e3 m15 e5 e17 e18 e19 hgi
  repeat refine go1 ?_
  exact⟨i+1,hsn.symm,rfl,by omega,by omega,by omega⟩
 have hin:i=n:=by omega
 subst hin
 rw[j5k] at m15 hfl
 have Fz:=fz10 results123 m2 e2 m3 e3 m15 e5 e17 e18 e19
 repeat refine go1 ?_
 refine jaa (fun(x:Int×Nat×List (Int×Int)) s=>s.m 2=some (.box 0 [I i,LE es])∧s.ρ 2=.ptr 2 0 0 0∧s.m 3=some (.box 0 [LI S.num,LI S.par,LI S.low])∧s.ρ 3=.ptr 3 0 0 0∧s.m 15=some (.arr 0 1 ((ordL i S.num).map encI))∧
  s.ρ 31=.ref 15 0 0 i.toNat∧s.ρ 32=I i∧s.ρ 33=I x.1∧s.m 30=some (.arr x.2.1 2 (x.2.2.map encE))∧s.ρ 8=.ref 30 x.2.1 0 x.2.2.length∧x.2.2=((ordL i S.num).take x.1.toNat).flatMap (bkOf es S)∧(x.2.2.length:Int)≤40*x.1∧0≤x.1∧x.1≤i) (fun x=>(i-x.1).toNat) (0,nv (m 30),[]) ?_ ?_
 ·refine⟨m2,e2,m3,e3,m15,rfl,?_,rfl,rfl,rfl,by simp,by simp,by simp,by omega⟩
  simp[upd];omega
 rintro⟨k,w,xs⟩ ⟨ρ,m⟩ ⟨m2,e2,m3,e3,m15,e31,e32,e33,m30,e8,hxs,hxl,f0,f1⟩
 simp only at m2 e2 m3 e3 m15 e31 e32 e33 m30 e8 hxs hxl f0 f1
 by_cases hk:k<i
 rotate_left
 ·have hbk:backsL i es S=xs:=by rw[hxs,jac (by omega)];rfl
  have Fz:=fz11 results123 m2 e2 m3 e3 m15 e31 e32 e33 m30 e8
  repeat refine go1 ?_
  rw[hbk];exact⟨rfl,rfl⟩
 have hu:=ho _ (jab (d:=0) (show k.toNat<(ordL i S.num).length by omega))
 have htk:=jae (l:=ordL i S.num) (i:=k) 0 f0 (by omega)
 have hgo:=getI (ordL i S.num) k.toNat (by omega)
 generalize (ordL i S.num).getD k.toNat 0=u at hu htk hgo
 have hnb:=jb8 i u es (by omega)
 have hnl:=jak u es
 have Fz:=fz13 results123 m2 e2 m3 e3 m15 e31 e32 e33 m30 e8 hgo hnb
 repeat refine go1 ?_
 refine jaa (fun(x:Int×Nat×List (Int×Int)) s=>s.m 2=some (.box 0 [I i,LE es])∧s.ρ 2=.ptr 2 0 0 0∧s.m 3=some (.box 0 [LI S.num,LI S.par,LI S.low])∧s.ρ 3=.ptr 3 0 0 0∧s.m 15=some (.arr 0 1 ((ordL i S.num).map encI))∧
  s.ρ 31=.ref 15 0 0 i.toNat∧s.ρ 32=I i∧s.ρ 33=I k∧s.ρ 10=I u∧s.ρ 39=LI (nbS u es)∧s.ρ 40=I (nbS u es).length∧s.ρ 41=I x.1∧s.m 30=some (.arr x.2.1 2 (x.2.2.map encE))∧s.ρ 8=.ref 30 x.2.1 0 x.2.2.length∧
  x.2.2=xs++(((nbS u es).take x.1.toNat).filter fun w=>decide (gI S.num u<gI S.num w) && !decide (gI S.par w=u)).map (fun w=>(u,w))∧(x.2.2.length:Int)≤40*k+x.1∧0≤x.1∧x.1≤(nbS u es).length) (fun x=>((nbS u es).length-x.1).toNat) (0,w,xs) ?_ ?_
 ·refine⟨m2,e2,m3,e3,m15,e31,e32,e33,rfl,rfl,rfl,rfl,m30,e8,by simp,by simp;omega,by simp,by omega⟩
 rintro⟨j,w,ys⟩ ⟨ρ,m⟩ ⟨m2,e2,m3,e3,m15,e31,e32,e33,e10,e39,e40,e41,m30,e8,hys,hyl,d0,d1⟩
 simp only at m2 e2 m3 e3 m15 e31 e32 e33 e10 e39 e40 e41 m30 e8 hys hyl d0 d1
 by_cases hj:j<(nbS u es).length
 rotate_left
 ·have Fz:=fz15 results123 m2 e2 m3 e3 m15 e31 e32 e33 e10 e39 e40 e41 m30 e8
  repeat refine go1 ?_
  refine⟨?_,by omega,by omega,by omega,by omega⟩
  rw[htk,List.flatMap_append,←hxs,hys,jac (by omega)]
  simp[bkOf]
 have hw:=jfk hV.okg.ok (jab (d:=0) (show j.toNat<(nbS u es).length by omega))
 have hgw:=getI (nbS u es) j.toNat (by omega)
 have fy:=jia (l:=nbS u es) (p:=fun w=>decide (gI S.num u<gI S.num w) && !decide (gI S.par w=u)) (d:=0) d0 hj
 have fn:=jlq (l:=nbS u es) (p:=fun w=>decide (gI S.num u<gI S.num w) && !decide (gI S.par w=u)) (d:=0) d0 hj
 generalize (nbS u es).getD j.toNat 0=v at hw hgw fy fn
 obtain⟨u0,u1⟩:=id hu
 obtain⟨⟨v0,v1⟩,-⟩:=hw
 have gu:S.num.getD u.toNat 0=gI S.num u:=rfl
 have gv:S.num.getD v.toNat 0=gI S.num v:=rfl
 have gp:S.par.getD v.toNat 0=gI S.par v:=rfl
 by_cases c1:gI S.num u<gI S.num v
 ·by_cases c2:gI S.par v=u
  ·have hno:=fn (by show ¬(decide _ && !decide _)=true;rw[decide_eq_true c1,decide_eq_true c2];decide)
   have Fz:=fz21 results123 m2 e2 m3 e3 m15 e31 e32 e33 e10 e39 e40 e41 m30 e8 hgw gu gv gp c1 c2
   repeat refine go1 ?_
   exact⟨by rw[hno];exact hys,by omega,by omega,by omega,by omega⟩
  ·have hyes:=fy (by show(decide _ && !decide _)=true;rw[decide_eq_true c1,decide_eq_false c2];rfl)
   have Fz:=fz21 results123 m2 e2 m3 e3 m15 e31 e32 e33 e10 e39 e40 e41 m30 e8 hgw gu gv gp c1 c2
   repeat refine go1 ?_
   exact⟨by rw[hyes,hys,List.map_append,List.append_assoc];rfl,by omega,by omega,by omega,by omega⟩
 ·have hno:=fn (by show ¬(decide _ && !decide _)=true;rw[decide_eq_false c1];simp)
  have Fz:=fz20 results123 m2 e2 m3 e3 m15 e31 e32 e33 e10 e39 e40 e41 m30 e8 hgw gu gv gp c1
  repeat refine go1 ?_
  exact⟨by rw[hno];exact hys,by omega,by omega,by omega,by omega⟩
theorem j17 (n:Int) (S:Sr) (hn1:1≤n) (hn16:n≤16) (h1:S.num.length=n.toNat) (hb:∀u,inR n u→1≤gI S.num u∧gI S.num u≤n):KP 212 [SR S] []=some (.ref 2000 0 0 n.toNat,[],[.arr 0 1 ((ordL n S.num).map encI)]):=by
 refine gc func212 ?_
 have Fz:=fz2 results212 h1
 repeat refine go1 ?_
 refine jaa (fun(i:Int) s=>s.m 1=some (.box 0 [LI S.num,LI S.par,LI S.low])∧s.ρ 1=.ptr 1 0 0 0∧s.m 8=some (.arr 0 1 ((ordF n S.num i).map encI))∧s.ρ 3=.ref 8 0 0 n.toNat∧s.ρ 4=I i∧0≤i∧i≤n) (fun i=>(n-i).toNat) 0 ?_ ?_
 ·exact⟨rfl,rfl,rfl,rfl,rfl,by omega,by omega⟩
 rintro i ⟨ρ,m⟩ ⟨m1,e1,m8,e3,e4,g0,g1⟩
 simp only at m1 e1 m8 e3 e4 g0 g1
 have hfl:=jxy n i S.num
 by_cases hi:i<n
 ·have hbi:=hb i ⟨g0,hi⟩
  have hsn:=jsq (n:=n) (num:=S.num) g0
  have hgi:S.num.getD i.toNat 0=gI S.num i:=rfl
  generalize ordF n S.num i=os at m8 hfl hsn
  have Fz:=fz8 results212 m1 e1 m8 e3 e4 hgi h1
  repeat refine go1 ?_
  exact⟨i+1,hsn.symm,rfl,by omega,by omega,by omega⟩
 have hin:i=n:=by omega
 subst hin
 rw[j5k] at m8 hfl
 have Fz:=fz7 results212 m1 e1 m8 e3 e4 h1
 repeat(first|exact trivial|refine go1 ?_)
def bkN (es:List (Int×Int)) (S:Sr) (u:Int):List Int:=(nbS u es).filter fun w=>decide (gI S.num u<gI S.num w) && !decide (gI S.par w=u)
theorem j7t (n:Int) (es:List (Int×Int)) (S:Sr) (hV:VG n es) (h1:S.num.length=n.toNat) (h2:S.par.length=n.toNat) (u:Int) (hu:inR n u):KP 213 [GL n es,SR S,I u] []=some (.ref 2000 0 0 (bkN es S u).length,[],[.arr 0 1 ((bkN es S u).map encI)]):=by
 have hn1:=hV.1
 have hn16:=hV.2.1
 have hnx:=je2 n u es hV.okg hV.nodup
 have hel:=hV.2.2.1
 have hnl:=jak u es
 refine gc func213 ?_
 have Fz:=fz2 results213 hnx
 repeat refine go1 ?_
 refine jaa (fun(x:Int×Nat×List Int) s=>s.m 4=some (.box 0 [LI S.num,LI S.par,LI S.low])∧s.ρ 4=.ptr 4 0 0 0∧s.ρ 2=I u∧s.ρ 8=LI (nbS u es)∧s.ρ 9=I x.1∧s.m 10=some (.arr x.2.1 1 (x.2.2.map encI))∧s.ρ 7=.ref 10 x.2.1 0 x.2.2.length∧
  x.2.2=((nbS u es).take x.1.toNat).filter (fun w=>decide (gI S.num u<gI S.num w) && !decide (gI S.par w=u))∧(x.2.2.length:Int)≤x.1∧0≤x.1∧x.1≤(nbS u es).length) (fun x=>((nbS u es).length-x.1).toNat) (0,0,[]) ?_ ?_
 ·exact⟨rfl,rfl,rfl,rfl,rfl,rfl,rfl,by simp,by simp,by simp,by omega⟩
 rintro⟨j,w,ys⟩ ⟨ρ,m⟩ ⟨m4,e4,e2,e8,e9,m10,e7,hys,hyl,d0,d1⟩
 simp only at m4 e4 e2 e8 e9 m10 e7 hys hyl d0 d1
 by_cases hj:j<(nbS u es).length
 rotate_left
 ·have hbk:bkN es S u=ys:=by rw[hys,jac (by omega)];rfl
  rw[hbk]
  have Fz:=fz8 results213 m4 e4 e2 e8 e9 m10 e7
  repeat(first|exact trivial|refine go1 ?_)
 have hw:=jfk hV.okg.ok (jab (d:=0) (show j.toNat<(nbS u es).length by omega))
 have hgw:=getI (nbS u es) j.toNat (by omega)
 have fy:=jia (l:=nbS u es) (p:=fun w=>decide (gI S.num u<gI S.num w) && !decide (gI S.par w=u)) (d:=0) d0 hj
 have fn:=jlq (l:=nbS u es) (p:=fun w=>decide (gI S.num u<gI S.num w) && !decide (gI S.par w=u)) (d:=0) d0 hj
 generalize (nbS u es).getD j.toNat 0=v at hw hgw fy fn
 obtain⟨u0,u1⟩:=id hu
 obtain⟨⟨v0,v1⟩,-⟩:=hw
 have gu:S.num.getD u.toNat 0=gI S.num u:=rfl
 have gv:S.num.getD v.toNat 0=gI S.num v:=rfl
 have gp:S.par.getD v.toNat 0=gI S.par v:=rfl
 by_cases c1:gI S.num u<gI S.num v
 ·by_cases c2:gI S.par v=u
  ·have hno:=fn (by show ¬(decide _ && !decide _)=true;rw[decide_eq_true c1,decide_eq_true c2];decide)
   have Fz:=fz14 results213 m4 e4 e2 e8 e9 m10 e7 hgw gu gv gp c1 c2
   repeat refine go1 ?_
   exact⟨by rw[hno];exact hys,by omega,by omega,by omega,by omega⟩
  ·have hyes:=fy (by show(decide _ && !decide _)=true;rw[decide_eq_true c1,decide_eq_false c2];rfl)
   have Fz:=fz14 results213 m4 e4 e2 e8 e9 m10 e7 hgw gu gv gp c1 c2
   repeat refine go1 ?_
   exact⟨by rw[hyes,hys],by omega,by omega,by omega,by omega⟩
 ·have hno:=fn (by show ¬(decide _ && !decide _)=true;rw[decide_eq_false c1];simp)
  have Fz:=fz13 results213 m4 e4 e2 e8 e9 m10 e7 hgw gu gv gp c1
  repeat refine go1 ?_
  exact⟨by rw[hno];exact hys,by omega,by omega,by omega,by omega⟩
end Go.Proofs.YtnaaceooknghjaaGreatDoor.X
