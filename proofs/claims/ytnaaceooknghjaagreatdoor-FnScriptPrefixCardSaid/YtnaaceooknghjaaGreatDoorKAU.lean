/- What functions answer, and the plain laws behind it. -/
import Derived.Test.YtnaaceooknghjaaGreatDoorC149
import Derived.Test.YtnaaceooknghjaaGreatDoorKAT
import Derived.Test.YtnaaceooknghjaaGreatDoorKAS
set_option linter.unusedSimpArgs false
set_option linter.unusedVariables false
set_option maxHeartbeats 8000000
set_option maxRecDepth 100000
namespace Go.Proofs.YtnaaceooknghjaaGreatDoor.X
open Go Go.Proofs Tryz
theorem j98 (n a b:Int) (ts:List Tl) (hL:LV n ts) (hm:(a,b)∈esT ts):∃r own x y z,LV3 x y z (ctR n ts (a,b)).1∧KP 103 [LvP n ts,PE a b] []=some (r,[],own)∧
 imm 2 own r=some (.tup [.agg [I n,.i x,.i y,.i z],I (ctR n ts (a,b)).2.1,B (ctR n ts (a,b)).2.2,B true]):=by
 obtain⟨p,own,hsh,hc⟩:=jud n a b ts hL hm
 generalize ctR n ts (a,b)=R at *
 have k1:=rkE R.1
 have k2:=rkL R.1
 have k3:=rkT R.1
 have href:p=jgu n R.1∧own=jgt R.1→∃x y z,LV3 x y z R.1∧imm 2 own (.tup [p,I R.2.1,B R.2.2,B true])=some (.tup [.agg [I n,.i x,.i y,.i z],I R.2.1,B R.2.2,B true]):=by
  rintro⟨rfl,rfl⟩
  refine⟨_,_,_,LV3.lst R.1,?_⟩
  simp only[jgu,jgt,imm,imm1,mapO]
  simp[←List.map_take,k1,k2,k3]
 rcases hsh with⟨u1,u2⟩ | h
 ·unfold cutP at u1
  unfold cutA at u2
  by_cases hz:R.1=[]
  ·rw[if_pos hz] at u1 u2
   subst u1 u2
   refine⟨_,_,_,.emp,.emp,⟨?_,?_,?_,?_,rfl,rfl⟩,hc,rfl⟩
   all_goals first | (rw[hz];intro k;cases k<;>rfl)|rfl
  ·rw[if_neg hz] at u1 u2
   obtain⟨x,y,z,h1,h2⟩:=href ⟨u1,u2⟩
   exact⟨_,_,x,y,z,h1,hc,h2⟩
 ·obtain⟨x,y,z,h1,h2⟩:=href h
  exact⟨_,_,x,y,z,h1,hc,h2⟩
theorem jk0 (n a b:Int) (ts:List Tl) (hL:LV n ts):∃x y z:IV,LV3 x y z (chgF n ts [99,117,116] (a,b)).2.2∧KP 54 [LvP n ts,S [99,117,116],PE a b] []=some (.tup [.agg [I (chgF n ts [99,117,116] (a,b)).2.1,.i x,.i y,.i z],S (chgF n ts [99,117,116] (a,b)).1],[],[]):=by
 have hV:=hL.vg
 unfold chgF
 rw[if_neg (by simp)]
 by_cases hm:(a,b)∈esT ts
 ·rw[if_pos hm]
  obtain⟨r,own,x,y,z,h3,hct,him⟩:=j98 n a b ts hL hm
  obtain⟨c1,c2,c3,c4,c5⟩:=ct_spec hL hm
  generalize ctR n ts (a,b)=R at *
  obtain⟨us,rs,fd⟩:=R
  simp only at h3 him c1 c2 c3 c4 c5 ⊢
  obtain⟨k,rfl⟩:=Int.eq_ofNat_of_zero_le c4
  have hdec:=jhv k (by omega)
  have hit:=Lib.itoa_length_le (k:Int) (by omega) (by omega)
  generalize hI:Lib.itoa (k:Int)=D at *
  refine⟨x,y,z,h3,?_⟩
  have he1:([102,111,117,110,100]++32::D++[10]:List UInt8)=[102,111,117,110,100,32]++D++[10]:=by simp
  have he2:([99,117,116]++32::D++[10]:List UInt8)=[99,117,116,32]++D++[10]:=by simp
  have hfx:=h3.fx
  have hlx:=h3.lx
  have hfy:=h3.fy
  have hly:=h3.ly
  have hfz:=h3.fz
  have hlz:=h3.lz
  cases fd with
  | true=>
   rw[if_pos rfl,he1]
   refine gc func54 ?_
   have Fz:=fz10 results54 hct him hdec hfx hlx hfy hly hfz hlz
   repeat(first|exact trivial|refine go1 ?_)
  | false=>
   rw[if_neg (by simp),he2]
   refine gc func54 ?_
   have Fz:=fz10 results54 hct him hdec hfx hlx hfy hly hfz hlz
   repeat(first|exact trivial|refine go1 ?_)
 ·rw[if_neg hm]
  have hct:=jm0 n a b ts hV (fun h=>hm h.2)
  refine⟨_,_,_,LV3.lst _,?_⟩
  refine gc func54 ?_
  have Fz:=fz2 results54 hct
  repeat(first|exact trivial|refine go1 ?_)
theorem jk8 (w:List UInt8) (hw:w=[112,117,116]∨w=[99,117,116]) (T:List UInt8) (hT:T.length≤100000) (n:Int) (ts:List Tl) (hL:LV n ts):jit n ts w T (jdg n ts w T):=by
 have hV:=hL.vg
 have hw2:jex w:=by unfold jex;rcases hw with h|h<;>simp[h]
 obtain⟨a,b,ok,⟨h1,h2⟩,htw⟩:=jo0 T (by omega)
 by_cases hl:(numsO T).length=2
 rotate_left
 ·rw[jx4 hw2 hl]
  have hok:=h2 hl
  subst hok
  refine⟨_,_,_,LV3.lst ts,?_⟩
  rcases hw with rfl|rfl
  all_goals
   refine gc func22 ?_
   have Fz:=fz2 results22 htw
   repeat(first|exact trivial|refine go1 ?_)
 obtain⟨p,q,hpq⟩:=jso hl
 obtain⟨rfl,rfl,rfl⟩:=h1 p q hpq
 rw[js0 hw2 hpq,keg n ts w a b hw]
 have he:=jzh a b
 by_cases hE:eOk a b
 rotate_left
 ·rw[if_neg hE] at he
  rw[if_neg hE]
  refine⟨_,_,_,LV3.lst ts,?_⟩
  rcases hw with rfl|rfl
  all_goals
   refine gc func22 ?_
   have Fz:=fz3 results22 htw he
   repeat(first|exact trivial|refine go1 ?_)
 rw[if_pos hE] at he
 rw[if_pos hE]
 generalize edgeOf a b=e at *
 obtain⟨c,d⟩:=e
 simp only at he
 rcases hw with rfl|rfl
 ·obtain⟨x,y,z,h3,hc⟩:=jk1 n c d ts hL
  have hfx:=h3.fx
  have hlx:=h3.lx
  have hfy:=h3.fy
  have hly:=h3.ly
  have hfz:=h3.fz
  have hlz:=h3.lz
  refine⟨x,y,z,h3,?_⟩
  generalize chgF n ts [112,117,116] (c,d)=R at *
  obtain⟨t,m,us⟩:=R
  refine gc func22 ?_
  have Fz:=fz10 results22 htw he hc hfx hlx hfy hly hfz hlz
  repeat(first|exact trivial|refine go1 ?_)
 ·obtain⟨x,y,z,h3,hc⟩:=jk0 n c d ts hL
  have hfx:=h3.fx
  have hlx:=h3.lx
  have hfy:=h3.fy
  have hly:=h3.ly
  have hfz:=h3.fz
  have hlz:=h3.lz
  refine⟨x,y,z,h3,?_⟩
  generalize chgF n ts [99,117,116] (c,d)=R at *
  obtain⟨t,m,us⟩:=R
  refine gc func22 ?_
  have Fz:=fz10 results22 htw he hc hfx hlx hfy hly hfz hlz
  repeat(first|exact trivial|refine go1 ?_)
theorem jy4 (w T:List UInt8) (hT:T.length≤100000) (n:Int) (ts:List Tl) (hL:LV n ts):jit n ts w T (jdg n ts w T):=by
 by_cases hw:jqf w
 ·unfold jqf jex at hw
  rcases hw with rfl|rfl|rfl|rfl|rfl|rfl|rfl
  ·exact jo9 T hT n ts hL
  ·exact jra T hT n ts hL
  ·exact jk8 _ (.inl rfl) T hT n ts hL
  ·exact jk8 _ (.inr rfl) T hT n ts hL
  ·exact jg7 _ (.inl rfl) T hT n ts hL
  ·exact jg7 _ (.inr (.inl rfl)) T hT n ts hL
  ·exact jg7 _ (.inr (.inr rfl)) T hT n ts hL
 ·exact jzl w hw T hT n ts hL
theorem kf4 {P:Program} {t:TypeId} {x y:Int}:binV P .neq t (.i (.v (.int .u8 x))) (.i (.v (.int .u8 y)))=some (.bool (!decide (x=y))):=rfl
attribute [go_sem] kf4
theorem kgf {b:UInt8} (h:b≠32):¬(b.toNat:Int)=32:=fun e=>h (kak.1 e)
theorem kbu (l:List UInt8) (hl:l.length≤100000) (n:Int) (ts:List Tl) (hL:LV n ts):∃x y z:IV,LV3 x y z (jfj n ts l).2.2∧KP 9 [LvP n ts,S l] []=some (.tup [.agg [I (jfj n ts l).2.1,.i x,.i y,.i z],S (jfj n ts l).1],[],[]):=by
 unfold jfj
 by_cases h32:(32:UInt8)∈l
 ·rw[if_pos h32]
  have hix:0≤ixB 32 l:=by unfold ixB;rw[if_pos h32];omega
  obtain⟨k1,k2⟩:=jsb hix
  have hk:=(jxn (c:=32) (l:=l)).1
  obtain⟨x,y,z,h3,hc⟩:=jy4 (l.take (ixB 32 l).toNat) (l.drop ((ixB 32 l).toNat+1)) (by rw[List.length_drop];omega) n ts hL
  generalize jdg n ts (l.take (ixB 32 l).toNat) (l.drop ((ixB 32 l).toNat+1))=R at *
  generalize ixB 32 l=k at *
  have hgk:l[k.toNat]?=some 32:=by
   have h1:(l.take k.toNat).length=k.toNat:=by rw[List.length_take];omega
   rw[k2,List.getElem?_append_right (by omega),h1]
   simp
  have hb:∀i,i<k.toNat→∃b,l[i]?=some b∧b≠32:=fun i hi=>by
   refine⟨l[i]'(by omega),by simp,fun h=>k1 ?_⟩
   rw[←h]
   exact List.mem_take_iff_getElem.2 ⟨i,by omega,by simp⟩
  rw[show k.toNat+1=(k+1).toNat by omega] at hc
  obtain⟨A,hA⟩:∃A,l.take k.toNat=A:=⟨_,rfl⟩
  obtain⟨D,hD,hDl⟩:∃D,l.drop (k+1).toNat=D∧D.length=l.length-(k+1).toNat:=⟨_,rfl,by rw[List.length_drop]⟩
  have hDt:D.take (l.length-(k+1).toNat)=D:=List.take_of_length_le (by omega)
  rw[hA,hD] at hc
  clear k1 k2
  have hfx:=h3.fx
  have hlx:=h3.lx
  have hfy:=h3.fy
  have hly:=h3.ly
  have hfz:=h3.fz
  have hlz:=h3.lz
  refine⟨x,y,z,h3,gc func9 ?_⟩
  have Fz:=fz1 results9
  repeat refine go1 ?_
  refine jaa (fun(i:Int) s=>s.ρ 2=.ptr 2 0 0 0∧s.m 2=some (.box 0 [I n,LE (esT ts),LI (lvT ts),LT (trT ts)])∧s.ρ 4=.ptr 4 0 0 0∧s.m 4=some (.box 0 [I 0,.i .emp,.i .emp,.i .emp])∧s.ρ 1=S l∧s.ρ 6=I i∧0≤i∧i≤k) (fun i=>(k-i).toNat) 0 ⟨rfl,rfl,rfl,rfl,rfl,rfl,by omega,hix⟩ ?_
  rintro i ⟨ρ,m⟩ ⟨e2,m2,e4,m4,e1,eA,g0,g1⟩
  simp only at e2 m2 e4 m4 e1 eA g0 g1
  by_cases hi:i<k
  ·obtain⟨b,hb1,hb2'⟩:=hb i.toNat (by omega)
   have hb2:=kgf hb2'
   have Fz:=fz9 results9 e2 m2 e4 m4 e1 eA hb1 hb2
   repeat refine go1 ?_
   exact⟨by omega,by omega,by omega⟩
  ·obtain rfl:i=k:=by omega
   have Fz:=fz18 results9 e2 m2 e4 m4 e1 eA hgk hc hA hD hDt hfx hlx hfy hly hfz hlz
   repeat(first|exact trivial|refine go1 ?_)
 ·rw[if_neg h32]
  have hb:∀i,i<l.length→∃b,l[i]?=some b∧b≠32:=fun i hi=>⟨l[i],by simp,fun h=>h32 (h▸List.getElem_mem hi)⟩
  have hc:=j7i l n ts hL
  refine⟨_,_,_,LV3.lst ts,gc func9 ?_⟩
  have Fz:=fz1 results9
  repeat refine go1 ?_
  refine jaa (fun(i:Int) s=>s.ρ 2=.ptr 2 0 0 0∧s.m 2=some (.box 0 [I n,LE (esT ts),LI (lvT ts),LT (trT ts)])∧s.ρ 4=.ptr 4 0 0 0∧s.m 4=some (.box 0 [I 0,.i .emp,.i .emp,.i .emp])∧s.ρ 1=S l∧s.ρ 6=I i∧0≤i∧i≤l.length) (fun i=>(l.length-i).toNat) 0 ⟨rfl,rfl,rfl,rfl,rfl,rfl,by omega,by omega⟩ ?_
  rintro i ⟨ρ,m⟩ ⟨e2,m2,e4,m4,e1,eA,g0,g1⟩
  simp only at e2 m2 e4 m4 e1 eA g0 g1
  by_cases hi:i<l.length
  ·obtain⟨b,hb1,hb2'⟩:=hb i.toNat (by omega)
   have hb2:=kgf hb2'
   have Fz:=fz9 results9 e2 m2 e4 m4 e1 eA hb1 hb2
   repeat refine go1 ?_
   exact⟨by omega,by omega,by omega⟩
  ·obtain rfl:i=l.length:=by omega
   have Fz:=fz8 results9 e2 m2 e4 m4 e1 eA hc
   repeat(first|exact trivial|refine go1 ?_)
theorem jjn (T:List UInt8) (hl:T.length≤1048576):KP 5 [S T] []=some (S (jca T),[],[]):=by
 unfold jca
 by_cases hlong:20000<T.length
 ·rw[if_pos hlong]
  refine gc func5 ?_
  have Fz:=fz1 results5
  repeat(first|exact trivial|refine go1 ?_)
 rw[if_neg hlong]
 have hsp:KP 8 [S T,.i (.v (.int .u8 10))] []=some (.ref 2000 0 0 (pcs 10 T).length,[],[.arr 0 1 ((pcs 10 T).map encS)]):=jkd T 10 (by omega)
 have ht:=jkf T 10
 have hbd:=jdz (c:=10) T
 have hple:=jsv (c:=10) T
 generalize pcs 10 T=ls at *
 have hlen:(ls.map encS).length=ls.length:=by simp
 generalize hR:runF ls 0 1 [] []=R
 refine gc func5 ?_
 have Fz:=fz4 results5 hsp ht hlen
 repeat refine go1 ?_
 refine jaa (fun(u:Int×Int×IV×IV×IV×List Tl×List UInt8) s=>s.ρ 5=.i (.lst (ls.map encS))∧s.ρ 6=I u.1∧s.ρ 3=.ptr 3 0 0 0∧s.m 3=some (.box 0 [I u.2.1,.i u.2.2.1,.i u.2.2.2.1,.i u.2.2.2.2.1])∧s.ρ 4=S u.2.2.2.2.2.2∧0≤u.1∧u.1≤ls.length∧
  LV3 u.2.2.1 u.2.2.2.1 u.2.2.2.2.1 u.2.2.2.2.2.1∧LV u.2.1 u.2.2.2.2.2.1∧u.2.2.2.2.2.2.length≤200000∧runF (ls.drop u.1.toNat) u.1.toNat u.2.1 u.2.2.2.2.2.1 u.2.2.2.2.2.2=R) (fun u=>(ls.length-u.1).toNat) (0,1,.emp,.emp,.emp,[],[]) ?_ ?_
 ·refine⟨?_,rfl,rfl,rfl,rfl,by simp,by simp,LV3.emp,LV1,by simp,hR⟩
  simp[upd]
 clear hR
 rintro⟨i,n,x,y,z,ts,o⟩ ⟨ρ,m⟩ ⟨e1,e2,e3,m3,e5,g0,g1,h3,hL,ho,hr⟩
 simp only at e1 e2 e3 m3 e5 g0 g1 h3 hL ho hr
 by_cases hi:i<ls.length
 rotate_left
 ·rw[List.drop_of_length_le (by omega)] at hr
  have hRo:o=R:=hr
  subst hRo
  have Fz:=fz6 results5 e1 e2 e3 m3 e5
  repeat(first|exact trivial|refine go1 ?_)
 have hgi:=getS ls i.toNat (by omega)
 have hdr:ls.drop i.toNat=ls.getD i.toNat []::ls.drop (i+1).toNat:=by
  have hil:i.toNat<ls.length:=by omega
  rw[show(i+1).toNat=i.toNat+1 by omega,List.drop_eq_getElem_cons hil]
  simp[hil]
 have hi1:i.toNat+1=(i+1).toNat:=by omega
 rw[hdr,runF,hi1] at hr
 have hll:=hbd _ (jab (d:=[]) (show i.toNat<ls.length by omega))
 generalize ls.getD i.toNat []=l at hgi hr hll
 by_cases hz:l=[]
 ·rw[if_pos hz] at hr
  subst hz
  have Fz:=fz7 results5 e1 e2 e3 m3 e5 hgi
  repeat refine go1 ?_
  exact⟨n,x,y,z,rfl,ts,o,rfl,by omega,by omega,h3,hL,ho,hr,by omega⟩
 rw[if_neg hz] at hr
 have hne:=ja2 hz
 by_cases hf:200≤i.toNat∨40000<o.length
 ·rw[if_pos hf] at hr
  subst hr
  by_cases h200:200≤i
  ·have Fz:=fz8 results5 e1 e2 e3 m3 e5 hgi hne
   repeat(first|exact trivial|refine go1 ?_)
  ·have h4:40000<o.length:=by omega
   have Fz:=fz8 results5 e1 e2 e3 m3 e5 hgi hne
   repeat(first|exact trivial|refine go1 ?_)
 rw[if_neg hf] at hr
 simp only[not_or] at hf
 obtain⟨hf1,hf2⟩:=hf
 obtain⟨x',y',z',k1,k2⟩:=kbu l (by omega) n ts hL
 have hL':=jxr l n ts hL
 have hlen':=jse l n ts hL
 have hfx:=h3.fx
 have hfy:=h3.fy
 have hfz:=h3.fz
 generalize jfj n ts l=Q at *
 obtain⟨t,n',ts'⟩:=Q
 simp only at k1 k2 hL' hlen' hr
 have hpx:=k1.lx
 have hpy:=k1.ly
 have hpz:=k1.lz
 have Fz:=fz15 results5 e1 e2 e3 m3 e5 hgi hne k2 hfx hfy hfz hpx hpy hpz
 repeat refine go1 ?_
 exact⟨n',x',y',z',rfl,ts',o++t,rfl,by omega,by omega,k1,hL',by rw[List.length_append];omega,hr,by omega⟩
end Go.Proofs.YtnaaceooknghjaaGreatDoor.X
