/- What functions answer, and the plain laws behind it. -/
import Derived.Test.YtnaaceooknghjaaGreatDoorKAO
import Derived.Test.YtnaaceooknghjaaGreatDoorKAD
import Derived.Test.YtnaaceooknghjaaGreatDoorKAJ
import Derived.Lib.ItoaLen
import Derived.Test.YtnaaceooknghjaaGreatDoorC124
import Derived.Test.YtnaaceooknghjaaGreatDoorKAM
import Derived.Test.YtnaaceooknghjaaGreatDoorC93
import Derived.Test.YtnaaceooknghjaaGreatDoorKAK
set_option linter.unusedSimpArgs false
set_option linter.unusedVariables false
set_option maxHeartbeats 16000000
set_option maxRecDepth 100000
namespace Go.Proofs.YtnaaceooknghjaaGreatDoor.X
open Go Go.Proofs Tryz
theorem jno (n:Int) (es:List (Int×Int)) (h:VG n es):KP 37 [GL n es] []=some (LI (lab n es),[],[]):=by
 have hel:=h.2.2.1
 have hgv:=jbb n es (by omega)
 rw[decide_eq_true h] at hgv
 have hp:=jdm n es h.okg
 have ht:((lab n es).map encI).take (lab n es).length=(lab n es).map encI:=List.take_of_length_le (by simp)
 refine gc func37 ?_
 have Fz:=fz4 results37 hgv hp ht
 repeat(first|exact trivial|refine go1 ?_)
theorem jq6 (n:Int) (es:List (Int×Int)) (h:VG n es):KP 102 [GL n es] []=some (I (cnt n es:Int),[],[]):=by
 have hn:=h.1
 have hn':=h.2.1
 have hll:=jap n es
 have hp:=jno n es h
 refine gc func102 ?_
 have Fz:=fz2 results102 hp
 repeat refine go1 ?_
 refine jaa (fun(x:Int×Int) s=>s.ρ 4=LI (lab n es)∧s.ρ 5=I x.1∧s.ρ 3=I x.2∧0≤x.1∧x.1≤n∧0≤x.2∧x.2≤x.1∧x.2=((List.range x.1.toNat).filter fun y=>decide (least es y=y)).length) (fun x=>(n-x.1).toNat) (0,0) ?_ ?_
 ·exact⟨rfl,rfl,rfl,by simp,by simp only;omega,by simp,by simp,by simp⟩
 rintro⟨i,c⟩ ⟨ρ,m⟩ ⟨e4,e5,e3,g0,g1,g2,g3,g4⟩
 simp only at e4 e5 e3 g0 g1 g2 g3 g4
 by_cases hi:i<n
 ·have hg:(lab n es).getD i.toNat 0=(least es i.toNat:Nat):=jee (by omega)
  have hs:=jwm (es:=es) g0
  by_cases hq:((least es i.toNat:Nat):Int)=i
  ·rw[if_pos (by omega)] at hs
   have Fz:=fz6 results102 e4 e5 e3 hg hq
   repeat refine go1 ?_
   exact⟨by omega,by omega,by omega,by omega,by omega,by omega⟩
  ·rw[if_neg (by omega)] at hs
   have Fz:=fz6 results102 e4 e5 e3 hg hq
   repeat refine go1 ?_
   exact⟨by omega,by omega,by omega,by omega,by omega,by omega⟩
 ·have:i=n:=by omega
  subst this
  have Fz:=fz4 results102 e4 e5 e3
  repeat refine go1 ?_
  exact g4
theorem j2g (n a b:Int) (es:List (Int×Int)) (hl:es.length≤1000) :
 ∃(r:PV) (own:List Arr) (x:IV),KP 94 [GL n es,PE a b] []=some (r,[],own)∧imm 2 own r=some (.tup [.i x,B (decide (jfl n es (a,b)))])∧lenP (.i x)=some (jes n es (a,b))∧x.flat=true:=by
 by_cases hP:jfl n es (a,b)
 ·rw[decide_eq_true hP]
  have hp:=jgb n a b es hl
  rw[if_pos hP] at hp
  have hok:okE n (a,b):=hP.2.2.2.2.2.1 (a,b) (jdl.2 (.inl rfl))
  unfold okE at hok
  simp only at hok
  have hj:=ji3 n a b es hP.1.okg (by omega) (by omega)
  have hN:jes n es (a,b)=(if Conn es a b then(es.filter (fun f=>!decide (Conn (cutE f es) a b))) else []).length:=by
   unfold jes
   rw[if_pos hP,kc6 hP.2.1]
  rw[hN]
  by_cases hc:Conn es a b
  ·rw[decide_eq_true hc] at hj
   rw[if_pos hc]
   have hb:=jel n a b es (by omega)
   rw[if_pos ⟨hP.1,by omega,by omega,by omega,by omega,hc⟩] at hb
   have ht:((jgs a b es).map encE).take (jgs a b es).length=(jgs a b es).map encE:=List.take_of_length_le (by simp)
   refine⟨.tup [LE (jgs a b es),B true],[],_,gc func94 ?_,rfl,?_,rfl⟩
   ·have Fz:=fz5 results94 hp hj hb ht
    repeat(first|exact trivial|refine go1 ?_)
   ·simp[lenP,jgs]
  ·rw[decide_eq_false hc] at hj
   rw[if_neg hc]
   refine⟨.tup [.ref 2000 0 0 0,B true],[.arr 0 2 []],.lst [],gc func94 ?_,rfl,rfl,rfl⟩
   have Fz:=fz3 results94 hp hj
   repeat(first|exact trivial|refine go1 ?_)
 ·rw[decide_eq_false hP]
  have hp:=jgb n a b es hl
  rw[if_neg hP] at hp
  have hN:jes n es (a,b)=0:=by unfold jes;rw[if_neg hP]
  rw[hN]
  refine⟨.tup [.ref 2000 0 0 0,B false],[.arr 0 2 []],.lst [],gc func94 ?_,rfl,rfl,rfl⟩
  have Fz:=fz2 results94 hp
  repeat(first|exact trivial|refine go1 ?_)
theorem jua (n:Int) (es:List (Int×Int)) (hV:VG n es) :
 KP 45 [GL n es] []=some (.tup [PE (jez n es).1.1 (jez n es).1.2,B (decide ((0:Int)<((jez n es).2:Nat)))],[],[]):=by
 have hl:=hV.2.2.1
 have hn1:=hV.1
 have hn16:=hV.2.1
 have hgv:=jbb n es (by omega)
 rw[decide_eq_true hV] at hgv
 generalize hR:jez n es=R
 have hR0:jg4 n es 0 (16-0) ((0,0),0)=R:=hR
 refine gc func45 ?_
 have Fz:=fz1 results45
 repeat refine go1 ?_
 refine jaa (fun(w:Nat×Int×Int×Nat) s=>s.ρ 1=.ptr 1 0 0 0∧s.m 1=some (.box 0 [I n,LE es])∧s.ρ 2=.ptr 2 0 0 0∧s.m 2=some (.box 0 [I 0,I 0])∧s.ρ 4=.ptr 4 0 0 0∧s.m 4=some (.box 0 [I w.2.1,I w.2.2.1])∧s.ρ 5=I w.2.2.2∧s.ρ 6=I w.1∧w.1≤16∧jg4 n es w.1 (16-w.1) ((w.2.1,w.2.2.1),w.2.2.2)=R) (fun w=>16-w.1) (0,0,0,0) ?_ ?_
 ·exact⟨rfl,rfl,rfl,rfl,rfl,rfl,rfl,rfl,by simp,hR0⟩
 rintro⟨a,c,d,k⟩ ⟨ρ,m⟩ ⟨e1,m1,e2,m2,e4,m4,e5,e6,g0,g1⟩
 simp only at e1 m1 e2 m2 e4 m4 e5 e6 g0 g1
 by_cases ha:(a:Int)<n
 rotate_left
 ·rw[j08 (by omega)] at g1
  subst g1
  have Fz:=fz10 results45 e1 m1 e2 m2 e4 m4 e5 e6 ha
  repeat(first|exact trivial|refine go1 ?_)
 rw[jnd (by omega)] at g1
 generalize hR1:jfn n es a (a+1) (16-(a+1)) ((c,d),k)=R1 at g1
 have Fz:=fz11 results45 e1 m1 e2 m2 e4 m4 e5 e6 ha hgv
 repeat refine go1 ?_
 refine jaa (fun(w:Nat×Int×Int×Nat) s=>s.ρ 1=.ptr 1 0 0 0∧s.m 1=some (.box 0 [I n,LE es])∧s.ρ 2=.ptr 2 0 0 0∧s.m 2=some (.box 0 [I 0,I 0])∧s.ρ 4=.ptr 4 0 0 0∧s.m 4=some (.box 0 [I w.2.1,I w.2.2.1])∧s.ρ 5=I w.2.2.2∧s.ρ 6=I a∧s.ρ 7=I w.1∧w.1≤16∧jfn n es a w.1 (16-w.1) ((w.2.1,w.2.2.1),w.2.2.2)=R1) (fun w=>16-w.1) (a+1,c,d,k) ?_ ?_
 ·refine⟨?_,?_,?_,?_,?_,?_,?_,?_,?_,by simp only;omega,hR1⟩
  all_goals first|rfl|assumption | (simp[upd];done)
 clear e1 m1 e2 m2 e4 m4 e5 hR1
 rintro⟨b,c,d,k⟩ ⟨ρ,m⟩ ⟨e1,m1,e2,m2,e4,m4,e5,e6,e7,f0,f1⟩
 simp only at e1 m1 e2 m2 e4 m4 e5 e6 e7 f0 f1
 by_cases hb:(b:Int)<n
 rotate_left
 ·rw[jql (by omega)] at f1
  subst f1
  have Fz:=fz11 results45 e1 m1 e2 m2 e4 m4 e5 e6 e7 hb
  repeat refine go1 ?_
  exact⟨a+1,c,d,rfl,k,rfl,by omega,by omega,g1,by omega⟩
 rw[jne (by omega)] at f1
 obtain⟨r,own,x,hlo,him,hln,hfl⟩:=j2g n a b es (by omega)
 have hle:=jxs n es ((a:Int),(b:Int))
 by_cases hP:jfl n es ((a:Int),(b:Int))
 ·rw[decide_eq_true hP] at him
  unfold jj4 at f1
  generalize jes n es ((a:Int),(b:Int))=q at *
  by_cases hq:k<q
  ·rw[if_pos hq] at f1
   have Fz:=fz14 results45 e1 m1 e2 m2 e4 m4 e5 e6 e7 hlo him hln hfl
   repeat refine go1 ?_
   exact⟨b+1,a,b,rfl,q,rfl,by omega,by omega,f1,by omega⟩
  ·rw[if_neg hq] at f1
   have Fz:=fz14 results45 e1 m1 e2 m2 e4 m4 e5 e6 e7 hlo him hln hfl
   repeat refine go1 ?_
   exact⟨b+1,c,d,rfl,k,rfl,by omega,by omega,f1,by omega⟩
 ·rw[decide_eq_false hP] at him
  have hN:jes n es ((a:Int),(b:Int))=0:=by unfold jes;rw[if_neg hP]
  unfold jj4 at f1
  rw[hN,if_neg (by simp)] at f1
  have Fz:=fz12 results45 e1 m1 e2 m2 e4 m4 e5 e6 e7 hlo him
  repeat refine go1 ?_
  exact⟨b+1,c,d,rfl,k,rfl,by omega,by omega,f1,by omega⟩
section
abbrev cB (c:UInt8):PV:=.i (.v (.int .u8 c.toNat))
theorem kak {a b:UInt8}:((a.toNat:Int)=(b.toNat:Int))↔a=b:=by
 constructor
 ·intro h;exact UInt8.toNat_inj.1 (by omega)
 ·rintro rfl;rfl
theorem jrn (xs:List (List UInt8)) (s:List UInt8):xs.map encS++[[.v (.string ⟨s.toArray⟩)]]=(xs++[s]).map encS:=by simp[encS]
section
variable {P:Program} {t:TypeId} {a b:Int}
theorem ke1:binV P .eql t (.i (.v (.int .u8 a))) (.i (.v (.int .u8 b)))=some (.bool (decide (a=b))):=by
 have h:(a == b)=decide (a=b):=by by_cases h:a=b<;>simp[h]
 simp[binV,binOp,jc4,h]
 rfl
theorem ke3:binV P .lss t (.i (.v (.int .u8 a))) (.i (.v (.int .u8 b)))=some (.bool (decide (a<b))):=rfl
theorem ke2:binV P .gtr t (.i (.v (.int .u8 a))) (.i (.v (.int .u8 b)))=some (.bool (decide (b<a))):=rfl
theorem ke4:binV P .sub t (.i (.v (.int .u8 a))) (.i (.v (.int .u8 b)))=some (.int .u8 (IntKind.u8.wrap (a-b))):=rfl
end
attribute [go_sem] ke1 ke3 ke2 ke4
theorem jkd (s:List UInt8) (c:UInt8) (hl:s.length≤1000000):KP 8 [S s,cB c] []=some (.ref 2000 0 0 (pcs c s).length,[],[.arr 0 1 ((pcs c s).map encS)]):=by
 generalize hP:pcs c s=P
 refine jc6 (fn:=Tryz.f8) rfl func8 rfl ⟨Nat.le_of_ble_eq_true rfl,rfl,rfl⟩ ?_
 repeat'(first|(refine na ?_;constructor)|(refine jav ?_ ?_<;>intro _<;>first|(exfalso;omega)|skip)|refine ord_split (by kernel_rfl) ?_|((first|(refine nb ?_;constructor)|refine pn rfl ?_|refine pe rfl ?_|((first|refine at2 ?_|refine at_cond ?_);split<;>first|(exfalso;omega;done)|skip))<;>try simp(config:={maxSteps:=3000000})(disch:=first|assumption|omega|exact VG.okg (by assumption)|(simp only[List.length_set,List.length_append,List.length_cons,List.length_nil,List.length_replicate];omega))only[go_sem,simprocAttr,results8]))
 refine jaa (fun(x:List (List UInt8)×Nat×Nat) t=>t.ρ 0=S s∧t.ρ 1=cB c∧t.ρ 5=.ref 8 x.1.length 0 x.1.length∧t.m 8=some (.arr x.1.length 1 (x.1.map encS))∧t.ρ 6=I x.2.1∧t.ρ 7=I x.2.2∧x.1.length≤x.2.2∧
  ((x.2.2≤s.length∧x.2.1≤x.2.2∧P=x.1++pcs c (s.drop x.2.1)∧c∉(s.drop x.2.1).take (x.2.2-x.2.1))∨(x.2.2=s.length+1∧P=x.1))) (fun x=>s.length+1-x.2.2) ([],0,0) ?_ ?_
 ·exact⟨rfl,rfl,rfl,rfl,rfl,rfl,by simp,.inl ⟨by simp,by simp,by simpa using hP.symm,by simp⟩⟩
 rintro⟨d,f,i⟩ ⟨ρ,m⟩ ⟨e0,e1,e5,m8,e6,e7,g0,hw⟩
 simp only at e0 e1 e5 m8 e6 e7 g0 hw
 rcases hw with⟨g1,g2,g3,g4⟩ | ⟨g1,g2⟩
 rotate_left
 ·subst g2
  repeat'(first|(refine na ?_;constructor)|(refine jav ?_ ?_<;>intro _<;>first|(exfalso;omega)|skip)|refine ord_split (by kernel_rfl) ?_|((first|(refine nb ?_;constructor)|refine pn rfl ?_|refine pe rfl ?_|((first|refine at2 ?_|refine at_cond ?_);split<;>first|(exfalso;omega;done)|skip))<;>try simp(config:={maxSteps:=3000000})(disch:=first|assumption|omega|exact VG.okg (by assumption)|(simp only[List.length_set,List.length_append,List.length_cons,List.length_nil,List.length_replicate];omega))only[go_sem,simprocAttr,results8,e0,e1,e5,m8,e6,e7]))
  skip
 have hsub:(s.drop f).take (i-f)=(s.take i).drop f:=by rw[List.drop_take]
 by_cases hend:i=s.length
 ·have hall:(s.drop f).take (i-f)=s.drop f:=List.take_of_length_le (by rw[List.length_drop];omega)
  rw[hall] at g4
  rw[jfa g4] at g3
  repeat'(first|(refine na ?_;constructor)|(refine jav ?_ ?_<;>intro _<;>first|(exfalso;omega)|skip)|refine ord_split (by kernel_rfl) ?_|((first|(refine nb ?_;constructor)|refine pn rfl ?_|refine pe rfl ?_|((first|refine at2 ?_|refine at_cond ?_);split<;>first|(exfalso;omega;done)|skip))<;>try simp(config:={maxSteps:=3000000})(disch:=first|assumption|omega|exact VG.okg (by assumption)|(simp only[List.length_set,List.length_append,List.length_cons,List.length_nil,List.length_replicate];omega))only[go_sem,simprocAttr,results8,e0,e1,e5,m8,e6,e7,hend,hall,jrn]))
  have htk:(s.drop f).take (s.length-f)=s.drop f:=List.take_of_length_le (by simp)
  exact⟨d++[s.drop f],by simp,by simp,by simp,by rw[htk],s.length+1,by omega,s.length+1,by omega,by rw[List.length_append];simp only[List.length_cons,List.length_nil];omega,.inr ⟨rfl,g3⟩,by omega⟩
 have hi:i<s.length:=by omega
 have hgi:s[i]?=some s[i]:=List.getElem?_eq_getElem hi
 have hdr:s.drop f=(s.drop f).take (i-f)++s[i]::s.drop (i+1):=by
  have h1:=List.take_append_drop (i-f) (s.drop f)
  rw[List.drop_drop,show f+(i-f)=i by omega,List.drop_eq_getElem_cons hi] at h1
  exact h1.symm
 generalize s[i]=b at *
 by_cases hb:b=c
 ·subst hb
  rw[hdr,jmd _ g4] at g3
  generalize hp:(s.drop f).take (i-f)=p at *
  repeat'(first|(refine na ?_;constructor)|(refine jav ?_ ?_<;>intro _<;>first|(exfalso;omega)|skip)|refine ord_split (by kernel_rfl) ?_|((first|(refine nb ?_;constructor)|refine pn rfl ?_|refine pe rfl ?_|((first|refine at2 ?_|refine at_cond ?_);split<;>first|(exfalso;omega;done)|skip))<;>try simp(config:={maxSteps:=3000000})(disch:=first|assumption|omega|exact VG.okg (by assumption)|(simp only[List.length_set,List.length_append,List.length_cons,List.length_nil,List.length_replicate];omega))only[go_sem,simprocAttr,results8,e0,e1,e5,m8,e6,e7,hgi,hp,jrn,kak]))
  exact⟨d++[p],by simp,by simp,by simp,rfl,i+1,by omega,i+1,by omega,by rw[List.length_append];simp only[List.length_cons,List.length_nil];omega,.inl ⟨by omega,Nat.le_refl _,by rw[g3];simp,by simp⟩,by omega⟩
 ·have hnb:c∉(s.drop f).take (i+1-f):=by
   rw[show i+1-f=(i-f)+1 by omega,List.take_add_one,List.getElem?_drop,show f+(i-f)=i by omega,hgi]
   simp only[Option.toList,List.mem_append,List.mem_singleton,not_or]
   exact⟨g4,fun h=>hb h.symm⟩
  repeat'(first|(refine na ?_;constructor)|(refine jav ?_ ?_<;>intro _<;>first|(exfalso;omega)|skip)|refine ord_split (by kernel_rfl) ?_|((first|(refine nb ?_;constructor)|refine pn rfl ?_|refine pe rfl ?_|((first|refine at2 ?_|refine at_cond ?_);split<;>first|(exfalso;omega;done)|skip))<;>try simp(config:={maxSteps:=3000000})(disch:=first|assumption|omega|exact VG.okg (by assumption)|(simp only[List.length_set,List.length_append,List.length_cons,List.length_nil,List.length_replicate];omega))only[go_sem,simprocAttr,results8,e0,e1,e5,m8,e6,e7,hgi,hb,kak]))
  exact⟨d,rfl,rfl,rfl,rfl,f,rfl,i+1,by omega,by omega,.inl ⟨by omega,by omega,g3,hnb⟩,by omega⟩
theorem jhv (n:Nat) (hn:n≤1000000000000000000):KP 34 [I n] []=some (S (Lib.itoa n),[],[]):=by
 have hitoa:Lib.itoa (n:Int)=Lib.decDigits n:=by unfold Lib.itoa;rw[if_neg (by omega),Int.toNat_natCast]
 rw[hitoa]
 have hRl:=Lib.itoa_length_le (n:Int) (by omega) (by omega)
 rw[hitoa] at hRl
 generalize hR:Lib.decDigits n=R at *
 have hmod:=@j26
 have hdiv:=@j25
 have h48:=@kaz
 refine jc6 (fn:=Tryz.f34) rfl func34 rfl ⟨Nat.le_of_ble_eq_true rfl,rfl,rfl⟩ ?_
 repeat'(first|(refine na ?_;constructor)|(refine jav ?_ ?_<;>intro _<;>first|(exfalso;omega)|skip)|refine ord_split (by kernel_rfl) ?_|((first|(refine nb ?_;constructor)|refine pn rfl ?_|refine pe rfl ?_|((first|refine at2 ?_|refine at_cond ?_);split<;>first|(exfalso;omega;done)|skip))<;>try simp(config:={maxSteps:=3000000})(disch:=first|assumption|omega|exact VG.okg (by assumption)|(simp only[List.length_set,List.length_append,List.length_cons,List.length_nil,List.length_replicate];omega))only[go_sem,simprocAttr,results34]))
 refine jaa (fun(x:Nat×List UInt8) s=>s.ρ 0=I x.1∧s.ρ 3=S x.2∧x.1≤n∧x.2.length≤1000∧Lib.decDigits x.1++x.2=R) (fun x=>x.1) (n,[]) ?_ ?_
 ·exact⟨rfl,rfl,Nat.le_refl _,by simp,by simpa using hR⟩
 rintro⟨k,o⟩ ⟨ρ,m⟩ ⟨e0,e3,g0,g1,g2⟩
 simp only at e0 e3 g0 g1 g2
 by_cases hk:k<10
 ·have hw8:IntKind.u8.wrap (48+(k:Int))=48+(k:Int):=wr8 (by omega) (by omega)
  rw[Lib.decDigits_one hk] at g2
  subst g2
  repeat'(first|(refine na ?_;constructor)|(refine jav ?_ ?_<;>intro _<;>first|(exfalso;omega)|skip)|refine ord_split (by kernel_rfl) ?_|((first|(refine nb ?_;constructor)|refine pn rfl ?_|refine pe rfl ?_|((first|refine at2 ?_|refine at_cond ?_);split<;>first|(exfalso;omega;done)|skip))<;>try simp(config:={maxSteps:=3000000})(disch:=first|assumption|omega|exact VG.okg (by assumption)|(simp only[List.length_set,List.length_append,List.length_cons,List.length_nil,List.length_replicate];omega))only[go_sem,simprocAttr,results34,e0,e3,h48,hw8]))
  skip
 ·have hw8:IntKind.u8.wrap (48+((k % 10:Nat):Int))=48+((k % 10:Nat):Int):=wr8 (by omega) (by omega)
  rw[Lib.decDigits,dif_neg hk] at g2
  repeat'(first|(refine na ?_;constructor)|(refine jav ?_ ?_<;>intro _<;>first|(exfalso;omega)|skip)|refine ord_split (by kernel_rfl) ?_|((first|(refine nb ?_;constructor)|refine pn rfl ?_|refine pe rfl ?_|((first|refine at2 ?_|refine at_cond ?_);split<;>first|(exfalso;omega;done)|skip))<;>try simp(config:={maxSteps:=3000000})(disch:=first|assumption|omega|exact VG.okg (by assumption)|(simp only[List.length_set,List.length_append,List.length_cons,List.length_nil,List.length_replicate];omega))only[go_sem,simprocAttr,results34,e0,e3,hmod,hdiv,h48,hw8]))
  have hgl:=congrArg List.length g2
  simp only[List.length_append,List.length_cons,List.length_nil] at hgl
  exact⟨k / 10,rfl,UInt8.ofNat (48+k % 10)::o,rfl,by omega,by simp only[List.length_cons];omega,by rw[←g2];simp,by omega⟩
end
theorem jm2 (n a b:Int) (ts:List Tl) (hV:VG n (esT ts)) (hno:¬PlOK n ts (a,b)):KP 97 [LvP n ts,PE a b] []=some (.tup [.agg [I 0,.i .emp,.i .emp,.i .emp],B false],[],[]):=by
 have hlv:=jb3 n ts hV
 have hel:=hV.2.2.1
 have hpe:=jgb n a b (esT ts) (by omega)
 by_cases h:jfl n (esT ts) (a,b)
 ·have hL:¬LV n ts:=fun q=>hno ⟨q,h⟩
  rw[if_pos h] at hpe
  rw[decide_eq_false hL] at hlv
  refine gc func97 ?_
  have Fz:=fz3 results97 hlv hpe
  repeat(first|exact trivial|refine go1 ?_)
 ·rw[if_neg h] at hpe
  refine gc func97 ?_
  have Fz:=fz2 results97 hpe
  repeat(first|exact trivial|refine go1 ?_)
theorem jue (n a b:Int) (ts:List Tl) (hP:PlOK n ts (a,b)):KP 97 [LvP n ts,PE a b] []=some (.tup [jgu n (plL ts (a,b)),B true],[],jgt (plL ts (a,b))):=by
 have hL:=hP.1
 have hV:=hL.vg
 have hlv:=jb3 n ts hV
 have hel:=hV.2.2.1
 rw[decide_eq_true hL] at hlv
 have hpe:=jgb n a b (esT ts) (by omega)
 rw[if_pos hP.2] at hpe
 have hmem:(a,b)∈putE (a,b) (esT ts):=jdl.2 (.inl rfl)
 obtain⟨k0,k1,k2⟩:0≤a∧a<b∧b<n:=hP.2.2.2.2.2.2.1 _ hmem
 have hj:=ji3 n a b (esT ts) hV.okg ⟨k0,by omega⟩ ⟨by omega,k2⟩
 have l1:=jaq ts
 have hpt:=kb0 n a b (!decide (Conn (esT ts) a b)) ts hV.nodup hP.2.2.1 (by omega)
 show KP 97 [LvP n ts,PE a b] []=some (.tup [jgu n (putT (a,b) (!decide (Conn (esT ts) a b)) ts),B true],[],jgt (putT (a,b) (!decide (Conn (esT ts) a b)) ts))
 generalize decide (Conn (esT ts) a b)=q at *
 generalize putT (a,b) (!q) ts=us at *
 refine gc func97 ?_
 have Fz:=fz5 results97 hlv hpe hj hpt
 repeat(first|exact trivial|refine go1 ?_)
end Go.Proofs.YtnaaceooknghjaaGreatDoor.X
