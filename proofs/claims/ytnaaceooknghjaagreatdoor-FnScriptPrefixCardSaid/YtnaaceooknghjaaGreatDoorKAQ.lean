/- What functions answer, and the plain laws behind it. -/
import Derived.Test.YtnaaceooknghjaaGreatDoorC142
import Derived.Test.YtnaaceooknghjaaGreatDoorKAO
import Derived.Test.YtnaaceooknghjaaGreatDoorC124
set_option linter.unusedSimpArgs false
set_option linter.unusedVariables false
set_option maxHeartbeats 8000000
set_option maxRecDepth 100000
namespace Go.Proofs.YtnaaceooknghjaaGreatDoor.X
open Go Go.Proofs Tryz
theorem jkk {p:Int} (h0:0≤p) (h1:p<100):numW (dgt p)=some p.toNat:=by
 have hl:(dgt p).length≤2:=(jbj (n:=p.toNat)).2
 exact jsl h0 (by omega) (jkj h0 h1)
theorem jkf (T:List UInt8) (c:UInt8):((pcs c T).map encS).take (pcs c T).length=(pcs c T).map encS:=List.take_of_length_le (by simp)
theorem j11 (w:List UInt8) (hl:w.length≤1000000):∃(a b:Int) (ok:Bool),(∀p q:Int,0≤p→p<100→0≤q→q<100→w=edT (p,q)→a=p∧b=q∧ok=true)∧KP 96 [S w] []=some (.tup [PE a b,B ok],[],[]):=by
 have hc:KP 8 [S w,.i (.v (.int .u8 45))] []=some (.ref 2000 0 0 (pcs 45 w).length,[],[.arr 0 1 ((pcs 45 w).map encS)]):=jkd w 45 (by omega)
 have ht:=jkf w 45
 have hbd:=jdz (c:=45) w
 have hed:∀p q:Int,0≤p→p<100→0≤q→q<100→w=edT (p,q)→pcs 45 w=[dgt p,dgt q]:=fun p q p0 p1 q0 q1 h=>by
  rw[h]
  show pcs 45 (dgt p++45::dgt q)=_
  rw[jmd _ (ji5 (by omega) (by decide)),jfa (ji5 (by omega) (by decide))]
 generalize pcs 45 w=ws at *
 by_cases h2:(ws.length:Int)=2
 rotate_left
 ·refine⟨0,0,false,fun p q p0 p1 q0 q1 h=>?_,gc func96 ?_⟩
  ·rw[hed p q p0 p1 q0 q1 h] at h2;simp at h2
  ·have Fz:=fz4 results96 hc ht h2
   repeat(first|exact trivial|refine go1 ?_)
 obtain⟨u,v,rfl⟩:∃u v,ws=[u,v]:=by
  cases ws with
  | nil=>simp at h2
  | cons u r=>
   cases r with
   | nil=>simp at h2
   | cons v r=>
    cases r with
    | nil=>exact⟨u,v,rfl⟩
    | cons c r=>simp at h2;omega
 obtain⟨a,x,⟨ha1,-⟩,ha⟩:=jga u (Nat.le_trans (hbd u (by simp)) (by omega))
 obtain⟨b,y,⟨hb1,-⟩,hb⟩:=jga v (Nat.le_trans (hbd v (by simp)) (by omega))
 simp only[List.map_cons,List.map_nil,encS,List.length_cons,List.length_nil,Nat.reduceAdd,List.take_succ_cons,List.take_zero] at hc ht
 refine⟨a,b,x && y,fun p q p0 p1 q0 q1 h=>?_,?_⟩
 ·have:=hed p q p0 p1 q0 q1 h
  simp only[List.cons.injEq,and_true] at this
  obtain⟨rfl,rfl⟩:=this
  obtain⟨rfl,e1⟩:=ha1 _ (jkk p0 p1)
  obtain⟨rfl,e2⟩:=hb1 _ (jkk q0 q1)
  exact⟨by omega,by omega,rfl⟩
 ·cases x<;>cases y
  all_goals
   refine gc func96 ?_
   have Fz:=fz4 results96 hc ha hb
   repeat(first|exact trivial|refine go1 ?_)
theorem jo0 (T:List UInt8) (hl:T.length≤1000000):∃(a b:Int) (ok:Bool),((∀p q:Int,numsO T=[p,q]→a=p∧b=q∧ok=true)∧((numsO T).length≠2→ok=false))∧KP 52 [S T] []=some (.tup [I a,I b,B ok],[],[]):=by
 have hc:KP 8 [S T,.i (.v (.int .u8 32))] []=some (.ref 2000 0 0 (pcs 32 T).length,[],[.arr 0 1 ((pcs 32 T).map encS)]):=jkd T 32 (by omega)
 have ht:=jkf T 32
 have hbd:=jdz (c:=32) T
 unfold numsO
 generalize pcs 32 T=ws at *
 by_cases h2:(ws.length:Int)=2
 rotate_left
 ·refine⟨0,0,false,⟨fun p q h=>?_,fun _=>rfl⟩,gc func52 ?_⟩
  ·split at h
   ·have:=congrArg List.length h
    rw[jgr] at this
    simp at this
    omega
   ·cases h
  ·have Fz:=fz4 results52 hc ht h2
   repeat(first|exact trivial|refine go1 ?_)
 obtain⟨u,v,rfl⟩:∃u v,ws=[u,v]:=by
  cases ws with
  | nil=>simp at h2
  | cons u r=>
   cases r with
   | nil=>simp at h2
   | cons v r=>
    cases r with
    | nil=>exact⟨u,v,rfl⟩
    | cons c r=>simp at h2;omega
 obtain⟨a,x,⟨ha1,ha2⟩,ha⟩:=jga u (Nat.le_trans (hbd u (by simp)) (by omega))
 obtain⟨b,y,⟨hb1,hb2⟩,hb⟩:=jga v (Nat.le_trans (hbd v (by simp)) (by omega))
 simp only[List.map_cons,List.map_nil,encS,List.length_cons,List.length_nil,Nat.reduceAdd,List.take_succ_cons,List.take_zero] at hc ht
 have hval:∀ok:Bool,((∀k,numW u=some k→x=true∧a=k)→(∀k,numW v=some k→y=true∧b=k)→ok=(x && y && decide (0≤a) && decide (0≤b)))→
  ((∀p q:Int,(if allW [u,v]=true then valW [u,v] else [])=[p,q]→a=p∧b=q∧ok=true)∧((if allW [u,v]=true then valW [u,v] else []).length≠2→ok=false)):=by
  intro ok hok
  have hok:=hok ha1 hb1
  subst hok
  cases hu:numW u with
  | none=>
   have e:allW [u,v]=false:=by simp[allW,hu]
   rw[e]
   refine⟨fun p q h=>(by simp at h),fun _=>?_⟩
   rcases ha2 hu with h|h
   ·rw[h];rfl
   ·rw[decide_eq_false (show ¬0≤a by omega)];simp
  | some k=>
   obtain⟨rfl,rfl⟩:=ha1 k hu
   cases hv:numW v with
   | none=>
    have e:allW [u,v]=false:=by simp[allW,hv]
    rw[e]
    refine⟨fun p q h=>(by simp at h),fun _=>?_⟩
    rcases hb2 hv with h|h
    ·rw[h];simp
    ·rw[decide_eq_false (show ¬0≤b by omega)];simp
   | some j=>
    obtain⟨rfl,rfl⟩:=hb1 j hv
    have e:allW [u,v]=true:=by simp[allW,hu,hv]
    have e2:valW [u,v]=[(k:Int),(j:Int)]:=by simp[valW,hu,hv]
    rw[e,if_pos rfl,e2]
    refine⟨fun p q h=>?_,fun h=>absurd rfl h⟩
    simp only[List.cons.injEq,and_true] at h
    obtain⟨rfl,rfl⟩:=h
    exact⟨rfl,rfl,by simp⟩
 refine⟨a,b,x && y && decide (0≤a) && decide (0≤b),hval _ (fun _ _=>rfl),?_⟩
 clear hval ha1 ha2 hb1 hb2
 cases x<;>cases y
 all_goals
  by_cases ha0:0≤a<;>by_cases hb0:0≤b
  all_goals
   first|rw[decide_eq_true ha0] | rw[decide_eq_false ha0]
   first|rw[decide_eq_true hb0] | rw[decide_eq_false hb0]
   refine gc func52 ?_
   have Fz:=fz6 results52 hc ha hb ha0 hb0
   repeat(first|exact trivial|refine go1 ?_)
theorem kh1 (ws:List (List UInt8)) (i:Nat) (h:i<ws.length):(ws.map encS)[i]?=some [.v (.string ⟨(ws.getD i []).toArray⟩)]:=by simp[encS,h]
def gE (us:List (Int×Int)):PV:=if us=[] then .i .emp else .ref 51 (us.length-1) 0 us.length
def gA (us:List (Int×Int)):Option Arr:=if us=[] then none else some (.arr (us.length-1) 2 (us.map encE))
theorem jo7 (T:List UInt8) (hl:T.length≤100000):∃res,((∃n es,VG n es∧fmtG n es=T∧res=(.tup [.agg [I n,qP es],B true],[],qA es))∨(¬jym T∧res=(.tup [.agg [I 0,.i .emp],B false],[],[])))∧KP 47 [S T] []=some res:=by
 have hc:KP 8 [S T,.i (.v (.int .u8 32))] []=some (.ref 2000 0 0 (pcs 32 T).length,[],[.arr 0 1 ((pcs 32 T).map encS)]):=jkd T 32 (by omega)
 have ht:=jkf T 32
 have hbd:=jdz (c:=32) T
 have hne:=jx0 32 T
 have hple:=jsv (c:=32) T
 have hG:∀n es,VG n es→fmtG n es=T→pcs 32 T=dgt n::es.map edT∧(0≤n∧n<100)∧smallE es:=fun n es hV h=>by
  obtain⟨hs,n0,n1⟩:=hV.small
  rw[←h]
  exact⟨jxz ⟨n0,n1⟩ hs,⟨n0,n1⟩,hs⟩
 have hgw:=kh1 (pcs 32 T)
 have hWl:((pcs 32 T).map encS).length=(pcs 32 T).length:=by simp
 generalize pcs 32 T=ws at *
 obtain⟨w0,wr,rfl⟩:∃w0 wr,ws=w0::wr:=by
  cases ws with
  | nil=>exact absurd rfl hne
  | cons a b=>exact⟨a,b,rfl⟩
 have h0l:=hbd w0 (by simp)
 obtain⟨v,ok,⟨hv1,-⟩,hn⟩:=jga w0 (by omega)
 have hg0:=hgw 0 (by simp)
 simp only[List.getD_cons_zero] at hg0
 generalize hW:(w0::wr).map encS=W at *
 simp only[List.length_cons] at ht hc hWl
 have hno:ok=false∨¬wr.length≤40→¬jym T:=by
  rintro h ⟨n,es,hV,hT⟩
  obtain⟨h1,h2,-⟩:=hG n es hV hT
  rw[List.cons.injEq] at h1
  rcases h with h|h
  ·obtain⟨h3,-⟩:=hv1 _ (by rw[h1.1];exact jkk h2.1 h2.2)
   rw[h] at h3;cases h3
  ·have:=hV.2.2.1
   have h4:=congrArg List.length h1.2
   rw[List.length_map] at h4
   omega
 cases ok with
 | false=>
  refine ge func47 ?_
  have Fz:=fz6 results47 hc ht hWl hg0 hn
  repeat refine go1 ?_
  exact .inr (hno (.inl rfl))
 | true=>
 by_cases h40:wr.length≤40
 rotate_left
 ·refine ge func47 ?_
  have Fz:=fz6 results47 hc ht hWl hg0 hn
  repeat refine go1 ?_
  exact .inr (hno (.inr h40))
 have hinv0:∀n es,VG n es→fmtG n es=T→v=n∧([]:List (Int×Int))=es.take 0∧wr=es.map edT:=fun n es hV hT=>by
  obtain⟨h1,h2,-⟩:=hG n es hV hT
  rw[List.cons.injEq] at h1
  obtain⟨-,h4⟩:=hv1 _ (by rw[h1.1];exact jkk h2.1 h2.2)
  exact⟨by omega,rfl,h1.2⟩
 have hWn:W.length=wr.length+1:=by rw[←hW];simp
 refine ge func47 ?_
 have Fz:=fz6 results47 hc ht hWl hg0 hn
 repeat refine go1 ?_
 refine jaa (fun(u:Int×List (Int×Int)) s=>s.ρ 0=S T∧s.ρ 2=.ptr 2 0 0 0∧s.m 2=some (.box 0 [I 0,.i .emp])∧s.ρ 4=.i (.lst W)∧s.ρ 7=.ptr 7 0 0 0∧s.m 7=some (.box 0 [I v,gE u.2])∧s.m 51=gA u.2∧s.ρ 8=I u.1∧1≤u.1∧u.1=u.2.length+1∧u.1≤W.length∧
  ∀n es,VG n es→fmtG n es=T→v=n∧u.2=es.take u.2.length∧wr=es.map edT) (fun u=>(W.length-u.1).toNat) (1,[]) ?_ ?_
 ·exact⟨rfl,rfl,rfl,rfl,rfl,rfl,rfl,rfl,by simp,by simp,by omega,hinv0⟩
 clear hinv0
 rintro⟨i,us⟩ ⟨ρ,m⟩ ⟨e0,e2,m2,e4,e7,m7,m51,e8,g0,g1,g2,hI⟩
 simp only at e0 e2 m2 e4 e7 m7 m51 e8 g0 g1 g2 hI
 by_cases hi:i<W.length
 ·have hil:i.toNat<(w0::wr).length:=by rw[List.length_cons];omega
  have hgi:=hgw i.toNat hil
  have hwl:=hbd _ (jab (d:=[]) hil)
  have hwr:(w0::wr).getD i.toNat []=wr.getD us.length []:=by
   rw[show i.toNat=us.length+1 by omega,List.getD_cons_succ]
  generalize (w0::wr).getD i.toNat []=w at hgi hwl hwr
  obtain⟨a,b,ok,hab,hpl⟩:=j11 w (by omega)
  have hnx:∀n es,VG n es→fmtG n es=T→v=n∧us++[(a,b)]=es.take (us.length+1)∧wr=es.map edT∧ok=true:=fun n es hV hT=>by
   obtain⟨q1,q2,q3⟩:=hI n es hV hT
   have hul:us.length<es.length:=by have:=congrArg List.length q3;rw[List.length_map] at this;omega
   have hwe:w=edT (es.getD us.length (0,0)):=by
    rw[hwr,q3]
    simp[List.getD,hul]
   obtain⟨⟨p0,p1⟩,r0,r1⟩:=(hG n es hV hT).2.2 _ (jab (d:=(0,0)) hul)
   obtain⟨k1,k2,k3⟩:=hab _ _ p0 p1 r0 r1 hwe
   refine⟨q1,?_,q3,k3⟩
   rw[List.take_add_one,←q2,k1,k2]
   simp[List.getD,hul]
  cases ok with
  | false=>
   have Fz:=fz11 results47 e0 e2 m2 e4 e7 m7 m51 e8 hgi hpl
   repeat refine go1 ?_
   exact .inr fun⟨n,es,hV,hT⟩=>by obtain⟨-,-,-,h⟩:=hnx n es hV hT;cases h
  | true=>
   by_cases hz:us=[]
   ·subst hz
    rw[gE,if_pos rfl] at m7
    rw[gA,if_pos rfl] at m51
    have Fz:=fz11 results47 e0 e2 m2 e4 e7 m7 m51 e8 hgi hpl
    repeat refine go1 ?_
    exact⟨i+1,[(a,b)],by simp[gE],by simp[gA,encE],rfl,by omega,by simp at g1 ⊢;omega,by omega,fun n es hV hT=>by obtain⟨q1,q2,q3,-⟩:=hnx n es hV hT;exact⟨q1,q2,q3⟩,by omega⟩
   ·rw[gE,if_neg hz] at m7
    rw[gA,if_neg hz] at m51
    have Fz:=fz11 results47 e0 e2 m2 e4 e7 m7 m51 e8 hgi hpl
    repeat refine go1 ?_
    have hp:0<us.length:=List.length_pos_iff.2 hz
    have e1:(us++[(a,b)]).length=us.length+1:=by simp
    have e3:us.length-1+1=us.length+1-1:=by omega
    exact⟨i+1,us++[(a,b)],by rw[gE,if_neg (by simp),e1,e3],by rw[gA,if_neg (by simp),e1,e3],rfl,by omega,by rw[e1];omega,by omega,fun n es hV hT=>by obtain⟨q1,q2,q3,-⟩:=hnx n es hV hT;rw[e1];exact⟨q1,q2,q3⟩,by omega⟩
 ·have hie:us.length=wr.length:=by omega
  have hgv:=jbb v us (by omega)
  have hfm:=jc9 v us (by omega)
  have hno2:¬(VG v us∧fmtG v us=T)→¬jym T:=by
   rintro h ⟨n,es,hV,hT⟩
   obtain⟨q1,q2,q3⟩:=hI n es hV hT
   have hul:=congrArg List.length q3
   rw[List.length_map] at hul
   rw[List.take_of_length_le (by omega)] at q2
   subst q1 q2
   exact h ⟨hV,hT⟩
  clear hI
  have hq:fmtG v us≠T→eqS (fmtG v us) T=false:=fun h=>ja2 h
  have hfl:=je5 v us
  by_cases hz:us=[]
  ·subst hz
   rw[gE,if_pos rfl] at m7
   rw[gA,if_pos rfl] at m51
   replace hgv:KP 15 [.agg [I v,.i (.lst [])]] []=some (B (decide (VG v [])),[],[]):=hgv
   replace hfm:KP 16 [.agg [I v,.i (.lst [])]] []=some (S (if VG v [] then fmtG v [] else []),[],[]):=hfm
   by_cases hV:VG v []
   ·rw[decide_eq_true hV] at hgv
    rw[if_pos hV] at hfm
    by_cases hT:fmtG v []=T
    ·rw[hT] at hfm
     have Fz:=fz11 results47 e0 e2 m2 e4 e7 m7 m51 e8 hgv hfm
     repeat refine go1 ?_
     exact .inl ⟨v,[],hV,hT,by simp[qP],by simp[qA]⟩
    ·have hq':=hq hT
     have Fz:=fz12 results47 e0 e2 m2 e4 e7 m7 m51 e8 hgv hfm hq'
     repeat refine go1 ?_
     exact .inr (hno2 fun h=>hT h.2)
   ·rw[decide_eq_false hV] at hgv
    have Fz:=fz10 results47 e0 e2 m2 e4 e7 m7 m51 e8 hgv
    repeat refine go1 ?_
    exact .inr (hno2 fun h=>hV h.1)
  ·rw[gE,if_neg hz] at m7
   rw[gA,if_neg hz] at m51
   by_cases hV:VG v us
   ·rw[decide_eq_true hV] at hgv
    rw[if_pos hV] at hfm
    by_cases hT:fmtG v us=T
    ·rw[hT] at hfm
     have Fz:=fz11 results47 e0 e2 m2 e4 e7 m7 m51 e8 hgv hfm
     repeat refine go1 ?_
     exact .inl ⟨v,us,hV,hT,by simp[qP,hz],by simp[qA,hz]⟩
    ·have hq':=hq hT
     have Fz:=fz12 results47 e0 e2 m2 e4 e7 m7 m51 e8 hgv hfm hq'
     repeat refine go1 ?_
     exact .inr (hno2 fun h=>hT h.2)
   ·rw[decide_eq_false hV] at hgv
    have Fz:=fz10 results47 e0 e2 m2 e4 e7 m7 m51 e8 hgv
    repeat refine go1 ?_
    exact .inr (hno2 fun h=>hV h.1)
end Go.Proofs.YtnaaceooknghjaaGreatDoor.X
