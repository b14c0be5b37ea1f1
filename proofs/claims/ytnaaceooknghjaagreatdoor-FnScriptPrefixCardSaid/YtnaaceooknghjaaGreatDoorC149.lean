/- What functions answer, and the plain laws behind it. -/
import Derived.Test.YtnaaceooknghjaaGreatDoorC147
import Derived.Test.YtnaaceooknghjaaGreatDoorKAN
set_option linter.unusedSimpArgs false
set_option linter.unusedVariables false
set_option maxHeartbeats 16000000
set_option maxRecDepth 100000
namespace Go.Proofs.YtnaaceooknghjaaGreatDoor.X
open Go Go.Proofs Tryz
theorem j15 (n a b k:Int) (ts:List Tl) (hM:MV n ts a b k) (hk:0≤k):KP 169 [LvP n ts,I a,I b,I k] []=some (.tup [jgu n (jbp n a b k ts).1,I (jbp n a b k ts).2.1,B (jbp n a b k ts).2.2],[],jgt (jbp n a b k ts).1):=by
 have hV:=hM.vg
 have hVF:VG n (abT ts k true):=hV.sub (by unfold abT esT;exact List.filter_sublist.map _)
 have hc:inN n (jdu n (abT ts k true) a b):=by unfold jdu;split;exact hM.rb;exact hM.ra
 have h:=jy8 (S:=fun y=>Conn (abT ts k true) (jdu n (abT ts k true) a b) y) n a b k ts (ptL n (abT ts k true) (jdu n (abT ts k true) a b)) hV hM.lv ⟨hk,hM.k4⟩
  (by have:=kdq n (abT ts k true) (jdu n (abT ts k true) a b);have:=hV.2.1;omega)
  (j7s n a b (abT ts k true) hVF hM.ra hM.rb)
  (fun u hu=>by rw[jpr];exact⟨fun h=>h.2,fun h=>⟨hu,h⟩⟩)
  (fun t ht h1 h2=>by
    have he:t.1∈abT ts k true:=jbn.2 ⟨t.2.1,t.2.2,ht,by omega,fun _=>h1⟩
    have hcn:Conn (abT ts k true) t.1.1 t.1.2:=Conn.of (.inl he)
    exact⟨fun q=>q.trans hcn,fun q=>q.trans hcn.symm⟩)
 have hl:=jll (jev hM hk).1
 have he:=(jev hM hk).1
 unfold jgu jgt
 rw[hl,he]
 exact h
theorem jm0 (n a b:Int) (ts:List Tl) (hV:VG n (esT ts)) (hno:¬(LV n ts∧(a,b)∈esT ts)):KP 103 [LvP n ts,PE a b] []=some (.tup [.agg [I 0,.i .emp,.i .emp,.i .emp],I 0,B false,B false],[],[]):=by
 have hlv:=jb3 n ts hV
 have hel:=hV.2.2.1
 have hfi:=jhw (esT ts) a b (by omega)
 by_cases hm:(a,b)∈esT ts
 ·have h:¬LV n ts:=fun q=>hno ⟨q,hm⟩
  rw[decide_eq_false h] at hlv
  have hf:¬jco (esT ts) (a,b)<0:=by rw[show jco (esT ts) (a,b)=((esT ts).idxOf (a,b):Int) from if_pos hm];omega
  generalize jco (esT ts) (a,b)=f at *
  refine gc func103 ?_
  have Fz:=fz4 results103 hlv hfi hf
  repeat(first|exact trivial|refine go1 ?_)
 ·have hf:jco (esT ts) (a,b)<0:=by unfold jco;rw[if_neg hm];omega
  generalize jco (esT ts) (a,b)=f at *
  refine gc func103 ?_
  have Fz:=fz3 results103 hfi hf
  repeat(first|exact trivial|refine go1 ?_)
def CutShape (n:Int) (us:List Tl) (p:PV) (own:List Arr):Prop:=(p=cutP n us∧own=cutA us)∨(p=jgu n us∧own=jgt us)
theorem jud (n a b:Int) (ts:List Tl) (hL:LV n ts) (hm:(a,b)∈esT ts) :
 ∃p own,CutShape n (ctR n ts (a,b)).1 p own∧KP 103 [LvP n ts,PE a b] []=some (.tup [p,I (ctR n ts (a,b)).2.1,B (ctR n ts (a,b)).2.2,B true],[],own):=by
 have hV:=hL.vg
 have hlv:=jb3 n ts hV
 have hel:=hV.2.2.1
 rw[decide_eq_true hL] at hlv
 have l1:=jaq ts
 have l2:=jax ts
 have l3:=ja9 ts
 obtain⟨k,l,q,hk,hf,hg,hsp⟩:=jgf hm
 have hfi:=jhw (esT ts) a b (by omega)
 rw[hf] at hfi
 have hces:=j2z hV hsp
 have hcut:=kbz n k ts hk (by omega)
 rw[kdw] at hcut
 obtain⟨hgl,hgt⟩:=kct ts k l q (a,b) hk hg
 have hct0:ctR n ts (a,b)=if q=true then cutR n a b (l+1).toNat (ts.take k++ts.drop (k+1)) else(ts.take k++ts.drop (k+1),0,false):=by
  unfold ctR
  rw[hf]
  simp only[Int.toNat_natCast]
  rw[hg]
 rw[hct0]
 have hbl:(ts.take k++ts.drop (k+1)).length=ts.length-1:=by simp;omega
 have hLb:=hL
 rw[hsp] at hLb
 generalize hbs:ts.take k++ts.drop (k+1)=bs at *
 cases q with
 | false=>
  rw[if_neg (by simp)]
  refine⟨cutP n bs,cutA bs,.inl ⟨rfl,rfl⟩,?_⟩
  by_cases hz:bs=[]
  ·subst hz
   unfold cutP cutA at *
   rw[if_pos rfl,if_pos rfl] at *
   refine gc func103 ?_
   have Fz:=fz6 results103 hlv hfi hcut hgl hgt
   repeat(first|exact trivial|refine go1 ?_)
  ·unfold cutP cutA at *
   rw[if_neg hz,if_neg hz] at *
   refine gc func103 ?_
   have Fz:=fz6 results103 hlv hfi hcut hgl hgt
   repeat(first|exact trivial|refine go1 ?_)
 | true=>
  rw[if_pos rfl]
  have hMV:MV n bs a b l∧0≤l:=by
   have:=LV.cutT hLb
   rw[hbs] at this
   exact this
  have hl4:l≤4:=(hL.lv ((a,b),l,true) (by rw[hsp];simp)).2
  obtain⟨hMV,hl0⟩:=hMV
  generalize hR:cutR n a b (l+1).toNat bs=R at *
  suffices hgoal:∃res,(∃p own,CutShape n R.1 p own∧res=(PV.tup [p,I R.2.1,B R.2.2,B true],([]:List Arr),own))∧KP 103 [LvP n ts,PE a b] []=some res by
   obtain⟨res,⟨p,own,h1,rfl⟩,h2⟩:=hgoal
   exact⟨p,own,h1,h2⟩
  have hn16:=hV.2.1
  have hel':bs.length≤40:=by omega
  refine ge func103 ?_
  have hcut1:(bs=[]→KP 168 [LvP n ts,I k] []=some (.agg [I n,.ref 2000 0 0 0,.i .emp,.i .emp],[],[.arr 0 2 []]))∧(bs≠[]→KP 168 [LvP n ts,I k] []=some (jgu n bs,[],jgt bs)):=by
   unfold cutP cutA at hcut
   constructor
   ·intro h;rw[if_pos h,if_pos h] at hcut;exact hcut
   ·intro h;rw[if_neg h,if_neg h] at hcut;exact hcut
  have hm0:∀(o:Option Arr),nv o=nv o:=fun _=>rfl
  by_cases hz:bs=[]
  all_goals first|have hc:=hcut1.1 hz|have hc:=hcut1.2 hz
  all_goals(
   have Fz:=fz6 results103 hlv hfi hc hgl hgt
   repeat refine go1 ?_
   refine jaa (fun(w:Int×Int×List Tl×Nat×Nat×Nat) s=>s.ρ 4=.ptr 4 0 0 0∧s.m 4=some (.box 0 [I 0,.i .emp,.i .emp,.i .emp])∧s.ρ 3=.ptr 3 0 0 0∧s.m 3=some (.box 0 [I a,I b])∧s.ρ 9=.ptr 9 0 0 0∧s.ρ 10=I w.2.1∧s.ρ 11=I w.1∧w.2.2.1.length=bs.length∧-1≤w.1∧w.1≤l∧0≤w.2.1∧w.2.1≤80*(l-w.1)∧MV n w.2.2.1 a b w.1∧
    R.1=(cutR n a b (w.1+1).toNat w.2.2.1).1∧R.2.1=w.2.1+(cutR n a b (w.1+1).toNat w.2.2.1).2.1∧R.2.2=(cutR n a b (w.1+1).toNat w.2.2.1).2.2∧
    ((0≤w.1∧w.2.2.1=[]∧s.m 9=some (.box 0 [I n,.ref 3240 0 0 0,.i .emp,.i .emp])∧s.m 3240=some (.arr 0 2 []))∨
     (0≤w.1∧s.m 9=some (.box 0 [I n,.ref 3240 0 0 w.2.2.1.length,.ref 3241 0 0 w.2.2.1.length,.ref 3242 0 0 w.2.2.1.length])∧s.m 3240=some (.arr 0 2 ((esT w.2.2.1).map encE))∧s.m 3241=some (arrL (lvT w.2.2.1))∧s.m 3242=some (arrT (trT w.2.2.1)))∨
     (s.m 9=some (.box 0 [I n,.ref 3432 w.2.2.2.1 0 w.2.2.1.length,.ref 3433 w.2.2.2.2.1 0 w.2.2.1.length,.ref 3434 w.2.2.2.2.2 0 w.2.2.1.length])∧s.m 3432=some (.arr w.2.2.2.1 2 ((esT w.2.2.1).map encE))∧s.m 3433=some (.arr w.2.2.2.2.1 1 ((lvT w.2.2.1).map encI))∧s.m 3434=some (.arr w.2.2.2.2.2 1 ((trT w.2.2.1).map encT))))) (fun w=>(w.1+1).toNat) (l,0,bs,0,0,0) ?_ ?_)
  ·subst hz
   refine⟨?_,?_,?_,?_,?_,?_,?_,rfl,by simp only;omega,by simp,by simp,by simp,hMV,by rw[hR],by rw[hR];simp,by rw[hR],.inl ⟨hl0,rfl,?_,?_⟩⟩
   all_goals first|rfl | (simp[upd];done)|trace_state
  rotate_left
  ·refine⟨?_,?_,?_,?_,?_,?_,?_,rfl,by simp only;omega,by simp,by simp,by simp,hMV,by rw[hR],by rw[hR];simp,by rw[hR],.inr (.inl ⟨hl0,?_,?_,?_,?_⟩)⟩
   all_goals first|rfl | (simp[upd];done)|trace_state
  all_goals(
   rintro⟨j,sm,cur,v0,v1,v2⟩ ⟨ρ,m⟩ ⟨e4,m4,e3,m3,e9,e10,e11,hcl,g0,g1,r0,r1,hM,s1,s2,s3,hw⟩
   simp only at e4 m4 e3 m3 e9 e10 e11 hcl g0 g1 r0 r1 hM s1 s2 s3 hw
   have k1:=rkE cur
   have k2:=rkL cur
   have k3:=rkT cur
   by_cases hj:0≤j
   rotate_left
   ·have hj1:(j+1).toNat=0:=by omega
    rw[hj1,cutR] at s1 s2 s3
    simp only at s1 s2 s3
    rw[Int.add_zero] at s2
    rw[s1,s2,s3]
    rcases hw with⟨h,-⟩ | ⟨h,-⟩ | ⟨m9,q0,q1,q2⟩
    ·omega
    ·omega
    ·have Fz:=fz13 results103 e4 m4 e3 m3 e9 e10 e11 m9 q0 q1 q2 hj
     repeat refine go1 ?_
     exact⟨jgu n cur,jgt cur,.inr ⟨rfl,rfl⟩,rfl,rfl⟩
   ·have hlev:=j15 n a b j cur hM hj
    obtain⟨p1,p2⟩:=jev hM hj
    have hbd:=jp3 (n:=n) (a:=a) (b:=b) (k:=j) (ts:=cur)
    have hj1:(j+1).toNat=j.toNat+1:=by omega
    have hj2:((j.toNat:Nat):Int)=j:=by omega
    have hj3:(j-1+1).toNat=j.toNat:=by omega
    have hcl2:=jll p1
    rw[hj1,cutR,hj2] at s1 s2 s3
    have hlev0:cur=[]→KP 169 [.agg [I n,.i (.lst []),.i (.lst []),.i (.lst [])],I a,I b,I j] []=some (.tup [jgu n (jbp n a b j cur).1,I (jbp n a b j cur).2.1,B (jbp n a b j cur).2.2],[],jgt (jbp n a b j cur).1):=fun h=>by
     rw[←hlev,h];rfl
    rcases p2 with⟨p3,p4,p5⟩ | ⟨p3,p4,p5,p6⟩
    ·rw[if_neg (by rw[p3];simp)] at s1 s2 s3
     rw[←hj3] at s1 s2 s3
     generalize hro:jbp n a b j cur=ro at *
     obtain⟨c1,c2,c3⟩:=ro
     simp only at hlev hlev0 p1 p3 p4 hbd hcl2 s1 s2 s3
     subst p3
     rcases hw with⟨-,hz',m9,q0⟩ | ⟨-,m9,q0,q1,q2⟩ | ⟨m9,q0,q1,q2⟩
     ·have hl':=hlev0 hz'
      have Fz:=fz12 results103 e4 m4 e3 m3 e9 e10 e11 m9 q0 hj hl'
      repeat refine go1 ?_
      exact⟨c1,by omega,by omega,by omega,by omega,by omega,p4,s1,by omega,s3,_,_,_,.inr (.inr ⟨rfl,rfl,rfl,rfl,rfl,rfl,rfl⟩),by omega⟩
     ·have Fz:=fz17 results103 e4 m4 e3 m3 e9 e10 e11 m9 q0 q1 q2 hj hlev k1 k2 k3
      repeat refine go1 ?_
      exact⟨c1,by omega,by omega,by omega,by omega,by omega,p4,s1,by omega,s3,_,_,_,.inr (.inr ⟨rfl,rfl,rfl,rfl,rfl,rfl,rfl⟩),by omega⟩
     ·have Fz:=fz17 results103 e4 m4 e3 m3 e9 e10 e11 m9 q0 q1 q2 hj hlev k1 k2 k3
      repeat refine go1 ?_
      exact⟨c1,by omega,by omega,by omega,by omega,by omega,p4,s1,by omega,s3,_,_,_,.inr (.inr ⟨rfl,rfl,rfl,rfl,rfl,rfl,rfl⟩),by omega⟩
    ·rw[if_pos p3] at s1 s2 s3
     generalize hro:jbp n a b j cur=ro at *
     obtain⟨c1,c2,c3⟩:=ro
     simp only at hlev hlev0 p1 p3 p4 hbd hcl2 s1 s2 s3
     subst p3
     rw[s1,s2,s3]
     rcases hw with⟨-,hz',m9,q0⟩ | ⟨-,m9,q0,q1,q2⟩ | ⟨m9,q0,q1,q2⟩
     ·have hl':=hlev0 hz'
      have Fz:=fz12 results103 e4 m4 e3 m3 e9 e10 e11 m9 q0 hj hl'
      repeat refine go1 ?_
      exact⟨jgu n c1,jgt c1,.inr ⟨rfl,rfl⟩,rfl,rfl⟩
     ·have Fz:=fz17 results103 e4 m4 e3 m3 e9 e10 e11 m9 q0 q1 q2 hj hlev k1 k2 k3
      repeat refine go1 ?_
      exact⟨jgu n c1,jgt c1,.inr ⟨rfl,rfl⟩,rfl,rfl⟩
     ·have Fz:=fz17 results103 e4 m4 e3 m3 e9 e10 e11 m9 q0 q1 q2 hj hlev k1 k2 k3
      repeat refine go1 ?_
      exact⟨jgu n c1,jgt c1,.inr ⟨rfl,rfl⟩,rfl,rfl⟩)
end Go.Proofs.YtnaaceooknghjaaGreatDoor.X
