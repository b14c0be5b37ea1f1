/- What functions answer, and the plain laws behind it. -/
import Derived.Test.YtnaaceooknghjaaGreatDoorKAN
set_option linter.unusedSimpArgs false
set_option linter.unusedVariables false
set_option maxHeartbeats 16000000
set_option maxRecDepth 100000
namespace Go.Proofs.YtnaaceooknghjaaGreatDoor.X
open Go Go.Proofs Tryz
theorem kb0 (n a b:Int) (q:Bool) (ts:List Tl) (hn:(esT ts).Nodup) (hm:(a,b)∉esT ts) (hl:ts.length≤1000) :
 KP 167 [LvP n ts,PE a b,B q] []=some (jgu n (putT (a,b) q ts),[],jgt (putT (a,b) q ts)):=by
 have l1:=jaq ts
 have l2:=jax ts
 have l3:=ja9 ts
 have hpl:=jbg (a,b) (esT ts)
 have hput:=jo2 (esT ts) a b (by omega)
 have hlen:(putE (a,b) (esT ts)).length=ts.length+1:=by omega
 rw[hlen] at hput
 have hus:=jfb (a,b) q ts
 have hul:=jp1 (a,b) q ts
 have hrow:=fun {i:Nat} (hi:i<ts.length+1)=>j96 (e:=(a,b)) (q:=q) hn hm hi
 rw[←hus] at hput
 unfold jgu jgt
 rw[hul]
 generalize putT (a,b) q ts=us at *
 refine gc func167 ?_
 have Fz:=fz2 results167 hput
 repeat refine go1 ?_
 refine jaa (fun(w:Int×Nat×Nat) s=>s.m 3=some (.box 0 [I n,LE (esT ts),LI (lvT ts),LT (trT ts)])∧s.ρ 3=.ptr 3 0 0 0∧s.ρ 2=B q∧s.ρ 6=.ptr 6 0 0 0∧s.m 6=some (.box 0 [I 0,.i .emp,.i .emp,.i .emp])∧s.ρ 7=.ptr 7 0 0 0∧s.m 3136=some (.arr 0 2 ((esT us).map encE))∧s.ρ 8=I w.1∧0≤w.1∧w.1≤ts.length+1∧
  ((w.1=0∧s.m 7=some (.box 0 [I n,.ref 3136 0 0 (ts.length+1),.i .emp,.i .emp]))∨
   (1≤w.1∧s.m 7=some (.box 0 [I n,.ref 3136 0 0 (ts.length+1),.ref 43 w.2.1 0 w.1.toNat,.ref 49 w.2.2 0 w.1.toNat])∧s.m 43=some (.arr w.2.1 1 ((lvT (us.take w.1.toNat)).map encI))∧s.m 49=some (.arr w.2.2 1 ((trT (us.take w.1.toNat)).map encT)))∨
   (1≤w.1∧s.m 7=some (.box 0 [I n,.ref 3136 0 0 (ts.length+1),.ref 59 w.2.1 0 w.1.toNat,.ref 69 w.2.2 0 w.1.toNat])∧s.m 59=some (.arr w.2.1 1 ((lvT (us.take w.1.toNat)).map encI))∧s.m 69=some (.arr w.2.2 1 ((trT (us.take w.1.toNat)).map encT))))) (fun w=>((ts.length+1:Nat)-w.1).toNat) (0,0,0) ?_ ?_
 ·refine⟨?_,?_,?_,?_,?_,?_,?_,?_,by simp,by simp only;omega,.inl ⟨rfl,?_⟩⟩
  all_goals rfl
 rintro⟨i,v1,v2⟩ ⟨ρ,m⟩ ⟨m3,e3,e2,e6,m6,e7,mE,e8,g0,g1,hw⟩
 simp only at m3 e3 e2 e6 m6 e7 mE e8 g0 g1 hw
 have hNl:((esT us).length:Int)=ts.length+1:=by rw[jaq];omega
 by_cases hi:i<ts.length+1
 rotate_left
 ·have hiN:i.toNat=ts.length+1:=by omega
  have hta:us.take (ts.length+1)=us:=List.take_of_length_le (by omega)
  rw[hiN,hta] at hw
  rcases hw with⟨h,-⟩ | ⟨-,m7,mA,mB⟩ | ⟨-,m7,mA,mB⟩
  ·omega
  ·have Fz:=fz12 results167 m3 e3 e2 e6 m6 e7 mE e8 m7 mA mB
   repeat(first|exact trivial|refine go1 ?_)
  ·have Fz:=fz12 results167 m3 e3 e2 e6 m6 e7 mE e8 m7 mA mB
   repeat(first|exact trivial|refine go1 ?_)
 have hge:=jz8 us i.toNat (by omega)
 have htk:=jae dT g0 (show i<us.length by omega)
 have hr:=hrow (i:=i.toNat) (by omega)
 generalize us.getD i.toNat dT=t at *
 obtain⟨⟨c,d⟩,l,f⟩:=t
 simp only at hge hr
 have hfi:=jhw (esT ts) c d (by omega)
 have hlt:lvT (us.take (i+1).toNat)=lvT (us.take i.toNat)++[l]:=by rw[htk];simp[lvT]
 have htt:trT (us.take (i+1).toNat)=trT (us.take i.toNat)++[f]:=by rw[htk];simp[trT]
 have hA:(lvT (us.take i.toNat)).length=i.toNat:=by rw[jax,List.length_take];omega
 have hB:(trT (us.take i.toNat)).length=i.toNat:=by rw[ja9,List.length_take];omega
 have hs1:(i+1).toNat=i.toNat+1:=by omega
 have hz:i=0→lvT (us.take i.toNat)=[]∧trT (us.take i.toNat)=[]:=fun h=>by subst h;exact⟨rfl,rfl⟩
 generalize lvT (us.take i.toNat)=A at *
 generalize trT (us.take i.toNat)=Bs at *
 rcases hr with⟨hneg,hrw⟩ | ⟨k,hk,hfk,hrw⟩
 ·obtain⟨-,rfl,rfl⟩:(c,d)=(a,b)∧l=0∧f=q:=by simpa using hrw
  generalize jco (esT ts) (c,d)=at' at *
  rcases hw with⟨h0,m7⟩ | ⟨i1,m7,mA,mB⟩ | ⟨i1,m7,mA,mB⟩
  ·have Fz:=fz13 results167 m3 e3 e2 e6 m6 e7 mE e8 m7 hge hfi hneg
   repeat refine go1 ?_
   obtain⟨za,zb⟩:=hz h0
   exact⟨by omega,by omega,nv (m 43),nv (m 49),.inr (.inl ⟨by omega,by rw[show(i+1).toNat=1 by omega],rfl,by rw[hlt,za];rfl,rfl,by rw[htt,zb];rfl⟩),by omega⟩
  ·have Fz:=fz17 results167 m3 e3 e2 e6 m6 e7 mE e8 m7 mA mB hge hfi hneg hA hB
   repeat refine go1 ?_
   exact⟨by omega,by omega,v1+1,v2+1,.inr (.inl ⟨by omega,by rw[hs1],rfl,by rw[hlt],rfl,by rw[htt]⟩),by omega⟩
  ·have Fz:=fz17 results167 m3 e3 e2 e6 m6 e7 mE e8 m7 mA mB hge hfi hneg hA hB
   repeat refine go1 ?_
   exact⟨by omega,by omega,v1+1,v2+1,.inr (.inr ⟨by omega,by rw[hs1],rfl,by rw[hlt],rfl,by rw[htt]⟩),by omega⟩
 ·rw[hfk] at hfi
  obtain⟨hgl,hgt⟩:=kct ts k l f (c,d) hk hrw.symm
  rcases hw with⟨h0,m7⟩ | ⟨i1,m7,mA,mB⟩ | ⟨i1,m7,mA,mB⟩
  ·have Fz:=fz14 results167 m3 e3 e2 e6 m6 e7 mE e8 m7 hge hfi hgl hgt
   repeat refine go1 ?_
   obtain⟨za,zb⟩:=hz h0
   exact⟨by omega,by omega,nv (m 59),nv (m 69),.inr (.inr ⟨by omega,by rw[show(i+1).toNat=1 by omega],rfl,by rw[hlt,za];rfl,rfl,by rw[htt,zb];rfl⟩),by omega⟩
  ·have Fz:=fz18 results167 m3 e3 e2 e6 m6 e7 mE e8 m7 mA mB hge hfi hgl hgt hA hB
   repeat refine go1 ?_
   exact⟨by omega,by omega,v1+1,v2+1,.inr (.inl ⟨by omega,by rw[hs1],rfl,by rw[hlt],rfl,by rw[htt]⟩),by omega⟩
  ·have Fz:=fz18 results167 m3 e3 e2 e6 m6 e7 mE e8 m7 mA mB hge hfi hgl hgt hA hB
   repeat refine go1 ?_
   exact⟨by omega,by omega,v1+1,v2+1,.inr (.inr ⟨by omega,by rw[hs1],rfl,by rw[hlt],rfl,by rw[htt]⟩),by omega⟩
end Go.Proofs.YtnaaceooknghjaaGreatDoor.X
