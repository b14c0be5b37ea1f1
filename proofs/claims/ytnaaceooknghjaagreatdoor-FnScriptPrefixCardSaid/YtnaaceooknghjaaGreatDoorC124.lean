/- What functions answer, and the plain laws behind it. -/
import Derived.Test.YtnaaceooknghjaaGreatDoorKAM
set_option linter.unusedSimpArgs false
set_option linter.unusedVariables false
set_option maxHeartbeats 8000000
set_option maxRecDepth 100000
namespace Go.Proofs.YtnaaceooknghjaaGreatDoor.X
open Go Go.Proofs Tryz
def jym (T:List UInt8):Prop:=∃n es,VG n es∧fmtG n es=T
theorem jhq (l:List UInt8) (h:l.length≤1048576):∃v:Int,KP 129 [S l] []=some (.tup [I v,.i (.v .nilIface)],[],[])∨KP 129 [S l] []=some (.tup [I v,.i .err],[],[]):=by
 have hk:=jt1 l h
 unfold jiw at hk
 split at hk
 ·exact⟨_,.inl hk⟩
 ·exact⟨_,.inr hk⟩
 ·exact⟨_,.inr hk⟩
theorem j2x (l:List UInt8) (c:UInt8) (h:l.length≤1000000):∃(a b:List UInt8) (f:Bool),a.length≤l.length∧b.length≤l.length∧KP 24 [S l,S [c]] []=some (.tup [S a,S b,B f],[],[]):=by
 have hk:=j67 l c (by omega)
 split at hk
 ·exact⟨_,_,_,by rw[List.length_take];omega,by rw[List.length_drop];omega,hk⟩
 ·exact⟨_,_,_,Nat.le_refl _,by simp,hk⟩
theorem jkv (T:List UInt8) (hT:¬jym T) (hl:T.length≤100000):KP 73 [S T] []=some (.tup [.agg [I 0,.i .emp],B false],[],[]):=by
 obtain⟨ws,⟨w1,w2,w3⟩,hsp⟩:=j1q T 32 42 (by omega) (by omega)
 obtain⟨w0,wr,rfl⟩:∃w0 wr,ws=w0::wr:=by
  cases ws with
  | nil=>simp at w1
  | cons a b=>exact⟨a,b,rfl⟩
 simp only[List.map_cons,encS] at hsp
 have h0l:=w3 w0 (by simp)
 have hrl:wr.length≤41:=by simp only[List.length_cons] at w2;omega
 have w3':=fun w hw=>w3 w (List.mem_cons_of_mem _ hw)
 have hWl:(wr.map encS).length=wr.length:=by simp
 have hWt:(wr.map encS).take wr.length=wr.map encS:=List.take_of_length_le (by simp)
 have hWa:=jwt wr
 have hWg:∀i:Nat,i<wr.length→(wr.map encS)[i]?=some [.v (.string ⟨(wr.getD i []).toArray⟩)]:=fun i hi=>by simp[encS,hi]
 generalize hW:wr.map encS=W at *
 have hsub:wr.length+1-1=wr.length:=by omega
 obtain⟨v,hat⟩:=jhq w0 (by omega)
 rcases hat with hat|hat
 rotate_left
 ·
  refine gc func73 ?_
  have Fz:=fz7 results73 hsp hat hWl hWt hWa hsub
  repeat refine go1 ?_
  refine jaa (fun(x:Int) s=>x=0∧s.ρ 29=.i (.lst W)∧s.ρ 30=I wr.length∧s.ρ 31=I 0∧s.ρ 5=I v∧s.ρ 6=.i .err∧s.ρ 0=S T∧s.ρ 2=.ptr 2 0 0 0∧s.m 2=some (.box 0 [I 0,.i .emp])∧s.ρ 7=.ptr 7 0 0 0∧s.m 7=some (.box 0 [I v,.i .emp])) (fun x=>0) 0 ?_ ?_
  ·exact⟨rfl,rfl,by simp[upd,hWl],rfl,rfl,rfl,rfl,rfl,rfl,rfl,rfl⟩
  rintro i ⟨ρ,m⟩ ⟨rfl,e29,e30,e31,e5,e6,e0,e2,m2,e7,m7⟩
  simp only at e29 e30 e31 e5 e6 e0 e2 m2 e7 m7
  by_cases hi:(0:Int)<wr.length
  ·have hgi:=hWg 0 (by omega)
   have hwl:=w3' _ (jab (d:=[]) (show 0<wr.length by omega))
   generalize wr.getD 0 []=u at hgi hwl
   obtain⟨a,b,f,la,lb,hcu⟩:=j2x u 45 (by omega)
   obtain⟨va,hata⟩:=jhq a (by omega)
   obtain⟨vb,hatb⟩:=jhq b (by omega)
   rcases hata with hata|hata<;>rcases hatb with hatb|hatb
   all_goals
    have Fz:=fz15 results73 e29 e30 e31 e5 e6 e0 e2 m2 e7 m7 hgi hcu hata hatb
    repeat(first|exact trivial|refine go1 ?_)
  ·have Fz:=fz11 results73 e29 e30 e31 e5 e6 e0 e2 m2 e7 m7
   repeat(first|exact trivial|refine go1 ?_)
 refine gc func73 ?_
 have Fz:=fz7 results73 hsp hat hWl hWt hWa hsub
 repeat refine go1 ?_
 refine jaa (fun(x:Int×Nat×List (Int×Int)) s=>s.ρ 29=.i (.lst W)∧s.ρ 30=I wr.length∧s.ρ 31=I x.1∧s.ρ 5=I v∧s.ρ 6=.i (.v .nilIface)∧s.ρ 0=S T∧s.ρ 2=.ptr 2 0 0 0∧s.m 2=some (.box 0 [I 0,.i .emp])∧s.ρ 7=.ptr 7 0 0 0∧s.m 7=some (.box 0 [I v,fP 68 x.2.1 x.2.2])∧(x.2.2≠[]→s.m 68=some (.arr x.2.1 2 (x.2.2.map encE)))∧
  0≤x.1∧x.1≤wr.length∧x.2.2.length=x.1.toNat) (fun x=>(wr.length-x.1).toNat) (0,0,[]) ?_ ?_
 ·exact⟨rfl,by simp[upd,hWl],rfl,rfl,rfl,rfl,rfl,rfl,rfl,rfl,fun h=>absurd rfl h,by simp,by simp,rfl⟩
 rintro⟨i,w,es⟩ ⟨ρ,m⟩ ⟨e29,e30,e31,e5,e6,e0,e2,m2,e7,m7,m68,g0,g1,g2⟩
 simp only at e29 e30 e31 e5 e6 e0 e2 m2 e7 m7 m68 g0 g1 g2
 by_cases hi:i<wr.length
 rotate_left
 ·have hfg:=je1 v es (by omega)
  generalize hR:(if VG v es then fmtG v es else [])=R at hfg
  by_cases hTz:T=[]
  ·subst hTz
   by_cases hz:es=[]
   ·subst hz
    have m7':m 7=some (.box 0 [I v,.i .emp]):=m7
    have Fz:=fz11 results73 e29 e30 e31 e5 e6 e0 e2 m2 e7 m7'
    repeat(first|exact trivial|refine go1 ?_)
   ·have m7':m 7=some (.box 0 [I v,.ref 68 w 0 es.length]):=by rw[m7,fP,if_neg hz]
    have m68':=m68 hz
    have Fz:=fz12 results73 e29 e30 e31 e5 e6 e0 e2 m2 e7 m7' m68'
    repeat(first|exact trivial|refine go1 ?_)
  have hne:eqS T []=false:=ja2 hTz
  have hRT:eqS R T=false:=ja2 fun h=>by
   rw[←hR] at h
   split at h
   ·rename_i hV;exact hT ⟨v,es,hV,h⟩
   ·exact hTz h.symm
  by_cases hz:es=[]
  ·subst hz
   have m7':m 7=some (.box 0 [I v,.i .emp]):=m7
   have hfg':KP 60 [.agg [I v,.i (.lst [])]] []=some (S R,[],[]):=hfg
   have Fz:=fz14 results73 e29 e30 e31 e5 e6 e0 e2 m2 e7 m7' hne hfg' hRT
   repeat(first|exact trivial|refine go1 ?_)
  ·have m7':m 7=some (.box 0 [I v,.ref 68 w 0 es.length]):=by rw[m7,fP,if_neg hz]
   have m68':=m68 hz
   have Fz:=fz15 results73 e29 e30 e31 e5 e6 e0 e2 m2 e7 m7' m68' hne hfg hRT
   repeat(first|exact trivial|refine go1 ?_)
 have hgi:=hWg i.toNat (by omega)
 have hwl:=w3' _ (jab (d:=[]) (show i.toNat<wr.length by omega))
 generalize wr.getD i.toNat []=u at hgi hwl
 obtain⟨a,b,f,la,lb,hcu⟩:=j2x u 45 (by omega)
 obtain⟨va,hata⟩:=jhq a (by omega)
 obtain⟨vb,hatb⟩:=jhq b (by omega)
 have hi1:(i+1).toNat=i.toNat+1:=by omega
 by_cases hz:es=[]
 ·subst hz
  have m7':m 7=some (.box 0 [I v,.i .emp]):=m7
  rcases hata with hata|hata<;>rcases hatb with hatb|hatb
  ·have Fz:=fz15 results73 e29 e30 e31 e5 e6 e0 e2 m2 e7 m7' hgi hcu hata hatb
   repeat refine go1 ?_
   exact⟨nv (m 68),[(va,vb)],rfl,fun _=>⟨rfl,rfl⟩,by omega,by omega,by rw[hi1,←g2];rfl,by omega⟩
  all_goals
   have Fz:=fz15 results73 e29 e30 e31 e5 e6 e0 e2 m2 e7 m7' hgi hcu hata hatb
   repeat(first|exact trivial|refine go1 ?_)
 ·have m7':m 7=some (.box 0 [I v,.ref 68 w 0 es.length]):=by rw[m7,fP,if_neg hz]
  have m68':=m68 hz
  rcases hata with hata|hata<;>rcases hatb with hatb|hatb
  ·have Fz:=fz16 results73 e29 e30 e31 e5 e6 e0 e2 m2 e7 m7' m68' hgi hcu hata hatb
   repeat refine go1 ?_
   exact⟨w+1,es++[(va,vb)],by rw[fP,if_neg (by simp)];simp,fun _=>⟨rfl,rfl⟩,by omega,by omega,by rw[List.length_append,hi1,g2];rfl,by omega⟩
  all_goals
   have Fz:=fz16 results73 e29 e30 e31 e5 e6 e0 e2 m2 e7 m7' m68' hgi hcu hata hatb
   repeat(first|exact trivial|refine go1 ?_)
end Go.Proofs.YtnaaceooknghjaaGreatDoor.X
