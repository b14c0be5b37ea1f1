/- What functions answer, and the plain laws behind it. -/
import Derived.Test.YtnaaceooknghjaaGreatDoorC159
import Derived.Test.YtnaaceooknghjaaGreatDoorKAG
import Derived.Test.YtnaaceooknghjaaGreatDoorKAJ
set_option linter.unusedSimpArgs false
set_option linter.unusedVariables false
set_option maxHeartbeats 8000000
set_option maxRecDepth 100000
namespace Go.Proofs.YtnaaceooknghjaaGreatDoor.X
open Go Go.Proofs Tryz
abbrev drawnW:List (List UInt8):=[[115,104,111,119],[112,97,114,116,115],[98,114,105,100,103,101,115],[99,117,116,115],[115,97,102,101],[98,108,111,99,107,115],[99,104,97,105,110,115],[102,111,114,101,115,116],[108,101,118,101,108,115],[98,101,115,116],[119,101,97,107,101,115,116],[112,117,116,32,48,32,49],[112,117,116,32,49,32,50],[112,117,116,32,48,32,50],[112,117,116,32,50,32,48],[112,117,116,32,48,32,48],[112,117,116,32,48],[99,117,116,32,48,32,49],[99,117,116,32,49,32,50],[99,117,116,32,48,32,50],[99,117,116,32,48,32,49,54],[112,97,116,104,32,48,32,50],[112,97,116,104,32,49,32,48],[98,101,116,119,101,101,110,32,48,32,50],[98,101,116,119,101,101,110,32,48,32,57],[102,108,111,119,32,48,32,49],[102,108,111,119,32,48,32,50],[102,108,111,119,32,49,32,49],[116,111,117,114,32,48],[116,111,117,114,32,50],[116,111,117,114,32,49,54],[103,114,97,112,104,32,51,32,48,45,49,32,49,45,50],[103,114,97,112,104,32,120],[119,104,97,116],[],[32,115,104,111,119]]
theorem jz1:∀w∈drawnW,w.length≤15:=by decide
abbrev j6r:List (List UInt8):=[[],[32],[10],[120],[48]]
theorem jku (bs:List Int) (hb:∀b∈bs,0≤b∧b<256) (hl:bs.length≤1000000000):∃T:List UInt8,T.length≤100000∧KP 7 [LB bs] []=some (S T,[],[]):=by
 suffices h:∃res,(∃T:List UInt8,T.length≤100000∧res=(S T,([]:List Arr),([]:List Arr)))∧KP 7 [LB bs] []=some res by
  obtain⟨res,⟨T,h1,rfl⟩,h2⟩:=h
  exact⟨T,h1,h2⟩
 obtain⟨cs,hcs,hopen⟩:=j10 bs hb hl
 obtain⟨n,es,p,n0,n1,hel,p0,p1,hsm⟩:=j14 cs 0 hcs (by omega)
 have hgv:=jbb n es (by omega)
 obtain⟨N,hN,hnum⟩:=j2d cs p [6,4,8,3] hcs (by omega) (by simp) (by simp)
 have hN':3≤N∧N≤8:=by simp at hN;omega
 obtain⟨N3,N8⟩:=hN'
 clear hN
 simp only[List.map_cons,List.map_nil,encI,List.length_cons,List.length_nil,Nat.reduceAdd] at hnum
 obtain⟨G,hGl,hst⟩:∃G:List UInt8,G.length≤300∧((KP 15 [GL n es] []=some (B true,[],[])∧KP 16 [GL n es] []=some (S G,[],[]))∨
  (KP 15 [GL n es] []=some (B false,[],[])∧KP 16 [.agg [I 3,.i (.lst [])]] []=some (S G,[],[]))):=by
  have hgv:=jbb n es (by omega)
  by_cases hV:VG n es
  ·rw[decide_eq_true hV] at hgv
   have hfm:=jc9 n es (by omega)
   rw[if_pos hV] at hfm
   exact⟨_,by have:=je5 n es;omega,.inl ⟨hgv,hfm⟩⟩
  ·rw[decide_eq_false hV] at hgv
   have hfm:=jc9 3 [] (by simp)
   rw[if_pos (show VG 3 [] from⟨by omega,by omega,by simp,by simp,by simp[Ord]⟩)] at hfm
   exact⟨_,by have:=je5 3 [];simp at this;omega,.inr ⟨hgv,hfm⟩⟩
 rcases hst with⟨hgv,hfm⟩ | ⟨hgv,hfm⟩
 all_goals
  refine ge func7 ?_
  have Fz:=fz6 results7 hopen hsm hgv hfm hnum
  repeat refine go1 ?_
  clear hopen hsm hgv hfm hnum
  refine jaa (fun(u:Int×Int×List UInt8) s=>s.ρ 3=.ptr 3072 0 0 0∧s.m 3072=some (Rd cs u.2.1)∧s.ρ 5=S u.2.2∧s.ρ 6=I u.1∧0≤u.1∧u.1≤N∧p≤u.2.1∧u.2.1≤p+1+(N-u.1)∧u.2.2.length≤400+20*(N-u.1).toNat∧0<u.2.2.length) (fun u=>u.1.toNat) (N,p+1,[103,114,97,112,104,32]++G++[10]) ?_ ?_
  ·refine⟨?_,?_,?_,?_,by simp only;omega,by simp,by simp only;omega,by simp only;omega,by simp;omega,by simp⟩
   all_goals first|rfl | (simp[upd];done)
  rintro⟨i,q,O⟩ ⟨ρ,m⟩ ⟨e3,m3,e5,e6,g0,g1,g2,g3,g4,g5⟩
  simp only at e3 m3 e5 e6 g0 g1 g2 g3 g4 g5
  by_cases hi:0<i
  ·obtain⟨w,hw,hof⟩:=c_of cs q drawnW hcs (by omega) (by simp) (by simp)
   have hwl:=jz1 w hw
   clear hw
   simp only[drawnW,List.map_cons,List.map_nil,encS,List.length_cons,List.length_nil,Nat.reduceAdd] at hof
   have Fz:=fz6 results7 e3 m3 e5 e6 hof
   repeat refine go1 ?_
   exact⟨i-1,q+1,rfl,O++w++[10],rfl,rfl,by omega,by omega,by omega,by omega,by simp only[List.length_append,List.length_cons,List.length_nil];omega,by simp;omega,by omega⟩
  obtain rfl:i=0:=by omega
  have hOl:O.length≤600:=by omega
  obtain⟨a,ha,-,hpk⟩:=jek cs q 60 hcs (by omega) (by omega)
  have ha':=ha (by omega)
  clear ha
  by_cases a2:a=2
  ·subst a2
   have Fz:=fz6 results7 e3 m3 e5 e6 hpk
   repeat refine go1 ?_
   exact⟨List.take ((O.length:Int)-1).toNat O,by rw[List.length_take];omega,rfl⟩
  have hbend:∀O':List UInt8,O'.length≤30000→∃(T':List UInt8) (p':Int),T'.length≤40000∧KP 20 [.ptr 1000 0 0 0,S O',.ref 1001 0 0 5] [Rd cs (q+1),.arr 0 1 (j6r.map encS)]=some (S T',[Rd cs p',.arr 0 1 (j6r.map encS)],[]):=fun O' hO'=>by
   obtain⟨T',p',h1,-,-,h2⟩:=j7j cs (q+1) O' j6r hcs (by omega) (by omega) (by simp) (by simp) (by decide)
   exact⟨T',p',by omega,h2⟩
  simp only[j6r,List.map_cons,List.map_nil,encS] at hbend
  by_cases a0:a=0
  ·subst a0
   have Fz:=fz6 results7 e3 m3 e5 e6 hpk
   repeat refine go1 ?_
   refine jaa (fun(u:Int×List UInt8) s=>s.ρ 3=.ptr 3072 0 0 0∧s.m 3072=some (Rd cs (q+1))∧s.ρ 5=S u.2∧s.ρ 7=I u.1∧0≤u.1∧u.1≤201∧u.2.length≤600+5*u.1.toNat) (fun u=>(201-u.1).toNat) (0,O) ?_ ?_
   ·refine⟨?_,?_,?_,?_,by simp,by simp,by simpa using hOl⟩
    all_goals first|rfl|assumption | (simp[upd];done)
   clear e3 m3 e5 e6 hpk
   rintro⟨k,O2⟩ ⟨ρ,m⟩ ⟨e3,m3,e5,e7,k0,k1,k2⟩
   simp only at e3 m3 e5 e7 k0 k1 k2
   by_cases hk:k≤200
   ·have Fz:=fz5 results7 e3 m3 e5 e7
    repeat refine go1 ?_
    exact⟨k+1,O2++[119,104,97,116,10],rfl,rfl,by omega,by omega,by simp only[List.length_append,List.length_cons,List.length_nil];omega,by omega⟩
   ·obtain⟨T',p',hT,hbe⟩:=hbend O2 (by omega)
    have Fz:=fz6 results7 e3 m3 e5 e7 hbe
    repeat refine go1 ?_
    exact⟨T',by omega,rfl⟩
  by_cases a1:a=1
  ·subst a1
   have Fz:=fz6 results7 e3 m3 e5 e6 hpk
   repeat refine go1 ?_
   refine jaa (fun(u:List UInt8) s=>s.ρ 3=.ptr 3072 0 0 0∧s.m 3072=some (Rd cs (q+1))∧s.ρ 5=S u∧u.length≤20005) (fun u=>20001-u.length) O ?_ ?_
   ·refine⟨?_,?_,?_,by omega⟩
    all_goals first|rfl|assumption | (simp[upd];done)
   clear e3 m3 e5 e6 hpk
   rintro O2 ⟨ρ,m⟩ ⟨e3,m3,e5,k2⟩
   simp only at e3 m3 e5 k2
   by_cases hk:O2.length≤20000
   ·have Fz:=fz4 results7 e3 m3 e5
    repeat refine go1 ?_
    exact⟨O2++[119,104,97,116,10],rfl,by simp only[List.length_append,List.length_cons,List.length_nil];omega,by simp only[List.length_append,List.length_cons,List.length_nil];omega⟩
   ·obtain⟨T',p',hT,hbe⟩:=hbend O2 (by omega)
    have Fz:=fz5 results7 e3 m3 e5 hbe
    repeat refine go1 ?_
    exact⟨T',by omega,rfl⟩
  obtain⟨T',p',hT,hbe⟩:=hbend O (by omega)
  have Fz:=fz7 results7 e3 m3 e5 e6 hpk hbe
  repeat refine go1 ?_
  exact⟨T',by omega,rfl⟩
end Go.Proofs.YtnaaceooknghjaaGreatDoor.X
