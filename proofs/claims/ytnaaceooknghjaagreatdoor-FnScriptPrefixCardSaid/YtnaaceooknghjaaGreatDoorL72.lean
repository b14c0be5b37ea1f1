/- What functions answer, and the plain laws behind it. -/
import Derived.Test.YtnaaceooknghjaaGreatDoorC133
import Derived.Test.YtnaaceooknghjaaGreatDoorKAU
import Derived.Test.YtnaaceooknghjaaGreatDoorC167
set_option linter.unusedSimpArgs false
set_option linter.unusedVariables false
set_option maxHeartbeats 8000000
namespace Go.Proofs.YtnaaceooknghjaaGreatDoor.X
open Go Go.Proofs Tryz
theorem law_ScriptPrefix (bs cs:List Int) (hb:∀b∈bs,0≤b∧b<256) (hc:∀b∈cs,0≤b∧b<256):KP 4 [LB bs,LB cs] []=some (B true,[],[]):=by
 by_cases hbig:1048576<(bs.length:Int)
 ·refine gc func4 ?_
  have Fz:=fz1 results4
  repeat(first|exact trivial|refine go1 ?_)
 by_cases hbig2:1048576<(cs.length:Int)
 ·refine gc func4 ?_
  have Fz:=fz1 results4
  repeat(first|exact trivial|refine go1 ?_)
 obtain⟨T,hT,hd⟩:=jku bs hb (by omega)
 have hi:=jfr T (by omega)
 have hs:=jjn T (by omega)
 have hF:∀c:Nat,c≤T.length→KP 6 [S (T.take c)] []=some (S (jca (T.take c)),[],[]):=fun c h=>jfr _ (by rw[List.length_take];omega)
 have hP:∀c:Nat,c≤T.length→T.length≤20000→(c=0∨T.getD (c-1) 0=10)→jca (T.take c) <+: jca T:=fun c h1 h2 h3=>jve h1 h2 h3
 obtain⟨q,hqe,hq⟩:∃q,(cs.length:Int).tmod 12=q∧0≤q∧q<12:=⟨_,rfl,by rw[Int.tmod_eq_emod_of_nonneg (by omega)];omega⟩
 obtain⟨q0,q12⟩:=hq
 refine gc func4 ?_
 have Fz:=fz4 results4 hd hi hs
 repeat refine go1 ?_
 refine jaa (fun(u:Int×Int×Int) s=>s.ρ 5=S T∧s.ρ 6=S (jca T)∧s.ρ 1=LB cs∧s.ρ 9=I u.1∧s.ρ 7=I u.2.1∧s.ρ 8=I u.2.2∧0≤u.1∧u.1≤T.length∧0≤u.2.1∧u.2.1≤u.1∧0≤u.2.2∧u.2.2≤u.1∧(u.2.2.toNat=0∨T.getD (u.2.2.toNat-1) 0=10)) (fun u=>(T.length-u.1).toNat) (0,0,0) ?_ ?_
 ·exact⟨rfl,rfl,rfl,rfl,rfl,rfl,by simp,by simp,by simp,by simp,by simp,by simp,.inl rfl⟩
 rintro⟨i,k,c⟩ ⟨ρ,m⟩ ⟨eT,eO,eM,eA,eL,eC,g0,g1,g2,g3,g4,g5,g6⟩
 simp only at eT eO eM eA eL eC g0 g1 g2 g3 g4 g5 g6
 by_cases hit:i<T.length
 ·obtain⟨b,hgt⟩:∃b,T[i.toNat]?=some b:=⟨T[i.toNat]'(by omega),by simp⟩
  by_cases h10:b=10
  ·subst h10
   have hgd:T.getD i.toNat 0=10:=by rw[List.getD_eq_getElem?_getD,hgt];rfl
   by_cases hk:k+1≤1+q
   ·have Fz:=fz9 results4 eT eO eM eA eL eC hgt hqe
    repeat refine go1 ?_
    exact⟨by omega,by omega,by omega,by omega,by omega,.inr (by rw[show(i+1).toNat-1=i.toNat by omega];exact hgd),by omega⟩
   ·have Fz:=fz9 results4 eT eO eM eA eL eC hgt hqe
    repeat refine go1 ?_
    exact⟨by omega,by omega,by omega,by omega,by omega,by omega,g6,by omega⟩
  ·have h10':¬(b.toNat:Int)=10:=fun e=>h10 (kak.1 e)
   have Fz:=fz10 results4 eT eO eM eA eL eC hgt h10' hqe
   repeat refine go1 ?_
   exact⟨by omega,by omega,by omega,by omega,by omega,by omega,g6,by omega⟩
 ·have hf:=hF c.toNat (by omega)
  obtain⟨A,hA⟩:∃A,T.take c.toNat=A:=⟨_,rfl⟩
  by_cases hlong:20000<T.length
  ·rw[hA] at hf
   generalize jca A=F at *
   generalize jca T=R at *
   have Fz:=fz9 results4 eT eO eM eA eL eC hA hf
   repeat(first|exact trivial|refine go1 ?_)
  ·obtain⟨r,hr⟩:=hP c.toNat (by omega) (by omega) g6
   rw[hA] at hf hr
   rw[←hr] at eO
   generalize jca A=F at *
   have htk:(F++r).take F.length=F:=by simp
   have hle:F.length≤(F++r).length:=by simp
   have Fz:=fz10 results4 eT eO eM eA eL eC hA hf htk
   repeat(first|exact trivial|refine go1 ?_)
end Go.Proofs.YtnaaceooknghjaaGreatDoor.X
