/- What functions answer, and the plain laws behind it. -/
import Derived.Test.YtnaaceooknghjaaGreatDoorKAP
set_option linter.unusedSimpArgs false
set_option linter.unusedVariables false
set_option maxHeartbeats 8000000
set_option maxRecDepth 100000
namespace Go.Proofs.YtnaaceooknghjaaGreatDoor.X
open Go Go.Proofs Tryz
theorem jfw {s:List UInt8} {i:Nat} {n:Nat} {b:UInt8} (h:Lib.decFrom 0 (s.take i)=some n) (hb:s[i]?=some b) (hd:Lib.digitVal b=none):Lib.decFrom 0 s=none:=by
 cases hq:Lib.decFrom 0 s with
 | none=>rfl
 | some m=>
  obtain⟨m',hm⟩:=Lib.decFrom_prefix s 0 m hq (i+1)
  rw[List.take_add_one,hb,je4,h] at hm
  simp only[Option.bind_some,Option.toList,Lib.decFrom,hd] at hm
  cases hm
theorem j9t (r:List UInt8):numW (45::r)=none:=by
 unfold numW
 split
 ·unfold Lib.decNat
  rw[if_neg (by simp)]
  simp[Lib.decFrom,Lib.digitVal]
 ·rfl
theorem jha {b:UInt8} (h:48≤b.toNat∧b.toNat≤57):Lib.digitVal b=some (b.toNat-48):=by unfold Lib.digitVal;rw[if_pos h]
theorem jg9 {b:UInt8} (h:¬(48≤b.toNat∧b.toNat≤57)):Lib.digitVal b=none:=by unfold Lib.digitVal;rw[if_neg h]
theorem jga (w:List UInt8) (hl:w.length≤1000000):∃(v:Int) (ok:Bool),((∀k,numW w=some k→ok=true∧v=k)∧(numW w=none→ok=false∨v<0))∧KP 49 [S w] []=some (.tup [I v,B ok],[],[]):=by
 suffices hgoal:∃res,(∃(v:Int) (ok:Bool),((∀k,numW w=some k→ok=true∧v=k)∧(numW w=none→ok=false∨v<0))∧res=(.tup [I v,B ok],[],[]))∧KP 49 [S w] []=some res by
  obtain⟨res,⟨v,ok,h1,rfl⟩,h3⟩:=hgoal
  exact⟨v,ok,h1,h3⟩
 have hloop:∀(g:Bool) (s:List UInt8),0<s.length→s.length≤17→(s.head?≠some 48∨(s.length=1∧g=false))→(g=false→s=w)→(g=true→numW w=none)→
  (∀m,Lib.decFrom 0 s=some m→(g=false→numW w=some m)∧(g=true→0<m))∧(Lib.decFrom 0 s=none→numW w=none):=by
  intro g s h0 h17 hh hw hg
  refine⟨fun m hm=>⟨fun hf=>?_,fun ht=>?_⟩,fun hn=>?_⟩
  ·rw[←hw hf]
   unfold numW Lib.decNat
   rw[if_pos ⟨h17,hh.imp id And.left⟩,if_neg (by intro h;rw[List.isEmpty_iff.1 h] at h0;simp at h0)]
   exact hm
  ·rcases Nat.eq_zero_or_pos m with hz|hz
   ·subst hz
    have hne:s≠[]:=fun h=>by rw[h] at h0;simp at h0
    have hh':s.head?≠some 48:=hh.resolve_right fun h=>by rw[ht] at h;cases h.2
    have:=jgx _ s 0 rfl hne hm (.inl hh')
    rw[←this,Lib.decDigits_one (by omega)] at hh'
    exact absurd rfl hh'
   ·exact hz
  ·cases hgq:g with
   | true=>exact hg hgq
   | false=>
    rw[←hw hgq]
    unfold numW Lib.decNat
    split
    ·split
     ·rfl
     ·exact hn
    ·rfl
 cases w with
 | nil=>
  have hno:numW []=none:=by simp[numW,Lib.decNat]
  refine ge func49 ?_
  have Fz:=fz1 results49
  repeat refine go1 ?_
  exact⟨0,false,fun k hk=>(by rw[hno] at hk;cases hk),fun _=>.inl rfl,rfl⟩
 | cons b r=>
  simp only[List.length_cons] at hl
  by_cases h45:b=45
  ·subst h45
   have hno:=j9t r
   have ht0:r.take r.length=r:=List.take_of_length_le (Nat.le_refl _)
   cases r with
   | nil=>
    refine ge func49 ?_
    have Fz:=fz1 results49
    repeat refine go1 ?_
    exact⟨0,false,fun k hk=>(by rw[hno] at hk;cases hk),fun _=>.inl rfl,rfl⟩
   | cons d q=>
    simp only[List.length_cons] at ht0 hl
    by_cases hbad:(17:Int)<q.length+1∨d=48
    ·by_cases h17:(17:Int)<q.length+1
     ·refine ge func49 ?_
      have Fz:=fz3 results49 ht0 h17
      repeat refine go1 ?_
      exact⟨0,false,fun k hk=>(by rw[hno] at hk;cases hk),fun _=>.inl rfl,rfl⟩
     ·have hd:d=48:=hbad.resolve_left h17
      subst hd
      refine ge func49 ?_
      have Fz:=fz3 results49 ht0 h17
      repeat'(first|refine go1 ?_|(refine go4 ?_;split<;>first|omega|refine go3 ?_|skip))
      all_goals exact⟨0,false,fun k hk=>(by rw[hno] at hk;cases hk),fun _=>.inl rfl,rfl⟩
    simp only[not_or] at hbad
    obtain⟨h17,hd⟩:=hbad
    have hd':¬((d.toNat:Int)=48):=fun h=>hd (UInt8.toNat_inj.1 (by have:(48:UInt8).toNat=48:=rfl;omega))
    refine ge func49 ?_
    have Fz:=fz4 results49 ht0 h17 hd'
    repeat refine go1 ?_
    refine jaa (fun(x:Nat×Nat) t=>t.ρ 0=S (d::q)∧t.ρ 4=B true∧t.ρ 5=I x.2∧t.ρ 6=I x.1∧x.1≤(d::q).length∧Lib.decFrom 0 ((d::q).take x.1)=some x.2) (fun x=>(d::q).length-x.1) (0,0) ?_ ?_
    ·exact⟨rfl,rfl,rfl,rfl,by simp,rfl⟩
    obtain⟨hA,hB⟩:=hloop true (d::q) (by simp) (by simp only[List.length_cons];omega) (.inl (by simpa using hd)) (fun h=>by cases h) (fun _=>hno)
    generalize hs:(d::q)=s at *
    have hsl:s.length≤17:=by rw[←hs];simp only[List.length_cons];omega
    rintro⟨i,n⟩ ⟨ρ,m⟩ ⟨e0,e4,e5,e6,g0,g1⟩
    simp only at e0 e4 e5 e6 g0 g1
    by_cases hi:i<s.length
    rotate_left
    ·rw[jac (by omega)] at g1
     obtain⟨hA1,hA2⟩:=hA n g1
     have hnb:n<1000000000000000000:=Lib.decFrom_lt18 g1 (by omega)
     have Fz:=fz5 results49 e0 e4 e5 e6
     repeat refine go1 ?_
     have hn0:=hA2 rfl
     exact⟨0-(n:Int),true,fun k hk=>(by rw[hno] at hk;cases hk),fun _=>.inr (by omega),rfl⟩
    have hnb:=Lib.decFrom_take_lt g1 (by omega)
    have hgi:s[i]?=some s[i]:=List.getElem?_eq_getElem hi
    generalize s[i]=c at *
    by_cases hd:48≤c.toNat∧c.toNat≤57
    ·have hst:=Lib.decFrom_take s i 0 n c (c.toNat-48) g1 hgi (jha hd)
     obtain⟨hd1,hd2⟩:=hd
     have hw8:IntKind.u8.wrap ((c.toNat:Int)-48)=(c.toNat:Int)-48:=wr8 (by omega) (by omega)
     have hn1:¬(c.toNat:Int)<48:=by omega
     have hn2:¬(57:Int)<c.toNat:=by omega
     have Fz:=fz9 results49 e0 e4 e5 e6 hgi hw8 hn1 hn2
     repeat refine go1 ?_
     exact⟨i+1,n*10+(c.toNat-48),by omega,by omega,by omega,hst,by omega⟩
    ·have hno:=hB (jfw g1 hgi (jg9 hd))
     by_cases hlo:(c.toNat:Int)<48
     ·have Fz:=fz7 results49 e0 e4 e5 e6 hgi hlo
      repeat refine go1 ?_
      exact⟨0,false,fun k hk=>(by rw[hno] at hk;cases hk),fun _=>.inl rfl,rfl⟩
     ·have hhi:(57:Int)<c.toNat:=by omega
      have Fz:=fz8 results49 e0 e4 e5 e6 hgi hlo hhi
      repeat refine go1 ?_
      exact⟨0,false,fun k hk=>(by rw[hno] at hk;cases hk),fun _=>.inl rfl,rfl⟩
  ·have hb':¬((b.toNat:Int)=45):=fun h=>h45 (UInt8.toNat_inj.1 (by have:(45:UInt8).toNat=45:=rfl;omega))
   by_cases hbad:(17:Int)<r.length+1∨(b=48∧(0:Int)<r.length)
   ·have hno:numW (b::r)=none:=by
     unfold numW
     rw[if_neg]
     rintro⟨h1,h2⟩
     simp only[List.length_cons] at h1 h2
     rcases hbad with h | ⟨h,h3⟩
     ·omega
     ·subst h
      rcases h2 with h2|h2
      ·exact h2 rfl
      ·omega
    by_cases h17:(17:Int)<r.length+1
    ·refine ge func49 ?_
     have Fz:=fz3 results49 hb' h17
     repeat refine go1 ?_
     exact⟨0,false,fun k hk=>(by rw[hno] at hk;cases hk),fun _=>.inl rfl,rfl⟩
    ·obtain⟨hb48,hr0⟩:=hbad.resolve_left h17
     subst hb48
     refine ge func49 ?_
     have Fz:=fz4 results49 hb' h17 hr0
     repeat refine go1 ?_
     exact⟨0,false,fun k hk=>(by rw[hno] at hk;cases hk),fun _=>.inl rfl,rfl⟩
   have h17:¬(17:Int)<r.length+1:=fun h=>hbad (.inl h)
   have hgood:b≠48∨r.length=0:=by
    by_cases h:b=48
    ·right
     have:¬(0:Int)<r.length:=fun h2=>hbad (.inr ⟨h,h2⟩)
     omega
    ·exact .inl h
   have hcond:¬((b.toNat:Int)=48)∨r.length=0:=hgood.imp (fun h h2=>h (UInt8.toNat_inj.1 (by have:(48:UInt8).toNat=48:=rfl;omega))) id
   rcases hcond with hc|hc
   ·refine ge func49 ?_
    have Fz:=fz4 results49 hb' h17 hc
    repeat refine go1 ?_
    refine jaa (fun(x:Nat×Nat) t=>t.ρ 0=S (b::r)∧t.ρ 4=B false∧t.ρ 5=I x.2∧t.ρ 6=I x.1∧x.1≤(b::r).length∧Lib.decFrom 0 ((b::r).take x.1)=some x.2) (fun x=>(b::r).length-x.1) (0,0) ?_ ?_
    ·exact⟨rfl,rfl,rfl,rfl,by simp,rfl⟩
    obtain⟨hA,hB⟩:=hloop false (b::r) (by simp) (by simp only[List.length_cons];omega) (by rcases hgood with h|h;exact .inl (by simpa using h);exact .inr ⟨by simp only[List.length_cons];omega,rfl⟩) (fun _=>rfl) (fun h=>by cases h)
    generalize hs:(b::r)=s at *
    have hsl:s.length≤17:=by rw[←hs];simp only[List.length_cons];omega
    rintro⟨i,n⟩ ⟨ρ,m⟩ ⟨e0,e4,e5,e6,g0,g1⟩
    simp only at e0 e4 e5 e6 g0 g1
    by_cases hi:i<s.length
    rotate_left
    ·rw[jac (by omega)] at g1
     obtain⟨hA1,hA2⟩:=hA n g1
     have hnb:n<1000000000000000000:=Lib.decFrom_lt18 g1 (by omega)
     have Fz:=fz5 results49 e0 e4 e5 e6
     repeat refine go1 ?_
     have hW:=hA1 rfl
     exact⟨n,true,fun k hk=>(by rw[hW] at hk;cases hk;exact⟨rfl,rfl⟩),fun h=>(by rw[hW] at h;cases h),rfl⟩
    have hnb:=Lib.decFrom_take_lt g1 (by omega)
    have hgi:s[i]?=some s[i]:=List.getElem?_eq_getElem hi
    generalize s[i]=c at *
    by_cases hd:48≤c.toNat∧c.toNat≤57
    ·have hst:=Lib.decFrom_take s i 0 n c (c.toNat-48) g1 hgi (jha hd)
     obtain⟨hd1,hd2⟩:=hd
     have hw8:IntKind.u8.wrap ((c.toNat:Int)-48)=(c.toNat:Int)-48:=wr8 (by omega) (by omega)
     have hn1:¬(c.toNat:Int)<48:=by omega
     have hn2:¬(57:Int)<c.toNat:=by omega
     have Fz:=fz9 results49 e0 e4 e5 e6 hgi hw8 hn1 hn2
     repeat refine go1 ?_
     exact⟨i+1,n*10+(c.toNat-48),by omega,by omega,by omega,hst,by omega⟩
    ·have hno:=hB (jfw g1 hgi (jg9 hd))
     by_cases hlo:(c.toNat:Int)<48
     ·have Fz:=fz7 results49 e0 e4 e5 e6 hgi hlo
      repeat refine go1 ?_
      exact⟨0,false,fun k hk=>(by rw[hno] at hk;cases hk),fun _=>.inl rfl,rfl⟩
     ·have hhi:(57:Int)<c.toNat:=by omega
      have Fz:=fz8 results49 e0 e4 e5 e6 hgi hlo hhi
      repeat refine go1 ?_
      exact⟨0,false,fun k hk=>(by rw[hno] at hk;cases hk),fun _=>.inl rfl,rfl⟩
   ·refine ge func49 ?_
    have Fz:=fz4 results49 hb' h17 hc
    repeat'(first|refine go1 ?_|(refine go4 ?_;split<;>first|omega|refine go3 ?_|skip))
    all_goals
     refine jaa (fun(x:Nat×Nat) t=>t.ρ 0=S (b::r)∧t.ρ 4=B false∧t.ρ 5=I x.2∧t.ρ 6=I x.1∧x.1≤(b::r).length∧Lib.decFrom 0 ((b::r).take x.1)=some x.2) (fun x=>(b::r).length-x.1) (0,0) ?_ ?_
     ·exact⟨rfl,rfl,rfl,rfl,by simp,rfl⟩
     obtain⟨hA,hB⟩:=hloop false (b::r) (by simp) (by simp only[List.length_cons];omega) (by rcases hgood with h|h;exact .inl (by simpa using h);exact .inr ⟨by simp only[List.length_cons];omega,rfl⟩) (fun _=>rfl) (fun h=>by cases h)
     generalize hs:(b::r)=s at *
     have hsl:s.length≤17:=by rw[←hs];simp only[List.length_cons];omega
     rintro⟨i,n⟩ ⟨ρ,m⟩ ⟨e0,e4,e5,e6,g0,g1⟩
     simp only at e0 e4 e5 e6 g0 g1
     by_cases hi:i<s.length
     rotate_left
     ·rw[jac (by omega)] at g1
      obtain⟨hA1,hA2⟩:=hA n g1
      have hnb:n<1000000000000000000:=Lib.decFrom_lt18 g1 (by omega)
      have Fz:=fz5 results49 e0 e4 e5 e6
      repeat refine go1 ?_
      have hW:=hA1 rfl
      exact⟨n,true,fun k hk=>(by rw[hW] at hk;cases hk;exact⟨rfl,rfl⟩),fun h=>(by rw[hW] at h;cases h),rfl⟩
     have hnb:=Lib.decFrom_take_lt g1 (by omega)
     have hgi:s[i]?=some s[i]:=List.getElem?_eq_getElem hi
     generalize s[i]=c at *
     by_cases hd:48≤c.toNat∧c.toNat≤57
     ·have hst:=Lib.decFrom_take s i 0 n c (c.toNat-48) g1 hgi (jha hd)
      obtain⟨hd1,hd2⟩:=hd
      have hw8:IntKind.u8.wrap ((c.toNat:Int)-48)=(c.toNat:Int)-48:=wr8 (by omega) (by omega)
      have hn1:¬(c.toNat:Int)<48:=by omega
      have hn2:¬(57:Int)<c.toNat:=by omega
      have Fz:=fz9 results49 e0 e4 e5 e6 hgi hw8 hn1 hn2
      repeat refine go1 ?_
      exact⟨i+1,n*10+(c.toNat-48),by omega,by omega,by omega,hst,by omega⟩
     ·have hno:=hB (jfw g1 hgi (jg9 hd))
      by_cases hlo:(c.toNat:Int)<48
      ·have Fz:=fz7 results49 e0 e4 e5 e6 hgi hlo
       repeat refine go1 ?_
       exact⟨0,false,fun k hk=>(by rw[hno] at hk;cases hk),fun _=>.inl rfl,rfl⟩
      ·have hhi:(57:Int)<c.toNat:=by omega
       have Fz:=fz8 results49 e0 e4 e5 e6 hgi hlo hhi
       repeat refine go1 ?_
       exact⟨0,false,fun k hk=>(by rw[hno] at hk;cases hk),fun _=>.inl rfl,rfl⟩
end Go.Proofs.YtnaaceooknghjaaGreatDoor.X
