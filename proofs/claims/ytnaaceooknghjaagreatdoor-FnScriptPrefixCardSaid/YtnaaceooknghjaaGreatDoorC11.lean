/- What functions answer, and the plain laws behind it. -/
import Derived.Test.YtnaaceooknghjaaGreatDoorKAB
set_option linter.unusedSimpArgs false
set_option linter.unusedVariables false
set_option maxHeartbeats 2000000
namespace Go.Proofs.YtnaaceooknghjaaGreatDoor.X
open Go Go.Proofs Tryz
theorem jat (n:Int):(iota n).length=n.toNat:=by simp[iota]
theorem jby {i:Int} (h:0≤i):iota (i+1)=iota i++[i]:=by
 have e:(i+1).toNat=i.toNat+1:=by omega
 unfold iota
 rw[e,List.range_succ,List.map_append]
 simp;omega
@[go_sem] theorem ji4 (n:Int) (es:List (Int×Int)) (h:OKG n es):KP 114 [GL n es] []=some (.ref 2000 0 0 (lab n es).length,[],[.arr 0 1 ((lab n es).map encI)]):=by
 obtain⟨n0,n1,hl,ho⟩:=h
 rw[←j0n ho]
 refine gc func114 ?_
 have Fz:=fz1 results114
 repeat refine go1 ?_
 refine jaa (fun(x:Int×Nat×List Int) s=>s.m 8=some (.arr x.2.1 1 (x.2.2.map encI))∧s.ρ 3=.ref 8 x.2.1 0 x.2.2.length∧s.ρ 11=I x.1∧s.ρ 10=I n∧s.ρ 1=.ptr 1 0 0 0∧s.m 1=some (.box 0 [I n,LE es])∧
  0≤x.1∧x.1≤n∧x.2.2.length=x.1.toNat∧x.2.2=iota x.1) (fun x=>(n-x.1).toNat) (0,0,[]) (by simp[upd,iota,n0]) ?_
 rintro⟨i,w,xs⟩ ⟨ρ,m⟩ ⟨m8,h3,h11,h10,h1,m1,g0,g1,g2,g3⟩
 simp only at m8 h3 h11 h10 h1 m1 g0 g1 g2 g3
 have Fz:=fz7 results114 m8 h3 h11 h10 h1 m1
 repeat'(first|refine go1 ?_|(refine go2 ?_ ?_<;>intro _<;>try omega))
 ·refine⟨by omega,by omega,by omega,?_,by omega⟩
  rw[jby g0,g3]
 ·have hin:i=n:=by omega
  subst hin
  refine jaa (fun(x:Int×List Int) s=>s.m 8=some (.arr w 1 (x.2.map encI))∧s.ρ 3=.ref 8 w 0 x.2.length∧s.ρ 21=I x.1∧s.ρ 20=I i∧s.ρ 1=.ptr 1 0 0 0∧s.m 1=some (.box 0 [I i,LE es])∧
   0≤x.1∧x.1≤i∧x.2.length=i.toNat∧x.2=rounds es x.1.toNat (iota i)) (fun x=>(i-x.1).toNat) (0,xs) (by simp[upd,rounds,m8,h3,h1,m1,g0,g2,←g3]) ?_
  rintro⟨k,out⟩ ⟨ρ,m⟩ ⟨m8,h3,h21,h20,h1,m1,f0,f1,f2,f3⟩
  simp only at m8 h3 h21 h20 h1 m1 f0 f1 f2 f3
  have Fz:=fz7 results114 m8 h3 h21 h20 h1 m1
  repeat'(first|refine go1 ?_|(refine go2 ?_ ?_<;>intro _<;>try omega))
  ·refine jaa (fun(x:Int×List Int) s=>s.m 8=some (.arr w 1 (x.2.map encI))∧s.ρ 3=.ref 8 w 0 x.2.length∧s.ρ 21=I k∧s.ρ 20=I i∧s.ρ 1=.ptr 1 0 0 0∧s.m 1=some (.box 0 [I i,LE es])∧s.ρ 24=LE es∧s.ρ 25=I es.length∧s.ρ 26=I x.1∧
    0≤x.1∧x.1≤es.length∧x.2.length=i.toNat∧x.2=(es.take x.1.toNat).foldl stepE out) (fun x=>(es.length-x.1).toNat) (0,out) (by simp[upd,m8,h3,h1,m1,h21,h20,f2]) ?_
   rintro⟨j,ou⟩ ⟨ρ,m⟩ ⟨m8,h3,h21,h20,h1,m1,h24,h25,h26,e0,e1,e2,e3⟩
   simp only at m8 h3 h21 h20 h1 m1 h24 h25 h26 e0 e1 e2 e3
   by_cases hj:j<es.length
   ·have he:=ho _ (jab (d:=(0,0)) (show j.toNat<es.length by omega))
    unfold okE at he
    have Fz:=fz10 results114 m8 h3 h21 h20 h1 m1 h24 h25 h26
    repeat refine go1 ?_
    refine⟨by omega,by omega,e2,?_,by omega⟩
    rw[jae (0,0) e0 hj,List.foldl_append,←e3]
    rfl
   ·have Fz:=fz10 results114 m8 h3 h21 h20 h1 m1 h24 h25 h26
    repeat refine go1 ?_
    refine⟨by omega,by omega,e2,?_,by omega⟩
    rw[jac (by omega)] at e3
    rw[e3,f3,show(k+1).toNat=k.toNat+1 by omega]
    rfl
  ·have hk:k=i:=by omega
   subst hk
   rw[←f3]
   exact⟨rfl,rfl⟩
@[go_sem] theorem j1o (n:Int) (es:List (Int×Int)) (hl:es.length≤1048576):KP 62 [GL n es] []=some (if VG n es then LI (lab n es) else .i .emp,[],[]):=by
 by_cases h:VG n es
 ·have hp:=ji4 n es h.okg
  refine gc func62 ?_
  have Fz:=fz2 results62 hp
  repeat(first|exact trivial|refine go1 ?_)
 ·refine gc func62 ?_
  have Fz:=fz1 results62
  repeat(first|exact trivial|refine go1 ?_)
@[go_sem] theorem jg6 (n x y:Int) (es:List (Int×Int)) (h:OKG n es) (hx:0≤x∧x<n) (hy:0≤y∧y<n):KP 136 [GL n es,I x,I y] []=some (B (decide (Conn es x y)),[],[]):=by
 have hp:=ji4 n es h
 have hl:=jap n es
 refine gc func136 ?_
 have Fz:=fz2 results136 hp
 repeat refine go1 ?_
 exact j43 hx hy
@[go_sem] theorem jdm (n:Int) (es:List (Int×Int)) (h:OKG n es):KP 86 [GL n es] []=some (.ref 2000 0 0 (lab n es).length,[],[.arr 0 1 ((lab n es).map encI)]):=by
 obtain⟨n0,n1,hl,ho⟩:=h
 refine gc func86 ?_
 have Fz:=fz1 results86
 repeat refine go1 ?_
 refine jaa (fun(x:Int×Nat×List Int) s=>s.m 9=some (.arr x.2.1 1 (x.2.2.map encI))∧s.ρ 3=.ref 9 x.2.1 0 x.2.2.length∧s.ρ 4=I x.1∧s.ρ 1=.ptr 1 0 0 0∧s.m 1=some (.box 0 [I n,LE es])∧
  0≤x.1∧x.1≤n∧x.2.2.length=x.1.toNat∧x.2.2=iota x.1) (fun x=>(n-x.1).toNat) (0,0,[]) (by simp[upd,iota,n0]) ?_
 rintro⟨i,w,xs⟩ ⟨ρ,m⟩ ⟨m9,h3,h4,h1,m1,g0,g1,g2,g3⟩
 simp only at m9 h3 h4 h1 m1 g0 g1 g2 g3
 have Fz:=fz6 results86 m9 h3 h4 h1 m1
 repeat'(first|refine go1 ?_|(refine go2 ?_ ?_<;>intro _<;>try omega))
 ·refine⟨by omega,by omega,by omega,?_,by omega⟩
  rw[jby g0,g3]
 ·have hin:i=n:=by omega
  subst hin
  have hsn:Snd i es xs:=by rw[g3];exact jki i es
  refine jaa (fun(x:Bool×List Int) s=>s.m 9=some (.arr w 1 (x.2.map encI))∧s.ρ 3=.ref 9 w 0 x.2.length∧s.ρ 5=B x.1∧s.ρ 1=.ptr 1 0 0 0∧s.m 1=some (.box 0 [I i,LE es])∧
   x.2.length=i.toNat∧Snd i es x.2∧(x.1=false→x.2=lab i es)) (fun x=>(2*x.2.sum).toNat+x.1.toNat) (true,xs) (by simp[upd,m9,h3,h1,m1,g0,g2,←g3,hsn]) ?_
  rintro⟨b,out⟩ ⟨ρ,m⟩ ⟨m9,h3,h5,h1,m1,f0,f1,f2⟩
  simp only at m9 h3 h5 h1 m1 f0 f1 f2
  have Fz:=fz6 results86 m9 h3 h5 h1 m1
  repeat'(first|refine go1 ?_|(refine go2 ?_ ?_<;>intro _<;>try omega))
  ·have hb:b=true:=by assumption
   subst hb
   refine jaa (fun(x:Int×Bool×List Int) s=>s.m 9=some (.arr w 1 (x.2.2.map encI))∧s.ρ 3=.ref 9 w 0 x.2.2.length∧s.ρ 5=B x.2.1∧s.ρ 6=I x.1∧s.ρ 1=.ptr 1 0 0 0∧s.m 1=some (.box 0 [I i,LE es])∧
    0≤x.1∧x.1≤es.length∧x.2.2.length=i.toNat∧Snd i es x.2.2∧(x.2.1=false→x.2.2=out∧∀e∈es.take x.1.toNat,out.getD e.1.toNat 0=out.getD e.2.toNat 0)∧(x.2.1=true→x.2.2.sum<out.sum))
    (fun x=>(es.length-x.1).toNat) (0,false,out) (by simp[upd,m9,h3,h1,m1,f0,f1]) ?_
   rintro⟨j,a,ou⟩ ⟨ρ,m⟩ ⟨m9,h3,h5,h6,h1,m1,e0,e1,e2,e3,e4,e5⟩
   simp only at m9 h3 h5 h6 h1 m1 e0 e1 e2 e3 e4 e5
   by_cases hj:j<es.length
   ·have hmem:=jab (d:=(0,0)) (show j.toNat<es.length by omega)
    have he:=ho _ hmem
    have he':=he
    unfold okE at he
    have Fz:=fz7 results86 m9 h3 h5 h6 h1 m1
    repeat'(first|refine go1 ?_|(refine go2 ?_ ?_<;>intro _<;>try omega))
    ·refine⟨by omega,by omega,e2,e3.set1 he' hmem,by simp,fun _=>?_,by omega⟩
     rw[jp9 (by omega)]
     cases a with
     | false=>have e:=(e4 rfl).1;subst e;omega
     | true=>have:=e5 rfl;omega
    ·refine⟨by omega,by omega,e2,e3.set2 he' hmem (by omega),by simp,fun _=>?_,by omega⟩
     rw[jp9 (by omega)]
     cases a with
     | false=>have e:=(e4 rfl).1;subst e;omega
     | true=>have:=e5 rfl;omega
    ·refine⟨by omega,by omega,e2,e3,fun ha=>⟨(e4 ha).1,fun e hm=>?_⟩,e5,by omega⟩
     rw[jae (0,0) e0 hj] at hm
     rcases List.mem_append.1 hm with hm|hm
     ·exact(e4 ha).2 e hm
     ·rw[List.mem_singleton.1 hm,←(e4 ha).1];omega
   ·have Fz:=fz7 results86 m9 h3 h5 h6 h1 m1
    repeat refine go1 ?_
    rw[jac (by omega)] at e4
    have hs1:=e3.sum
    have hs2:=f1.sum
    refine⟨e2,e3,fun ha=>?_,?_⟩
    ·obtain⟨rfl,h⟩:=e4 ha
     exact jxo ho e3 h
    ·cases a with
     | false=>rw[(e4 rfl).1];simp
     | true=>have:=e5 rfl;simp;omega
  ·have hb:b=false:=by simpa using ‹¬b=true›
   have:=f2 hb
   subst this
   exact⟨rfl,rfl⟩
@[go_sem] theorem ji3 (n x y:Int) (es:List (Int×Int)) (h:OKG n es) (hx:0≤x∧x<n) (hy:0≤y∧y<n):KP 98 [GL n es,I x,I y] []=some (B (decide (Conn es x y)),[],[]):=by
 have hp:=jdm n es h
 have hl:=jap n es
 refine gc func98 ?_
 have Fz:=fz2 results98 hp
 repeat refine go1 ?_
 exact j43 hx hy
@[go_sem] theorem jwd (n v:Int) (es:List (Int×Int)) (hl:es.length≤1048576):KP 99 [GL n es,I v] []=some (B (decide (VG n es∧0≤v∧v<n)),[],[]):=by
 refine gc func99 ?_
 have Fz:=fz1 results99
 repeat'(first|refine go1 ?_|(refine go4 ?_;split<;>first|omega|refine go3 ?_|skip))
 all_goals grind
@[go_sem] theorem kbp (n x y:Int) (es:List (Int×Int)) (hl:es.length≤1048576):KP 146 [GL n es,I x,I y] []=some (B (decide (VG n es∧0≤x∧x<n∧0≤y∧y<n∧Conn es x y)),[],[]):=by
 refine gc func146 ?_
 have Fz:=fz1 results146
 repeat'(first|refine go1 ?_|(refine go4 ?_;split<;>first|omega|refine go3 ?_|skip))
 all_goals grind
@[go_sem] theorem kav (n x y:Int) (es:List (Int×Int)) (hl:es.length≤1048576):KP 170 [GL n es,I x,I y] []=some (B (decide (VG n es∧0≤x∧x<n∧0≤y∧y<n∧Conn es x y)),[],[]):=by
 refine gc func170 ?_
 have Fz:=fz1 results170
 repeat'(first|refine go1 ?_|(refine go4 ?_;split<;>first|omega|refine go3 ?_|skip))
 all_goals grind
end Go.Proofs.YtnaaceooknghjaaGreatDoor.X
