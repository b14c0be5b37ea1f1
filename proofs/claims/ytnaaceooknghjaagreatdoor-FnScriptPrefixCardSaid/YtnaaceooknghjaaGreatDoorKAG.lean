/- What functions answer, and the plain laws behind it. -/
import Derived.Test.YtnaaceooknghjaaGreatDoorKAD
set_option linter.unusedSimpArgs false
set_option linter.unusedVariables false
set_option maxHeartbeats 8000000
namespace Go.Proofs.YtnaaceooknghjaaGreatDoor.X
open Go Go.Proofs Tryz
theorem jh2 (n x y:Int) (es:List (Int×Int)) (h:OKG n es) (hx:0≤x∧x<n) (hy:0≤y∧y<n) :
 Clo (.fn 149 [] [.eptr [.v (.int .i64 n),.lst (es.map encE)] 0,.eptr [.v (.int .i64 x)] 0,.eptr [.v (.int .i64 y)] 0]) (fun _=>True) (fun e=>!decide (Conn (cutE e es) x y)):=by
 have hl:=h.len
 have k:∀a b:Int,KP 149 [PE a b,.i (.eptr [.v (.int .i64 n),.lst (es.map encE)] 0),.i (.eptr [.v (.int .i64 x)] 0),.i (.eptr [.v (.int .i64 y)] 0)] []=some (B (!decide (Conn (cutE (a,b) es) x y)),[],[]):=by
  intro a b
  have hok:=h.cutE (a,b)
  refine gc func149 ?_
  have Fz:=fz2 results149 @j2y
  repeat(first|exact trivial|refine go1 ?_)
 refine⟨fun n=>by cases n<;>rfl,rfl,fun me d a b _=>?_⟩
 have hx:=k a b
 simp only[go_sem,↓reduceIte,Int.reduceLE,Int.reduceLT,Int.reduceToNat,Int.reduceNeg,Int.reduceAdd,Int.reduceSub,Int.reduceMul,Int.reduceEq,Int.reduceNe,Nat.reduceEqDiff,Nat.reduceAdd,Nat.reduceSub,Nat.reduceMul,Nat.reduceLT,Nat.reduceLeDiff,Nat.reduceBEq,Nat.reduceBNe,UInt8.reduceToNat,hx,ite_self]
theorem jfe (n x y:Int) (es:List (Int×Int)) (hl:es.length≤1048576):KP 82 [GL n es,I x,I y] []=
 some (if VG n es∧0≤x∧x<n∧0≤y∧y<n∧Conn es x y then .tup [.i (delF (fun e=>!decide (Conn (cutE e es) x y)) es),B true] else .tup [.i .emp,B false],[],[]):=by
 by_cases h:VG n es∧0≤x∧x<n∧0≤y∧y<n∧Conn es x y
 ·obtain⟨h1,h2,h3,h4,h5,h6⟩:=h
  have hw:=jkz (jh2 n x y es h1.okg ⟨h2,h3⟩ ⟨h4,h5⟩) n es (fun _ _=>trivial) hl
  refine gc func82 ?_
  have Fz:=fz3 results82 hw @jph
  repeat refine go1 ?_
  all_goals(rw[←jgd];simp only[Bool.not_not])
 ·have hd:=decide_eq_false h
  refine gc func82 ?_
  have Fz:=fz2 results82 hd
  repeat(first|exact trivial|refine go1 ?_)
theorem jg8 (n x y:Int) (es:List (Int×Int)) (h:OKG n es) (hx:0≤x∧x<n) (hy:0≤y∧y<n) :
 CloI (.fn 150 [] [.eptr [.v (.int .i64 x)] 0,.eptr [.v (.int .i64 y)] 0,.eptr [.v (.int .i64 n),.lst (es.map encE)] 0]) (fun _=>True) (fun v=>decide (v≠x∧v≠y∧¬Conn (alone v es) x y)):=by
 have hl:=h.len
 have k:∀v:Int,KP 150 [I v,.i (.eptr [.v (.int .i64 x)] 0),.i (.eptr [.v (.int .i64 y)] 0),.i (.eptr [.v (.int .i64 n),.lst (es.map encE)] 0)] []=some (B (decide (v≠x∧v≠y∧¬Conn (alone v es) x y)),[],[]):=by
  intro v
  have hok:=h.alone v
  have hcut:=jky n v es (by omega)
  refine gc func150 ?_
  have Fz:=fz3 results150 hcut @jho
  repeat'(first|refine go1 ?_|(refine go4 ?_;split<;>first|omega|refine go3 ?_|skip))
  all_goals grind
 refine⟨fun n=>by cases n<;>rfl,rfl,fun me d v _=>?_⟩
 have hx:=k v
 simp only[go_sem,↓reduceIte,Int.reduceLE,Int.reduceLT,Int.reduceToNat,Int.reduceNeg,Int.reduceAdd,Int.reduceSub,Int.reduceMul,Int.reduceEq,Int.reduceNe,Nat.reduceEqDiff,Nat.reduceAdd,Nat.reduceSub,Nat.reduceMul,Nat.reduceLT,Nat.reduceLeDiff,Nat.reduceBEq,Nat.reduceBNe,UInt8.reduceToNat,hx,ite_self]
noncomputable def cutsB (n x y:Int) (es:List (Int×Int)):List Int:=(iota n).filter fun v=>decide (v≠x∧v≠y∧¬Conn (alone v es) x y)
noncomputable def jgs (x y:Int) (es:List (Int×Int)):List (Int×Int):=es.filter fun e=>!decide (Conn (cutE e es) x y)
theorem ji1 (n x y:Int) (es:List (Int×Int)) (hl:es.length≤1048576):KP 83 [GL n es,I x,I y] []=
 some (if VG n es∧0≤x∧x<n∧0≤y∧y<n∧Conn es x y then .tup [LI (cutsB n x y es),B true] else .tup [.i .emp,B false],[],[]):=by
 by_cases h:VG n es∧0≤x∧x<n∧0≤y∧y<n∧Conn es x y
 ·obtain⟨h1,h2,h3,h4,h5,h6⟩:=h
  have hw:=jq0 (jg8 n x y es h1.okg ⟨h2,h3⟩ ⟨h4,h5⟩) n es (by have:=h1.2.1;omega) (fun _ _ _=>trivial) hl
  refine gc func83 ?_
  have Fz:=fz2 results83 hw
  repeat refine go1 ?_
  all_goals rfl
 ·have hd:=decide_eq_false h
  refine gc func83 ?_
  have Fz:=fz2 results83 hd
  repeat(first|exact trivial|refine go1 ?_)
@[go_sem] theorem kep (n a b:Int) (es:List (Int×Int)) (h:OKG n es) (he:okE n (a,b)):KP 156 [GL n es,PE a b] []=some (B (decide (Brg es (a,b))),[],[]):=by
 have hl:=h.len
 have hok:=h.cutE (a,b)
 have hw:=jk3 a b es (by omega)
 unfold okE at he;simp only at he
 refine gc func156 ?_
 have Fz:=fz2 results156 hw
 repeat refine go1 ?_
 all_goals exact j1l
@[go_sem] theorem kbw (n:Int) (es:List (Int×Int)) (h:OKG n es):KP 87 [GL n es] []=some (.ref 2000 0 0 (brgs es).length,[],[.arr 0 2 ((brgs es).map encE)]):=by
 have hl:=h.len
 refine gc func87 ?_
 have Fz:=fz1 results87
 repeat refine go1 ?_
 refine jaa (fun(x:Int×Nat×List (Int×Int)) s=>s.m 5=some (.arr x.2.1 2 (x.2.2.map encE))∧s.ρ 3=.ref 5 x.2.1 0 x.2.2.length∧s.ρ 4=I x.1∧s.ρ 1=.ptr 1 0 0 0∧s.m 1=some (.box 0 [I n,LE es])∧
  0≤x.1∧x.1≤es.length∧(x.2.2.length:Int)≤x.1∧x.2.2=(es.take x.1.toNat).filter fun e=>decide (Brg es e)) (fun x=>(es.length-x.1).toNat) (0,0,[]) (by simp[upd]) ?_
 rintro⟨i,w,xs⟩ ⟨ρ,m⟩ ⟨m5,h3,h4,h1,m1,g0,g1,g2,g3⟩
 simp only at m5 h3 h4 h1 m1 g0 g1 g2 g3
 by_cases hj:i<es.length
 ·have hoe:=h.ok _ (jab (d:=(0,0)) (show i.toNat<es.length by omega))
  have hoe':okE n ((es.getD i.toNat (0,0)).1,(es.getD i.toNat (0,0)).2):=hoe
  have Fz:=fz6 results87 m5 h3 h4 h1 m1
  repeat'(first|refine go1 ?_|(refine go2 ?_ ?_<;>intro _<;>try omega))
  ·refine⟨by omega,by omega,by omega,?_,by omega⟩
   rw[g3,jia g0 hj (by simpa using ‹_›)]
  ·refine⟨by omega,by omega,by omega,?_,by omega⟩
   rw[g3,jlq g0 hj (by simpa using ‹_›)]
 ·have Fz:=fz6 results87 m5 h3 h4 h1 m1
  repeat refine go1 ?_
  rw[jac (by omega)] at g3
  rw[g3]
  exact⟨rfl,rfl⟩
theorem jq5 (n:Int) (es:List (Int×Int)) (hl:es.length≤1048576):KP 39 [GL n es] []=some (if VG n es then(LE (brgs es),[],[]) else(.ref 2000 0 0 0,[],[.arr 0 2 []])):=by
 by_cases h:VG n es
 ·have hb:=h.okg
  refine gc func39 ?_
  have Fz:=fz1 results39
  repeat(first|exact trivial|refine go1 ?_)
 ·refine gc func39 ?_
  have Fz:=fz1 results39
  repeat(first|exact trivial|refine go1 ?_)
theorem j7n (n:Int) (es:List (Int×Int)) (h:OKG n es):KP 89 [GL n es] []=some (.agg [I n,.ref 2000 0 0 (bare es).length],[],[.arr 0 2 ((bare es).map encE)]):=by
 have hl:=h.len
 have hbl:(brgs es).length≤es.length:=List.length_filter_le _ _
 refine gc func89 ?_
 have Fz:=fz1 results89
 repeat refine go1 ?_
 refine jaa (fun(x:Int×Nat×List (Int×Int)) s=>s.m 8=some (.arr x.2.1 2 (x.2.2.map encE))∧s.m 3=some (.box 0 [I n,.ref 8 x.2.1 0 x.2.2.length])∧s.ρ 3=.ptr 3 0 0 0∧s.ρ 5=I x.1∧s.ρ 4=LE (brgs es)∧s.ρ 2=.ptr 2 0 0 0∧s.m 2=some (.box 0 [I 0,.i .emp])∧s.ρ 1=.ptr 1 0 0 0∧s.m 1=some (.box 0 [I n,LE es])∧
  0≤x.1∧x.1≤es.length∧(x.2.2.length:Int)≤x.1∧x.2.2=(es.take x.1.toNat).filter fun e=>!decide (Brg es e)) (fun x=>(es.length-x.1).toNat) (0,0,[]) (by simp[upd]) ?_
 rintro⟨i,w,xs⟩ ⟨ρ,m⟩ ⟨m8,m3,h3,h5,h4,h2,m2,h1,m1,g0,g1,g2,g3⟩
 simp only at m8 m3 h3 h5 h4 h2 m2 h1 m1 g0 g1 g2 g3
 by_cases hj:i<es.length
 ·have hmem:=jab (d:=(0,0)) (show i.toNat<es.length by omega)
  have hf:=@jrs (brgs es) (es.getD i.toNat (0,0))
  have hq:es.getD i.toNat (0,0)∈brgs es↔Brg es (es.getD i.toNat (0,0)):=⟨fun h=>(jxv.1 h).2,fun h=>jxv.2 ⟨hmem,h⟩⟩
  have Fz:=fz10 results89 m8 m3 h3 h5 h4 h2 m2 h1 m1
  repeat'(first|refine go1 ?_|(refine go2 ?_ ?_<;>intro _<;>try omega))
  ·have hnb:¬Brg es (es.getD i.toNat (0,0)):=fun h=>by have:=hf.2 (hq.2 h);omega
   refine⟨by omega,by omega,by omega,?_,by omega⟩
   rw[g3,jia g0 hj (by simpa using hnb)]
  ·have hnb:Brg es (es.getD i.toNat (0,0)):=hq.1 (hf.1 (by omega))
   refine⟨by omega,by omega,by omega,?_,by omega⟩
   rw[g3,jlq g0 hj (by simpa using hnb)]
 ·have Fz:=fz10 results89 m8 m3 h3 h5 h4 h2 m2 h1 m1
  repeat refine go1 ?_
  rw[jac (by omega)] at g3
  rw[g3]
  exact⟨rfl,rfl⟩
theorem jq7 (n:Int) (es:List (Int×Int)) (hl:es.length≤1048576):KP 41 [GL n es] []=some (if VG n es then(LI (lab n (bare es)),[],[]) else(.ref 2000 0 0 0,[],[.arr 0 1 []])):=by
 by_cases h:VG n es
 ·have hb:=j7n n es h.okg
  have hb':=h.okg.bare
  refine gc func41 ?_
  have Fz:=fz2 results41 hb
  repeat(first|exact trivial|refine go1 ?_)
 ·refine gc func41 ?_
  have Fz:=fz1 results41
  repeat(first|exact trivial|refine go1 ?_)
theorem jel (n x y:Int) (es:List (Int×Int)) (hl:es.length≤1048576):KP 105 [GL n es,I x,I y] []=
 some (if VG n es∧0≤x∧x<n∧0≤y∧y<n∧Conn es x y then(.tup [.ref 2000 0 0 (jgs x y es).length,B true],[],[.arr 0 2 ((jgs x y es).map encE)]) else(.tup [.ref 2000 0 0 0,B false],[],[.arr 0 2 []])):=by
 by_cases h:VG n es∧0≤x∧x<n∧0≤y∧y<n∧Conn es x y
 rotate_left
 ·have hd:=decide_eq_false h
  refine gc func105 ?_
  have Fz:=fz2 results105 hd
  repeat(first|exact trivial|refine go1 ?_)
 have hd:=decide_eq_true h
 rw[if_pos h]
 obtain⟨h1,h2,h3,h4,h5,h6⟩:=h
 refine gc func105 ?_
 have Fz:=fz2 results105 hd
 repeat refine go1 ?_
 refine jaa (fun(u:Int×Nat×List (Int×Int)) s=>s.m 10=some (.arr u.2.1 2 (u.2.2.map encE))∧s.ρ 8=.ref 10 u.2.1 0 u.2.2.length∧s.ρ 9=I u.1∧s.ρ 1=I x∧s.ρ 2=I y∧s.ρ 3=.ptr 3 0 0 0∧s.m 3=some (.box 0 [I n,LE es])∧
  0≤u.1∧u.1≤es.length∧(u.2.2.length:Int)≤u.1∧u.2.2=(es.take u.1.toNat).filter fun e=>!decide (Conn (cutE e es) x y)) (fun u=>(es.length-u.1).toNat) (0,0,[]) (by simp[upd]) ?_
 rintro⟨i,w,xs⟩ ⟨ρ,m⟩ ⟨m10,r8,r9,r1,r2,r3,m3,g0,g1,g2,g3⟩
 simp only at m10 r8 r9 r1 r2 r3 m3 g0 g1 g2 g3
 by_cases hj:i<es.length
 ·have hok:=h1.okg.cutE (es.getD i.toNat (0,0))
  have hw:=jk3 (es.getD i.toNat (0,0)).1 (es.getD i.toNat (0,0)).2 es hl
  have Fz:=fz9 results105 m10 r8 r9 r1 r2 r3 m3 hw
  repeat'(first|refine go1 ?_|(refine go2 ?_ ?_<;>intro _<;>try omega))
  all_goals
   refine⟨by omega,by omega,by omega,?_,by omega⟩
   first|rw[g3,jia g0 hj (by simp;assumption)] | rw[g3,jlq g0 hj (by simp;assumption)]
 ·have Fz:=fz8 results105 m10 r8 r9 r1 r2 r3 m3
  repeat refine go1 ?_
  rw[jac (by omega)] at g3
  rw[g3]
  exact⟨rfl,rfl⟩
theorem jhx (n x y:Int) (es:List (Int×Int)) (hl:es.length≤1048576):KP 106 [GL n es,I x,I y] []=
 some (if VG n es∧0≤x∧x<n∧0≤y∧y<n∧Conn es x y then(.tup [.ref 2000 0 0 (cutsB n x y es).length,B true],[],[.arr 0 1 ((cutsB n x y es).map encI)]) else(.tup [.ref 2000 0 0 0,B false],[],[.arr 0 1 []])):=by
 by_cases h:VG n es∧0≤x∧x<n∧0≤y∧y<n∧Conn es x y
 rotate_left
 ·have hd:=decide_eq_false h
  refine gc func106 ?_
  have Fz:=fz2 results106 hd
  repeat(first|exact trivial|refine go1 ?_)
 have hd:=decide_eq_true h
 rw[if_pos h]
 obtain⟨h1,h2,h3,h4,h5,h6⟩:=h
 have hn16:=h1.2.1
 refine gc func106 ?_
 have Fz:=fz2 results106 hd
 repeat refine go1 ?_
 refine jaa (fun(u:Int×Nat×List Int) s=>s.m 10=some (.arr u.2.1 1 (u.2.2.map encI))∧s.ρ 8=.ref 10 u.2.1 0 u.2.2.length∧s.ρ 9=I u.1∧s.ρ 1=I x∧s.ρ 2=I y∧s.ρ 3=.ptr 3 0 0 0∧s.m 3=some (.box 0 [I n,LE es])∧
  0≤u.1∧u.1≤n∧(u.2.2.length:Int)≤u.1∧u.2.2=(iota u.1).filter fun v=>decide (v≠x∧v≠y∧¬Conn (alone v es) x y)) (fun u=>(n-u.1).toNat) (0,0,[]) (by
   refine⟨by simp[upd],by simp[upd],by simp[upd],by simp[upd],by simp[upd],by simp[upd],by simp[upd],by simp,by simp only;omega,by simp,by simp[iota]⟩) ?_
 rintro⟨i,w,xs⟩ ⟨ρ,m⟩ ⟨m10,r8,r9,r1,r2,r3,m3,g0,g1,g2,g3⟩
 simp only at m10 r8 r9 r1 r2 r3 m3 g0 g1 g2 g3
 by_cases hj:i<n
 ·have hok:=h1.okg.alone i
  have hal:=jk2 n es i hl
  have Fz:=fz9 results106 m10 r8 r9 r1 r2 r3 m3 hal
  repeat'(first|refine go1 ?_|(refine go2 ?_ ?_<;>intro _<;>try omega)|(refine go4 ?_;split<;>first|omega|refine go3 ?_|skip))
  all_goals(refine⟨by omega,by omega,by omega,?_,by omega⟩;rw[jby g0,List.filter_append,←g3];simp_all)
 ·have:i=n:=by omega
  subst this
  have Fz:=fz8 results106 m10 r8 r9 r1 r2 r3 m3
  repeat refine go1 ?_
  rw[g3]
  exact⟨rfl,rfl⟩
theorem j14 (bs:List Int) (p:Int) (hb:bytes bs) (hp:0≤p∧p≤50000) :
 ∃(n:Int) (es:List (Int×Int)) (p':Int),0≤n∧n≤17∧es.length≤40∧p≤p'∧p'≤p+100∧
  KP 14 [.ptr 1000 0 0 0] [Rd bs p]=some (GL n es,[Rd bs p'],[]):=by
 obtain⟨N,hN,hnum⟩:=j2d bs p [5,6,4,7,3] hb (by omega) (by simp) (by simp)
 have hN':3≤N∧N≤7:=by
  have:∀x∈[5,6,4,7,(3:Int)],3≤x∧x≤7:=by decide
  exact this N hN
 simp only[List.map_cons,List.map_nil,encI,List.length_cons,List.length_nil,Nat.reduceAdd] at hnum
 suffices h:∃res,(∃(n:Int) (es:List (Int×Int)) (p':Int),0≤n∧n≤17∧es.length≤40∧p≤p'∧p'≤p+100∧res=(GL n es,[Rd bs p'],([]:List Arr)))∧
  KP 14 [.ptr 1000 0 0 0] [Rd bs p]=some res by
  obtain⟨res,⟨n,es,p',h1,h2,h3,h4,h5,rfl⟩,h6⟩:=h
  exact⟨n,es,p',h1,h2,h3,h4,h5,h6⟩
 refine ge func14 ?_
 have Fz:=fz2 results14 hnum
 repeat refine go1 ?_
 refine jaa (fun(u:Int×Int×List (Int×Int)) s=>s.ρ 0=.ptr 1000 0 0 0∧s.m 1000=some (Rd bs u.2.1)∧s.ρ 2=.ptr 2 0 0 0∧s.m 2=some (.box 0 [I 0,.i .emp])∧s.ρ 3=.ptr 3 0 0 0∧s.m 3=some (.box 0 [I N,.i (qe u.2.2)])∧s.ρ 4=I u.1∧
  1≤u.1∧u.1≤N∧(u.2.2.length:Int)≤u.1∧p≤u.2.1∧u.2.1≤p+1+2*u.1) (fun u=>(N-u.1).toNat) (1,p+1,[]) ?_ ?_
 ·refine⟨by simp[upd],by simp[upd],by simp[upd],by simp[upd],by simp[upd],by simp[upd,qe],by simp[upd],by simp,by simp only;omega,by simp,by simp only;omega,by simp only;omega⟩
 rintro⟨i,p1,es⟩ ⟨ρ,m⟩ ⟨h0,m0,h2,m2,h3,m3,h4,g0,g1,g2,g3,g4⟩
 simp only at h0 m0 h2 m2 h3 m3 h4 g0 g1 g2 g3 g4
 by_cases hi:i<N
 ·obtain⟨w,hw,_,hpw⟩:=jek bs p1 5 hb (by omega) (by omega)
  by_cases hw0:0<w
  ·obtain⟨y,hy,_,hpy⟩:=jek bs (p1+1) i hb (by omega) (by omega)
   have hy':=hy (by omega)
   have hput:=jo2 es (edgeOf y i).1 (edgeOf y i).2 (by omega)
   have Fz:=fz11 results14 h0 m0 h2 m2 h3 m3 h4 hpw hpy hput
   repeat refine go1 ?_
   exact⟨i+1,p1+1+1,rfl,putE (edgeOf y i) es,by rw[←j5u],rfl,by omega,by omega,by rw[jbg];omega,by omega,by omega,by omega⟩
  ·have Fz:=fz9 results14 h0 m0 h2 m2 h3 m3 h4 hpw
   repeat refine go1 ?_
   exact⟨i+1,p1+1,rfl,es,rfl,rfl,by omega,by omega,by omega,by omega,by omega,by omega⟩
 obtain⟨x,hx,hnum2⟩:=j2d bs p1 [2,1,3,0,4] hb (by omega) (by simp) (by simp)
 have hx':0≤x∧x≤4:=by
  have:∀x∈[2,1,3,0,(4:Int)],0≤x∧x≤4:=by decide
  exact this x hx
 simp only[List.map_cons,List.map_nil,encI,List.length_cons,List.length_nil,Nat.reduceAdd] at hnum2
 have Fz:=fz9 results14 h0 m0 h2 m2 h3 m3 h4 hnum2
 repeat refine go1 ?_
 refine jaa (fun(u:Int×Int×List (Int×Int)) s=>s.ρ 0=.ptr 1000 0 0 0∧s.m 1000=some (Rd bs u.2.1)∧s.ρ 2=.ptr 2 0 0 0∧s.m 2=some (.box 0 [I 0,.i .emp])∧s.ρ 3=.ptr 3 0 0 0∧s.m 3=some (.box 0 [I N,.i (qe u.2.2)])∧s.ρ 5=I u.1∧
  0≤u.1∧u.1≤x∧(u.2.2.length:Int)≤7+(x-u.1)∧p≤u.2.1∧u.2.1≤p+20+2*(x-u.1)) (fun u=>u.1.toNat) (x,p1+1,es) ?_ ?_
 ·refine⟨by simp[upd,h0],by simp[upd],by simp[upd,h2],by simp[upd,m2],by simp[upd,h3],by simp[upd,m3],by simp[upd],by simp only;omega,by simp,by simp only;omega,by simp only;omega,by simp only;omega⟩
 rintro⟨k,p2,fs⟩ ⟨ρ,m⟩ ⟨h0,m0,h2,m2,h3,m3,h5,f0,f1,f2,f3,f4⟩
 simp only at h0 m0 h2 m2 h3 m3 h5 f0 f1 f2 f3 f4
 by_cases hk:0<k
 rotate_left
 ·obtain⟨n1,es1,p3,a1,a2,a3,a4,a5,hw1⟩:=j12 bs p2 N (qe fs) fs hb (by omega) (EL.qe fs) (by omega) (by omega)
  have Fz:=fz9 results14 h0 m0 h2 m2 h3 m3 h5 hw1
  repeat refine go1 ?_
  exact⟨n1,a1,a2,es1,by omega,p3,by omega,by omega,rfl,rfl⟩
 obtain⟨y,hy,_,hpk⟩:=jek bs p2 N hb (by omega) (by omega)
 have hy':=hy (by omega)
 obtain⟨z,hz,_,hpk2⟩:=jek bs (p2+1) N hb (by omega) (by omega)
 have hz':=hz (by omega)
 have hfind:=jhw fs (edgeOf y z).1 (edgeOf y z).2 (by omega)
 have hput:=jo2 fs (edgeOf y z).1 (edgeOf y z).2 (by omega)
 by_cases hyz:y=z
 ·have Fz:=fz10 results14 h0 m0 h2 m2 h3 m3 h5 hpk hpk2
  repeat refine go1 ?_
  exact⟨k-1,p2+1+1,rfl,fs,rfl,rfl,by omega,by omega,by omega,by omega,by omega,by omega⟩
 by_cases hf:jco fs ((edgeOf y z).1,(edgeOf y z).2)<0
 rotate_left
 ·have Fz:=fz12 results14 h0 m0 h2 m2 h3 m3 h5 hpk hpk2 hfind hput
  repeat refine go1 ?_
  exact⟨k-1,p2+1+1,rfl,fs,rfl,rfl,by omega,by omega,by omega,by omega,by omega,by omega⟩
 have Fz:=fz12 results14 h0 m0 h2 m2 h3 m3 h5 hpk hpk2 hfind hput
 repeat refine go1 ?_
 exact⟨k-1,p2+1+1,rfl,putE (edgeOf y z) fs,by rw[←j5u],rfl,by omega,by omega,by rw[jbg];omega,by omega,by omega,by omega⟩
def comP:Option (Int×Int×Int)→PV
 | some (v,x,y)=>.tup [I v,I x,I y,B true]
 | none=>.tup [I 0,I 0,I 0,B false]
theorem j7e (a b c d:Int):KP 187 [PE a b,PE c d] []=some (comP (comV (a,b) (c,d)),[],[]):=by
 unfold comV
 simp only
 by_cases h1:a=c
 ·rw[if_pos h1]
  refine gc func187 ?_
  have Fz:=fz1 results187
  repeat refine go1 ?_
  rfl
 rw[if_neg h1]
 by_cases h2:a=d
 ·rw[if_pos h2]
  refine gc func187 ?_
  have Fz:=fz1 results187
  repeat refine go1 ?_
  rfl
 rw[if_neg h2]
 by_cases h3:b=c
 ·rw[if_pos h3]
  refine gc func187 ?_
  have Fz:=fz1 results187
  repeat refine go1 ?_
  rfl
 rw[if_neg h3]
 by_cases h4:b=d
 ·rw[if_pos h4]
  refine gc func187 ?_
  have Fz:=fz1 results187
  repeat refine go1 ?_
  rfl
 rw[if_neg h4]
 refine gc func187 ?_
 have Fz:=fz1 results187
 repeat refine go1 ?_
 rfl
theorem j7d (n:Int) (es:List (Int×Int)) (h:OKG n es) (hnd:es.Nodup):KP 120 [GL n es] []=some (.ref 2000 0 0 (blkL es).length,[],[.arr 0 1 ((blkL es).map encI)]):=by
 have hl:=h.len
 have ho:=h.ok
 refine gc func120 ?_
 have Fz:=fz1 results120
 repeat refine go1 ?_
 refine jaa (fun(u:Int×Nat×List Int) s=>s.m 16=some (.arr u.2.1 1 (u.2.2.map encI))∧s.ρ 3=.ref 16 u.2.1 0 u.2.2.length∧s.ρ 19=I (es.length:Int)∧s.ρ 20=I u.1∧s.ρ 1=.ptr 1 0 0 0∧s.m 1=some (.box 0 [I n,LE es])∧
  0≤u.1∧u.1≤es.length∧u.2.2.length=u.1.toNat∧u.2.2=iota u.1) (fun u=>(es.length-u.1).toNat) (0,0,[]) ?_ ?_
 ·refine⟨by simp[upd],by simp[upd],by simp[upd],by simp[upd],by simp[upd],by simp[upd],by simp,by simp,by simp,by simp[iota]⟩
 rintro⟨i,v,xs⟩ ⟨ρ,m⟩ ⟨m16,h3,h19,h20,h1,m1,g0,g1,g2,g3⟩
 simp only at m16 h3 h19 h20 h1 m1 g0 g1 g2 g3
 by_cases hi:i<es.length
 ·have Fz:=fz7 results120 m16 h3 h19 h20 h1 m1
  repeat refine go1 ?_
  refine⟨by omega,by omega,by omega,?_,by omega⟩
  rw[jby g0,g3]
 have hin:i=es.length:=by omega
 subst hin
 have hx0:xs=lab es.length (relK es 0 0):=by rw[j5w,g3]
 have hxl:xs.length=es.length:=by omega
 clear g3 g2
 have Fz:=fz7 results120 m16 h3 h19 h20 h1 m1
 repeat refine go1 ?_
 refine jaa (fun(u:Int×List Int) s=>s.m 16=some (.arr v 1 (u.2.map encI))∧s.ρ 3=.ref 16 v 0 es.length∧s.ρ 29=LE es∧s.ρ 30=I (es.length:Int)∧s.ρ 31=I u.1∧s.ρ 1=.ptr 1 0 0 0∧s.m 1=some (.box 0 [I n,LE es])∧
  0≤u.1∧u.1≤es.length∧u.2=lab es.length (relK es u.1 0)) (fun u=>(es.length-u.1).toNat) (0,xs) ?_ ?_
 ·refine⟨by simp[upd,m16],by simp[upd,h3,hxl],by simp[upd],by simp[upd],by simp[upd],by simp[upd,h1],by simp[upd,m1],by simp,by simp,hx0⟩
 rintro⟨i,out⟩ ⟨ρ,m⟩ ⟨m16,h3,h29,h30,h31,h1,m1,g0,g1,g2⟩
 simp only at m16 h3 h29 h30 h31 h1 m1 g0 g1 g2
 have hol:out.length=es.length:=by rw[g2,jap];omega
 by_cases hi:i<es.length
 rotate_left
 ·have hin:i=es.length:=by omega
  rw[hin,jx3] at g2
  have hbl:blkL es=out:=g2.symm
  rw[hbl,hol]
  have Fz:=fz8 results120 m16 h3 h29 h30 h31 h1 m1
  repeat(first|exact trivial|refine go1 ?_)
 have hoe:=ho _ (jab (d:=(0,0)) (show i.toNat<es.length by omega))
 have htl:(es.take i.toNat).length=i.toNat:=by simp;omega
 have Fz:=fz8 results120 m16 h3 h29 h30 h31 h1 m1
 repeat refine go1 ?_
 generalize nv (m 6)=V
 refine jaa (fun(u:Int×List Int) s=>s.m 16=some (.arr v 1 (u.2.map encI))∧s.ρ 3=.ref 16 v 0 es.length∧s.ρ 29=LE es∧s.ρ 30=I (es.length:Int)∧s.ρ 31=I i∧s.ρ 1=.ptr 1 0 0 0∧s.m 1=some (.box 0 [I n,LE es])∧s.ρ 5=I i∧s.ρ 6=.ptr 6 V 0 0∧s.m 6=some (.box V [I (eAt es i).1,I (eAt es i).2])∧s.ρ 39=LE (es.take i.toNat)∧s.ρ 40=I i∧s.ρ 41=I u.1∧
  0≤u.1∧u.1≤i∧u.2=lab es.length (relK es i u.1)) (fun u=>(i-u.1).toNat) (0,out) ?_ ?_
 ·refine⟨by simp[upd,m16],by simp[upd,h3],by simp[upd,h29],by simp[upd,h30],by simp[upd,h31],by simp[upd,h1],by simp[upd,m1],by simp[upd],by simp[upd],by simp[upd],by simp[upd],?_,by simp[upd],by simp,by simp only;omega,g2⟩
  simp[upd]
  omega
 rintro⟨k,ou⟩ ⟨ρ,m⟩ ⟨m16,h3,h29,h30,h31,h1,m1,h5,h6,m6,h39,h40,h41,f0,f1,f2⟩
 simp only at m16 h3 h29 h30 h31 h1 m1 h5 h6 m6 h39 h40 h41 f0 f1 f2
 have hul:ou.length=es.length:=by rw[f2,jap];omega
 by_cases hk:k<i
 rotate_left
 ·have hki:k=i:=by omega
  rw[hki,jsx] at f2
  have Fz:=fz14 results120 m16 h3 h29 h30 h31 h1 m1 h5 h6 m6 h39 h40 h41
  repeat refine go1 ?_
  exact⟨by omega,by omega,f2,by omega⟩
 have hke:=ho _ (jab (d:=(0,0)) (show k.toNat<es.length by omega))
 have hgt:(es.take i.toNat).getD k.toNat (0,0)=eAt es k:=by simp[show k.toNat<i.toNat by omega]
 have hst:=j87 (es:=es) f0 hk hi
 rw[←f2] at hst
 have hne:eAt es i≠eAt es k:=fun e=>by
  have:=j3k hnd (i:=i) (k:=k) ⟨g0,hi⟩ ⟨f0,by omega⟩ e
  omega
 have hco:=j7e (eAt es i).1 (eAt es i).2 (eAt es k).1 (eAt es k).2
 have hcs:=fun v x y=>j73 (es:=es) (v:=v) (x:=x) (y:=y) (show okE n (eAt es i) from hoe) (show okE n (eAt es k) from hke) hne
 have hcn:=j72 (es:=es) (e:=eAt es i) (f:=eAt es k)
 generalize hei:eAt es i=e at *
 generalize hek:eAt es k=f at *
 have hcv0:comV (e.1,e.2) (f.1,f.2)=comV e f:=rfl
 rw[hcv0] at hco
 cases hcv:comV e f with
 | none=>
  rw[hcv] at hco
  unfold comP at hco
  rw[if_neg (fun q=>hcn hcv q.1)] at hst
  have Fz:=fz16 results120 m16 h3 h29 h30 h31 h1 m1 h5 h6 m6 h39 h40 h41 hgt hco
  repeat refine go1 ?_
  exact⟨by omega,by omega,hst.symm,by omega⟩
 | some q=>
  obtain⟨w,x,y⟩:=q
  obtain⟨k1,k2,k3,k4⟩:=hcs w x y hcv
  rw[hcv] at hco
  unfold comP at hco
  by_cases hle:ou.getD i.toNat 0=ou.getD k.toNat 0
  ·rw[if_neg (fun q=>q.2 hle)] at hst
   have Fz:=fz16 results120 m16 h3 h29 h30 h31 h1 m1 h5 h6 m6 h39 h40 h41 hgt hco
   repeat refine go1 ?_
   exact⟨by omega,by omega,hst.symm,by omega⟩
  have hcut:=jky n w es (by omega)
  have hcc:=jg6 n x y (alone w es) (h.alone w) k2 k3
  by_cases hc:Conn (alone w es) x y
  rotate_left
  ·rw[decide_eq_false hc] at hcc
   rw[if_neg (fun q=>hc (k4.1 q.1))] at hst
   have Fz:=fz19 results120 m16 h3 h29 h30 h31 h1 m1 h5 h6 m6 h39 h40 h41 hgt hco hcut hcc @jho
   repeat refine go1 ?_
   exact⟨by omega,by omega,hst.symm,by omega⟩
  rw[decide_eq_true hc] at hcc
  rw[if_pos ⟨k4.2 hc,hle⟩] at hst
  have Fz:=fz19 results120 m16 h3 h29 h30 h31 h1 m1 h5 h6 m6 h39 h40 h41 hgt hco hcut hcc @jho
  repeat refine go1 ?_
  have hmx:max (ou.getD i.toNat 0) (ou.getD k.toNat 0)=max (ou.getD k.toNat 0) (ou.getD i.toNat 0):=Int.max_comm _ _
  have hmn:min (ou.getD i.toNat 0) (ou.getD k.toNat 0)=min (ou.getD k.toNat 0) (ou.getD i.toNat 0):=Int.min_comm _ _
  unfold j85 at hst
  rw[←hmx,←hmn] at hst
  generalize max (ou.getD i.toNat 0) (ou.getD k.toNat 0)=H at hst
  generalize min (ou.getD i.toNat 0) (ou.getD k.toNat 0)=W at hst
  refine jaa (fun(u:Int×List Int) s=>s.m 16=some (.arr v 1 (u.2.map encI))∧s.ρ 3=.ref 16 v 0 es.length∧s.ρ 29=LE es∧s.ρ 30=I (es.length:Int)∧s.ρ 31=I i∧s.ρ 1=.ptr 1 0 0 0∧s.m 1=some (.box 0 [I n,LE es])∧s.ρ 5=I i∧s.ρ 6=.ptr 6 V 0 0∧s.m 6=some (.box V [I e.1,I e.2])∧s.ρ 39=LE (es.take i.toNat)∧s.ρ 40=I i∧s.ρ 41=I k∧s.ρ 13=I W∧s.ρ 14=I H∧s.ρ 95=I (es.length:Int)∧s.ρ 96=I u.1∧
   0≤u.1∧u.1≤es.length∧u.2=(ou.take u.1.toNat).map (fun z=>if z=H then W else z)++ou.drop u.1.toNat) (fun u=>(es.length-u.1).toNat) (0,ou) ?_ ?_
  ·refine⟨by simp[upd,m16],by simp[upd,h3],by simp[upd,h29],by simp[upd,h30],by simp[upd,h31],by simp[upd,h1],by simp[upd,m1],by simp[upd,h5],by simp[upd,h6],by simp[upd,m6],by simp[upd,h39],by simp[upd,h40],by simp[upd,h41],by simp[upd],by simp[upd],by simp[upd,hul],by simp[upd],by simp,by simp,by simp⟩
  rintro⟨j,cu⟩ ⟨ρ,m⟩ ⟨m16,h3,h29,h30,h31,h1,m1,h5,h6,m6,h39,h40,h41,h13,h14,h95,h96,d0,d1,d2⟩
  simp only at m16 h3 h29 h30 h31 h1 m1 h5 h6 m6 h39 h40 h41 h13 h14 h95 h96 d0 d1 d2
  have hcl:cu.length=es.length:=by rw[d2];simp;omega
  by_cases hj:j<es.length
  rotate_left
  ·rw[jac (by omega),List.drop_of_length_le (by omega),List.append_nil,←hst] at d2
   have Fz:=fz18 results120 m16 h3 h29 h30 h31 h1 m1 h5 h6 m6 h39 h40 h41 h13 h14 h95 h96
   repeat refine go1 ?_
   exact⟨by omega,by omega,d2,by omega⟩
  obtain⟨q1,q2⟩:=j9j (out:=ou) (f:=fun z=>if z=H then W else z) d0 (by omega)
  rw[←d2] at q1 q2
  by_cases hq:cu.getD j.toNat 0=H
  ·rw[if_pos (by rw[←q1];exact hq)] at q2
   have Fz:=fz19 results120 m16 h3 h29 h30 h31 h1 m1 h5 h6 m6 h39 h40 h41 h13 h14 h95 h96 hq
   repeat refine go1 ?_
   exact⟨by omega,by omega,q2,by omega⟩
  ·rw[if_neg (by rw[←q1];exact hq),←q1] at q2
   have hse:cu.set j.toNat (cu.getD j.toNat 0)=cu:=by
    refine List.ext_getElem (by simp) fun t h1 h2=>?_
    rw[List.getElem_set]
    split
    ·rename_i e;subst e;simp[h2]
    ·rfl
   rw[hse] at q2
   have Fz:=fz19 results120 m16 h3 h29 h30 h31 h1 m1 h5 h6 m6 h39 h40 h41 h13 h14 h95 h96 hq
   repeat refine go1 ?_
   exact⟨by omega,by omega,q2,by omega⟩
end Go.Proofs.YtnaaceooknghjaaGreatDoor.X
