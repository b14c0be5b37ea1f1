/- What functions answer, and the plain laws behind it. -/
import Derived.Test.YtnaaceooknghjaaGreatDoorKAH
import Derived.Test.YtnaaceooknghjaaGreatDoorKAE
import Derived.Test.YtnaaceooknghjaaGreatDoorKAJ
import Derived.Test.YtnaaceooknghjaaGreatDoorKAF
set_option linter.unusedSimpArgs false
set_option linter.unusedVariables false
set_option maxHeartbeats 8000000
set_option maxRecDepth 100000
namespace Go.Proofs.YtnaaceooknghjaaGreatDoor.X
open Go Go.Proofs Tryz
def TO (n:Int) (es:List (Int×Int)) (r:Int):Prop:=VG n es∧inN n r∧Tree n es
noncomputable instance decTree (n:Int) (es:List (Int×Int)):Decidable (Tree n es):=Classical.propDecidable _
noncomputable instance decTO (n:Int) (es:List (Int×Int)) (r:Int):Decidable (TO n es r):=Classical.propDecidable _
abbrev toL (n:Int) (es:List (Int×Int)) (r:Int):List Int:=tourL es n.toNat r (-1)
theorem TO.at' {n:Int} {es:List (Int×Int)} {r:Int} (h:TO n es r):At n es r r (-1)∧n-dst n es r r≤n.toNat:=by
 have h0:0≤n:=by have:=h.1.1;omega
 exact⟨⟨.refl _,h.2.1,.inl ⟨rfl,rfl⟩⟩,by rw[jkg h.1.okg.ok h0];omega⟩
theorem jv6 (n r:Int) (es:List (Int×Int)) (hl:es.length≤1048576):KP 76 [GL n es,I r] []=
 some (if TO n es r then(.tup [.ref 2000 0 0 (toL n es r).length,B true],[],[.arr 0 1 ((toL n es r).map encI)]) else(.tup [.i .emp,B false],[],[])):=by
 have hhn:=jqr n es r hl
 by_cases h1:VG n es∧0≤r∧r<n
 rotate_left
 ·have hno:¬TO n es r:=fun h=>h1 ⟨h.1,h.2.1⟩
  rw[if_neg hno]
  rw[decide_eq_false h1] at hhn
  refine gc func76 ?_
  have Fz:=fz2 results76 hhn
  repeat(first|exact trivial|refine go1 ?_)
 rw[decide_eq_true h1] at hhn
 have hV:=h1.1
 have hel:=hV.2.2.1
 have hff:=jv9 n es hV.okg
 have hlq:=ji8 (es:=jai es)
 have hfl:=(jcz hV.okg.ok).length_le
 have htr:=jhl (n:=n) hV.okg.ok
 by_cases h2:Tree n es
 rotate_left
 ·have hno:¬TO n es r:=fun h=>h2 h.2.2
  rw[if_neg hno]
  have hlt:((jai es).length:Int)<es.length:=by
   have h3:(jai es).length≠es.length:=fun e=>h2 (htr.1 e)
   omega
  refine gc func76 ?_
  have Fz:=fz5 results76 hhn hff hlq hlt
  repeat(first|exact trivial|refine go1 ?_)
 have hT:TO n es r:=⟨hV,h1.2,h2⟩
 rw[if_pos hT]
 obtain⟨ha,hf⟩:=hT.at'
 have hto:=kfh hV.okg hV.nodup h2 n.toNat r (-1) ha hf
 have hge:¬((jai es).length:Int)<es.length:=by have:=htr.2 h2;omega
 have htk:(toL n es r).take (toL n es r).length=toL n es r:=List.take_length
 refine gc func76 ?_
 have Fz:=fz7 results76 hhn hff hlq hge hto htk
 repeat(first|exact trivial|refine go1 ?_)
theorem jnm (n:Int) (es:List (Int×Int)) (h:OKG n es):KP 100 [GL n es] []=some (B (decide (Tree n es)),[],[]):=by
 have hf:=jnl n es h
 have htr:=jhl (n:=n) h.ok
 have hlen:=h.len
 have hfl:=(jcz h.ok).length_le
 have e:decide (Tree n es)=decide (((jai es).length:Int)=es.length):=decide_eq_decide.2 (by rw[←htr];omega)
 rw[e]
 refine gc func100 ?_
 have Fz:=fz2 results100 hf
 repeat(first|exact trivial|refine go1 ?_)
theorem j2h (n r:Int) (es:List (Int×Int)) (hl:es.length≤1048576):KP 51 [GL n es,I r] []=
 some (if TO n es r then(.tup [.ref 2000 0 0 (toL n es r).length,B true],[],[.arr 0 1 ((toL n es r).map encI)]) else(.tup [.ref 2000 0 0 0,B false],[],[.arr 0 1 []])):=by
 have hhn:=jwd n r es hl
 by_cases h1:VG n es∧0≤r∧r<n
 rotate_left
 ·have hno:¬TO n es r:=fun h=>h1 ⟨h.1,h.2.1⟩
  rw[if_neg hno]
  rw[decide_eq_false h1] at hhn
  refine gc func51 ?_
  have Fz:=fz2 results51 hhn
  repeat(first|exact trivial|refine go1 ?_)
 rw[decide_eq_true h1] at hhn
 have hV:=h1.1
 have hel:=hV.2.2.1
 have hff:=jnm n es hV.okg
 by_cases h2:Tree n es
 rotate_left
 ·have hno:¬TO n es r:=fun h=>h2 h.2.2
  rw[if_neg hno]
  rw[decide_eq_false h2] at hff
  refine gc func51 ?_
  have Fz:=fz3 results51 hhn hff
  repeat(first|exact trivial|refine go1 ?_)
 have hT:TO n es r:=⟨hV,h1.2,h2⟩
 rw[if_pos hT]
 rw[decide_eq_true h2] at hff
 obtain⟨ha,hf⟩:=hT.at'
 have htl:=jmq hV.okg hV.nodup h2 ha hf
 have hto:=j7o hV.okg hV.nodup h2 n.toNat r (-1) [] ha hf (by simp;omega)
 simp only[List.length_nil,List.map_nil,List.nil_append] at hto
 refine gc func51 ?_
 have Fz:=fz4 results51 hhn hff hto
 repeat(first|exact trivial|refine go1 ?_)
theorem j1w (n x y:Int) (es:List (Int×Int)) (hV:VG n es) (hx:0≤x∧x<n) (hy:0≤y∧y<n) (hxy:x≠y) :
 ∃us,UR us (flU n es x y)∧KP 127 [GL n es,I x,I y] []=some (.tup [.agg (us.map bP),I (flN n es x y)],[],[]):=by
 have ho:=hV.okg.ok
 have hn16:=hV.2.1
 have hnd:=hV.nodup
 have hle:=hV.okg.len
 suffices h:∃res,(∃us,UR us (flU n es x y)∧res=(PV.tup [.agg (us.map bP),I (flN n es x y)],([]:List Arr),([]:List Arr)))∧KP 127 [GL n es,I x,I y] []=some res by
  obtain⟨res,⟨us,h1,rfl⟩,h2⟩:=h
  exact⟨us,h1,h2⟩
 refine ge func127 ?_
 have Fz:=fz1 results127
 repeat refine go1 ?_
 refine jaa (fun(u:Nat×List Bool) s=>s.m 8=some (.box 0 (u.2.map bP))∧s.ρ 8=.ptr 8 0 0 0∧s.ρ 9=I (u.1:Int)∧s.ρ 1=I x∧s.ρ 2=I y∧s.ρ 3=.ptr 3 0 0 0∧s.m 3=some (.box 0 [I n,LE es])∧s.ρ 6=.ptr 6 0 0 0∧s.m 6=some (.box 0 ((fB 256).map bP))∧
  UR u.2 (flS n es x y u.1)∧∀j,j<u.1→more n es x y j) (fun u=>50-u.1) (0,fB 256) ?_ ?_
 ·refine⟨by simp[upd],by simp[upd],by simp[upd],by simp[upd],by simp[upd],by simp[upd],by simp[upd],by simp[upd],by simp[upd],UR.none,fun j h=>by simp at h⟩
 rintro⟨k,us⟩ ⟨ρ,m⟩ ⟨m8,h8,h9,h1,h2,h3,m3,h6,m6,g0,g1⟩
 simp only at m8 h8 h9 h1 h2 h3 m3 h6 m6 g0 g1
 have hk40:k≤40:=by
  have:=jgj ho hnd hx hxy g1
  have:=jak x es
  omega
 have hr:=j2e (jwi us _ g0) n x es hV hx fun v h0 h1=>⟨h0,by omega⟩
 have hB:=jiy (goes:=jb1 (flS n es x y k)) ho hx
 have hlen:=hB.len
 have hul:=g0.1
 obtain⟨c1,c2,c3⟩:=jwi us _ g0
 by_cases hm:more n es x y k
 rotate_left
 ·have hk:=ka1 ho hnd hx hxy g1 hm
  have hfy:(bfs n es (jb1 (flS n es x y k)) x).1.getD y.toNat 0<0:=by
   have:=(hB.mem y hy.1 hy.2).1
   exact Int.not_le.1 fun h=>hm (this h)
  have hw:=jzi (bfs n es (jb1 (flS n es x y k)) x).1 x y ⟨hy.1,by omega⟩ hfy (by omega)
  have Fz:=fz15 results127 m8 h8 h9 h1 h2 h3 m3 h6 m6 hr hw c1 c2 hul
  repeat refine go1 ?_
  subst hk
  exact⟨us,g0,rfl⟩
 have hw:=kfi (fr:=(bfs n es (jb1 (flS n es x y k)) x).1) (ord:=(bfs n es (jb1 (flS n es x y k)) x).2) hB hn16 hm
 have hway:=jiz ho hx hm
 have hS:flS n es x y (k+1)=augF (flS n es x y k) (wayL n (bfs n es (jb1 (flS n es x y k)) x).1 x y):=rfl
 generalize wayL n (bfs n es (jb1 (flS n es x y k)) x).1 x y=p at hw hway hS
 have hin:∀i,i<p.length→0≤p.getD i 0∧p.getD i 0<n:=fun i hi=>by
  by_cases h0:i+1<p.length
  ·have:=(hway.st i h0).1.ok ho;omega
  ·have e:i=p.length-1:=by omega
   rw[e,hway.la];exact hy
 have hpl:p.length≤16:=by
  have:=jan (l:=p) (m:=iota n) hway.nd fun v hv=>by
   obtain⟨i,hi,he⟩:=List.mem_iff_getElem.1 hv
   have:=hin i hi
   simp only[List.getD,List.getElem?_eq_getElem hi,Option.getD_some,he] at this
   exact mem_iota.2 this
  rw[jat] at this
  omega
 have hpp:=hway.pos
 have Fz:=fz15 results127 m8 h8 h9 h1 h2 h3 m3 h6 m6 hr hw c1 c2 hul
 repeat refine go1 ?_
 refine jaa (fun(v:Int×List Bool) s=>s.m 8=some (.box 0 (v.2.map bP))∧s.ρ 8=.ptr 8 0 0 0∧s.ρ 9=I ((k:Int)+1)∧s.ρ 1=I x∧s.ρ 2=I y∧s.ρ 3=.ptr 3 0 0 0∧s.m 3=some (.box 0 [I n,LE es])∧s.ρ 6=.ptr 6 0 0 0∧s.m 6=some (.box 0 ((fB 256).map bP))∧
  s.ρ 12=LI p∧s.ρ 14=I v.1∧1≤v.1∧v.1≤p.length∧UR v.2 (augF (flS n es x y k) (p.take v.1.toNat))) (fun v=>(p.length-v.1).toNat) (1,us) ?_ ?_
 ·have e1:augF (flS n es x y k) (p.take 1)=flS n es x y k:=by
   cases p with
   | nil=>rfl
   | cons a r=>rfl
  refine⟨by simp[upd,m8],by simp[upd,h8],by simp[upd],by simp[upd,h1],by simp[upd,h2],by simp[upd,h3],by simp[upd,m3],by simp[upd,h6],by simp[upd,m6],by simp[upd],by simp[upd],by simp,by simp only;omega,?_⟩
  show UR us (augF (flS n es x y k) (p.take 1))
  rw[e1];exact g0
 rintro⟨i,vs⟩ ⟨ρ,m⟩ ⟨m8,h8,h9,h1,h2,h3,m3,h6,m6,h12,h14,f0,f1,f2⟩
 simp only at m8 h8 h9 h1 h2 h3 m3 h6 m6 h12 h14 f0 f1 f2
 have hvl:=f2.1
 by_cases hi:i<p.length
 rotate_left
 ·rw[jac (by omega),←hS] at f2
  have Fz:=fz13 results127 m8 h8 h9 h1 h2 h3 m3 h6 m6 h12 h14 hvl
  repeat refine go1 ?_
  refine⟨k+1,vs,rfl,rfl,f2,fun j hj=>?_,by omega⟩
  by_cases hjk:j=k
  ·subst hjk;exact hm
  ·exact g1 j (by omega)
 have ha:=hin (i-1).toNat (by omega)
 have hb:=hin i.toNat (by omega)
 have hat:=j06 (F:=flS n es x y k) (p:=p) (i:=i.toNat) (by omega) (by omega)
 rw[show i.toNat+1=(i+1).toNat by omega,show i.toNat-1=(i-1).toNat by omega] at hat
 have hst:=f2.step (a:=p.getD (i-1).toNat 0) (b:=p.getD i.toNat 0) ⟨ha.1,by omega⟩ ⟨hb.1,by omega⟩
 rw[←hat] at hst
 have hrd:=f2.2 (p.getD i.toNat 0) (p.getD (i-1).toNat 0) hb.1 (by omega) ha.1 (by omega)
 generalize hae:p.getD (i-1).toNat 0=a at ha hat hst hrd
 generalize hbe:p.getD i.toNat 0=b at hb hat hst hrd
 by_cases hF:augF (flS n es x y k) (p.take i.toNat) b a=true
 ·rw[if_pos hF] at hst
  rw[hF] at hrd
  have Fz:=fz17 results127 m8 h8 h9 h1 h2 h3 m3 h6 m6 h12 h14 hvl @Nat.mul_one hae hbe hrd
  repeat refine go1 ?_
  refine⟨i+1,_,?_,rfl,by omega,by omega,hst,by omega⟩
  rw[List.append_assoc]
  exact congrArg (Arr.box 0) (jv0 vs _ _ (by omega))
 ·rw[if_neg hF] at hst
  rw[Bool.not_eq_true] at hF
  rw[hF] at hrd
  have Fz:=fz17 results127 m8 h8 h9 h1 h2 h3 m3 h6 m6 h12 h14 hvl @Nat.mul_one hae hbe hrd
  repeat refine go1 ?_
  refine⟨i+1,_,?_,rfl,by omega,by omega,hst,by omega⟩
  rw[List.append_assoc]
  exact congrArg (Arr.box 0) (jv0 vs _ _ (by omega))
def iq (xs:List Int):IV:=if xs=[] then .emp else .lst (xs.map encI)
theorem kfv {n:Nat} {xs:List Int}:frz n (.i (iq xs))=.ret (.lst (xs.map encI)):=by
 cases xs with
 | nil=>cases n<;>rfl
 | cons e r=>cases n<;>rfl
theorem kcq {xs:List Int}:(iq xs).flat=true:=by cases xs<;>rfl
attribute [go_sem] kfv kcq
def fsI (fs:List (Int×Int)):List Int:=fs.map Prod.fst
def snI (fs:List (Int×Int)):List Int:=fs.map Prod.snd
def FL (fs:List (Int×Int)):PV:=.agg [LI (fsI fs),LI (snI fs)]
def FQ (fs:List (Int×Int)):PV:=.agg [.i (iq (fsI fs)),.i (iq (snI fs))]
def gq (xs:List (Int×Int)):PV:=if xs=[] then .agg [.i .emp,.i .emp] else .agg [.ref 2000 0 0 xs.length,.ref 2001 0 0 xs.length]
def gqA (xs:List (Int×Int)):List Arr:=if xs=[] then [] else [.arr 0 1 ((fsI xs).map encI),.arr 0 1 ((snI xs).map encI)]
theorem juv (fs:List (Int×Int)):(fsI fs).length=fs.length:=by simp[fsI]
theorem jvj (fs:List (Int×Int)):(snI fs).length=fs.length:=by simp[snI]
theorem kcr (fs:List (Int×Int)) (i:Nat):(fsI fs).getD i 0=(fs.getD i (0,0)).1:=by
 simp only[fsI,List.getD_eq_getElem?_getD,List.getElem?_map]
 cases fs[i]?<;>rfl
theorem kd5 (fs:List (Int×Int)) (i:Nat):(snI fs).getD i 0=(fs.getD i (0,0)).2:=by
 simp only[snI,List.getD_eq_getElem?_getD,List.getElem?_map]
 cases fs[i]?<;>rfl
theorem kfx {xs:List (Int×Int)} {n:Nat}:imm (n+1) (gqA xs) (gq xs)=some (FQ xs):=by
 unfold gqA gq FQ iq
 by_cases h:xs=[]
 ·subst h;cases n<;>rfl
 ·rw[if_neg h,if_neg h,if_neg (fun e=>h (by simpa[fsI] using e)),if_neg (fun e=>h (by simpa[snI] using e))]
  have e1:(List.map encI (fsI xs)).take xs.length=List.map encI (fsI xs):=List.take_of_length_le (by simp[fsI])
  have e2:(List.map encI (snI xs)).take xs.length=List.map encI (snI xs):=List.take_of_length_le (by simp[snI])
  cases n<;>simp[imm,mapO,imm1,e1,e2]
attribute [go_sem] juv jvj kcr kd5 kfx
theorem joz (fs:List (Int×Int)) (a b:Int) (hl:fs.length≤1048576):KP 214 [FL fs,I a,I b] []=some (B (decide ((a,b)∈fs)),[],[]):=by
 have hfl1:=juv fs
 have hfl2:=jvj fs
 refine gc func214 ?_
 unfold FL
 have Fz:=fz1 results214
 repeat refine go1 ?_
 refine jaa (fun(i:Int) s=>s.m 3=some (.box 0 [LI (fsI fs),LI (snI fs)])∧s.ρ 3=.ptr 3 0 0 0∧s.ρ 1=I a∧s.ρ 2=I b∧s.ρ 7=I i∧0≤i∧i≤fs.length∧∀e∈fs.take i.toNat,e≠(a,b)) (fun i=>(fs.length-i).toNat) 0 (by simp[upd]) ?_
 rintro i ⟨ρ,m⟩ ⟨m3,h3,h1,h2,h7,g0,g1,g2⟩
 simp only at m3 h3 h1 h2 h7 g0 g1 g2
 by_cases hi:i<fs.length
 rotate_left
 ·rw[jac (by omega)] at g2
  rw[decide_eq_false (fun h=>g2 _ h rfl)]
  have Fz:=fz6 results214 m3 h3 h1 h2 h7
  repeat(first|exact trivial|refine go1 ?_)
 have hm:=jab (d:=(0,0)) (show i.toNat<fs.length by omega)
 have hst:(fs.getD i.toNat (0,0))≠(a,b)→∀e∈fs.take (i+1).toNat,e≠(a,b):=fun h e he=>by
  rw[jae (0,0) g0 hi] at he
  rcases List.mem_append.1 he with he|he
  ·exact g2 e he
  ·rw[List.mem_singleton.1 he];exact h
 generalize hqe:fs.getD i.toNat (0,0)=q at hm hst
 by_cases h:q=(a,b)
 ·subst h
  rw[decide_eq_true hm]
  have Fz:=fz7 results214 m3 h3 h1 h2 h7 hqe
  repeat(first|exact trivial|refine go1 ?_)
 ·have h':¬(q.1=a∧q.2=b):=fun k=>h (Prod.ext k.1 k.2)
  have Fz:=fz7 results214 m3 h3 h1 h2 h7 hqe
  repeat'(first|refine go1 ?_|(refine go4 ?_;split<;>first|omega|refine go3 ?_|skip))
  all_goals exact⟨by omega,by omega,hst h,by omega⟩
def woL (fs:List (Int×Int)) (a b:Int):List (Int×Int):=fs.filter fun e=>decide (e≠(a,b))
def jvk (fs:List (Int×Int)) (a b:Int):List (Int×Int):=if(b,a)∈fs then woL fs b a else woL fs a b++[(a,b)]
theorem jqe (fs:List (Int×Int)) (a b:Int):(woL fs a b).length≤fs.length:=List.length_filter_le _ _
theorem j54 (fs:List (Int×Int)) (a b:Int):(jvk fs a b).length≤fs.length+1:=by
 unfold jvk
 split
 ·have:=jqe fs b a;omega
 ·have:=jqe fs a b;simp only[List.length_append,List.length_cons,List.length_nil];omega
def FR (fs:List (Int×Int)) (F:Un):Prop:=∀a b,(a,b)∈fs↔F a b=true
theorem FR.step {fs:List (Int×Int)} {F:Un} (h:FR fs F) (a b:Int):FR (jvk fs a b) (jb0 F a b):=by
 intro c d
 unfold jvk jb0
 have h0:=h b a
 have h1:=h c d
 by_cases hb:F b a=true
 ·rw[if_pos (h0.2 hb),if_pos hb]
  simp only[woL,List.mem_filter,decide_eq_true_eq,ne_eq,Prod.mk.injEq,h1]
  by_cases hc:c=b∧d=a
  ·simp[hc]
  ·simp[hc]
 ·rw[if_neg (fun k=>hb (h0.1 k)),if_neg hb]
  simp only[woL,List.mem_append,List.mem_filter,List.mem_singleton,decide_eq_true_eq,ne_eq,Prod.mk.injEq,h1]
  by_cases hc:c=a∧d=b
  ·simp[hc]
  ·simp[hc]
theorem FR.drop {fs:List (Int×Int)} {F:Un} (h:FR fs F) (a b:Int):FR (woL fs a b) (jh7 F a b):=by
 intro c d
 have h1:=h c d
 unfold jh7
 simp only[woL,List.mem_filter,decide_eq_true_eq,ne_eq,Prod.mk.injEq,h1]
 by_cases hc:c=a∧d=b
 ·simp[hc]
 ·simp[hc]
theorem kao (fs:List (Int×Int)) (a b:Int) {i:Int} (h0:0≤i) (h1:i<fs.length):woL (fs.take (i+1).toNat) a b=if fs.getD i.toNat (0,0)=(a,b) then woL (fs.take i.toNat) a b else woL (fs.take i.toNat) a b++[fs.getD i.toNat (0,0)]:=by
 rw[jae (0,0) h0 h1]
 unfold woL
 rw[List.filter_append]
 generalize fs.getD i.toNat (0,0)=q
 by_cases h:q=(a,b)
 ·simp[h]
 ·rw[if_neg h]
  congr 1
  simp[h]
def iP (d v:Nat) (xs:List Int):PV:=if xs=[] then .i .emp else .ref d v 0 xs.length
theorem jfs (fs:List (Int×Int)) (a b:Int) (hl:fs.length≤1048576):KP 175 [FL fs,I a,I b] []=some (gq (woL fs a b),[],gqA (woL fs a b)):=by
 have hfl1:=juv fs
 have hfl2:=jvj fs
 refine gc func175 ?_
 unfold FL
 have Fz:=fz1 results175
 repeat refine go1 ?_
 refine jaa (fun(u:Int×Nat×Nat×List (Int×Int)) s=>s.m 7=some (.box 0 [iP 41 u.2.1 (fsI u.2.2.2),iP 51 u.2.2.1 (snI u.2.2.2)])∧s.ρ 7=.ptr 7 0 0 0∧(u.2.2.2≠[]→s.m 41=some (.arr u.2.1 1 ((fsI u.2.2.2).map encI))∧s.m 51=some (.arr u.2.2.1 1 ((snI u.2.2.2).map encI)))∧s.ρ 8=I u.1∧
  s.m 3=some (.box 0 [LI (fsI fs),LI (snI fs)])∧s.ρ 3=.ptr 3 0 0 0∧s.ρ 1=I a∧s.ρ 2=I b∧s.ρ 6=.ptr 6 0 0 0∧s.m 6=some (.box 0 [.i .emp,.i .emp])∧0≤u.1∧u.1≤fs.length∧(u.2.2.2.length:Int)≤u.1∧u.2.2.2=woL (fs.take u.1.toNat) a b) (fun u=>(fs.length-u.1).toNat) (0,0,0,[]) ?_ ?_
 ·refine⟨by simp[upd,iP,fsI,snI],by simp[upd],by simp,by simp[upd],by simp[upd],by simp[upd],by simp[upd],by simp[upd],by simp[upd],by simp[upd],by simp,by simp,by simp,by simp[woL]⟩
 rintro⟨i,v,w,xs⟩ ⟨ρ,m⟩ ⟨m7,h7,mm,h8,m3,h3,h1,h2,h6,m6,g0,g1,g2,g3⟩
 simp only at m7 h7 mm h8 m3 h3 h1 h2 h6 m6 g0 g1 g2 g3
 have hfx:fsI xs=[]↔xs=[]:=by simp[fsI]
 have hsx:snI xs=[]↔xs=[]:=by simp[snI]
 by_cases hi:i<fs.length
 rotate_left
 ·rw[jac (by omega)] at g3
  rw[←g3]
  unfold gq gqA
  by_cases hx:xs=[]
  ·rw[if_pos hx,if_pos hx]
   rw[iP,iP,if_pos (hfx.2 hx),if_pos (hsx.2 hx)] at m7
   have Fz:=fz10 results175 m7 h7 h8 m3 h3 h1 h2 h6 m6
   repeat(first|exact trivial|refine go1 ?_)
  ·obtain⟨m41,m51⟩:=mm hx
   rw[if_neg hx,if_neg hx]
   rw[iP,iP,if_neg (fun k=>hx (hfx.1 k)),if_neg (fun k=>hx (hsx.1 k))] at m7
   have Fz:=fz12 results175 m7 h7 h8 m3 h3 h1 h2 h6 m6 m41 m51
   repeat(first|exact trivial|refine go1 ?_)
 have hsn:=kao fs a b g0 hi
 rw[←g3] at hsn
 generalize hqe:fs.getD i.toNat (0,0)=q at hsn
 by_cases hq:q=(a,b)
 ·rw[if_pos hq] at hsn
  subst hq
  have Fz:=fz11 results175 m7 h7 h8 m3 h3 h1 h2 h6 m6 hqe
  repeat refine go1 ?_
  exact⟨i+1,v,w,xs,rfl,mm,rfl,by omega,by omega,by omega,hsn.symm,by omega⟩
 ·rw[if_neg hq] at hsn
  have h':¬(q.1=a∧q.2=b):=fun k=>hq (Prod.ext k.1 k.2)
  have f1:fsI (xs++[q])=fsI xs++[q.1]:=by simp[fsI]
  have f2:snI (xs++[q])=snI xs++[q.2]:=by simp[snI]
  have f3:fsI (xs++[q])≠[]:=by simp[fsI]
  have f4:snI (xs++[q])≠[]:=by simp[snI]
  have f5:(fsI (xs++[q])).length=xs.length+1:=by simp[fsI]
  have f6:(snI (xs++[q])).length=xs.length+1:=by simp[snI]
  by_cases hx:xs=[]
  ·rw[iP,iP,if_pos (hfx.2 hx),if_pos (hsx.2 hx)] at m7
   have Fz:=fz11 results175 m7 h7 h8 m3 h3 h1 h2 h6 m6 hqe
   repeat'(first|refine go1 ?_|(refine go4 ?_;split<;>first|omega|refine go3 ?_|skip))
   all_goals
    refine⟨i+1,nv (m 41),nv (m 51),xs++[q],?_,fun _=>⟨rfl,?_,rfl,?_⟩,rfl,by omega,by omega,?_,hsn.symm,by omega⟩
    ·rw[iP,iP,if_neg f3,if_neg f4,f5,f6,hx];rfl
    ·rw[hx];simp[fsI,encI]
    ·rw[hx];simp[snI,encI]
    ·rw[List.length_append];simp only[List.length_cons,List.length_nil];omega
  ·obtain⟨m41,m51⟩:=mm hx
   rw[iP,iP,if_neg (fun k=>hx (hfx.1 k)),if_neg (fun k=>hx (hsx.1 k))] at m7
   have Fz:=fz13 results175 m7 h7 h8 m3 h3 h1 h2 h6 m6 m41 m51 hqe
   repeat'(first|refine go1 ?_|(refine go4 ?_;split<;>first|omega|refine go3 ?_|skip))
   all_goals
    refine⟨i+1,v+1,w+1,xs++[q],?_,fun _=>⟨rfl,f1.symm,rfl,f2.symm⟩,rfl,by omega,by omega,?_,hsn.symm,by omega⟩
    ·rw[iP,iP,if_neg f3,if_neg f4,f5,f6]
    ·rw[List.length_append];simp only[List.length_cons,List.length_nil];omega
theorem j7q (xs ys:List Int) (h1:xs.length≤1000) (h2:ys.length≤1000):KP 161 [LI xs,LI ys] []=some (B (decide (xs=ys)),[],[]):=by
 by_cases hl:(xs.length:Int)=ys.length
 rotate_left
 ·have hne:xs≠ys:=fun h=>hl (by rw[h])
  rw[decide_eq_false hne]
  refine gc func161 ?_
  have Fz:=fz2 results161 hl
  repeat(first|exact trivial|refine go1 ?_)
 refine gc func161 ?_
 have Fz:=fz2 results161 hl
 repeat refine go1 ?_
 refine jaa (fun(i:Int) s=>s.ρ 0=LI xs∧s.ρ 1=LI ys∧s.ρ 5=I i∧0≤i∧i≤xs.length∧xs.take i.toNat=ys.take i.toNat) (fun i=>(xs.length-i).toNat) 0 ⟨rfl,rfl,rfl,by omega,by omega,by simp⟩ ?_
 rintro i ⟨ρ,m⟩ ⟨e0,e1,e5,g0,g1,hp⟩
 simp only at e0 e1 e5 g0 g1 hp
 by_cases hi:i<xs.length
 rotate_left
 ·rw[jac (by omega),jac (by omega)] at hp
  rw[decide_eq_true hp]
  have Fz:=fz5 results161 e0 e1 e5 hl
  repeat(first|exact trivial|refine go1 ?_)
 have ha:=getI xs i.toNat (by omega)
 have hb:=getI ys i.toNat (by omega)
 have ht1:=jae 0 g0 hi
 have ht2:=jae 0 g0 (show i<ys.length by omega)
 by_cases hq:xs.getD i.toNat 0=ys.getD i.toNat 0
 ·rw[←hq] at hb ht2
  have hp2:xs.take (i+1).toNat=ys.take (i+1).toNat:=by rw[ht1,ht2,hp]
  generalize xs.getD i.toNat 0=x at *
  have Fz:=fz6 results161 e0 e1 e5 ha hb
  repeat refine go1 ?_
  exact⟨by omega,by omega,hp2,by omega⟩
 ·have hne:xs≠ys:=fun h=>hq (by rw[h])
  rw[decide_eq_false hne]
  generalize xs.getD i.toNat 0=x at *
  generalize ys.getD i.toNat 0=y at *
  have Fz:=fz7 results161 e0 e1 e5 ha hb hq
  repeat(first|exact trivial|refine go1 ?_)
def smL (n most:Int) (es:List (Int×Int)):Prop:=∀x,inN n x→¬(1<szC n es x∧most<szC n es x)
noncomputable instance decSmL (n most:Int) (es:List (Int×Int)):Decidable (smL n most es):=Classical.propDecidable _
theorem j16 (n most:Int) (es:List (Int×Int)) (h:OKG n es):KP 162 [GL n es,I most] []=some (B (decide (smL n most es)),[],[]):=by
 have hp:=jdm n es h
 have hll:=jap n es
 obtain⟨n0,n1,hel,ho⟩:=id h
 refine gc func162 ?_
 have Fz:=fz2 results162 hp
 repeat refine go1 ?_
 refine jaa (fun(i:Int) s=>s.m 2=some (.box 0 [I n,LE es])∧s.ρ 2=.ptr 2 0 0 0∧s.ρ 1=I most∧s.ρ 5=LI (lab n es)∧s.ρ 6=I i∧0≤i∧i≤n∧∀x,0≤x→x<i→¬(1<szC n es x∧most<szC n es x)) (fun i=>(n-i).toNat) 0 ?_ ?_
 ·refine⟨?_,?_,?_,?_,?_,by omega,by omega,fun x h0 h1=>by omega⟩
  all_goals rfl
 rintro i ⟨ρ,m⟩ ⟨m2,e2,e1,e5,e6,g0,g1,hall⟩
 simp only at m2 e2 e1 e5 e6 g0 g1 hall
 by_cases hi:i<n
 rotate_left
 ·rw[decide_eq_true (show smL n most es from fun x hx=>hall x hx.1 (by have:=hx.2;omega))]
  have Fz:=fz6 results162 m2 e2 e1 e5 e6
  repeat(first|exact trivial|refine go1 ?_)
 have hgi:((lab n es).map encI)[i.toNat]?=some [.v (.int .i64 (lbl es i))]:=by rw[getI _ _ (by omega),jsc ⟨g0,hi⟩]
 have hsz:=jpc (es:=es) (n:=n) (x:=i) ⟨g0,hi⟩
 have Fz:=fz6 results162 m2 e2 e1 e5 e6
 repeat refine go1 ?_
 refine jaa (fun(k:Int) s=>s.m 2=some (.box 0 [I n,LE es])∧s.ρ 2=.ptr 2 0 0 0∧s.ρ 1=I most∧s.ρ 5=LI (lab n es)∧s.ρ 6=I i∧s.ρ 7=I (cntI ((lab n es).take k.toNat) (lbl es i))∧s.ρ 8=I k∧0≤k∧k≤n) (fun k=>(n-k).toNat) 0 ?_ ?_
 ·refine⟨?_,?_,?_,?_,?_,?_,?_,by omega,by omega⟩
  all_goals first|rfl|assumption
 clear m2 e2 e1 e5 e6
 rintro k ⟨ρ,m⟩ ⟨m2,e2,e1,e5,e6,e7,e8,f0,f1⟩
 simp only at m2 e2 e1 e5 e6 e7 e8 f0 f1
 have hcl:=jwk ((lab n es).take k.toNat) (lbl es i)
 rw[List.length_take] at hcl
 by_cases hk:k<n
 ·have hgk:=getI (lab n es) k.toNat (by omega)
  have hsn:=jrc (x:=lbl es i) f0 (show k<(lab n es).length by omega)
  generalize (lab n es).getD k.toNat 0=y at *
  generalize lbl es i=z at *
  generalize cntI ((lab n es).take k.toNat) z=c at *
  by_cases hq:y=z
  ·rw[if_pos hq] at hsn
   subst hq
   have Fz:=fz10 results162 m2 e2 e1 e5 e6 e7 e8 hgi hgk
   repeat refine go1 ?_
   exact⟨k+1,by rw[hsn],rfl,by omega,by omega,by omega⟩
  ·rw[if_neg hq] at hsn
   have Fz:=fz11 results162 m2 e2 e1 e5 e6 e7 e8 hgi hgk hq
   repeat refine go1 ?_
   exact⟨k+1,by rw[hsn];omega,rfl,by omega,by omega,by omega⟩
 rw[jac (by omega),hsz] at e7
 have hz0:0≤szC n es i:=by unfold szC;omega
 by_cases hbad:1<szC n es i∧most<szC n es i
 ·rw[decide_eq_false (show ¬smL n most es from fun hh=>hh i ⟨g0,hi⟩ hbad)]
  generalize szC n es i=c at *
  obtain⟨b1,b2⟩:=hbad
  have Fz:=fz10 results162 m2 e2 e1 e5 e6 e7 e8 b1 b2
  repeat(first|exact trivial|refine go1 ?_)
 ·have hnx:∀x,0≤x→x<i+1→¬(1<szC n es x∧most<szC n es x):=fun x x0 x1=>by
   by_cases hxi:x=i
   ·rw[hxi];exact hbad
   ·exact hall x x0 (by omega)
  generalize hc:szC n es i=c at e7 hbad hz0
  have Fz:=fz8 results162 m2 e2 e1 e5 e6 e7 e8
  repeat'(first|refine go1 ?_|(refine go4 ?_;split<;>first|omega|refine go3 ?_|skip))
  all_goals exact⟨by omega,by omega,hnx,by omega⟩
theorem jb3 (n:Int) (ts:List Tl) (hV:VG n (esT ts)):KP 92 [LvP n ts] []=some (B (decide (LV n ts)),[],[]):=by
 have l1:=jaq ts
 have l2:=jax ts
 have l3:=ja9 ts
 have hn1:=hV.1
 have hn16:=hV.2.1
 have hel:=hV.2.2.1
 have hgv:=jbb n (esT ts) (by omega)
 rw[decide_eq_true hV] at hgv
 have hlen:((lvT ts).length:Int)=(esT ts).length:=by omega
 have hlen2:((trT ts).length:Int)=(esT ts).length:=by omega
 refine gc func92 ?_
 have Fz:=fz4 results92 hgv hlen hlen2
 repeat refine go1 ?_
 refine jaa (fun(i:Int) s=>s.m 1=some (.box 0 [I n,LE (esT ts),LI (lvT ts),LT (trT ts)])∧s.ρ 1=.ptr 1 0 0 0∧s.ρ 3=I i∧0≤i∧i≤ts.length∧∀j:Nat,(j:Int)<i→0≤(ts.getD j dT).2.1∧(ts.getD j dT).2.1≤4) (fun i=>(ts.length-i).toNat) 0 ?_ ?_
 ·exact⟨rfl,rfl,rfl,by omega,by omega,fun j h0=>by omega⟩
 rintro i ⟨ρ,m⟩ ⟨m1,e1,e3,g0,g1,hj⟩
 simp only at m1 e1 e3 g0 g1 hj
 by_cases hi:i<ts.length
 ·have hg:=getI (lvT ts) i.toNat (by omega)
  rw[jl5 (by omega)] at hg
  by_cases hb:0≤(ts.getD i.toNat dT).2.1∧(ts.getD i.toNat dT).2.1≤4
  ·have hnx:∀j:Nat,(j:Int)<i+1→0≤(ts.getD j dT).2.1∧(ts.getD j dT).2.1≤4:=fun j h=>by
    by_cases hji:(j:Int)=i
    ·rw[show j=i.toNat by omega];exact hb
    ·exact hj j (by omega)
   generalize (ts.getD i.toNat dT).2.1=l at hg hb
   obtain⟨b1,b2⟩:=hb
   have Fz:=fz6 results92 m1 e1 e3 hg l2
   repeat refine go1 ?_
   exact⟨by omega,by omega,hnx,by omega⟩
  ·have hno:¬LV n ts:=fun h=>hb (h.lv _ (jab (by omega)))
   rw[decide_eq_false hno]
   generalize (ts.getD i.toNat dT).2.1=l at hg hb
   by_cases b1:l<0
   ·have Fz:=fz7 results92 m1 e1 e3 hg l2 b1
    repeat(first|exact trivial|refine go1 ?_)
   ·have b2:4<l:=by omega
    have Fz:=fz8 results92 m1 e1 e3 hg l2 b1 b2
    repeat(first|exact trivial|refine go1 ?_)
 have hb:∀t∈ts,0≤t.2.1∧t.2.1≤4:=fun t ht=>by
  obtain⟨j,hjl,rfl⟩:=List.getElem_of_mem ht
  have:=hj j (by omega)
  simpa[List.getD,hjl] using this
 have Fz:=fz5 results92 m1 e1 e3 l2
 repeat refine go1 ?_
 clear hj e3
 refine jaa (fun(k:Int) s=>s.m 1=some (.box 0 [I n,LE (esT ts),LI (lvT ts),LT (trT ts)])∧s.ρ 1=.ptr 1 0 0 0∧s.ρ 4=I k∧0≤k∧k≤5∧∀j:Int,0≤j→j<k→lvAt n ts j) (fun k=>(5-k).toNat) 0 ?_ ?_
 ·refine⟨?_,?_,?_,by omega,by omega,fun j h0 h1=>by omega⟩
  all_goals first|rfl|assumption
 clear m1 e1
 rintro k ⟨ρ,m⟩ ⟨m1,e1,e4,g0,g1,hj⟩
 simp only at m1 e1 e4 g0 g1 hj
 by_cases hk:k≤4
 rotate_left
 ·have hyes:LV n ts:=(jvt hV).2 ⟨hb,fun j j0 j1=>hj j j0 (by omega)⟩
  rw[decide_eq_true hyes]
  have Fz:=fz4 results92 m1 e1 e4
  repeat(first|exact trivial|refine go1 ?_)
 have ha1:=jwe n k false ts (by omega)
 have ha2:=jwe n k true ts (by omega)
 have hF:OKG n (abT ts k true):=jiv hV
 have hA:OKG n (abT ts k false):=jiv hV
 have hff:=jnm n (abT ts k true) hF
 have hp1:=jdm n (abT ts k true) hF
 have hp2:=jdm n (abT ts k false) hA
 have hll1:=jap n (abT ts k true)
 have hll2:=jap n (abT ts k false)
 have heq:=j7q (lab n (abT ts k false)) (lab n (abT ts k true)) (by omega) (by omega)
 have hmo:=j7r n k ⟨by omega,by omega⟩ ⟨by omega,by omega⟩
 have hsm:=j16 n (n / 2 ^ k.toNat) (abT ts k false) hA
 have hsz:smL n (n / 2 ^ k.toNat) (abT ts k false)↔szOk n k (abT ts k false):=by
  unfold smL szOk
  refine forall_congr' fun x=>forall_congr' fun _=>?_
  omega
 have hlvk:lvAt n ts k↔Tree n (abT ts k true)∧lab n (abT ts k false)=lab n (abT ts k true)∧smL n (n / 2 ^ k.toNat) (abT ts k false):=by
  rw[hsz];unfold lvAt
  exact⟨fun h=>⟨h.1,h.2.1.symm,h.2.2⟩,fun h=>⟨h.1,h.2.1.symm,h.2.2⟩⟩
 have hno:¬lvAt n ts k→decide (LV n ts)=false:=fun h=>decide_eq_false fun q=>h ((jvt hV).1 q|>.2 k g0 (by omega))
 generalize n / 2 ^ k.toNat=most at *
 by_cases hT:Tree n (abT ts k true)
 rotate_left
 ·rw[hno fun h=>hT (hlvk.1 h).1]
  rw[decide_eq_false hT] at hff
  have Fz:=fz7 results92 m1 e1 e4 ha1 ha2 hff
  repeat(first|exact trivial|refine go1 ?_)
 rw[decide_eq_true hT] at hff
 by_cases hlab:lab n (abT ts k false)=lab n (abT ts k true)
 rotate_left
 ·rw[hno fun h=>hlab (hlvk.1 h).2.1]
  rw[decide_eq_false hlab] at heq
  have Fz:=fz10 results92 m1 e1 e4 ha1 ha2 hff hp1 hp2 heq
  repeat(first|exact trivial|refine go1 ?_)
 rw[decide_eq_true hlab] at heq
 by_cases hs:smL n most (abT ts k false)
 ·rw[decide_eq_true hs] at hsm
  have hnx:∀j:Int,0≤j→j<k+1→lvAt n ts j:=fun j j0 j1=>by
   by_cases hjk:j=k
   ·rw[hjk];exact hlvk.2 ⟨hT,hlab,hs⟩
   ·exact hj j j0 (by omega)
  have Fz:=fz12 results92 m1 e1 e4 ha1 ha2 hff hp1 hp2 heq hmo hsm
  repeat refine go1 ?_
  exact⟨by omega,by omega,hnx,by omega⟩
 ·rw[hno fun h=>hs (hlvk.1 h).2.2]
  rw[decide_eq_false hs] at hsm
  have Fz:=fz12 results92 m1 e1 e4 ha1 ha2 hff hp1 hp2 heq hmo hsm
  repeat(first|exact trivial|refine go1 ?_)
end Go.Proofs.YtnaaceooknghjaaGreatDoor.X
